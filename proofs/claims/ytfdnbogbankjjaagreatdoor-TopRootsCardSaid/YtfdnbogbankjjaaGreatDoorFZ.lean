/- Merged: CN FZ -/
import Derived.Test.YtfdnbogbankjjaaGreatDoorCJ
import Derived.Test.YtfdnbogbankjjaaGreatDoorFW
import Derived.Test.YtfdnbogbankjjaaGreatDoorFD

/- The product of factors, step by step over exact numbers, is worth the product. In plain Lean. -/
namespace Go.Proofs.YtfdnbogbankjjaaGreatDoor
open Go Go.RowKit Go.PlainAid Fil

def ZOk (g : DY × DY) : Prop := g.1.ok ∧ g.2.ok
def zv (g : DY × DY) : CQ := ⟨(g.1.v : Rat) / PP, (g.2.v : Rat) / PP⟩
def ZZ : DY × DY := (DY.zero, DY.zero)
def zSub (a b : DY × DY) : DY × DY := ((ySub a.1 b.1).1, (ySub a.2 b.2).1)
def zAdd (a b : DY × DY) : DY × DY := ((yAdd a.1 b.1).1, (yAdd a.2 b.2).1)
def zMul (a b : DY × DY) : DY × DY := ((ySub (yMul a.1 b.1).1 (yMul a.2 b.2).1).1, (yAdd (yMul a.1 b.2).1 (yMul a.2 b.1).1).1)
def zSubOk (a b : DY × DY) : Prop := (ySub a.1 b.1).2 = 0 ∧ (ySub a.2 b.2).2 = 0
def zAddOk (a b : DY × DY) : Prop := (yAdd a.1 b.1).2 = 0 ∧ (yAdd a.2 b.2).2 = 0
theorem ZZ_ok : ZOk ZZ := ⟨DY.zero_ok, DY.zero_ok⟩
theorem zSub_ok (a b : DY × DY) : ZOk (zSub a b) := ⟨ySub_ok _ _, ySub_ok _ _⟩
theorem zAdd_ok (a b : DY × DY) : ZOk (zAdd a b) := ⟨yAdd_ok _ _, yAdd_ok _ _⟩
theorem zMul_ok (a b : DY × DY) : ZOk (zMul a b) := ⟨ySub_ok _ _, yAdd_ok _ _⟩
theorem PP_ne : PP ≠ 0 := by have := PP_pos; grind
theorem dq_add {a b : DY} (ha : a.ok) (hb : b.ok) (h : (yAdd a b).2 = 0) : ((yAdd a b).1.v : Rat) / PP = (a.v : Rat) / PP + (b.v : Rat) / PP := by
 rw [yAdd_v ha hb h, rat_add_div]
theorem dq_sub {a b : DY} (ha : a.ok) (hb : b.ok) (h : (ySub a b).2 = 0) : ((ySub a b).1.v : Rat) / PP = (a.v : Rat) / PP - (b.v : Rat) / PP := by
 have e : a.v = (ySub a b).1.v + b.v := by rw [ySub_v ha hb h]; omega
 have e2 := rat_add_div (ySub a b).1.v b.v
 rw [← e] at e2
 rw [e2]
 grind
theorem dq_mul {a b : DY} (ha : a.ok) (hb : b.ok) (h : (yMul a b).2 = 0) : ((yMul a b).1.v : Rat) / PP = (a.v : Rat) / PP * ((b.v : Rat) / PP) := by
 have e := congrArg (fun t : Int => (t : Rat)) (yMul_v ha hb h)
 simp only [Rat.intCast_mul, PP_int] at e
 generalize ((yMul a b).1.v : Rat) = u at e ⊢
 generalize (a.v : Rat) = x at e ⊢
 generalize (b.v : Rat) = y at e ⊢
 have hp := PP_ne
 generalize PP = p at hp e ⊢
 have e1 : x / p * (y / p) = x * y / (p * p) := by grind
 rw [e1, ← e]
 grind
theorem zSub_v {a b : DY × DY} (ha : ZOk a) (hb : ZOk b) (h : zSubOk a b) : zv (zSub a b) = zv a - zv b := by
 rw [cq_sub]
 exact CQ.ext (dq_sub ha.1 hb.1 h.1) (dq_sub ha.2 hb.2 h.2)
theorem zAdd_v {a b : DY × DY} (ha : ZOk a) (hb : ZOk b) (h : zAddOk a b) : zv (zAdd a b) = zv a + zv b := by
 rw [cq_add]
 exact CQ.ext (dq_add ha.1 hb.1 h.1) (dq_add ha.2 hb.2 h.2)
theorem zMul_v {a b : DY × DY} (ha : ZOk a) (hb : ZOk b) (h : TmOk a.1 a.2 b.1 b.2) : zv (zMul a b) = zv a * zv b := by
 obtain ⟨h1, h2, h3, h4, h5, h6⟩ := h
 rw [cq_mul]
 refine CQ.ext ?_ ?_
 ·exact (dq_sub (yMul_ok _ _) (yMul_ok _ _) h5).trans (by rw [dq_mul ha.1 hb.1 h1, dq_mul ha.2 hb.2 h2]; rfl)
 ·exact (dq_add (yMul_ok _ _) (yMul_ok _ _) h6).trans (by rw [dq_mul ha.1 hb.2 h3, dq_mul ha.2 hb.1 h4]; rfl)
theorem zv_zero : zv ZZ = ⟨0, 0⟩ := by
 have e : DY.zero.v = 0 := DY.zero_v
 unfold zv ZZ
 rw [e]
 have h0 : ((0 : Int) : Rat) / PP = 0 := by rw [show ((0 : Int) : Rat) = 0 from rfl, Rat.div_def, Rat.zero_mul]
 rw [h0]
/-- what the first rounds of a factor make -/
def nx (z : DY × DY) (co : List (DY × DY)) : Nat → List (DY × DY)
 | 0 => List.replicate (co.length + 1) ZZ
 | k + 1 => ((nx z co k).set k (zSub ((nx z co k).getD k ZZ) (zMul (co.getD k ZZ) z))).set (k + 1) (zAdd ((nx z co k).getD (k + 1) ZZ) (co.getD k ZZ))
def nxOk (z : DY × DY) (co : List (DY × DY)) (k : Nat) : Prop :=
 TmOk (co.getD k ZZ).1 (co.getD k ZZ).2 z.1 z.2 ∧ zSubOk ((nx z co k).getD k ZZ) (zMul (co.getD k ZZ) z) ∧ zAddOk ((nx z co k).getD (k + 1) ZZ) (co.getD k ZZ)
theorem nx_len (z : DY × DY) (co : List (DY × DY)) : ∀ k, (nx z co k).length = co.length + 1
 | 0 => by unfold nx; simp
 | k + 1 => by unfold nx; rw [List.length_set, List.length_set]; exact nx_len z co k
def ml (z : DY × DY) : DY × DY → List (DY × DY) → List (DY × DY)
 | c, [] => [c]
 | c, a :: t => zSub c (zMul a z) :: ml z (zAdd ZZ a) t
def mlOk (z : DY × DY) : DY × DY → List (DY × DY) → Prop
 | _, [] => True
 | c, a :: t => (TmOk a.1 a.2 z.1 z.2 ∧ zSubOk c (zMul a z) ∧ zAddOk ZZ a) ∧ mlOk z (zAdd ZZ a) t
theorem nx_at {z : DY × DY} {a t P : List (DY × DY)} {x c : DY × DY} (hP : P.length = a.length) {N : List (DY × DY)} (h : N = P ++ c :: ZZ :: List.replicate t.length ZZ) :
  N.getD a.length ZZ = c ∧ N.getD (a.length + 1) ZZ = ZZ ∧ (a ++ x :: t).getD a.length ZZ = x ∧
  (N.set a.length (zSub c (zMul x z))).set (a.length + 1) (zAdd ZZ x) = (P ++ [zSub c (zMul x z)]) ++ zAdd ZZ x :: List.replicate t.length ZZ := by
 subst h
 refine ⟨by simp [List.getD, ← hP], by simp [List.getD, ← hP], by simp [List.getD], ?_⟩
 rw [← hP, List.set_append_right _ _ (Nat.le_refl _), Nat.sub_self, List.set_cons_zero, List.set_append_right _ _ (Nat.le_succ _), show P.length + 1 - P.length = 1 by omega, List.set_cons_succ, List.set_cons_zero]
 simp
theorem nx_ml (z : DY × DY) (co : List (DY × DY)) : ∀ (b a P : List (DY × DY)) (c : DY × DY), co = a ++ b → P.length = a.length → nx z co a.length = P ++ c :: List.replicate b.length ZZ → (∀ k, k < co.length → nxOk z co k) →
  nx z co co.length = P ++ ml z c b ∧ mlOk z c b
 | [], a, P, c, h, hP, hN, _ => by
  rw [List.append_nil] at h
  rw [h] at hN ⊢
  exact ⟨hN, trivial⟩
 | x :: t, a, P, c, h, hP, hN, hk => by
  obtain ⟨e1, e2, e3, e4⟩ := nx_at (z := z) (x := x) (t := t) hP hN
  have hl : a.length < co.length := by rw [h]; simp
  have k0 := hk _ hl
  have hs : nx z co (a.length + 1) = (P ++ [zSub c (zMul x z)]) ++ zAdd ZZ x :: List.replicate t.length ZZ := by
   show ((nx z co a.length).set a.length (zSub ((nx z co a.length).getD a.length ZZ) (zMul (co.getD a.length ZZ) z))).set (a.length + 1) (zAdd ((nx z co a.length).getD (a.length + 1) ZZ) (co.getD a.length ZZ)) = _
   rw [e1, e2, show co.getD a.length ZZ = x by rw [h]; exact e3]
   exact e4
  unfold nxOk at k0
  rw [e1, e2, show co.getD a.length ZZ = x by rw [h]; exact e3] at k0
  obtain ⟨i1, i2⟩ := nx_ml z co t (a ++ [x]) (P ++ [zSub c (zMul x z)]) (zAdd ZZ x) (by rw [h]; simp) (by simp [hP]) (by rw [show (a ++ [x]).length = a.length + 1 by simp]; exact hs) hk
  exact ⟨by rw [i1]; simp [ml], k0, i2⟩
theorem nx_all {z : DY × DY} {co : List (DY × DY)} (h : ∀ k, k < co.length → nxOk z co k) : nx z co co.length = ml z ZZ co ∧ mlOk z ZZ co := by
 have k := nx_ml z co co [] [] ZZ rfl rfl (by show List.replicate (co.length + 1) ZZ = _; rw [List.replicate_succ]; rfl) h
 exact ⟨k.1, k.2⟩
theorem ml_ev (z : DY × DY) (hz : ZOk z) (x : CQ) : ∀ (co : List (DY × DY)) (c : DY × DY), ZOk c → (∀ g ∈ co, ZOk g) → mlOk z c co →
  pev ((ml z c co).map zv) x = zv c + (x - zv z) * pev (co.map zv) x ∧ pdv ((ml z c co).map zv) x = pev (co.map zv) x + (x - zv z) * pdv (co.map zv) x
 | [], c, _, _, _ => by
  constructor
  ·show zv c + x * ⟨0, 0⟩ = zv c + (x - zv z) * ⟨0, 0⟩
   rw [cq_mul_zero, cq_mul_zero]
  ·show (⟨0, 0⟩ : CQ) + x * ⟨0, 0⟩ = ⟨0, 0⟩ + (x - zv z) * ⟨0, 0⟩
   rw [cq_mul_zero, cq_mul_zero]
 | a :: t, c, hc, hg, h => by
  obtain ⟨⟨h1, h2, h3⟩, h4⟩ := h
  have ha := hg a (List.mem_cons_self ..)
  obtain ⟨i1, i2⟩ := ml_ev z hz x t (zAdd ZZ a) (zAdd_ok _ _) (fun g hm => hg g (List.mem_cons_of_mem _ hm)) h4
  have e1 : zv (zAdd ZZ a) = zv a := by
   rw [zAdd_v ZZ_ok ha h3, zv_zero, cq_add]
   exact CQ.ext (Rat.zero_add _) (Rat.zero_add _)
  have e2 : zv (zSub c (zMul a z)) = zv c - zv a * zv z := by rw [zSub_v hc (zMul_ok _ _) h2, zMul_v ha hz h1]
  rw [e1] at i1
  constructor
  ·show zv (zSub c (zMul a z)) + x * pev ((ml z (zAdd ZZ a) t).map zv) x = zv c + (x - zv z) * (zv a + x * pev (t.map zv) x)
   rw [i1, e2]
   generalize zv c = C; generalize zv a = A; generalize zv z = Y; generalize pev (t.map zv) x = T
   simp only [cq_mul, cq_add, cq_sub]
   apply CQ.ext <;> grind
  ·show pev ((ml z (zAdd ZZ a) t).map zv) x + x * pdv ((ml z (zAdd ZZ a) t).map zv) x = (zv a + x * pev (t.map zv) x) + (x - zv z) * (pev (t.map zv) x + x * pdv (t.map zv) x)
   rw [i1, i2]
   generalize zv a = A; generalize zv z = Y; generalize pev (t.map zv) x = T; generalize pdv (t.map zv) x = D
   simp only [cq_mul, cq_add, cq_sub]
   apply CQ.ext <;> grind
theorem ml_ok (z : DY × DY) : ∀ (co : List (DY × DY)) (c : DY × DY), ZOk c → ∀ g ∈ ml z c co, ZOk g
 | [], c, hc, g, hm => by
  have : g = c := by simpa [ml] using hm
  rw [this]; exact hc
 | a :: t, c, _, g, hm => by
  rcases List.mem_cons.1 (show g ∈ zSub c (zMul a z) :: ml z (zAdd ZZ a) t from hm) with h | h
  ·rw [h]; exact zSub_ok _ _
  ·exact ml_ok z t _ (zAdd_ok _ _) g h
theorem ml_len (z : DY × DY) : ∀ (co : List (DY × DY)) (c : DY × DY), (ml z c co).length = co.length + 1
 | [], _ => rfl
 | a :: t, c => by show (ml z (zAdd ZZ a) t).length + 1 = _; rw [ml_len z t]; simp
theorem ml_last (z : DY × DY) : ∀ (co : List (DY × DY)) (c : DY × DY), (∀ g ∈ co, ZOk g) → mlOk z c co → (ml z c co).getLast?.map zv = some (match co.getLast? with | none => zv c | some g => zv g)
 | [], c, _, _ => rfl
 | a :: t, c, hg, h => by
  obtain ⟨⟨_, _, h3⟩, h4⟩ := h
  have ha := hg a (List.mem_cons_self ..)
  have i := ml_last z t (zAdd ZZ a) (fun g hm => hg g (List.mem_cons_of_mem _ hm)) h4
  have e1 : zv (zAdd ZZ a) = zv a := by
   rw [zAdd_v ZZ_ok ha h3, zv_zero, cq_add]
   exact CQ.ext (Rat.zero_add _) (Rat.zero_add _)
  have e2 : (ml z c (a :: t)).getLast? = (ml z (zAdd ZZ a) t).getLast? := by
   show (zSub c (zMul a z) :: ml z (zAdd ZZ a) t).getLast? = _
   rw [List.getLast?_cons]
   have : (ml z (zAdd ZZ a) t) ≠ [] := by intro e; have := ml_len z t (zAdd ZZ a); rw [e] at this; simp at this
   rw [List.getLast?_eq_some_getLast this]; simp
  rw [e2, i]
  cases t with
  | nil => simp [e1]
  | cons b t => simp [List.getLast?_cons]
/-- the polynomial of some factors -/
def coF (s : DY × DY) (ps : List (DY × DY)) : Nat → List (DY × DY)
 | 0 => [s]
 | i + 1 => nx (ps.getD i ZZ) (coF s ps i) (coF s ps i).length
def coOk (s : DY × DY) (ps : List (DY × DY)) (i : Nat) : Prop := ∀ k, k < (coF s ps i).length → nxOk (ps.getD i ZZ) (coF s ps i) k
theorem coF_len (s : DY × DY) (ps : List (DY × DY)) : ∀ i, (coF s ps i).length = i + 1
 | 0 => rfl
 | i + 1 => by show (nx _ _ _).length = _; rw [nx_len, coF_len s ps i]
theorem flY_q {b : Nat} (h : Fn b) : ((flY b).v : Rat) / PP = fq b := by
 unfold fq
 rw [flY_v h.q]
 rfl
theorem one_v : zv (flY 4607182418800017408, flY 0) = ⟨1, 0⟩ :=
 CQ.ext ((flY_q (by show fr _ < _; decide)).trans fq_one) ((flY_q (by show fr _ < _; decide)).trans fq_zero)
theorem co_ev {s : DY × DY} {ps : List (DY × DY)} (hs : ZOk s) (h1 : zv s = ⟨1, 0⟩) (hp : ∀ g ∈ ps, ZOk g) (x : CQ) : ∀ i, i ≤ ps.length → (∀ j, j < i → coOk s ps j) →
  (pev ((coF s ps i).map zv) x = rev ((ps.take i).map zv).reverse x ∧ pdv ((coF s ps i).map zv) x = rdv ((ps.take i).map zv).reverse x) ∧ (∀ g ∈ coF s ps i, ZOk g) ∧ (coF s ps i).getLast?.map zv = some ⟨1, 0⟩
 | 0, _, _ => by
  refine ⟨⟨?_, ?_⟩, ?_, ?_⟩
  ·show zv s + x * ⟨0, 0⟩ = ⟨1, 0⟩
   rw [h1, cq_mul_zero, cq_add]
   exact CQ.ext (Rat.add_zero _) (Rat.add_zero _)
  ·show (⟨0, 0⟩ : CQ) + x * ⟨0, 0⟩ = ⟨0, 0⟩
   rw [cq_mul_zero, cq_add]
   exact CQ.ext (Rat.add_zero _) (Rat.add_zero _)
  ·intro g hm
   have : g = s := by simpa [coF] using hm
   rw [this]; exact hs
  ·show some (zv s) = _
   rw [h1]
 | i + 1, hi, hk => by
  obtain ⟨⟨h5, h2⟩, h3, h4⟩ := co_ev hs h1 hp x i (by omega) (fun j hj => hk j (by omega))
  have hlt : i < ps.length := by omega
  have ez : ps.getD i ZZ = ps[i] := by simp [List.getD, List.getElem?_eq_getElem hlt]
  have hz : ZOk (ps.getD i ZZ) := by rw [ez]; exact hp _ (List.getElem_mem _)
  obtain ⟨e1, e2⟩ := nx_all (hk i (by omega))
  have e3 : coF s ps (i + 1) = ml (ps.getD i ZZ) ZZ (coF s ps i) := e1
  obtain ⟨v1, v2⟩ := ml_ev _ hz x (coF s ps i) ZZ ZZ_ok h3 e2
  have e4 : ((ps.take (i + 1)).map zv).reverse = zv (ps.getD i ZZ) :: ((ps.take i).map zv).reverse := by
   rw [List.take_succ_eq_append_getElem hlt, List.map_append, List.reverse_append, ez]; rfl
  rw [e3, e4]
  refine ⟨⟨?_, ?_⟩, ml_ok _ _ _ ZZ_ok, ?_⟩
  ·rw [v1, h5, zv_zero, cq_add]
   exact CQ.ext (Rat.zero_add _) (Rat.zero_add _)
  ·rw [v2, h5, h2]; rfl
  ·rw [ml_last _ _ _ h3 e2]
   cases e : (coF s ps i).getLast? with
   | none => rw [e] at h4; simp at h4
   | some g => rw [e] at h4; simpa using h4
theorem nx_step {zr zi ar ai cr ci dr di p q p2 q2 p3 q3 : DY} {N : List (DY × DY)} {k : Nat} (ha : (ar, ai) = N.getD k ZZ) (hc : (cr, ci) = (nx (zr, zi) N k).getD k ZZ) (hd : (dr, di) = (nx (zr, zi) N k).getD (k + 1) ZZ)
  (e1 : p = (ySub (yMul ar zr).1 (yMul ai zi).1).1) (e2 : q = (yAdd (yMul ar zi).1 (yMul ai zr).1).1) (e3 : p2 = (ySub cr p).1) (e4 : q2 = (ySub ci q).1) (e5 : p3 = (yAdd dr ar).1) (e6 : q3 = (yAdd di ai).1) :
  nx (zr, zi) N (k + 1) = ((nx (zr, zi) N k).set k (p2, q2)).set (k + 1) (p3, q3) := by
 show ((nx (zr, zi) N k).set k (zSub ((nx (zr, zi) N k).getD k ZZ) (zMul (N.getD k ZZ) (zr, zi)))).set (k + 1) (zAdd ((nx (zr, zi) N k).getD (k + 1) ZZ) (N.getD k ZZ)) = _
 rw [← ha, ← hc, ← hd, e3, e4, e5, e6, e1, e2]
 rfl
theorem nx_flag {zr zi ar ai cr ci dr di p q : DY} {N : List (DY × DY)} {k : Nat} (ha : (ar, ai) = N.getD k ZZ) (hc : (cr, ci) = (nx (zr, zi) N k).getD k ZZ) (hd : (dr, di) = (nx (zr, zi) N k).getD (k + 1) ZZ)
  (e1 : p = (ySub (yMul ar zr).1 (yMul ai zi).1).1) (e2 : q = (yAdd (yMul ar zi).1 (yMul ai zr).1).1) (h1 : TmOk ar ai zr zi) (h2 : (ySub cr p).2 = 0 ∧ (ySub ci q).2 = 0) (h3 : (yAdd dr ar).2 = 0 ∧ (yAdd di ai).2 = 0) : nxOk (zr, zi) N k := by
 unfold nxOk
 rw [← ha, ← hc, ← hd]
 exact ⟨h1, by unfold zSubOk zMul; dsimp only; rw [← e1, ← e2]; exact h2, h3⟩
theorem getD_set {N : List (DY × DY)} {i j : Nat} (g : DY × DY) (h : i ≠ j) : (N.set i g).getD j ZZ = N.getD j ZZ := by
 simp [List.getD, List.getElem?_set_ne h]
theorem nx_ok {z : DY × DY} {co : List (DY × DY)} : ∀ k, ∀ g ∈ nx z co k, ZOk g
 | 0, g, h => by
  have : g = ZZ := (List.mem_replicate.1 (show g ∈ List.replicate (co.length + 1) ZZ from h)).2
  rw [this]; exact ZZ_ok
 | k + 1, g, h => by
  rcases List.mem_or_eq_of_mem_set (show g ∈ ((nx z co k).set k (zSub ((nx z co k).getD k ZZ) (zMul (co.getD k ZZ) z))).set (k + 1) (zAdd ((nx z co k).getD (k + 1) ZZ) (co.getD k ZZ)) from h) with h | h
  ·rcases List.mem_or_eq_of_mem_set h with h | h
   ·exact nx_ok k g h
   ·rw [h]; exact zSub_ok _ _
  ·rw [h]; exact zAdd_ok _ _
theorem coF_ok {s : DY × DY} {ps : List (DY × DY)} (hs : ZOk s) : ∀ i, ∀ g ∈ coF s ps i, ZOk g
 | 0, g, h => by
  have : g = s := by simpa [coF] using h
  rw [this]; exact hs
 | i + 1, g, h => nx_ok _ g h
theorem getD_ok {N : List (DY × DY)} (h : ∀ g ∈ N, ZOk g) (k : Nat) : ZOk (N.getD k ZZ) := by
 by_cases hk : k < N.length
 ·rw [show N.getD k ZZ = N[k] by simp [List.getD, List.getElem?_eq_getElem hk]]; exact h _ (List.getElem_mem _)
 ·rw [show N.getD k ZZ = ZZ by simp [List.getD, List.getElem?_eq_none (Nat.le_of_not_lt hk)]]; exact ZZ_ok
end Go.Proofs.YtfdnbogbankjjaaGreatDoor

/- Rows of exact numbers in a block. -/
namespace Go.Proofs.YtfdnbogbankjjaaGreatDoor
open Go Go.RowKit Go.PlainAid Fil

theorem Tryz.infoGs : (Tryz.prog.info? 44).map (fun i => (i.zero, i.size, i.bytes)) = some (some (.agg #[.bool false, .string { data := #[] }, .int .i64 0, .bool false, .string { data := #[] }, .int .i64 0]), 6, 64) := by kernel_rfl
theorem El.ce6 {w : World} {b o : Nat} {v0 v1 v2 v3 v4 v5 : Value} (h : El w b o #[v0, v1, v2, v3, v4, v5]) : w.cell? ⟨b, o, none⟩ = some v0 ∧ w.cell? ⟨b, o + 1, none⟩ = some v1 ∧ w.cell? ⟨b, o + 2, none⟩ = some v2 ∧ w.cell? ⟨b, o + 3, none⟩ = some v3 ∧ w.cell? ⟨b, o + 4, none⟩ = some v4 ∧ w.cell? ⟨b, o + 5, none⟩ = some v5 :=
 ⟨h.2 0 (by simp), h.2 1 (by simp), h.2 2 (by simp), h.2 3 (by simp), h.2 4 (by simp), h.2 5 (by simp)⟩
def Zv (g : DY × DY) : Array Value := #[.bool g.1.n, .string (bstr g.1.x), .int .i64 g.1.e, .bool g.2.n, .string (bstr g.2.x), .int .i64 g.2.e]
/-- block b begins with these numbers -/
def ZR (w : World) (b : Nat) (N : List (DY × DY)) : Prop := ∃ cs : Array Value, Blk w b cs 44 ∧ ∀ i (h : i < N.length) (j : Nat) (hj : j < 6), cs[i * 6 + j]? = some ((Zv N[i])[j]'hj)
theorem ZR.lt {w : World} {b : Nat} {N : List (DY × DY)} (h : ZR w b N) : b < w.heap.size := by obtain ⟨_, h, _⟩ := h; exact h.lt
theorem ZR.keep {w w' : World} {b : Nat} {N : List (DY × DY)} (h : ZR w b N) (hb : Below w.heap.size w w') : ZR w' b N := by obtain ⟨c, h, k⟩ := h; exact ⟨c, h.keep hb, k⟩
theorem ZR.below {w w' : World} {b B : Nat} {N : List (DY × DY)} (h : ZR w b N) (hb : Below B w w') (hB : b < B) : ZR w' b N := by obtain ⟨c, h, k⟩ := h; exact ⟨c, h.below hb hB, k⟩
theorem ZR.allocd {w : World} {b : Nat} {N : List (DY × DY)} (h : ZR w b N) (o : Obj) : ZR (w.alloc o) b N := by obtain ⟨c, h, k⟩ := h; exact ⟨c, h.allocd o, k⟩
theorem ZR.drew {w : World} {b : Nat} {N : List (DY × DY)} (h : ZR w b N) : ZR w.drew b N := h
theorem ZR.far {w : World} {b b' : Nat} {N : List (DY × DY)} (h : ZR w b N) (o : Nat) (v : Value) (hne : b ≠ b') : ZR (w.setCell ⟨b', o, none⟩ v) b N := by obtain ⟨c, h, k⟩ := h; exact ⟨c, h.far o v hne, k⟩
theorem ZR.free {w : World} {b : Nat} {N : List (DY × DY)} (h : ZR w b N) (i : Nat) : w.frozen? ⟨b, i, none⟩ = false := by obtain ⟨c, h, k⟩ := h; exact h.free i
theorem ZR.free6 {w : World} {b : Nat} {N : List (DY × DY)} (h : ZR w b N) (o : Nat) : w.frozen? ⟨b, o, none⟩ = false ∧ w.frozen? ⟨b, o + 1, none⟩ = false ∧ w.frozen? ⟨b, o + 2, none⟩ = false ∧ w.frozen? ⟨b, o + 3, none⟩ = false ∧ w.frozen? ⟨b, o + 4, none⟩ = false ∧ w.frozen? ⟨b, o + 5, none⟩ = false := ⟨h.free _, h.free _, h.free _, h.free _, h.free _, h.free _⟩
theorem ZR.at {w : World} {b : Nat} {N : List (DY × DY)} (h : ZR w b N) (i : Nat) (hi : i < N.length) (j : Nat) (hj : j < 6) : w.cell? ⟨b, i * 6 + j, none⟩ = some ((Zv N[i])[j]'hj) := by
 obtain ⟨c, h, k⟩ := h
 obtain ⟨hm, e⟩ := Array.getElem?_eq_some_iff.1 (k i hi j hj)
 rw [← e]; exact h.at _ hm
theorem ZR.get {w : World} {b : Nat} {N : List (DY × DY)} (h : ZR w b N) (i : Nat) (hi : i < N.length) : El w b (i * 6) #[.bool N[i].1.n, .string (bstr N[i].1.x), .int .i64 N[i].1.e, .bool N[i].2.n, .string (bstr N[i].2.x), .int .i64 N[i].2.e] :=
 ⟨h.lt, fun j hj => h.at i hi j hj⟩
theorem ZR.get' {w : World} {b : Nat} {N : List (DY × DY)} (h : ZR w b N) (i : Nat) (hi : i < N.length) {p q : DY} (e : (p, q) = N.getD i ZZ) : El w b (i * 6) #[.bool p.n, .string (bstr p.x), .int .i64 p.e, .bool q.n, .string (bstr q.x), .int .i64 q.e] := by
 have e2 : N[i] = (p, q) := by rw [e]; simp [List.getD, List.getElem?_eq_getElem hi]
 have k := h.get i hi
 rw [e2] at k
 exact k
theorem ZR.one {w : World} {b : Nat} {p q : DY} (h : Blk w b #[.bool p.n, .string (bstr p.x), .int .i64 p.e, .bool q.n, .string (bstr q.x), .int .i64 q.e] 44) : ZR w b [(p, q)] := by
 refine ⟨_, h, fun i hi j hj => ?_⟩
 obtain rfl : i = 0 := by simpa using hi
 match j, hj with
 | 0, _ => rfl
 | 1, _ => rfl
 | 2, _ => rfl
 | 3, _ => rfl
 | 4, _ => rfl
 | 5, _ => rfl
theorem ZR.made {w : World} {b n : Nat} (h : Blk w b (madeCells #[.bool false, .string { data := #[] }, .int .i64 0, .bool false, .string { data := #[] }, .int .i64 0] (n * 6)) 44) : ZR w b (List.replicate n ZZ) := by
 refine ⟨_, h, fun i hi j hj => ?_⟩
 have hi' : i < n := by simpa using hi
 have e : (List.replicate n ZZ)[i] = ZZ := by simp
 rw [Array.getElem?_eq_getElem (by rw [size_madeCells]; omega)]
 simp only [e]
 have e2 : (i * 6 + j) % 6 = j := by omega
 simp only [madeCells, Array.getElem_map, Array.getElem_range, List.size_toArray, List.length_cons, List.length_nil]
 rw [show (0 + 1 + 1 + 1 + 1 + 1 + 1) = 6 from rfl, e2]
 have hz : bstr DY.zero.x = ({ data := #[] } : ByteArray) := bstr_zero
 match j, hj with
 | 0, _ => rfl
 | 1, _ => show some (Value.string { data := #[] }) = some (Value.string (bstr DY.zero.x)); rw [hz]
 | 2, _ => rfl
 | 3, _ => rfl
 | 4, _ => show some (Value.string { data := #[] }) = some (Value.string (bstr DY.zero.x)); rw [hz]
 | 5, _ => rfl
theorem set6 {cs : Array Value} {o : Nat} {v0 v1 v2 v3 v4 v5 : Value} (m : Nat) :
  ((((((cs.setIfInBounds o v0).setIfInBounds (o + 1) v1).setIfInBounds (o + 2) v2).setIfInBounds (o + 3) v3).setIfInBounds (o + 4) v4).setIfInBounds (o + 5) v5)[m]? =
   if m < cs.size then (if m = o + 5 then some v5 else if m = o + 4 then some v4 else if m = o + 3 then some v3 else if m = o + 2 then some v2 else if m = o + 1 then some v1 else if m = o then some v0 else cs[m]?) else none := by
 simp only [Array.getElem?_setIfInBounds, Array.size_setIfInBounds]
 by_cases h : m < cs.size
 ·simp only [if_pos h]
  repeat (first | (split <;> (try simp_all) <;> (try omega)) )
 ·rw [if_neg h]
  have h0 : cs[m]? = none := Array.getElem?_eq_none (by omega)
  repeat (first | (split <;> (try simp_all) <;> (try omega)) )
theorem ZR.put6 {w : World} {b : Nat} {N : List (DY × DY)} (h : ZR w b N) (i : Nat) (hi : i < N.length) (p q : DY) :
  ZR ((((((w.setCell ⟨b, i * 6, none⟩ (.bool p.n)).setCell ⟨b, i * 6 + 1, none⟩ (.string (bstr p.x))).setCell ⟨b, i * 6 + 2, none⟩ (.int .i64 p.e)).setCell ⟨b, i * 6 + 3, none⟩ (.bool q.n)).setCell ⟨b, i * 6 + 4, none⟩ (.string (bstr q.x))).setCell ⟨b, i * 6 + 5, none⟩ (.int .i64 q.e)) b (N.set i (p, q)) := by
 obtain ⟨c, h, k⟩ := h
 refine ⟨_, (((((h.setAt _ _).setAt _ _).setAt _ _).setAt _ _).setAt _ _).setAt _ _, fun ii hi' j hj => ?_⟩
 rw [List.length_set] at hi'
 have hlt : ii * 6 + j < c.size := (Array.getElem?_eq_some_iff.1 (k ii hi' j hj)).1
 rw [set6, if_pos hlt]
 by_cases e : i = ii
 ·subst e
  have e2 : (N.set i (p, q))[i]'(by rw [List.length_set]; exact hi) = (p, q) := by simp
  rw [e2]
  match j, hj with
  | 0, _ => rw [if_neg (by omega), if_neg (by omega), if_neg (by omega), if_neg (by omega), if_neg (by omega), if_pos (by omega)]; rfl
  | 1, _ => rw [if_neg (by omega), if_neg (by omega), if_neg (by omega), if_neg (by omega), if_pos (by omega)]; rfl
  | 2, _ => rw [if_neg (by omega), if_neg (by omega), if_neg (by omega), if_pos (by omega)]; rfl
  | 3, _ => rw [if_neg (by omega), if_neg (by omega), if_pos (by omega)]; rfl
  | 4, _ => rw [if_neg (by omega), if_pos (by omega)]; rfl
  | 5, _ => rw [if_pos (by omega)]; rfl
 ·have e2 : (N.set i (p, q))[ii]'(by rw [List.length_set]; exact hi') = N[ii] := List.getElem_set_ne e _
  rw [e2, if_neg (by omega), if_neg (by omega), if_neg (by omega), if_neg (by omega), if_neg (by omega), if_neg (by omega)]
  exact k ii hi' j hj
end Go.Proofs.YtfdnbogbankjjaaGreatDoor
