/- Merged: D2 D3 D4 -/
import Derived.Test.YtfdnbogbankjjaaGreatDoorCM
import Derived.Test.YtfdnbogbankjjaaGreatDoorFY
import Derived.Test.YtfdnbogbankjjaaGreatDoorD1
import Derived.Test.YtfdnbogbankjjaaGreatDoorV3
import Derived.Test.YtfdnbogbankjjaaGreatDoorFU
import Derived.Test.YtfdnbogbankjjaaGreatDoorBL

/- TopRoots in plain Lean: of a product of known factors, what All tells. -/
namespace Go.Proofs.YtfdnbogbankjjaaGreatDoor
open Go Go.RowKit Go.PlainAid Fil

/-- a Dyad of few bits -/
def Sm (a : DY) (K : Nat) (l h : Int) : Prop := ∃ z e, a.v = W z e ∧ z.natAbs < 2 ^ K ∧ l ≤ e ∧ e ≤ h
theorem lowEx {e : Int} (h : -5000 ≤ e) : -(lowM : Int) ≤ e := by have := lowM_ge; omega
theorem dsmAdd {a b : DY} {K : Nat} {l h : Int} (ha : a.ok) (hb : b.ok) (sa : Sm a K l h) (sb : Sm b K l h) (d : Nat) (hd : h - l ≤ d) (hl : -5000 ≤ l) (hh : h ≤ 5000) (hK : K + d + 1 ≤ 16384) : (yAdd a b).2 = 0 ∧ Sm (yAdd a b).1 (K + d + 1) l h := by
 obtain ⟨za, ea, va, na, la, ua⟩ := sa
 obtain ⟨zb, eb, vb, nb, lb, ub⟩ := sb
 have bd := addZ_bd (ea := ea) (eb := eb) (b := d) na nb (by omega) (by omega)
 have k := yAdd_small ha hb va vb (lowEx (by omega)) (lowEx (by omega)) (small_ok hK bd (by omega) (by omega))
 exact ⟨k.1, _, _, k.2, bd, by omega, by omega⟩
theorem dsmNeg {b : DY} {K : Nat} {l h : Int} (sb : Sm b K l h) : Sm (yNeg b) K l h := by
 obtain ⟨zb, eb, vb, nb, lb, ub⟩ := sb
 exact ⟨-zb, eb, by rw [yNeg_v, vb, W_neg], by rw [Int.natAbs_neg]; exact nb, lb, ub⟩
theorem dsmSub {a b : DY} {K : Nat} {l h : Int} (ha : a.ok) (hb : b.ok) (sa : Sm a K l h) (sb : Sm b K l h) (d : Nat) (hd : h - l ≤ d) (hl : -5000 ≤ l) (hh : h ≤ 5000) (hK : K + d + 1 ≤ 16384) : (ySub a b).2 = 0 ∧ Sm (ySub a b).1 (K + d + 1) l h :=
 dsmAdd ha (yNeg_ok hb) sa (dsmNeg sb) d hd hl hh hK
theorem dsmMul {a b : DY} {K : Nat} {l h : Int} (ha : a.ok) (hb : b.ok) (sa : Sm a K l h) (sb : Sm b K l h) (hl : -2500 ≤ l) (hh : h ≤ 2500) (hK : K + K ≤ 16384) : (yMul a b).2 = 0 ∧ Sm (yMul a b).1 (K + K) (l + l) (h + h) := by
 obtain ⟨za, ea, va, na, la, ua⟩ := sa
 obtain ⟨zb, eb, vb, nb, lb, ub⟩ := sb
 have bd : (za * zb).natAbs < 2 ^ (K + K) := by
  rw [Int.natAbs_mul, Nat.pow_add]
  exact Nat.lt_of_le_of_lt (Nat.mul_le_mul_left _ (Nat.le_of_lt nb)) (Nat.mul_lt_mul_of_pos_right na (Nat.two_pow_pos K))
 have k := yMul_small ha hb va vb (lowEx (by omega)) (lowEx (by omega)) (lowEx (by omega)) (small_ok hK bd (by omega) (by omega))
 exact ⟨k.1, _, _, k.2, bd, by omega, by omega⟩
theorem dsmFl {b : Nat} (h : Fn b) : Sm (flY b) 64 (-1074) 972 := by
 refine ⟨sz (fs b) (flM b), flE b, ?_, ?_, (flE_bd b).1, (flE_bd b).2⟩
 ·rw [flY_v h.q, ← fu_flY h]; rfl
 ·rw [sz_abs]
  exact Nat.lt_of_lt_of_le (flM_lt b) (by decide)
/-- a known number -/
def Kn (k : DY × DY) : Prop := ZOk k ∧ Sm k.1 64 (-1074) 972 ∧ Sm k.2 64 (-1074) 972
theorem holdOk {x y r : Nat} {k : DY × DY} (hx : Fn x) (hy : Fn y) (hr : Fn r) (hk : Kn k) : HdOk x y r k.1 k.2 := by
 obtain ⟨⟨o1, o2⟩, s1, s2⟩ := hk
 have d1 := dsmSub o1 (flY_ok x) s1 (dsmFl hx) 2046 (by omega) (by omega) (by omega) (by omega)
 have d2 := dsmSub o2 (flY_ok y) s2 (dsmFl hy) 2046 (by omega) (by omega) (by omega) (by omega)
 have m1 := dsmMul (ySub_ok _ _) (ySub_ok _ _) d1.2 d1.2 (by omega) (by omega) (by omega)
 have m2 := dsmMul (ySub_ok _ _) (ySub_ok _ _) d2.2 d2.2 (by omega) (by omega) (by omega)
 have a1 := dsmAdd (yMul_ok _ _) (yMul_ok _ _) m1.2 m2.2 4092 (by omega) (by omega) (by omega) (by omega)
 have m3 := dsmMul (flY_ok r) (flY_ok r) (dsmFl hr) (dsmFl hr) (by omega) (by omega) (by omega)
 refine ⟨d1.1, d2.1, ⟨m1.1, m2.1, a1.1⟩, ?_⟩
 have e : flT r = (flY r, 0) := flT_q hr.q
 unfold SqOk
 rw [e]
 exact ⟨rfl, m3.1⟩
/-- does a ball hold a number? -/
def Hb (x y r : Nat) (k : DY × DY) : Bool := inB ⟨fq x, fq y⟩ (fq r) (zv k)
theorem le_PP {a b : Int} : a ≤ b ↔ (a : Rat) / PP ≤ (b : Rat) / PP := by
 have hp := PP_pos
 rw [Rat.div_def, Rat.div_def]
 constructor
 ·intro h
  exact Rat.mul_le_mul_of_nonneg_right (by exact_mod_cast h) (Rat.le_of_lt (Rat.inv_pos.2 hp))
 ·intro h
  have h2 := Rat.mul_le_mul_of_nonneg_right h (Rat.le_of_lt hp)
  rw [Rat.mul_assoc, Rat.mul_assoc, Rat.inv_mul_cancel _ PP_ne, Rat.mul_one, Rat.mul_one] at h2
  exact_mod_cast h2
theorem holdIs {x y r : Nat} {k : DY × DY} (hx : Fn x) (hy : Fn y) (hr : Fn r) (hk : ZOk k) (h : HdOk x y r k.1 k.2) :
  decide (yCmp (yAdd (yMul (ySub k.1 (flY x)).1 (ySub k.1 (flY x)).1).1 (yMul (ySub k.2 (flY y)).1 (ySub k.2 (flY y)).1).1).1 (yMul (flY r) (flY r)).1 ≤ 0) = Hb x y r k := by
 obtain ⟨h1, h2, ⟨h3, h4, h5⟩, h6⟩ := h
 have e : flT r = (flY r, 0) := flT_q hr.q
 unfold SqOk at h6
 rw [e] at h6
 have v1 := dq_sub hk.1 (flY_ok x) h1
 have v2 := dq_sub hk.2 (flY_ok y) h2
 have v3 := dq_mul (ySub_ok _ _) (ySub_ok _ _) h3
 have v4 := dq_mul (ySub_ok _ _) (ySub_ok _ _) h4
 have v5 := dq_add (yMul_ok _ _) (yMul_ok _ _) h5
 have v6 := dq_mul (flY_ok r) (flY_ok r) h6.2
 rw [flY_q hx] at v1
 rw [flY_q hy] at v2
 rw [flY_q hr] at v6
 rw [v3, v4, v1, v2] at v5
 unfold Hb inB
 refine decide_eq_decide.2 ?_
 have c : ∀ a b : DY, yCmp a b ≤ 0 ↔ a.v ≤ b.v := fun a b => by
  have := yCmp_gt (a := a) (b := b)
  omega
 rw [c, le_PP, v5, v6]
 rfl
theorem fn_of {X : FV} {x : Nat} (h : Rl X x) : Fn x := h.2.2
/-- the polynomial that product has made -/
theorem co_real {F : List (DY × DY)} {C : List CV} (hl : C.length = F.length) (hC : ∀ i (hi : i < C.length), ∃ x y, Rl C[i].1 x ∧ Rl C[i].2 y ∧ (flY x, flY y) = F.getD i ZZ) : Reals C ∧ C.map cqv = F.map zv := by
 refine ⟨fun i hi => ?_, List.ext_getElem (by simp [hl]) fun i h1 h2 => ?_⟩
 ·obtain ⟨x, y, hx, hy, _⟩ := hC i hi
  exact ⟨x, y, hx, hy⟩
 ·rw [List.length_map] at h1 h2
  obtain ⟨x, y, hx, hy, e⟩ := hC i h1
  rw [List.getElem_map, List.getElem_map, show F[i] = F.getD i ZZ by simp [List.getD, List.getElem?_eq_getElem h2], ← e]
  exact CQ.ext (hx.qv.trans (flY_q (fn_of hx)).symm) (hy.qv.trans (flY_q (fn_of hy)).symm)
theorem co_gp {F : List (DY × DY)} {C : List CV} (h0 : 0 < C.length) (hl : C.length = F.length) (h9 : C.length ≤ 17) (hC : ∀ i (hi : i < C.length), ∃ x y, Rl C[i].1 x ∧ Rl C[i].2 y ∧ (flY x, flY y) = F.getD i ZZ) (hF : F.getLast?.map zv = some ⟨1, 0⟩) : GP C := by
 refine ⟨h0, h9, fun i hi => ?_, fun hi => ?_⟩
 ·obtain ⟨x, y, hx, hy, _⟩ := hC i hi
  have e : cFin (C[i].1, C[i].2) = true := real_cfin hx hy
  simp only [pFin]
  rw [e]; rfl
 ·obtain ⟨x, y, hx, hy, e⟩ := hC (C.length - 1) hi
  have e1 : F.getLast? = some (F.getD (C.length - 1) ZZ) := by
   rw [List.getLast?_eq_getElem?, hl]
   simp [List.getD, List.getElem?_eq_getElem (show F.length - 1 < F.length by omega)]
  rw [e1] at hF
  have e2 : zv (F.getD (C.length - 1) ZZ) = ⟨1, 0⟩ := by simpa using hF
  rw [← e] at e2
  have e3 : fq x = 1 := (flY_q (fn_of hx)).symm.trans (congrArg CQ.re e2)
  simp only [pZero]
  cases hz : feq C[C.length - 1].1 (some 0)
  ·rfl
  ·obtain ⟨x', hx', h0'⟩ := feq0 hx.fl.wd hz
   have : x = x' := by
    have := hx.1.symm.trans hx'.1
    injection this
   rw [this, h0'] at e3
   exact absurd e3 (by decide)
/-- what All tells of a product of factors -/
structure Told (K : List (DY × DY)) (E : List (CV × Option BV)) : Prop where
 len : E.length = K.length
 one : ∀ i (hi : i < E.length) b, E[i].2 = some b → ∃ x y r, GB b x y r ∧ K.countP (Hb x y r) = 1
 apart : ∀ i k (hi : i < E.length) (hk : k < E.length) b c, k < i → E[i].2 = some b → E[k].2 = some c → ∀ x y r x' y' r', GB b x y r → GB c x' y' r' → ∀ g ∈ K, ¬ (Hb x y r g = true ∧ Hb x' y' r' g = true)
theorem hb_in {x y r : Nat} {g : DY × DY} {b : BV} (gb : GB b x y r) (h : Hb x y r g = true) : InR ⟨fq x, fq y⟩ (fq r) (zv g) := by
 have hr : 0 ≤ fq r := by
  have := fu_nneg gb.r gb.s
  unfold fq
  rw [Rat.div_def]
  exact Rat.mul_nonneg (by exact_mod_cast this) (Rat.le_of_lt (Rat.inv_pos.2 PP_pos))
 exact ⟨hr, of_decide_eq_true h⟩
theorem told_some {C : List CV} {l : List CQ} {b : BV} {T : List BV} {z : CV} (hR : Reals C) (h0 : 0 < C.length) (hl : C.length ≤ 17) (hz : ∃ x y, Rl (nwI C z 3).1 x ∧ Rl (nwI C z 3).2 y) (h : rtF C T z = some b)
  (hp : ∀ z, pev (C.map cqv) z = rev l z) (hd : ∀ z, pdv (C.map cqv) z = rdv l z) : ∃ x y r, GB b x y r ∧ l.countP (inB ⟨fq x, fq y⟩ (fq r)) = 1 := by
 cases C with
 | nil => exact absurd h0 (by simp)
 | cons c L => exact told_root hR (by simp at hl; omega) hz h hp hd
theorem told_all {K : List (DY × DY)} {C : List CV} {s : DY × DY} (hs : ZOk s) (h1 : zv s = ⟨1, 0⟩) (hK : ∀ g ∈ K, ZOk g) (h0 : 0 < K.length) (h8 : K.length ≤ 8) (hok : ∀ i, i < K.length → coOk s K i) (hl : C.length = K.length + 1)
  (hC : ∀ i (hi : i < C.length), ∃ x y, Rl C[i].1 x ∧ Rl C[i].2 y ∧ (flY x, flY y) = (coF s K K.length).getD i ZZ) : GP C ∧ Told K (saF C (itF C 64) K.length).1 := by
 have hlF : C.length = (coF s K K.length).length := by rw [hl, coF_len]
 have last := (co_ev hs h1 hK ⟨0, 0⟩ K.length (Nat.le_refl _) hok).2.2
 have G := co_gp (by omega) hlF (by omega) hC last
 obtain ⟨hR, hm⟩ := co_real hlF hC
 have hP : (itF C 64).length = K.length := by rw [itF_len]; omega
 refine ⟨G, saF_len _ _ _, fun i hi b hb => ?_, fun i k hi hk b c hki hb hc x y r x' y' r' g1 g2 g hg hh => ?_⟩
 ·rw [saF_len] at hi
  rw [saF_get C (itF C 64) K.length i hi] at hb
  have hev : ∀ z, pev (C.map cqv) z = rev (K.map zv).reverse z := fun z => by
   rw [hm, (co_ev hs h1 hK z K.length (Nat.le_refl _) hok).1.1, List.take_length]
  have hdv : ∀ z, pdv (C.map cqv) z = rdv (K.map zv).reverse z := fun z => by
   rw [hm, (co_ev hs h1 hK z K.length (Nat.le_refl _) hok).1.2, List.take_length]
  obtain ⟨x, y, r, gb, hcount⟩ := told_some hR (by omega) (by omega) (end_num C (by rw [hP]; exact hi)) hb hev hdv
  refine ⟨x, y, r, gb, ?_⟩
  rw [List.countP_reverse, List.countP_map] at hcount
  exact hcount
 ·rw [saF_len] at hi hk
  rw [saF_get C (itF C 64) K.length i hi] at hb
  rw [saF_get C (itF C 64) K.length k hk] at hc
  exact apart_no g1 g2 (told_apart hki hc hb) (hb_in g1 hh.1) (hb_in g2 hh.2)
end Go.Proofs.YtfdnbogbankjjaaGreatDoor

/- TopRoots' first line: the roots of a polynomial that is written out. -/
namespace Go.Proofs.YtfdnbogbankjjaaGreatDoor
open Go Go.RowKit Go.PlainAid Fil

def P3 : List CV := [(some 13830554455654793216, some 0), (some 0, some 0), (some 4607182418800017408, some 0)]
def X3 : List CV := [(some 4607182418800017408, some 0), (some 13830554455654793216, some 0)]
set_option maxRecDepth 1000000 in
theorem run3_fix : stpF P3 X3 = X3 := by decide +kernel
set_option maxRecDepth 1000000 in
theorem run3_ten : itF P3 10 = X3 := by decide +kernel
theorem run3_all : ∀ k, itF P3 (10 + k) = X3
 | 0 => run3_ten
 | k + 1 => by
  show stpF P3 (itF P3 (10 + k)) = X3
  rw [run3_all k, run3_fix]
set_option maxRecDepth 1000000 in
theorem run3_told : (saF P3 X3 2).2.length = 2 := by decide +kernel
theorem run3 : (saF P3 (itF P3 64) 2).2.length = 2 := by rw [show itF P3 64 = X3 from run3_all 54]; exact run3_told
theorem gp3 : GP P3 := by
 refine ⟨by decide, by decide, fun i hi => ?_, fun _ => ?_⟩
 ·match i, hi with
  | 0, _ => show pFin (some 13830554455654793216, some 0) = true; decide
  | 1, _ => show pFin (some 0, some 0) = true; decide
  | 2, _ => show pFin (some 4607182418800017408, some 0) = true; decide
 ·show pZero (some 4607182418800017408, some 0) = false
  decide
end Go.Proofs.YtfdnbogbankjjaaGreatDoor

/- For TopRoots' walk: rows of known numbers, what All gives back, holds by Hb, Of. -/
namespace Go.Proofs.YtfdnbogbankjjaaGreatDoor
open Go Go.RowKit Go.PlainAid Fil

theorem c_ofFive (u : Int) (w : World) (h0 : -9223372036854775808 ≤ u) (h1 : u ≤ 9223372036854775807) :
  Calls Tryz.prog 5 #[.int .i64 u, .int .i64 (-5)] w fun r w' => r = .returned (.tuple #[.agg #[.bool (mkD u (-5)).n, .string (bstr (mkD u (-5)).x), .int .i64 (mkD u (-5)).e], .int .i64 0]) ∧ Below w.heap.size w w' := by
 have hk : mkOk u (-5) = true := small_ok (K := 64) (by omega) (by omega) (by omega) (by omega)
 have k := rof2_any u (-5) w h0 h1 (by omega) (by omega)
 have e : mkV u (-5) = .tuple #[.agg #[.bool (mkD u (-5)).n, .string (bstr (mkD u (-5)).x), .int .i64 (mkD u (-5)).e], .int .i64 (mkR u (-5))] := rfl
 rw [mkR_ok hk] at e
 rw [e] at k
 exact k
theorem five_ok (u : Int) (h0 : -9223372036854775808 ≤ u) (h1 : u ≤ 9223372036854775807) : (mkD u (-5)).ok ∧ Sm (mkD u (-5)) 64 (-1074) 972 := by
 have hk : mkOk u (-5) = true := small_ok (K := 64) (by omega) (by omega) (by omega) (by omega)
 refine ⟨mkD_ok _ _, u, -5, mkD_v hk (lowEx (by omega)), by omega, by omega, by omega⟩
theorem c_holdsB {x y r : Nat} {k : DY × DY} {b : BV} (w : World) (g : GB b x y r) (hk : Kn k) :
  Calls Tryz.prog 7 #[.agg #[.complex .f64 x y, .float .f64 r], .agg #[.bool k.1.n, .string (bstr k.1.x), .int .i64 k.1.e, .bool k.2.n, .string (bstr k.2.x), .int .i64 k.2.e]] w fun e w' => e = .returned (.tuple #[.bool (Hb x y r k), .bool true]) ∧ Below w.heap.size w w' := by
 have hd := holdOk (fn_of g.x) (fn_of g.y) (fn_of g.r) hk
 have c := c_tholds w g hk.1.1 hk.1.2 hd
 rw [holdIs (fn_of g.x) (fn_of g.y) (fn_of g.r) hk.1 hd] at c
 exact c
/-- known numbers in a row of its own -/
def KS (B : Nat) (w : World) (v : Value) (K : List (DY × DY)) : Prop := w.ownsRow B 44 6 v K.length (K.flatMap fun g => (Zv g).toList)
theorem KS.nil (B : Nat) (w : World) : KS B w (.slice none 0 0) [] := World.ownsRow_nil _ _ _ _
theorem KS.keep {B : Nat} {w w' : World} {v : Value} {K : List (DY × DY)} (h : KS B w v K) (hb : Below w.heap.size w w') : KS B w' v K := owns_below h hb
theorem flat6_get : ∀ (K : List (DY × DY)) (i : Nat) (h : i < K.length) (j : Nat) (hj : j < 6), (K.flatMap fun g => (Zv g).toList)[i * 6 + j]? = some ((Zv K[i])[j]'hj)
 | p :: K, 0, _, j, hj => by
  rw [List.flatMap_cons, Nat.zero_mul, Nat.zero_add, List.getElem?_append_left (show j < (Zv p).toList.length from hj)]
  rw [List.getElem?_eq_getElem (show j < (Zv p).toList.length from hj)]
  rfl
 | p :: K, i + 1, h, j, hj => by
  rw [List.flatMap_cons, show (i + 1) * 6 + j = (Zv p).toList.length + (i * 6 + j) from by show _ = 6 + _; omega, List.getElem?_append_right (Nat.le_add_right _ _), Nat.add_sub_cancel_left]
  exact flat6_get K i (by simpa using h) j hj
theorem KS.row {B : Nat} {w : World} {v : Value} {K : List (DY × DY)} (h : KS B w v K) (h0 : 0 < K.length) : ∃ b c, v = .slice (some ⟨b, 0, none⟩) K.length c ∧ K.length ≤ c ∧ ZR w b K := by
 obtain ⟨h1, h2⟩ := h
 rcases h2 with ⟨_, e⟩ | ⟨g, cap, cur, rfl, hB, hg, h5, h6, h7, h8⟩
 ·omega
 ·refine ⟨g, cap, rfl, h5, cur, hg, fun i hi j hj => ?_⟩
  have k := flat6_get K i hi j hj
  rw [← h8, List.getElem?_take_of_lt (by omega)] at k
  rw [← Array.getElem?_toList]
  exact k
theorem RS.slc {B : Nat} {w : World} {v : Value} {L : List (CV × Option BV)} (h : RS B w v L) : ∃ a c, v = .slice a L.length c ∧ L.length ≤ c ∧ c ≤ maxLen := by
 obtain ⟨ps, ⟨_, h2⟩, _⟩ := h
 rcases h2 with ⟨rfl, h0⟩ | ⟨g, cap, cur, rfl, hB, hg, h3, h4, _⟩
 ·rw [h0]; exact ⟨_, _, rfl, Nat.le_refl _, Nat.zero_le _⟩
 ·exact ⟨_, _, rfl, h3, h4⟩
theorem flat4_get : ∀ (ps : List RT) (i : Nat) (h : i < ps.length), (ps.flatMap RTv)[i * 4]? = some (.complex .f64 ps[i].1 ps[i].2.1) ∧ (ps.flatMap RTv)[i * 4 + 1]? = some (.bool ps[i].2.2.1) ∧ (ps.flatMap RTv)[i * 4 + 2]? = some (.complex .f64 ps[i].2.2.2.1 ps[i].2.2.2.2.1) ∧ (ps.flatMap RTv)[i * 4 + 3]? = some (.float .f64 ps[i].2.2.2.2.2)
 | p :: ps, 0, _ => ⟨rfl, rfl, rfl, rfl⟩
 | p :: ps, i + 1, h => by
  have ih := flat4_get ps i (by simpa using h)
  have e : (p :: ps).flatMap RTv = .complex .f64 p.1 p.2.1 :: .bool p.2.2.1 :: .complex .f64 p.2.2.2.1 p.2.2.2.2.1 :: .float .f64 p.2.2.2.2.2 :: ps.flatMap RTv := rfl
  rw [e, show (i + 1) * 4 = i * 4 + 1 + 1 + 1 + 1 by omega]
  simp only [List.getElem?_cons_succ]
  exact ih
theorem El.ce4 {w : World} {b o : Nat} {v0 v1 v2 v3 : Value} (h : El w b o #[v0, v1, v2, v3]) : w.cell? ⟨b, o, none⟩ = some v0 ∧ w.cell? ⟨b, o + 1, none⟩ = some v1 ∧ w.cell? ⟨b, o + 2, none⟩ = some v2 ∧ w.cell? ⟨b, o + 3, none⟩ = some v3 :=
 ⟨h.2 0 (by simp), h.2 1 (by simp), h.2 2 (by simp), h.2 3 (by simp)⟩
/-- one of the roots that All gives back, in memory -/
def RootAt (w : World) (b i : Nat) (E : CV × Option BV) : Prop := ∃ p : RT, El w b (i * 4) #[.complex .f64 p.1 p.2.1, .bool p.2.2.1, .complex .f64 p.2.2.2.1 p.2.2.2.2.1, .float .f64 p.2.2.2.2.2] ∧ RtOk p E
theorem RS.get {B : Nat} {w : World} {a : Option Addr} {n c : Nat} {L : List (CV × Option BV)} (h : RS B w (.slice a n c) L) (h0 : 0 < L.length) : ∃ b, a = some ⟨b, 0, none⟩ ∧ B ≤ b ∧ b < w.heap.size ∧ ∀ i (hi : i < L.length), RootAt w b i L[i] := by
 obtain ⟨ps, ⟨h1, h2⟩, h3, h4⟩ := h
 rcases h2 with ⟨_, h0'⟩ | ⟨g, cap, cur, e, hB, hg, h5, h6, h7, h8⟩
 ·omega
 ·cases e
  refine ⟨g, rfl, hB, lt_of_block hg, fun i hi => ?_⟩
  have hp : i < ps.length := by omega
  refine ⟨ps[i], ⟨lt_of_block hg, ?_⟩, h4 i hi hp⟩
  obtain ⟨f1, f2, f3, f4⟩ := flat4_get ps i hp
  have key : ∀ j u, j < L.length * 4 → (ps.flatMap RTv)[j]? = some u → w.cell? ⟨g, j, none⟩ = some u := by
   intro j u hj hu
   rw [← h8, List.getElem?_take_of_lt hj] at hu
   have e2 : cur[j]? = some u := by rw [← Array.getElem?_toList]; exact hu
   simp [World.cell?, hg, e2]
  intro j hj
  match j, hj with
  | 0, _ => exact key _ _ (by omega) f1
  | 1, _ => exact key _ _ (by omega) f2
  | 2, _ => exact key _ _ (by omega) f3
  | 3, _ => exact key _ _ (by omega) f4
theorem RootAt.keep {w w' : World} {b i : Nat} {E : CV × Option BV} (h : RootAt w b i E) (hb : Below w.heap.size w w') : RootAt w' b i E := by
 obtain ⟨p, h1, h2⟩ := h
 exact ⟨p, h1.keep hb, h2⟩
/-- a root that is not told -/
theorem RootAt.no {w : World} {b i : Nat} {E : CV × Option BV} (h : RootAt w b i E) (e : E.2 = none) : ∃ x y u v t : Nat, El w b (i * 4) #[.complex .f64 x y, .bool false, .complex .f64 u v, .float .f64 t] := by
 obtain ⟨p, h1, _, _, h4⟩ := h
 rw [e] at h4
 have e5 : p.2.2.1 = false := h4
 rw [e5] at h1
 exact ⟨_, _, _, _, _, h1⟩
/-- a root that is told -/
theorem RootAt.yes {w : World} {b i : Nat} {E : CV × Option BV} {B : BV} {u v t : Nat} (h : RootAt w b i E) (e : E.2 = some B) (g : GB B u v t) : ∃ x y : Nat, El w b (i * 4) #[.complex .f64 x y, .bool true, .complex .f64 u v, .float .f64 t] := by
 obtain ⟨p, h1, _, _, h4⟩ := h
 rw [e] at h4
 obtain ⟨h5, h6, h7, h8⟩ : p.2.2.1 = true ∧ Fl p.2.2.2.1 B.1.1 ∧ Fl p.2.2.2.2.1 B.1.2 ∧ Fl p.2.2.2.2.2 B.2 := h4
 rw [h5, ← Fl.rl h6 g.x, ← Fl.rl h7 g.y, ← Fl.rl h8 g.r] at h1
 exact ⟨_, _, h1⟩
/-- the first known numbers -/
def knL (U V : Nat → Int) (k : Nat) : List (DY × DY) := (List.range k).map fun j => (mkD (U j) (-5), mkD (V j) (-5))
theorem knL_len (U V : Nat → Int) (k : Nat) : (knL U V k).length = k := len_range _ _
theorem knL_succ (U V : Nat → Int) (k : Nat) : knL U V (k + 1) = knL U V k ++ [(mkD (U k) (-5), mkD (V k) (-5))] := by
 unfold knL
 rw [List.range_succ, List.map_append]; rfl
theorem knL_kn {U V : Nat → Int} {k : Nat} (h : ∀ j, j < k → (-9223372036854775808 ≤ U j ∧ U j ≤ 9223372036854775807) ∧ (-9223372036854775808 ≤ V j ∧ V j ≤ 9223372036854775807)) : ∀ g ∈ knL U V k, Kn g := fun g hg => by
 obtain ⟨j, hj, rfl⟩ := List.mem_map.1 hg
 obtain ⟨h1, h2⟩ := h j (List.mem_range.1 hj)
 have a := five_ok (U j) h1.1 h1.2
 have b := five_ok (V j) h2.1 h2.2
 exact ⟨⟨a.1, b.1⟩, a.2, b.2⟩
theorem KS.push {B : Nat} {w : World} {v : Value} {K : List (DY × DY)} {p q : DY} (h : w.ownsRow B 44 6 v (K.length + 1) ((K.flatMap fun g => (Zv g).toList) ++ [.bool p.n, .string (bstr p.x), .int .i64 p.e, .bool q.n, .string (bstr q.x), .int .i64 q.e])) : KS B w v (K ++ [(p, q)]) := by
 unfold KS
 rw [List.length_append, List.flatMap_append, List.flatMap_cons, List.flatMap_nil, List.append_nil]
 exact h
theorem count_step {α : Type} {f : α → Bool} {K : List α} {k : Nat} (h : k < K.length) : (K.take (k + 1)).countP f = (K.take k).countP f + (if f K[k] then 1 else 0) := by
 rw [List.take_succ_eq_append_getElem h, List.countP_append, List.countP_singleton]
theorem getD_mem {K : List (DY × DY)} {k : Nat} (h : k < K.length) : K.getD k ZZ ∈ K := by
 rw [show K.getD k ZZ = K[k] by simp [List.getD, List.getElem?_eq_getElem h]]
 exact List.getElem_mem h
theorem pl3 {w : World} {B b : Nat} (h : Blk w b #[.complex .f64 13830554455654793216 0, .complex .f64 0 0, .complex .f64 4607182418800017408 0] 27) (hB : B ≤ b) : PL B w (.slice (some ⟨b, 0, none⟩) 3 3) P3 := by
 refine ⟨[(13830554455654793216, 0), (0, 0), (4607182418800017408, 0)], ⟨rfl, .inr ⟨b, 3, _, rfl, hB, h, Nat.le_refl _, by unfold maxLen; omega, rfl, rfl⟩⟩, rfl, fun i h1 h2 => ?_⟩
 match i, h1 with
 | 0, _ => exact ⟨fl_some (b := 13830554455654793216) (by decide) (by decide), fl_some (b := 0) (by decide) (by decide)⟩
 | 1, _ => exact ⟨fl_some (b := 0) (by decide) (by decide), fl_some (b := 0) (by decide) (by decide)⟩
 | 2, _ => exact ⟨fl_some (b := 4607182418800017408) (by decide) (by decide), fl_some (b := 0) (by decide) (by decide)⟩
end Go.Proofs.YtfdnbogbankjjaaGreatDoor
