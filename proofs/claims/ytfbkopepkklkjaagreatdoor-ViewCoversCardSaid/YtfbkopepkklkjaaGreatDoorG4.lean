/- package gauss over Gausses that may be: the keeper's rows of operations. -/
import Derived.Test.YtfbkopepkklkjaaGreatDoorG3
namespace Go.Proofs.YtfbkopepkklkjaaGreatDoor
open Go Go.RowKit Go.PlainAid Fil

theorem below_kb {K : Nat} {w w1 w2 : World} (h : Below w.heap.size w w1) (k : KB K w1 w2) (hB : w.heap.size ≤ K) : Below w.heap.size w w2 := h.trans (k.below hB h.size)
/-- one more operation behind the keeper's error -/
def kr (e : Int) (p : DY × Int) : DY × Int := if e = 0 then p else (DY.zero, e)
theorem kr_kv (e : Int) (p : DY × Int) : (kr e p).1 = kv e p := by unfold kr kv; split <;> rfl
theorem kr_ke (e : Int) (p : DY × Int) : (kr e p).2 = ke e p := by unfold kr ke; split <;> rfl
theorem kr_ok {e : Int} {p : DY × Int} (h : p.1.ok) : (kr e p).1.ok := by
 unfold kr; split
 ·exact h
 ·exact DY.zero_ok
theorem kr_go (p : DY × Int) : kr 0 p = p := rfl
theorem kadd (a b : DY) (e : Int) (K c : Nat) (w : World) (ha : a.ok) (hb : b.ok) (hT : Tab w) (hK : Blk w K #[.int .i64 e] 136) (ho : KOp w 94 K c) (hc : K < c) :
  Calls Tryz.prog 120 #[.agg #[.bool a.n, .string (bstr a.x), .int .i64 a.e], .agg #[.bool b.n, .string (bstr b.x), .int .i64 b.e], .pointer (some ⟨c, 0, none⟩), .pointer (some ⟨c + 1, 0, none⟩)] w fun r w' => r = .returned (.agg #[.bool (kr e (yAdd a b)).1.n, .string (bstr (kr e (yAdd a b)).1.x), .int .i64 (kr e (yAdd a b)).1.e]) ∧ Blk w' K #[.int .i64 (kr e (yAdd a b)).2] 136 ∧ KB K w w' := by
 rw [kr_kv, kr_ke]
 exact kcadd a b e K c w ha hb hT hK ho hc

theorem ksub (a b : DY) (e : Int) (K c : Nat) (w : World) (ha : a.ok) (hb : b.ok) (hT : Tab w) (hK : Blk w K #[.int .i64 e] 136) (ho : KOp w 79 K c) (hc : K < c) :
  Calls Tryz.prog 120 #[.agg #[.bool a.n, .string (bstr a.x), .int .i64 a.e], .agg #[.bool b.n, .string (bstr b.x), .int .i64 b.e], .pointer (some ⟨c, 0, none⟩), .pointer (some ⟨c + 1, 0, none⟩)] w fun r w' => r = .returned (.agg #[.bool (kr e (ySub a b)).1.n, .string (bstr (kr e (ySub a b)).1.x), .int .i64 (kr e (ySub a b)).1.e]) ∧ Blk w' K #[.int .i64 (kr e (ySub a b)).2] 136 ∧ KB K w w' := by
 rw [kr_kv, kr_ke]
 exact kcsub a b e K c w ha hb hT hK ho hc

theorem kmul (a b : DY) (e : Int) (K c : Nat) (w : World) (ha : a.ok) (hb : b.ok) (hT : Tab w) (hK : Blk w K #[.int .i64 e] 136) (ho : KOp w 83 K c) (hc : K < c) :
  Calls Tryz.prog 120 #[.agg #[.bool a.n, .string (bstr a.x), .int .i64 a.e], .agg #[.bool b.n, .string (bstr b.x), .int .i64 b.e], .pointer (some ⟨c, 0, none⟩), .pointer (some ⟨c + 1, 0, none⟩)] w fun r w' => r = .returned (.agg #[.bool (kr e (yMul a b)).1.n, .string (bstr (kr e (yMul a b)).1.x), .int .i64 (kr e (yMul a b)).1.e]) ∧ Blk w' K #[.int .i64 (kr e (yMul a b)).2] 136 ∧ KB K w w' := by
 rw [kr_kv, kr_ke]
 exact kcmul a b e K c w ha hb hT hK ho hc

/-- what number gives -/
def kn (e : Int) (x y : DY) : GY × Int := if e = 0 then (⟨x, y⟩, 0) else (GY.zero, e)
theorem knum (e : Int) (x y : DY) (K : Nat) (w : World) (hK : Blk w K #[.int .i64 e] 136) :
  Calls Tryz.prog 80 #[.pointer (some ⟨K, 0, none⟩), .agg #[.bool x.n, .string (bstr x.x), .int .i64 x.e], .agg #[.bool y.n, .string (bstr y.x), .int .i64 y.e]] w fun r w' => r = .returned (.tuple #[.agg #[.bool (kn e x y).1.re.n, .string (bstr (kn e x y).1.re.x), .int .i64 (kn e x y).1.re.e, .bool (kn e x y).1.im.n, .string (bstr (kn e x y).1.im.x), .int .i64 (kn e x y).1.im.e], .int .i64 (kn e x y).2]) ∧ Below w.heap.size w w' := by
 unfold kn
 by_cases h : e = 0
 ·subst h
  rw [if_pos rfl]
  exact knum_ok _ _ _ _ _ _ K w hK
 ·rw [if_neg h, show bstr (GY.zero, e).1.re.x = { data := #[] } from bstr_zero, show bstr (GY.zero, e).1.im.x = { data := #[] } from bstr_zero]
  exact knum_bad _ _ _ _ _ _ e K w h hK

set_option maxRecDepth 10000 in
set_option maxHeartbeats 4000000 in
theorem kpart_ok (n : Bool) (s : ByteArray) (e : Int) (K : Nat) (w : World) (hK : Blk w K #[.int .i64 0] 136) :
  Calls Tryz.prog 121 #[.pointer (some ⟨K, 0, none⟩), .agg #[.bool n, .string s, .int .i64 e]] w fun r w' => r = .returned (.tuple #[.agg #[.bool n, .string s, .int .i64 e], .int .i64 0]) ∧ Below w.heap.size w w' := by
 have K0 := (Blk.allocd hK (.cells #[.bool n, .string s, .int .i64 e] 24)).allocd (.cells #[.bool false, .string { data := #[] }, .int .i64 0] 24)
 have k0 := K0.ce1
 clear hK K0
 have F3 := (Blk.put w #[.bool n, .string s, .int .i64 e] 24).allocd (.cells #[.bool false, .string { data := #[] }, .int .i64 0] 24)
 have G0 := Blk.put (w.alloc (.cells #[.bool n, .string s, .int .i64 e] 24)) #[.bool n, .string s, .int .i64 e] 24
 rw [show (w.alloc (.cells #[.bool n, .string s, .int .i64 e] 24)).heap.size = w.heap.size + 1 by simp] at G0
 have B0 := ((Below.refl w.heap.size w).alloc (Nat.le_refl _) (.cells #[.bool n, .string s, .int .i64 e] 24)).alloc (by simp) (.cells #[.bool n, .string s, .int .i64 e] 24)
 obtain ⟨c0, c1, c2⟩ := G0.ce3
 obtain ⟨x0, x1, x2⟩ := F3.ce3
 clear G0 F3
 go_enter Tryz.func121, Tryz.ntmps121
 go_wp2
 exact bodyPost_ret (v := .tuple #[.agg #[.bool n, .string s, .int .i64 e], .int .i64 0]) (by simp [results, Tryz.results121, go_sem, c0, c1, c2]) rfl ⟨rfl, B0⟩

set_option maxRecDepth 10000 in
set_option maxHeartbeats 4000000 in
theorem kpart_bad (n : Bool) (s : ByteArray) (e : Int) (x : Int) (K : Nat) (w : World) (hx : ¬ x = 0) (hK : Blk w K #[.int .i64 x] 136) :
  Calls Tryz.prog 121 #[.pointer (some ⟨K, 0, none⟩), .agg #[.bool n, .string s, .int .i64 e]] w fun r w' => r = .returned (.tuple #[.agg #[.bool false, .string { data := #[] }, .int .i64 0], .int .i64 x]) ∧ Below w.heap.size w w' := by
 have K0 := (Blk.allocd hK (.cells #[.bool n, .string s, .int .i64 e] 24)).allocd (.cells #[.bool false, .string { data := #[] }, .int .i64 0] 24)
 have hx2 : (x != 0) = true := by simpa using hx
 have k0 := K0.ce1
 have G0 := Blk.put (w.alloc (.cells #[.bool n, .string s, .int .i64 e] 24)) #[.bool false, .string { data := #[] }, .int .i64 0] 24
 rw [show (w.alloc (.cells #[.bool n, .string s, .int .i64 e] 24)).heap.size = w.heap.size + 1 by simp] at G0
 have B0 := ((Below.refl w.heap.size w).alloc (Nat.le_refl _) (.cells #[.bool n, .string s, .int .i64 e] 24)).alloc (by simp) (.cells #[.bool false, .string { data := #[] }, .int .i64 0] 24)
 have hne : K ≠ w.heap.size + 1 := by have := Blk.lt hK; omega
 go_enter Tryz.func121, Tryz.ntmps121
 go_wp2_with fail
 generalize ((w.alloc (.cells #[.bool n, .string s, .int .i64 e] 24)).alloc (.cells #[.bool false, .string { data := #[] }, .int .i64 0] 24)) = W5 at *
 refine wp_region_any (by kernel_rfl) ?_
 refine wpAny_of_held (S := fun w' : World => w'.cell? ⟨K, 0, none⟩ = some (.int .i64 x)) _ _ _ _ ?_
 generalize hW6 : ({ heap := W5.heap, tape := W5.tape, drawn := W5.drawn + 1, os := W5.os, output := W5.output } : World) = W6
 replace hW6 : W5.drew = W6 := hW6
 replace G0 := G0.drew
 replace B0 := B0.drew
 replace K0 := K0.drew
 rw [hW6] at G0 B0 K0
 obtain ⟨f0, f1, f2⟩ := G0.fr3
 obtain ⟨z0, z1, z2⟩ := G0.ce3
 replace k0 := K0.ce1
 clear hW6
 have Hk := Lib.hid (((K0.far 0 (.bool false) hne).far 1 (.string { data := #[] }) hne).far 2 (.int .i64 0) hne)
 have Hg := Lib.hid (show Blk (((W6.setCell ⟨w.heap.size + 1, 0, none⟩ (.bool false)).setCell ⟨w.heap.size + 1, 1, none⟩ (.string { data := #[] })).setCell ⟨w.heap.size + 1, 2, none⟩ (.int .i64 0)) (w.heap.size + 1) #[.bool false, .string { data := #[] }, .int .i64 0] 24 from ((G0.setAt 0 (.bool false)).setAt 1 (.string { data := #[] })).setAt 2 (.int .i64 0))
 have hle : w.heap.size ≤ w.heap.size + 1 := by omega
 have Hb := Lib.hid (((B0.setCell (p := ⟨w.heap.size + 1, 0, none⟩) hle (.bool false)).setCell (p := ⟨w.heap.size + 1, 1, none⟩) hle (.string { data := #[] })).setCell (p := ⟨w.heap.size + 1, 2, none⟩) hle (.int .i64 0))
 clear K0 G0 B0 hle
 have hHeld := k0
 refine tkA 0 ?_
 (try dsimp only [Act.put]); (try go_frame)
 refine tkA 1 ?_
 (try dsimp only [Act.put]); (try go_frame)
 refine tkA 2 ?_
 (try dsimp only [Act.put]); (try go_frame)
 refine tkA 3 ?_
 (try dsimp only [Act.put]); (try go_frame)
 refine tkA 4 ?_
 (try dsimp only [Act.put]); (try go_frame)
 refine wpAnyH_ready (rs := [5]) (by kernel_rfl) (by simp) ?_
 refine AllReadyH.cons rfl (fun K hK => ?_) AllReadyH.nil
 go_simp
 refine hK.out _ _ ?_ (fun hHeld => ?_)
 ·exact Hk.out.ce1
 clear hK K
 (try dsimp only [Act.put]); (try go_frame)
 refine tkA 6 ?_
 (try dsimp only [Act.put]); (try go_frame)
 refine wpAnyH_done (by kernel_rfl) ?_ _
 try simp only [QCut]
 obtain ⟨c0, c1, c2⟩ := Blk.ce3 Hg.out
 go_wp2
 exact bodyPost_ret (v := .tuple #[.agg #[.bool false, .string { data := #[] }, .int .i64 0], .int .i64 x]) (by simp [results, Tryz.results121, go_sem, c0, c1, c2]) rfl ⟨rfl, Hb.out⟩

def kp (e : Int) (x : DY) : DY × Int := if e = 0 then (x, 0) else (DY.zero, e)
theorem kpart (e : Int) (x : DY) (K : Nat) (w : World) (hK : Blk w K #[.int .i64 e] 136) :
  Calls Tryz.prog 121 #[.pointer (some ⟨K, 0, none⟩), .agg #[.bool x.n, .string (bstr x.x), .int .i64 x.e]] w fun r w' => r = .returned (.tuple #[.agg #[.bool (kp e x).1.n, .string (bstr (kp e x).1.x), .int .i64 (kp e x).1.e], .int .i64 (kp e x).2]) ∧ Below w.heap.size w w' := by
 unfold kp
 by_cases h : e = 0
 ·subst h
  rw [if_pos rfl]
  exact kpart_ok _ _ _ K w hK
 ·rw [if_neg h, show bstr (DY.zero, e).1.x = { data := #[] } from bstr_zero]
  exact kpart_bad _ _ _ e K w h hK

/-- the bounds that a Gauss's texts keep -/
def GR.fit (g : GR) : Prop := g.s.size ≤ 9223372036854775807 ∧ g.t.size ≤ 9223372036854775807
def GY.raw (a : GY) : GR := ⟨a.re.n, bstr a.re.x, a.re.e, a.im.n, bstr a.im.x, a.im.e⟩
theorem GY.raw_fit {a : GY} (h : a.ok) : a.raw.fit := ⟨bstr_len h.1, bstr_len h.2⟩
theorem GY.raw_may {a : GY} (h : a.ok) : a.raw.may = true := by
 unfold GR.may
 rw [show mayB a.raw.n a.raw.s a.raw.e = true from mayB_ok h.1, show mayB a.raw.m a.raw.t a.raw.f = true from mayB_ok h.2]; rfl
def grow (g : GR) : List Value := [.bool g.n, .string g.s, .int .i64 g.e, .bool g.m, .string g.t, .int .i64 g.f]
theorem Gss.new (W : World) (l : List GR) (cs : Array Value) (hcs : cs.toList = l.flatMap grow) (d : GR) : Gss (W.alloc (.cells cs 28)) (some ⟨W.heap.size, 0, none⟩) l.length (fun i => l.getD i d) := fun _ => by
 refine ⟨W.heap.size, 0, rfl, by simp, fun i hi => ?_⟩
 have hat : ∀ (l : List GR) (i k : Nat), i < l.length → k < 6 → (l.flatMap grow)[i * 6 + k]? = (grow (l.getD i d))[k]? := by
  intro l
  induction l with
  | nil => intro i k hi; simp at hi
  | cons g l ih =>
   intro i k hi hk
   cases i with
   | zero =>
    rw [List.flatMap_cons, List.getElem?_append_left (by simp [grow]; omega)]; simp
   | succ i =>
    rw [List.flatMap_cons, List.getElem?_append_right (by simp [grow]; omega), show (i + 1) * 6 + k - (grow g).length = i * 6 + k by simp [grow]; omega, ih i k (by simpa using hi) hk]
    simp
 have hc : ∀ k, k < 6 → (W.alloc (.cells cs 28)).cell? ⟨W.heap.size, i * 6 + k, none⟩ = (grow (l.getD i d))[k]? := fun k hk => by
  have hb := heap_alloc_new W (.cells cs 28)
  rw [← hat l i k hi hk, ← hcs, cell_of_row _ W.heap.size _ _ 28 (0, 0) hb]
  simp
 refine ⟨?_, ?_, ?_, ?_, ?_, ?_⟩
 ·rw [show 0 + i * 6 = i * 6 + 0 by omega, hc 0 (by omega)]; rfl
 ·rw [show 0 + i * 6 + 1 = i * 6 + 1 by omega, hc 1 (by omega)]; rfl
 ·rw [show 0 + i * 6 + 2 = i * 6 + 2 by omega, hc 2 (by omega)]; rfl
 ·rw [show 0 + i * 6 + 3 = i * 6 + 3 by omega, hc 3 (by omega)]; rfl
 ·rw [show 0 + i * 6 + 4 = i * 6 + 4 by omega, hc 4 (by omega)]; rfl
 ·rw [show 0 + i * 6 + 5 = i * 6 + 5 by omega, hc 5 (by omega)]; rfl
theorem gall_list (l : List GR) (cs : Array Value) (hcs : cs.toList = l.flatMap grow) (c Bk : Nat) (W : World) (h : W.heap.size = Bk) (hn : l.length ≤ 1000) (hf : ∀ g ∈ l, g.fit) :
  Calls Tryz.prog 77 #[.slice (some ⟨Bk, 0, none⟩) l.length c] (W.alloc (.cells cs 28)) fun r w' => r = .returned (.bool (allB l.length fun i => (l.getD i ⟨false, { data := #[] }, 0, false, { data := #[] }, 0⟩).may)) ∧ Below W.heap.size W w' := by
 subst h
 have hd : ∀ i, i < l.length → (l.getD i ⟨false, { data := #[] }, 0, false, { data := #[] }, 0⟩).fit := fun i hi => by
  rw [List.getD_eq_getElem?_getD, List.getElem?_eq_getElem hi]
  exact hf _ (List.getElem_mem _)
 refine (gall_any _ l.length c _ _ (by omega) (Gss.new W l cs hcs _) (fun i hi => (hd i hi).1) (fun i hi => (hd i hi).2)).mono ?_
 rintro r w' ⟨rfl, hb⟩
 exact ⟨rfl, ((Below.refl W.heap.size W).alloc (Nat.le_refl _) _).trans (hb.mono (by simp))⟩
theorem allB_2 (P : Nat → Bool) : allB 2 P = (P 0 && P 1) := by
 cases h0 : P 0
 ·exact allB_no (i := 0) (by omega) h0
 ·cases h1 : P 1
  ·exact allB_no (i := 1) (by omega) h1
  ·exact allB_yes fun j hj => by
    rcases (show j = 0 ∨ j = 1 by omega) with rfl | rfl
    ·exact h0
    ·exact h1
theorem gall2 (a b : GR) (Bk : Nat) (W : World) (h : W.heap.size = Bk) (ha : a.fit) (hb : b.fit) :
  Calls Tryz.prog 77 #[.slice (some ⟨Bk, 0, none⟩) 2 2] (W.alloc (.cells #[.bool a.n, .string a.s, .int .i64 a.e, .bool a.m, .string a.t, .int .i64 a.f, .bool b.n, .string b.s, .int .i64 b.e, .bool b.m, .string b.t, .int .i64 b.f] 28)) fun r w' => r = .returned (.bool (a.may && b.may)) ∧ Below W.heap.size W w' := by
 have H := gall_list [a, b] #[.bool a.n, .string a.s, .int .i64 a.e, .bool a.m, .string a.t, .int .i64 a.f, .bool b.n, .string b.s, .int .i64 b.e, .bool b.m, .string b.t, .int .i64 b.f] rfl 2 Bk W h (by simp) (by simp; exact ⟨ha, hb⟩)
 rw [show List.length [a, b] = 2 from rfl, allB_2] at H
 exact H
theorem gall2_ok (a b : GY) (Bk : Nat) (W : World) (h : W.heap.size = Bk) (ha : a.ok) (hb : b.ok) :
  Calls Tryz.prog 77 #[.slice (some ⟨Bk, 0, none⟩) 2 2] (W.alloc (.cells #[.bool a.re.n, .string (bstr a.re.x), .int .i64 a.re.e, .bool a.im.n, .string (bstr a.im.x), .int .i64 a.im.e, .bool b.re.n, .string (bstr b.re.x), .int .i64 b.re.e, .bool b.im.n, .string (bstr b.im.x), .int .i64 b.im.e] 28)) fun r w' => r = .returned (.bool true) ∧ Below W.heap.size W w' := by
 have H := gall2 a.raw b.raw Bk W h (GY.raw_fit ha) (GY.raw_fit hb)
 rw [GY.raw_may ha, GY.raw_may hb] at H
 exact H

theorem gcheck_ok (a : GY) (w : World) (ha : a.ok) :
  Calls Tryz.prog 23 #[.agg #[.bool a.re.n, .string (bstr a.re.x), .int .i64 a.re.e, .bool a.im.n, .string (bstr a.im.x), .int .i64 a.im.e]] w fun r w' => r = .returned (.int .i64 0) ∧ Below w.heap.size w w' := by
 have h := gcheck_any a.re.n (bstr a.re.x) a.re.e a.im.n (bstr a.im.x) a.im.e w (bstr_len ha.1) (bstr_len ha.2)
 rw [mayB_ok ha.1, mayB_ok ha.2] at h
 exact h
set_option maxRecDepth 10000 in
set_option maxHeartbeats 4000000 in
theorem gsub_w (a : GY) (b : GY) (p : DY × Int) (q : DY × Int) (R : GY × Int) (E_p : kr 0 (ySub a.re b.re) = p) (E_q : kr p.2 (ySub a.im b.im) = q) (E_R : kn q.2 p.1 q.1 = R) (w : World) (ok_a : a.ok) (ok_b : b.ok)  (hT : Tab w) :
  Calls Tryz.prog 39 #[.agg #[.bool a.re.n, .string (bstr a.re.x), .int .i64 a.re.e, .bool a.im.n, .string (bstr a.im.x), .int .i64 a.im.e], .agg #[.bool b.re.n, .string (bstr b.re.x), .int .i64 b.re.e, .bool b.im.n, .string (bstr b.im.x), .int .i64 b.im.e]] w fun r w' => r = .returned (.tuple #[.agg #[.bool R.1.re.n, .string (bstr R.1.re.x), .int .i64 R.1.re.e, .bool R.1.im.n, .string (bstr R.1.im.x), .int .i64 R.1.im.e], .int .i64 R.2]) ∧ Below w.heap.size w w' := by
 have hall := fun Bk W h => gall2_ok a b Bk W h ok_a ok_b
 have h1 := fun K c W hW hK ho hc => ksub a.re b.re 0 K c W ok_a.1 ok_b.1 hW hK ho hc
 rw [E_p] at h1
 have h2 := fun K c W hW hK ho hc => ksub a.im b.im p.2 K c W ok_a.2 ok_b.2 hW hK ho hc
 rw [E_q] at h2
 have h3 := fun K W hK => knum q.2 p.1 q.1 K W hK
 rw [E_R] at h3
 clear E_p E_q E_R ok_a ok_b
 obtain ⟨⟨an, aX, ae⟩, ⟨am, aY, af⟩⟩ := a
 obtain ⟨⟨bn, bX, be⟩, ⟨bm, bY, bf⟩⟩ := b
 obtain ⟨⟨pn, pX, pe⟩, pr⟩ := p
 obtain ⟨⟨qn, qX, qe⟩, qr⟩ := q
 obtain ⟨⟨⟨Rn, RX, Re⟩, ⟨Rm, RY, Rf⟩⟩, Rr⟩ := R
 dsimp only at *
 generalize bstr aX = aS at *
 generalize bstr aY = aT at *
 generalize bstr bX = bS at *
 generalize bstr bY = bT at *
 generalize bstr pX = pS at *
 generalize bstr qX = qS at *
 generalize bstr RX = RS at *
 generalize bstr RY = RT at *
 go_enter Tryz.func39, Tryz.ntmps39
 have B0 := Below.refl w.heap.size w
 have F2 := Blk.put (w) #[.bool an, .string aS, .int .i64 ae, .bool am, .string aT, .int .i64 af] 28
 replace B0 := B0.alloc B0.size (.cells #[.bool an, .string aS, .int .i64 ae, .bool am, .string aT, .int .i64 af] 28)
 replace F2 := F2.allocd (.cells #[.bool bn, .string bS, .int .i64 be, .bool bm, .string bT, .int .i64 bf] 28)
 have F3 := Blk.put ((w).alloc (.cells #[.bool an, .string aS, .int .i64 ae, .bool am, .string aT, .int .i64 af] 28)) #[.bool bn, .string bS, .int .i64 be, .bool bm, .string bT, .int .i64 bf] 28
 rw [show ((w).alloc (.cells #[.bool an, .string aS, .int .i64 ae, .bool am, .string aT, .int .i64 af] 28)).heap.size = w.heap.size + 1 by simp] at F3
 replace B0 := B0.alloc B0.size (.cells #[.bool bn, .string bS, .int .i64 be, .bool bm, .string bT, .int .i64 bf] 28)
 have q_w_F4 : Hid (w.heap.size ≤ w.heap.size + 1 + 1) := Lib.hid (by omega)
 replace F2 := F2.allocd (.cells #[.bool false, .string { data := #[] }, .int .i64 0, .bool false, .string { data := #[] }, .int .i64 0] 28)
 replace F3 := F3.allocd (.cells #[.bool false, .string { data := #[] }, .int .i64 0, .bool false, .string { data := #[] }, .int .i64 0] 28)
 have F4 := Blk.put (((w).alloc (.cells #[.bool an, .string aS, .int .i64 ae, .bool am, .string aT, .int .i64 af] 28)).alloc (.cells #[.bool bn, .string bS, .int .i64 be, .bool bm, .string bT, .int .i64 bf] 28)) #[.bool false, .string { data := #[] }, .int .i64 0, .bool false, .string { data := #[] }, .int .i64 0] 28
 rw [show (((w).alloc (.cells #[.bool an, .string aS, .int .i64 ae, .bool am, .string aT, .int .i64 af] 28)).alloc (.cells #[.bool bn, .string bS, .int .i64 be, .bool bm, .string bT, .int .i64 bf] 28)).heap.size = w.heap.size + 1 + 1 by simp] at F4
 replace B0 := B0.alloc B0.size (.cells #[.bool false, .string { data := #[] }, .int .i64 0, .bool false, .string { data := #[] }, .int .i64 0] 28)
 obtain ⟨xF20_0, xF20_1, xF20_2, xF20_3, xF20_4, xF20_5⟩ := F2.ce6
 obtain ⟨xF30_0, xF30_1, xF30_2, xF30_3, xF30_4, xF30_5⟩ := F3.ce6
 go_wp2_with fail
 (with_reducible refine (hall _ _ (by simp)).mono ?_)
 rintro r w1 ⟨rfl, hb1⟩
 clear xF20_0 xF20_1 xF20_2 xF20_3 xF20_4 xF20_5 xF30_0 xF30_1 xF30_2 xF30_3 xF30_4 xF30_5
 replace F2 := F2.keep hb1
 replace F3 := F3.keep hb1
 replace F4 := F4.keep hb1
 replace B0 := B0.trans (hb1.mono B0.size)
 clear hb1
 have q_F2_F15 : Hid (w.heap.size < w1.heap.size) := Lib.hid (by have := F2.lt; first | exact this | simpa using this | omega)
 have q_F3_F15 : Hid (w.heap.size + 1 < w1.heap.size) := Lib.hid (by have := F3.lt; first | exact this | simpa using this | omega)
 have q_F4_F15 : Hid (w.heap.size + 1 + 1 < w1.heap.size) := Lib.hid (by have := F4.lt; first | exact this | simpa using this | omega)
 have q_w_F15 : Hid (w.heap.size ≤ w1.heap.size) := Lib.hid (by have := B0.size; first | exact this | simpa using this | omega)
 replace F2 := F2.allocd (.cells #[.int .i64 0] 136)
 replace F3 := F3.allocd (.cells #[.int .i64 0] 136)
 replace F4 := F4.allocd (.cells #[.int .i64 0] 136)
 have F15 := Blk.put (w1) #[.int .i64 0] 136
 replace B0 := B0.alloc B0.size (.cells #[.int .i64 0] 136)
 go_wp2_with fail
 (with_reducible refine (kept_make _ _ _).mono ?_)
 rintro r w2 ⟨⟨bO1, eO1, rfl, O1⟩, hb2⟩
 have q_F15_O1 : Hid (w1.heap.size < bO1) := Lib.hid (by have := F15.lt; rw [eO1]; first | exact this | simpa using this)
 replace F2 := F2.keep hb2
 replace F3 := F3.keep hb2
 replace F4 := F4.keep hb2
 replace F15 := F15.keep hb2
 replace B0 := B0.trans (hb2.mono B0.size)
 clear hb2
 clear eO1
 go_wp2_with fail
 refine wp_region_cut 16 (by kernel_rfl) (by kernel_rfl) ?_
 rintro W rfl
 simp only [List.take_succ_cons, List.take_zero, List.drop_succ_cons, List.drop_zero]
 obtain ⟨xF22_0, xF22_1, xF22_2, xF22_3, xF22_4, xF22_5⟩ := F2.ce6
 obtain ⟨xF32_0, xF32_1, xF32_2, xF32_3, xF32_4, xF32_5⟩ := F3.ce6
 have hHeld : (fun w' : World => w'.cell? ⟨w.heap.size, 0, none⟩ = some (.bool an) ∧ w'.cell? ⟨w.heap.size, 1, none⟩ = some (.string aS) ∧ w'.cell? ⟨w.heap.size, 2, none⟩ = some (.int .i64 ae) ∧ w'.cell? ⟨w.heap.size, 3, none⟩ = some (.bool am) ∧ w'.cell? ⟨w.heap.size, 4, none⟩ = some (.string aT) ∧ w'.cell? ⟨w.heap.size, 5, none⟩ = some (.int .i64 af) ∧ w'.cell? ⟨w.heap.size + 1, 0, none⟩ = some (.bool bn) ∧ w'.cell? ⟨w.heap.size + 1, 1, none⟩ = some (.string bS) ∧ w'.cell? ⟨w.heap.size + 1, 2, none⟩ = some (.int .i64 be) ∧ w'.cell? ⟨w.heap.size + 1, 3, none⟩ = some (.bool bm) ∧ w'.cell? ⟨w.heap.size + 1, 4, none⟩ = some (.string bT) ∧ w'.cell? ⟨w.heap.size + 1, 5, none⟩ = some (.int .i64 bf)) (w2).drew := ⟨xF22_0, xF22_1, xF22_2, xF22_3, xF22_4, xF22_5, xF32_0, xF32_1, xF32_2, xF32_3, xF32_4, xF32_5⟩
 refine wpAny_of_held (S := fun w' : World => w'.cell? ⟨w.heap.size, 0, none⟩ = some (.bool an) ∧ w'.cell? ⟨w.heap.size, 1, none⟩ = some (.string aS) ∧ w'.cell? ⟨w.heap.size, 2, none⟩ = some (.int .i64 ae) ∧ w'.cell? ⟨w.heap.size, 3, none⟩ = some (.bool am) ∧ w'.cell? ⟨w.heap.size, 4, none⟩ = some (.string aT) ∧ w'.cell? ⟨w.heap.size, 5, none⟩ = some (.int .i64 af) ∧ w'.cell? ⟨w.heap.size + 1, 0, none⟩ = some (.bool bn) ∧ w'.cell? ⟨w.heap.size + 1, 1, none⟩ = some (.string bS) ∧ w'.cell? ⟨w.heap.size + 1, 2, none⟩ = some (.int .i64 be) ∧ w'.cell? ⟨w.heap.size + 1, 3, none⟩ = some (.bool bm) ∧ w'.cell? ⟨w.heap.size + 1, 4, none⟩ = some (.string bT) ∧ w'.cell? ⟨w.heap.size + 1, 5, none⟩ = some (.int .i64 bf)) _ _ _ _ ?_
 replace F2 := F2.drew
 replace F3 := F3.drew
 replace F4 := F4.drew
 replace F15 := F15.drew
 replace O1 := O1.drew
 replace B0 := B0.drew
 refine tkA 0 ?_
 (try dsimp only [Act.put]); (try go_frame)
 refine tkA 1 ?_
 (try dsimp only [Act.put]); (try go_frame)
 refine tkA 2 ?_
 (try dsimp only [Act.put]); (try go_frame)
 refine tkA 3 ?_
 (try dsimp only [Act.put]); (try go_frame)
 refine tkA 4 ?_
 (try dsimp only [Act.put]); (try go_frame)
 refine tkA 5 ?_
 (try dsimp only [Act.put]); (try go_frame)
 refine tkA 7 ?_
 (try dsimp only [Act.put]); (try go_frame)
 refine tkA 8 ?_
 (try dsimp only [Act.put]); (try go_frame)
 refine tkA 9 ?_
 (try dsimp only [Act.put]); (try go_frame)
 refine tkA 10 ?_
 (try dsimp only [Act.put]); (try go_frame)
 refine tkA 11 ?_
 (try dsimp only [Act.put]); (try go_frame)
 refine wpAnyH_ready (rs := [6]) (by kernel_rfl) (by simp) ?_
 refine AllReadyH.cons rfl (fun K hK => ?_) AllReadyH.nil
 go_simp
 (with_reducible refine (h1 _ _ _ (hT.below B0) F15 O1 q_F15_O1.out).mono ?_)
 rintro r w3 ⟨rfl, hk3, hb3⟩
 clear xF22_0 xF22_1 xF22_2 xF22_3 xF22_4 xF22_5 xF32_0 xF32_1 xF32_2 xF32_3 xF32_4 xF32_5
 replace F2 := F2.kb hb3 (Nat.ne_of_lt q_F2_F15.out)
 replace F3 := F3.kb hb3 (Nat.ne_of_lt q_F3_F15.out)
 replace F4 := F4.kb hb3 (Nat.ne_of_lt q_F4_F15.out)
 replace O1 := O1.kb hb3 q_F15_O1.out
 clear F15
 have F15 := hk3
 clear hk3
 replace B0 := below_kb B0 hb3 q_w_F15.out
 clear hb3
 obtain ⟨xF24_0, xF24_1, xF24_2, xF24_3, xF24_4, xF24_5⟩ := F2.ce6
 obtain ⟨xF34_0, xF34_1, xF34_2, xF34_3, xF34_4, xF34_5⟩ := F3.ce6
 refine hK.out _ _ ?_ (fun hHeld => ?_)
 ·exact ⟨xF24_0, xF24_1, xF24_2, xF24_3, xF24_4, xF24_5, xF34_0, xF34_1, xF34_2, xF34_3, xF34_4, xF34_5⟩
 clear hK K
 (try dsimp only [Act.put]); (try go_frame)
 refine wpAnyH_ready (rs := [12]) (by kernel_rfl) (by simp) ?_
 refine AllReadyH.cons rfl (fun K hK => ?_) AllReadyH.nil
 go_simp
 (with_reducible refine (h2 _ _ _ (hT.below B0) F15 O1 q_F15_O1.out).mono ?_)
 rintro r w4 ⟨rfl, hk4, hb4⟩
 clear xF24_0 xF24_1 xF24_2 xF24_3 xF24_4 xF24_5 xF34_0 xF34_1 xF34_2 xF34_3 xF34_4 xF34_5
 replace F2 := F2.kb hb4 (Nat.ne_of_lt q_F2_F15.out)
 replace F3 := F3.kb hb4 (Nat.ne_of_lt q_F3_F15.out)
 replace F4 := F4.kb hb4 (Nat.ne_of_lt q_F4_F15.out)
 replace O1 := O1.kb hb4 q_F15_O1.out
 clear F15
 have F15 := hk4
 clear hk4
 replace B0 := below_kb B0 hb4 q_w_F15.out
 clear hb4
 obtain ⟨xF25_0, xF25_1, xF25_2, xF25_3, xF25_4, xF25_5⟩ := F2.ce6
 obtain ⟨xF35_0, xF35_1, xF35_2, xF35_3, xF35_4, xF35_5⟩ := F3.ce6
 refine hK.out _ _ ?_ (fun hHeld => ?_)
 ·exact ⟨xF25_0, xF25_1, xF25_2, xF25_3, xF25_4, xF25_5, xF35_0, xF35_1, xF35_2, xF35_3, xF35_4, xF35_5⟩
 clear hK K
 (try dsimp only [Act.put]); (try go_frame)
 refine wpAnyH_ready (rs := [13]) (by kernel_rfl) (by simp) ?_
 refine AllReadyH.cons rfl (fun K hK => ?_) AllReadyH.nil
 go_simp
 (with_reducible refine (h3 _ _ F15).mono ?_)
 rintro r w5 ⟨rfl, hb5⟩
 clear xF25_0 xF25_1 xF25_2 xF25_3 xF25_4 xF25_5 xF35_0 xF35_1 xF35_2 xF35_3 xF35_4 xF35_5
 replace F2 := F2.keep hb5
 replace F3 := F3.keep hb5
 replace F4 := F4.keep hb5
 replace F15 := F15.keep hb5
 clear O1
 replace B0 := B0.trans (hb5.mono B0.size)
 clear hb5
 obtain ⟨xF26_0, xF26_1, xF26_2, xF26_3, xF26_4, xF26_5⟩ := F2.ce6
 obtain ⟨xF36_0, xF36_1, xF36_2, xF36_3, xF36_4, xF36_5⟩ := F3.ce6
 refine hK.out _ _ ?_ (fun hHeld => ?_)
 ·exact ⟨xF26_0, xF26_1, xF26_2, xF26_3, xF26_4, xF26_5, xF36_0, xF36_1, xF36_2, xF36_3, xF36_4, xF36_5⟩
 clear hK K
 (try dsimp only [Act.put]); (try go_frame)
 refine tkA 14 ?_
 (try dsimp only [Act.put]); (try go_frame)
 refine tkA 15 ?_
 (try dsimp only [Act.put]); (try go_frame)
 refine wpAnyH_done (by kernel_rfl) ?_ _
 try simp only [QCut]
 clear hHeld
 clear xF26_0 xF26_1 xF26_2 xF26_3 xF26_4 xF26_5 xF36_0 xF36_1 xF36_2 xF36_3 xF36_4 xF36_5
 obtain ⟨xF46_0, xF46_1, xF46_2, xF46_3, xF46_4, xF46_5⟩ := F4.ce6
 obtain ⟨xF46_0f, xF46_1f, xF46_2f, xF46_3f, xF46_4f, xF46_5f⟩ := F4.fr6
 clear F2
 clear F3
 clear F15
 replace F4 : Blk (((((((w5).setCell ⟨w.heap.size + 1 + 1, 0, none⟩ (.bool Rn)).setCell ⟨w.heap.size + 1 + 1, 1, none⟩ (.string RS)).setCell ⟨w.heap.size + 1 + 1, 2, none⟩ (.int .i64 Re)).setCell ⟨w.heap.size + 1 + 1, 3, none⟩ (.bool Rm)).setCell ⟨w.heap.size + 1 + 1, 4, none⟩ (.string RT)).setCell ⟨w.heap.size + 1 + 1, 5, none⟩ (.int .i64 Rf)) (w.heap.size + 1 + 1) #[.bool Rn, .string RS, .int .i64 Re, .bool Rm, .string RT, .int .i64 Rf] 28 := ((((((F4.setAt 0 (.bool Rn)).setAt 1 (.string RS)).setAt 2 (.int .i64 Re)).setAt 3 (.bool Rm)).setAt 4 (.string RT)).setAt 5 (.int .i64 Rf))
 replace B0 := ((((((B0.setCell (p := ⟨w.heap.size + 1 + 1, 0, none⟩) q_w_F4.out (.bool Rn)).setCell (p := ⟨w.heap.size + 1 + 1, 1, none⟩) q_w_F4.out (.string RS)).setCell (p := ⟨w.heap.size + 1 + 1, 2, none⟩) q_w_F4.out (.int .i64 Re)).setCell (p := ⟨w.heap.size + 1 + 1, 3, none⟩) q_w_F4.out (.bool Rm)).setCell (p := ⟨w.heap.size + 1 + 1, 4, none⟩) q_w_F4.out (.string RT)).setCell (p := ⟨w.heap.size + 1 + 1, 5, none⟩) q_w_F4.out (.int .i64 Rf))
 obtain ⟨xF47_0, xF47_1, xF47_2, xF47_3, xF47_4, xF47_5⟩ := F4.ce6
 go_wp2
 exact bodyPost_ret (v := .tuple #[.agg #[.bool Rn, .string RS, .int .i64 Re, .bool Rm, .string RT, .int .i64 Rf], .int .i64 Rr]) (by simp [results, Tryz.results39, go_sem, xF47_0, xF47_1, xF47_2, xF47_3, xF47_4, xF47_5]) rfl ⟨rfl, B0⟩

end Go.Proofs.YtfbkopepkklkjaaGreatDoor
