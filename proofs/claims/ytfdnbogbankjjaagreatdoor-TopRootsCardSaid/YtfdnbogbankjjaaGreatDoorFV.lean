/- The exact helpers of filigreetop. (printed by gen_fv.py) -/
import Derived.Test.YtfdnbogbankjjaaGreatDoorG3
import Derived.Test.YtfdnbogbankjjaaGreatDoorC2
import Derived.Test.YtfdnbogbankjjaaGreatDoorBL
namespace Go.Proofs.YtfdnbogbankjjaaGreatDoor
open Go Go.RowKit Go.PlainAid Fil

theorem rcsub (a b : DY) (w : World) (ha : a.ok) (hb : b.ok) :
  Calls Tryz.prog 49 #[.agg #[.bool a.n, .string (bstr a.x), .int .i64 a.e], .agg #[.bool b.n, .string (bstr b.x), .int .i64 b.e]] w fun r w' => r = .returned (.tuple #[.agg #[.bool (ySub a b).1.n, .string (bstr (ySub a b).1.x), .int .i64 (ySub a b).1.e], .int .i64 (ySub a b).2]) ∧ Below w.heap.size w w' := by
 have k := rsub_any a.n a.x a.e b.n b.x b.e w ha hb
 have e : (yNeg b).z = -sz b.n b.x := sz_neg
 have e2 : mkV (addZ (sz a.n a.x) a.e (-sz b.n b.x) b.e) (min a.e b.e) = .tuple #[.agg #[.bool (ySub a b).1.n, .string (bstr (ySub a b).1.x), .int .i64 (ySub a b).1.e], .int .i64 (ySub a b).2] := by
  unfold ySub yAdd
  rw [e]; rfl
 rw [e2] at k; exact k
/-- FromFloat -/
def flT (b : Nat) : DY × Int := if flQ b = 2047 then (DY.zero, 5) else (flY b, 0)
theorem flT_ok (b : Nat) : (flT b).1.ok := by
 unfold flT
 split
 ·exact DY.zero_ok
 ·exact flY_ok b
theorem flT_fin {b : Nat} (h : flQ b ≠ 2047) : flT b = (flY b, 0) := if_neg h
theorem rcff (b : Nat) (w : World) (hb : b < 18446744073709551616) :
  Calls Tryz.prog 47 #[.float .f64 b] w fun r w' => r = .returned (.tuple #[.agg #[.bool (flT b).1.n, .string (bstr (flT b).1.x), .int .i64 (flT b).1.e], .int .i64 (flT b).2]) ∧ Below w.heap.size w w' := by
 have k := rfromfloat_any b w hb
 unfold flD at k
 unfold flT
 by_cases h : flQ b = 2047
 ·rw [if_pos h] at k ⊢; exact k
 ·rw [if_neg h] at k ⊢
  unfold mkV dyR at k
  rw [show mkR (sz (fs b) (flM b)) (flE b) = 0 from mkR_ok (fl_ok h)] at k
  exact k
set_option maxRecDepth 100000 in
set_option maxHeartbeats 8000000 in
theorem c_texact {x y : Nat} (w : World) (hx : x < 18446744073709551616) (hy : y < 18446744073709551616) :
  Calls Tryz.prog 14 #[.complex .f64 x y] w fun r w' => (∃ (p q : DY) (b : Bool), r = .returned (.tuple #[.agg #[.bool p.n, .string (bstr p.x), .int .i64 p.e, .bool q.n, .string (bstr q.x), .int .i64 q.e], .bool b]) ∧ p = (flT x).1 ∧ q = (flT y).1 ∧ (b = true ↔ (flT x).2 = 0 ∧ (flT y).2 = 0)) ∧ Below w.heap.size w w' := by
 go_enter Tryz.func14, Tryz.ntmps14
 have B0 := Below.refl w.heap.size w
 have q_w_F2 : Hid (w.heap.size ≤ w.heap.size) := Lib.hid (by omega)
 have F2 := Blk.put (w) #[.bool false, .string { data := #[] }, .int .i64 0, .bool false, .string { data := #[] }, .int .i64 0] 44
 replace B0 := B0.alloc B0.size (.cells #[.bool false, .string { data := #[] }, .int .i64 0, .bool false, .string { data := #[] }, .int .i64 0] 44)
 go_wp2_with fail
 (with_reducible refine (rcff x _ hx).mono ?_)
 rintro r w1 ⟨rfl, hb1⟩
 replace F2 := F2.keep hb1
 replace B0 := B0.trans (hb1.mono B0.size)
 clear hb1
 obtain ⟨q1, hq1⟩ : ∃ q, q = (flT x).1 := ⟨_, rfl⟩
 obtain ⟨k1, hk1⟩ : ∃ k, k = (flT x).2 := ⟨_, rfl⟩
 rw [← hq1, ← hk1]
 have ok1 : q1.ok := by rw [hq1]; exact flT_ok _
 have HQ1 := Lib.hid (And.intro hq1 hk1)
 clear hq1 hk1
 have q_F2_F4 : Hid (w.heap.size < w1.heap.size) := Lib.hid (by have := F2.lt; first | exact this | omega | (simp; done) | simpa using this)
 replace F2 := F2.allocd (.cells #[.bool q1.n, .string (bstr q1.x), .int .i64 q1.e] 38)
 have F4 := Blk.put (w1) #[.bool q1.n, .string (bstr q1.x), .int .i64 q1.e] 38
 replace B0 := B0.alloc B0.size (.cells #[.bool q1.n, .string (bstr q1.x), .int .i64 q1.e] 38)
 go_wp2_with fail
 (with_reducible refine (rcff y _ hy).mono ?_)
 rintro r w2 ⟨rfl, hb2⟩
 replace F2 := F2.keep hb2
 replace F4 := F4.keep hb2
 replace B0 := B0.trans (hb2.mono B0.size)
 clear hb2
 obtain ⟨q2, hq2⟩ : ∃ q, q = (flT y).1 := ⟨_, rfl⟩
 obtain ⟨k2, hk2⟩ : ∃ k, k = (flT y).2 := ⟨_, rfl⟩
 rw [← hq2, ← hk2]
 have ok2 : q2.ok := by rw [hq2]; exact flT_ok _
 have HQ2 := Lib.hid (And.intro hq2 hk2)
 clear hq2 hk2
 have q_F2_F6 : Hid (w.heap.size < w2.heap.size) := Lib.hid (by have := F2.lt; first | exact this | omega | (simp; done) | simpa using this)
 replace F2 := F2.allocd (.cells #[.bool q2.n, .string (bstr q2.x), .int .i64 q2.e] 38)
 replace F4 := F4.allocd (.cells #[.bool q2.n, .string (bstr q2.x), .int .i64 q2.e] 38)
 have F6 := Blk.put (w2) #[.bool q2.n, .string (bstr q2.x), .int .i64 q2.e] 38
 replace B0 := B0.alloc B0.size (.cells #[.bool q2.n, .string (bstr q2.x), .int .i64 q2.e] 38)
 obtain ⟨xF45_0, xF45_1, xF45_2⟩ := F4.ce3
 obtain ⟨xF65_0, xF65_1, xF65_2⟩ := F6.ce3
 by_cases hk1 : k1 = 0
 ·have hb3 : (k1 == 0) = true := by simp [hk1]
  by_cases hk2 : k2 = 0
  ·have hb4 : (k2 == 0) = true := by simp [hk2]
   obtain ⟨xF25_0, xF25_1, xF25_2, xF25_3, xF25_4, xF25_5⟩ := F2.ce6
   obtain ⟨xF25_0f, xF25_1f, xF25_2f, xF25_3f, xF25_4f, xF25_5f⟩ := F2.fr6
   replace F4 := ((((((F4.far 0 (.bool q1.n) (Nat.ne_of_gt q_F2_F4.out)).far 1 (.string (bstr q1.x)) (Nat.ne_of_gt q_F2_F4.out)).far 2 (.int .i64 q1.e) (Nat.ne_of_gt q_F2_F4.out)).far 3 (.bool q2.n) (Nat.ne_of_gt q_F2_F4.out)).far 4 (.string (bstr q2.x)) (Nat.ne_of_gt q_F2_F4.out)).far 5 (.int .i64 q2.e) (Nat.ne_of_gt q_F2_F4.out))
   replace F6 := ((((((F6.far 0 (.bool q1.n) (Nat.ne_of_gt q_F2_F6.out)).far 1 (.string (bstr q1.x)) (Nat.ne_of_gt q_F2_F6.out)).far 2 (.int .i64 q1.e) (Nat.ne_of_gt q_F2_F6.out)).far 3 (.bool q2.n) (Nat.ne_of_gt q_F2_F6.out)).far 4 (.string (bstr q2.x)) (Nat.ne_of_gt q_F2_F6.out)).far 5 (.int .i64 q2.e) (Nat.ne_of_gt q_F2_F6.out))
   replace F2 : Blk ((((((((w2).alloc (.cells #[.bool q2.n, .string (bstr q2.x), .int .i64 q2.e] 38)).setCell ⟨w.heap.size, 0, none⟩ (.bool q1.n)).setCell ⟨w.heap.size, 1, none⟩ (.string (bstr q1.x))).setCell ⟨w.heap.size, 2, none⟩ (.int .i64 q1.e)).setCell ⟨w.heap.size, 3, none⟩ (.bool q2.n)).setCell ⟨w.heap.size, 4, none⟩ (.string (bstr q2.x))).setCell ⟨w.heap.size, 5, none⟩ (.int .i64 q2.e)) (w.heap.size) #[.bool q1.n, .string (bstr q1.x), .int .i64 q1.e, .bool q2.n, .string (bstr q2.x), .int .i64 q2.e] 44 := ((((((F2.setAt 0 (.bool q1.n)).setAt 1 (.string (bstr q1.x))).setAt 2 (.int .i64 q1.e)).setAt 3 (.bool q2.n)).setAt 4 (.string (bstr q2.x))).setAt 5 (.int .i64 q2.e))
   replace B0 := ((((((B0.setCell (p := ⟨w.heap.size, 0, none⟩) q_w_F2.out (.bool q1.n)).setCell (p := ⟨w.heap.size, 1, none⟩) q_w_F2.out (.string (bstr q1.x))).setCell (p := ⟨w.heap.size, 2, none⟩) q_w_F2.out (.int .i64 q1.e)).setCell (p := ⟨w.heap.size, 3, none⟩) q_w_F2.out (.bool q2.n)).setCell (p := ⟨w.heap.size, 4, none⟩) q_w_F2.out (.string (bstr q2.x))).setCell (p := ⟨w.heap.size, 5, none⟩) q_w_F2.out (.int .i64 q2.e))
   obtain ⟨xF26_0, xF26_1, xF26_2, xF26_3, xF26_4, xF26_5⟩ := F2.ce6
   go_wp2
   exact bodyPost_ret (v := .tuple #[.agg #[.bool q1.n, .string (bstr q1.x), .int .i64 q1.e, .bool q2.n, .string (bstr q2.x), .int .i64 q2.e], .bool true]) (by simp [results, Tryz.results14, go_sem, xF26_0, xF26_1, xF26_2, xF26_3, xF26_4, xF26_5]) rfl ⟨⟨q1, q2, true, rfl, HQ1.out.1, HQ2.out.1, by rw [← HQ1.out.2, ← HQ2.out.2]; simp [hk1, hk2]⟩, B0⟩
  ·have hb4 : (k2 == 0) = false := by simp [hk2]
   obtain ⟨xF25_0, xF25_1, xF25_2, xF25_3, xF25_4, xF25_5⟩ := F2.ce6
   obtain ⟨xF25_0f, xF25_1f, xF25_2f, xF25_3f, xF25_4f, xF25_5f⟩ := F2.fr6
   replace F4 := ((((((F4.far 0 (.bool q1.n) (Nat.ne_of_gt q_F2_F4.out)).far 1 (.string (bstr q1.x)) (Nat.ne_of_gt q_F2_F4.out)).far 2 (.int .i64 q1.e) (Nat.ne_of_gt q_F2_F4.out)).far 3 (.bool q2.n) (Nat.ne_of_gt q_F2_F4.out)).far 4 (.string (bstr q2.x)) (Nat.ne_of_gt q_F2_F4.out)).far 5 (.int .i64 q2.e) (Nat.ne_of_gt q_F2_F4.out))
   replace F6 := ((((((F6.far 0 (.bool q1.n) (Nat.ne_of_gt q_F2_F6.out)).far 1 (.string (bstr q1.x)) (Nat.ne_of_gt q_F2_F6.out)).far 2 (.int .i64 q1.e) (Nat.ne_of_gt q_F2_F6.out)).far 3 (.bool q2.n) (Nat.ne_of_gt q_F2_F6.out)).far 4 (.string (bstr q2.x)) (Nat.ne_of_gt q_F2_F6.out)).far 5 (.int .i64 q2.e) (Nat.ne_of_gt q_F2_F6.out))
   replace F2 : Blk ((((((((w2).alloc (.cells #[.bool q2.n, .string (bstr q2.x), .int .i64 q2.e] 38)).setCell ⟨w.heap.size, 0, none⟩ (.bool q1.n)).setCell ⟨w.heap.size, 1, none⟩ (.string (bstr q1.x))).setCell ⟨w.heap.size, 2, none⟩ (.int .i64 q1.e)).setCell ⟨w.heap.size, 3, none⟩ (.bool q2.n)).setCell ⟨w.heap.size, 4, none⟩ (.string (bstr q2.x))).setCell ⟨w.heap.size, 5, none⟩ (.int .i64 q2.e)) (w.heap.size) #[.bool q1.n, .string (bstr q1.x), .int .i64 q1.e, .bool q2.n, .string (bstr q2.x), .int .i64 q2.e] 44 := ((((((F2.setAt 0 (.bool q1.n)).setAt 1 (.string (bstr q1.x))).setAt 2 (.int .i64 q1.e)).setAt 3 (.bool q2.n)).setAt 4 (.string (bstr q2.x))).setAt 5 (.int .i64 q2.e))
   replace B0 := ((((((B0.setCell (p := ⟨w.heap.size, 0, none⟩) q_w_F2.out (.bool q1.n)).setCell (p := ⟨w.heap.size, 1, none⟩) q_w_F2.out (.string (bstr q1.x))).setCell (p := ⟨w.heap.size, 2, none⟩) q_w_F2.out (.int .i64 q1.e)).setCell (p := ⟨w.heap.size, 3, none⟩) q_w_F2.out (.bool q2.n)).setCell (p := ⟨w.heap.size, 4, none⟩) q_w_F2.out (.string (bstr q2.x))).setCell (p := ⟨w.heap.size, 5, none⟩) q_w_F2.out (.int .i64 q2.e))
   obtain ⟨xF26_0, xF26_1, xF26_2, xF26_3, xF26_4, xF26_5⟩ := F2.ce6
   go_wp2
   exact bodyPost_ret (v := .tuple #[.agg #[.bool q1.n, .string (bstr q1.x), .int .i64 q1.e, .bool q2.n, .string (bstr q2.x), .int .i64 q2.e], .bool false]) (by simp [results, Tryz.results14, go_sem, xF26_0, xF26_1, xF26_2, xF26_3, xF26_4, xF26_5]) rfl ⟨⟨q1, q2, false, rfl, HQ1.out.1, HQ2.out.1, by rw [← HQ1.out.2, ← HQ2.out.2]; simp [hk1, hk2]⟩, B0⟩
 ·have hb3 : (k1 == 0) = false := by simp [hk1]
  obtain ⟨xF25_0, xF25_1, xF25_2, xF25_3, xF25_4, xF25_5⟩ := F2.ce6
  obtain ⟨xF25_0f, xF25_1f, xF25_2f, xF25_3f, xF25_4f, xF25_5f⟩ := F2.fr6
  replace F4 := ((((((F4.far 0 (.bool q1.n) (Nat.ne_of_gt q_F2_F4.out)).far 1 (.string (bstr q1.x)) (Nat.ne_of_gt q_F2_F4.out)).far 2 (.int .i64 q1.e) (Nat.ne_of_gt q_F2_F4.out)).far 3 (.bool q2.n) (Nat.ne_of_gt q_F2_F4.out)).far 4 (.string (bstr q2.x)) (Nat.ne_of_gt q_F2_F4.out)).far 5 (.int .i64 q2.e) (Nat.ne_of_gt q_F2_F4.out))
  replace F6 := ((((((F6.far 0 (.bool q1.n) (Nat.ne_of_gt q_F2_F6.out)).far 1 (.string (bstr q1.x)) (Nat.ne_of_gt q_F2_F6.out)).far 2 (.int .i64 q1.e) (Nat.ne_of_gt q_F2_F6.out)).far 3 (.bool q2.n) (Nat.ne_of_gt q_F2_F6.out)).far 4 (.string (bstr q2.x)) (Nat.ne_of_gt q_F2_F6.out)).far 5 (.int .i64 q2.e) (Nat.ne_of_gt q_F2_F6.out))
  replace F2 : Blk ((((((((w2).alloc (.cells #[.bool q2.n, .string (bstr q2.x), .int .i64 q2.e] 38)).setCell ⟨w.heap.size, 0, none⟩ (.bool q1.n)).setCell ⟨w.heap.size, 1, none⟩ (.string (bstr q1.x))).setCell ⟨w.heap.size, 2, none⟩ (.int .i64 q1.e)).setCell ⟨w.heap.size, 3, none⟩ (.bool q2.n)).setCell ⟨w.heap.size, 4, none⟩ (.string (bstr q2.x))).setCell ⟨w.heap.size, 5, none⟩ (.int .i64 q2.e)) (w.heap.size) #[.bool q1.n, .string (bstr q1.x), .int .i64 q1.e, .bool q2.n, .string (bstr q2.x), .int .i64 q2.e] 44 := ((((((F2.setAt 0 (.bool q1.n)).setAt 1 (.string (bstr q1.x))).setAt 2 (.int .i64 q1.e)).setAt 3 (.bool q2.n)).setAt 4 (.string (bstr q2.x))).setAt 5 (.int .i64 q2.e))
  replace B0 := ((((((B0.setCell (p := ⟨w.heap.size, 0, none⟩) q_w_F2.out (.bool q1.n)).setCell (p := ⟨w.heap.size, 1, none⟩) q_w_F2.out (.string (bstr q1.x))).setCell (p := ⟨w.heap.size, 2, none⟩) q_w_F2.out (.int .i64 q1.e)).setCell (p := ⟨w.heap.size, 3, none⟩) q_w_F2.out (.bool q2.n)).setCell (p := ⟨w.heap.size, 4, none⟩) q_w_F2.out (.string (bstr q2.x))).setCell (p := ⟨w.heap.size, 5, none⟩) q_w_F2.out (.int .i64 q2.e))
  obtain ⟨xF26_0, xF26_1, xF26_2, xF26_3, xF26_4, xF26_5⟩ := F2.ce6
  go_wp2
  exact bodyPost_ret (v := .tuple #[.agg #[.bool q1.n, .string (bstr q1.x), .int .i64 q1.e, .bool q2.n, .string (bstr q2.x), .int .i64 q2.e], .bool false]) (by simp [results, Tryz.results14, go_sem, xF26_0, xF26_1, xF26_2, xF26_3, xF26_4, xF26_5]) rfl ⟨⟨q1, q2, false, rfl, HQ1.out.1, HQ2.out.1, by rw [← HQ1.out.2, ← HQ2.out.2]; simp [hk1]⟩, B0⟩
set_option maxRecDepth 100000 in
set_option maxHeartbeats 8000000 in
theorem c_tless {ar ai br bi : DY} (w : World) (oar : ar.ok) (oai : ai.ok) (obr : br.ok) (obi : bi.ok) :
  Calls Tryz.prog 16 #[.agg #[.bool ar.n, .string (bstr ar.x), .int .i64 ar.e, .bool ai.n, .string (bstr ai.x), .int .i64 ai.e], .agg #[.bool br.n, .string (bstr br.x), .int .i64 br.e, .bool bi.n, .string (bstr bi.x), .int .i64 bi.e]] w fun r w' => (∃ (p q : DY) (b : Bool), r = .returned (.tuple #[.agg #[.bool p.n, .string (bstr p.x), .int .i64 p.e, .bool q.n, .string (bstr q.x), .int .i64 q.e], .bool b]) ∧ p = (ySub ar br).1 ∧ q = (ySub ai bi).1 ∧ (b = true ↔ (ySub ar br).2 = 0 ∧ (ySub ai bi).2 = 0)) ∧ Below w.heap.size w w' := by
 go_enter Tryz.func16, Tryz.ntmps16
 have B0 := Below.refl w.heap.size w
 have F2 := Blk.put (w) #[.bool ar.n, .string (bstr ar.x), .int .i64 ar.e, .bool ai.n, .string (bstr ai.x), .int .i64 ai.e] 44
 replace B0 := B0.alloc B0.size (.cells #[.bool ar.n, .string (bstr ar.x), .int .i64 ar.e, .bool ai.n, .string (bstr ai.x), .int .i64 ai.e] 44)
 replace F2 := F2.allocd (.cells #[.bool br.n, .string (bstr br.x), .int .i64 br.e, .bool bi.n, .string (bstr bi.x), .int .i64 bi.e] 44)
 have F3 := Blk.put ((w).alloc (.cells #[.bool ar.n, .string (bstr ar.x), .int .i64 ar.e, .bool ai.n, .string (bstr ai.x), .int .i64 ai.e] 44)) #[.bool br.n, .string (bstr br.x), .int .i64 br.e, .bool bi.n, .string (bstr bi.x), .int .i64 bi.e] 44
 rw [show ((w).alloc (.cells #[.bool ar.n, .string (bstr ar.x), .int .i64 ar.e, .bool ai.n, .string (bstr ai.x), .int .i64 ai.e] 44)).heap.size = w.heap.size + 1 by simp] at F3
 replace B0 := B0.alloc B0.size (.cells #[.bool br.n, .string (bstr br.x), .int .i64 br.e, .bool bi.n, .string (bstr bi.x), .int .i64 bi.e] 44)
 have q_w_F4 : Hid (w.heap.size ≤ w.heap.size + 1 + 1) := Lib.hid (by omega)
 replace F2 := F2.allocd (.cells #[.bool false, .string { data := #[] }, .int .i64 0, .bool false, .string { data := #[] }, .int .i64 0] 44)
 replace F3 := F3.allocd (.cells #[.bool false, .string { data := #[] }, .int .i64 0, .bool false, .string { data := #[] }, .int .i64 0] 44)
 have F4 := Blk.put (((w).alloc (.cells #[.bool ar.n, .string (bstr ar.x), .int .i64 ar.e, .bool ai.n, .string (bstr ai.x), .int .i64 ai.e] 44)).alloc (.cells #[.bool br.n, .string (bstr br.x), .int .i64 br.e, .bool bi.n, .string (bstr bi.x), .int .i64 bi.e] 44)) #[.bool false, .string { data := #[] }, .int .i64 0, .bool false, .string { data := #[] }, .int .i64 0] 44
 rw [show (((w).alloc (.cells #[.bool ar.n, .string (bstr ar.x), .int .i64 ar.e, .bool ai.n, .string (bstr ai.x), .int .i64 ai.e] 44)).alloc (.cells #[.bool br.n, .string (bstr br.x), .int .i64 br.e, .bool bi.n, .string (bstr bi.x), .int .i64 bi.e] 44)).heap.size = w.heap.size + 1 + 1 by simp] at F4
 replace B0 := B0.alloc B0.size (.cells #[.bool false, .string { data := #[] }, .int .i64 0, .bool false, .string { data := #[] }, .int .i64 0] 44)
 obtain ⟨xF23_0, xF23_1, xF23_2, xF23_3, xF23_4, xF23_5⟩ := F2.ce6
 obtain ⟨xF33_0, xF33_1, xF33_2, xF33_3, xF33_4, xF33_5⟩ := F3.ce6
 go_wp2_with fail
 (with_reducible refine (rcsub ar br _ oar obr).mono ?_)
 rintro r w1 ⟨rfl, hb1⟩
 clear xF23_0 xF23_1 xF23_2 xF23_3 xF23_4 xF23_5 xF33_0 xF33_1 xF33_2 xF33_3 xF33_4 xF33_5
 replace F2 := F2.keep hb1
 replace F3 := F3.keep hb1
 replace F4 := F4.keep hb1
 replace B0 := B0.trans (hb1.mono B0.size)
 clear hb1
 obtain ⟨q1, hq1⟩ : ∃ q, q = (ySub ar br).1 := ⟨_, rfl⟩
 obtain ⟨k1, hk1⟩ : ∃ k, k = (ySub ar br).2 := ⟨_, rfl⟩
 rw [← hq1, ← hk1]
 have ok1 : q1.ok := by rw [hq1]; exact ySub_ok _ _
 have HQ1 := Lib.hid (And.intro hq1 hk1)
 clear hq1 hk1
 have q_F4_F6 : Hid (w.heap.size + 1 + 1 < w1.heap.size) := Lib.hid (by have := F4.lt; first | exact this | omega | (simp; done) | simpa using this)
 replace F2 := F2.allocd (.cells #[.bool q1.n, .string (bstr q1.x), .int .i64 q1.e] 38)
 replace F3 := F3.allocd (.cells #[.bool q1.n, .string (bstr q1.x), .int .i64 q1.e] 38)
 replace F4 := F4.allocd (.cells #[.bool q1.n, .string (bstr q1.x), .int .i64 q1.e] 38)
 have F6 := Blk.put (w1) #[.bool q1.n, .string (bstr q1.x), .int .i64 q1.e] 38
 replace B0 := B0.alloc B0.size (.cells #[.bool q1.n, .string (bstr q1.x), .int .i64 q1.e] 38)
 obtain ⟨xF25_0, xF25_1, xF25_2, xF25_3, xF25_4, xF25_5⟩ := F2.ce6
 obtain ⟨xF35_0, xF35_1, xF35_2, xF35_3, xF35_4, xF35_5⟩ := F3.ce6
 go_wp2_with fail
 (with_reducible refine (rcsub ai bi _ oai obi).mono ?_)
 rintro r w2 ⟨rfl, hb2⟩
 clear xF25_0 xF25_1 xF25_2 xF25_3 xF25_4 xF25_5 xF35_0 xF35_1 xF35_2 xF35_3 xF35_4 xF35_5
 replace F2 := F2.keep hb2
 replace F3 := F3.keep hb2
 replace F4 := F4.keep hb2
 replace F6 := F6.keep hb2
 replace B0 := B0.trans (hb2.mono B0.size)
 clear hb2
 obtain ⟨q2, hq2⟩ : ∃ q, q = (ySub ai bi).1 := ⟨_, rfl⟩
 obtain ⟨k2, hk2⟩ : ∃ k, k = (ySub ai bi).2 := ⟨_, rfl⟩
 rw [← hq2, ← hk2]
 have ok2 : q2.ok := by rw [hq2]; exact ySub_ok _ _
 have HQ2 := Lib.hid (And.intro hq2 hk2)
 clear hq2 hk2
 have q_F4_F8 : Hid (w.heap.size + 1 + 1 < w2.heap.size) := Lib.hid (by have := F4.lt; first | exact this | omega | (simp; done) | simpa using this)
 clear F2
 clear F3
 replace F4 := F4.allocd (.cells #[.bool q2.n, .string (bstr q2.x), .int .i64 q2.e] 38)
 replace F6 := F6.allocd (.cells #[.bool q2.n, .string (bstr q2.x), .int .i64 q2.e] 38)
 have F8 := Blk.put (w2) #[.bool q2.n, .string (bstr q2.x), .int .i64 q2.e] 38
 replace B0 := B0.alloc B0.size (.cells #[.bool q2.n, .string (bstr q2.x), .int .i64 q2.e] 38)
 obtain ⟨xF67_0, xF67_1, xF67_2⟩ := F6.ce3
 obtain ⟨xF87_0, xF87_1, xF87_2⟩ := F8.ce3
 by_cases hk1 : k1 = 0
 ·have hb3 : (k1 == 0) = true := by simp [hk1]
  by_cases hk2 : k2 = 0
  ·have hb4 : (k2 == 0) = true := by simp [hk2]
   obtain ⟨xF47_0, xF47_1, xF47_2, xF47_3, xF47_4, xF47_5⟩ := F4.ce6
   obtain ⟨xF47_0f, xF47_1f, xF47_2f, xF47_3f, xF47_4f, xF47_5f⟩ := F4.fr6
   replace F6 := ((((((F6.far 0 (.bool q1.n) (Nat.ne_of_gt q_F4_F6.out)).far 1 (.string (bstr q1.x)) (Nat.ne_of_gt q_F4_F6.out)).far 2 (.int .i64 q1.e) (Nat.ne_of_gt q_F4_F6.out)).far 3 (.bool q2.n) (Nat.ne_of_gt q_F4_F6.out)).far 4 (.string (bstr q2.x)) (Nat.ne_of_gt q_F4_F6.out)).far 5 (.int .i64 q2.e) (Nat.ne_of_gt q_F4_F6.out))
   replace F8 := ((((((F8.far 0 (.bool q1.n) (Nat.ne_of_gt q_F4_F8.out)).far 1 (.string (bstr q1.x)) (Nat.ne_of_gt q_F4_F8.out)).far 2 (.int .i64 q1.e) (Nat.ne_of_gt q_F4_F8.out)).far 3 (.bool q2.n) (Nat.ne_of_gt q_F4_F8.out)).far 4 (.string (bstr q2.x)) (Nat.ne_of_gt q_F4_F8.out)).far 5 (.int .i64 q2.e) (Nat.ne_of_gt q_F4_F8.out))
   replace F4 : Blk ((((((((w2).alloc (.cells #[.bool q2.n, .string (bstr q2.x), .int .i64 q2.e] 38)).setCell ⟨w.heap.size + 1 + 1, 0, none⟩ (.bool q1.n)).setCell ⟨w.heap.size + 1 + 1, 1, none⟩ (.string (bstr q1.x))).setCell ⟨w.heap.size + 1 + 1, 2, none⟩ (.int .i64 q1.e)).setCell ⟨w.heap.size + 1 + 1, 3, none⟩ (.bool q2.n)).setCell ⟨w.heap.size + 1 + 1, 4, none⟩ (.string (bstr q2.x))).setCell ⟨w.heap.size + 1 + 1, 5, none⟩ (.int .i64 q2.e)) (w.heap.size + 1 + 1) #[.bool q1.n, .string (bstr q1.x), .int .i64 q1.e, .bool q2.n, .string (bstr q2.x), .int .i64 q2.e] 44 := ((((((F4.setAt 0 (.bool q1.n)).setAt 1 (.string (bstr q1.x))).setAt 2 (.int .i64 q1.e)).setAt 3 (.bool q2.n)).setAt 4 (.string (bstr q2.x))).setAt 5 (.int .i64 q2.e))
   replace B0 := ((((((B0.setCell (p := ⟨w.heap.size + 1 + 1, 0, none⟩) q_w_F4.out (.bool q1.n)).setCell (p := ⟨w.heap.size + 1 + 1, 1, none⟩) q_w_F4.out (.string (bstr q1.x))).setCell (p := ⟨w.heap.size + 1 + 1, 2, none⟩) q_w_F4.out (.int .i64 q1.e)).setCell (p := ⟨w.heap.size + 1 + 1, 3, none⟩) q_w_F4.out (.bool q2.n)).setCell (p := ⟨w.heap.size + 1 + 1, 4, none⟩) q_w_F4.out (.string (bstr q2.x))).setCell (p := ⟨w.heap.size + 1 + 1, 5, none⟩) q_w_F4.out (.int .i64 q2.e))
   obtain ⟨xF48_0, xF48_1, xF48_2, xF48_3, xF48_4, xF48_5⟩ := F4.ce6
   go_wp2
   exact bodyPost_ret (v := .tuple #[.agg #[.bool q1.n, .string (bstr q1.x), .int .i64 q1.e, .bool q2.n, .string (bstr q2.x), .int .i64 q2.e], .bool true]) (by simp [results, Tryz.results16, go_sem, xF48_0, xF48_1, xF48_2, xF48_3, xF48_4, xF48_5]) rfl ⟨⟨q1, q2, true, rfl, HQ1.out.1, HQ2.out.1, by rw [← HQ1.out.2, ← HQ2.out.2]; simp [hk1, hk2]⟩, B0⟩
  ·have hb4 : (k2 == 0) = false := by simp [hk2]
   obtain ⟨xF47_0, xF47_1, xF47_2, xF47_3, xF47_4, xF47_5⟩ := F4.ce6
   obtain ⟨xF47_0f, xF47_1f, xF47_2f, xF47_3f, xF47_4f, xF47_5f⟩ := F4.fr6
   replace F6 := ((((((F6.far 0 (.bool q1.n) (Nat.ne_of_gt q_F4_F6.out)).far 1 (.string (bstr q1.x)) (Nat.ne_of_gt q_F4_F6.out)).far 2 (.int .i64 q1.e) (Nat.ne_of_gt q_F4_F6.out)).far 3 (.bool q2.n) (Nat.ne_of_gt q_F4_F6.out)).far 4 (.string (bstr q2.x)) (Nat.ne_of_gt q_F4_F6.out)).far 5 (.int .i64 q2.e) (Nat.ne_of_gt q_F4_F6.out))
   replace F8 := ((((((F8.far 0 (.bool q1.n) (Nat.ne_of_gt q_F4_F8.out)).far 1 (.string (bstr q1.x)) (Nat.ne_of_gt q_F4_F8.out)).far 2 (.int .i64 q1.e) (Nat.ne_of_gt q_F4_F8.out)).far 3 (.bool q2.n) (Nat.ne_of_gt q_F4_F8.out)).far 4 (.string (bstr q2.x)) (Nat.ne_of_gt q_F4_F8.out)).far 5 (.int .i64 q2.e) (Nat.ne_of_gt q_F4_F8.out))
   replace F4 : Blk ((((((((w2).alloc (.cells #[.bool q2.n, .string (bstr q2.x), .int .i64 q2.e] 38)).setCell ⟨w.heap.size + 1 + 1, 0, none⟩ (.bool q1.n)).setCell ⟨w.heap.size + 1 + 1, 1, none⟩ (.string (bstr q1.x))).setCell ⟨w.heap.size + 1 + 1, 2, none⟩ (.int .i64 q1.e)).setCell ⟨w.heap.size + 1 + 1, 3, none⟩ (.bool q2.n)).setCell ⟨w.heap.size + 1 + 1, 4, none⟩ (.string (bstr q2.x))).setCell ⟨w.heap.size + 1 + 1, 5, none⟩ (.int .i64 q2.e)) (w.heap.size + 1 + 1) #[.bool q1.n, .string (bstr q1.x), .int .i64 q1.e, .bool q2.n, .string (bstr q2.x), .int .i64 q2.e] 44 := ((((((F4.setAt 0 (.bool q1.n)).setAt 1 (.string (bstr q1.x))).setAt 2 (.int .i64 q1.e)).setAt 3 (.bool q2.n)).setAt 4 (.string (bstr q2.x))).setAt 5 (.int .i64 q2.e))
   replace B0 := ((((((B0.setCell (p := ⟨w.heap.size + 1 + 1, 0, none⟩) q_w_F4.out (.bool q1.n)).setCell (p := ⟨w.heap.size + 1 + 1, 1, none⟩) q_w_F4.out (.string (bstr q1.x))).setCell (p := ⟨w.heap.size + 1 + 1, 2, none⟩) q_w_F4.out (.int .i64 q1.e)).setCell (p := ⟨w.heap.size + 1 + 1, 3, none⟩) q_w_F4.out (.bool q2.n)).setCell (p := ⟨w.heap.size + 1 + 1, 4, none⟩) q_w_F4.out (.string (bstr q2.x))).setCell (p := ⟨w.heap.size + 1 + 1, 5, none⟩) q_w_F4.out (.int .i64 q2.e))
   obtain ⟨xF48_0, xF48_1, xF48_2, xF48_3, xF48_4, xF48_5⟩ := F4.ce6
   go_wp2
   exact bodyPost_ret (v := .tuple #[.agg #[.bool q1.n, .string (bstr q1.x), .int .i64 q1.e, .bool q2.n, .string (bstr q2.x), .int .i64 q2.e], .bool false]) (by simp [results, Tryz.results16, go_sem, xF48_0, xF48_1, xF48_2, xF48_3, xF48_4, xF48_5]) rfl ⟨⟨q1, q2, false, rfl, HQ1.out.1, HQ2.out.1, by rw [← HQ1.out.2, ← HQ2.out.2]; simp [hk1, hk2]⟩, B0⟩
 ·have hb3 : (k1 == 0) = false := by simp [hk1]
  obtain ⟨xF47_0, xF47_1, xF47_2, xF47_3, xF47_4, xF47_5⟩ := F4.ce6
  obtain ⟨xF47_0f, xF47_1f, xF47_2f, xF47_3f, xF47_4f, xF47_5f⟩ := F4.fr6
  replace F6 := ((((((F6.far 0 (.bool q1.n) (Nat.ne_of_gt q_F4_F6.out)).far 1 (.string (bstr q1.x)) (Nat.ne_of_gt q_F4_F6.out)).far 2 (.int .i64 q1.e) (Nat.ne_of_gt q_F4_F6.out)).far 3 (.bool q2.n) (Nat.ne_of_gt q_F4_F6.out)).far 4 (.string (bstr q2.x)) (Nat.ne_of_gt q_F4_F6.out)).far 5 (.int .i64 q2.e) (Nat.ne_of_gt q_F4_F6.out))
  replace F8 := ((((((F8.far 0 (.bool q1.n) (Nat.ne_of_gt q_F4_F8.out)).far 1 (.string (bstr q1.x)) (Nat.ne_of_gt q_F4_F8.out)).far 2 (.int .i64 q1.e) (Nat.ne_of_gt q_F4_F8.out)).far 3 (.bool q2.n) (Nat.ne_of_gt q_F4_F8.out)).far 4 (.string (bstr q2.x)) (Nat.ne_of_gt q_F4_F8.out)).far 5 (.int .i64 q2.e) (Nat.ne_of_gt q_F4_F8.out))
  replace F4 : Blk ((((((((w2).alloc (.cells #[.bool q2.n, .string (bstr q2.x), .int .i64 q2.e] 38)).setCell ⟨w.heap.size + 1 + 1, 0, none⟩ (.bool q1.n)).setCell ⟨w.heap.size + 1 + 1, 1, none⟩ (.string (bstr q1.x))).setCell ⟨w.heap.size + 1 + 1, 2, none⟩ (.int .i64 q1.e)).setCell ⟨w.heap.size + 1 + 1, 3, none⟩ (.bool q2.n)).setCell ⟨w.heap.size + 1 + 1, 4, none⟩ (.string (bstr q2.x))).setCell ⟨w.heap.size + 1 + 1, 5, none⟩ (.int .i64 q2.e)) (w.heap.size + 1 + 1) #[.bool q1.n, .string (bstr q1.x), .int .i64 q1.e, .bool q2.n, .string (bstr q2.x), .int .i64 q2.e] 44 := ((((((F4.setAt 0 (.bool q1.n)).setAt 1 (.string (bstr q1.x))).setAt 2 (.int .i64 q1.e)).setAt 3 (.bool q2.n)).setAt 4 (.string (bstr q2.x))).setAt 5 (.int .i64 q2.e))
  replace B0 := ((((((B0.setCell (p := ⟨w.heap.size + 1 + 1, 0, none⟩) q_w_F4.out (.bool q1.n)).setCell (p := ⟨w.heap.size + 1 + 1, 1, none⟩) q_w_F4.out (.string (bstr q1.x))).setCell (p := ⟨w.heap.size + 1 + 1, 2, none⟩) q_w_F4.out (.int .i64 q1.e)).setCell (p := ⟨w.heap.size + 1 + 1, 3, none⟩) q_w_F4.out (.bool q2.n)).setCell (p := ⟨w.heap.size + 1 + 1, 4, none⟩) q_w_F4.out (.string (bstr q2.x))).setCell (p := ⟨w.heap.size + 1 + 1, 5, none⟩) q_w_F4.out (.int .i64 q2.e))
  obtain ⟨xF48_0, xF48_1, xF48_2, xF48_3, xF48_4, xF48_5⟩ := F4.ce6
  go_wp2
  exact bodyPost_ret (v := .tuple #[.agg #[.bool q1.n, .string (bstr q1.x), .int .i64 q1.e, .bool q2.n, .string (bstr q2.x), .int .i64 q2.e], .bool false]) (by simp [results, Tryz.results16, go_sem, xF48_0, xF48_1, xF48_2, xF48_3, xF48_4, xF48_5]) rfl ⟨⟨q1, q2, false, rfl, HQ1.out.1, HQ2.out.1, by rw [← HQ1.out.2, ← HQ2.out.2]; simp [hk1]⟩, B0⟩
set_option maxRecDepth 100000 in
set_option maxHeartbeats 8000000 in
theorem c_tsum {ar ai br bi : DY} (w : World) (oar : ar.ok) (oai : ai.ok) (obr : br.ok) (obi : bi.ok) :
  Calls Tryz.prog 17 #[.agg #[.bool ar.n, .string (bstr ar.x), .int .i64 ar.e, .bool ai.n, .string (bstr ai.x), .int .i64 ai.e], .agg #[.bool br.n, .string (bstr br.x), .int .i64 br.e, .bool bi.n, .string (bstr bi.x), .int .i64 bi.e]] w fun r w' => (∃ (p q : DY) (b : Bool), r = .returned (.tuple #[.agg #[.bool p.n, .string (bstr p.x), .int .i64 p.e, .bool q.n, .string (bstr q.x), .int .i64 q.e], .bool b]) ∧ p = (yAdd ar br).1 ∧ q = (yAdd ai bi).1 ∧ (b = true ↔ (yAdd ar br).2 = 0 ∧ (yAdd ai bi).2 = 0)) ∧ Below w.heap.size w w' := by
 go_enter Tryz.func17, Tryz.ntmps17
 have B0 := Below.refl w.heap.size w
 have F2 := Blk.put (w) #[.bool ar.n, .string (bstr ar.x), .int .i64 ar.e, .bool ai.n, .string (bstr ai.x), .int .i64 ai.e] 44
 replace B0 := B0.alloc B0.size (.cells #[.bool ar.n, .string (bstr ar.x), .int .i64 ar.e, .bool ai.n, .string (bstr ai.x), .int .i64 ai.e] 44)
 replace F2 := F2.allocd (.cells #[.bool br.n, .string (bstr br.x), .int .i64 br.e, .bool bi.n, .string (bstr bi.x), .int .i64 bi.e] 44)
 have F3 := Blk.put ((w).alloc (.cells #[.bool ar.n, .string (bstr ar.x), .int .i64 ar.e, .bool ai.n, .string (bstr ai.x), .int .i64 ai.e] 44)) #[.bool br.n, .string (bstr br.x), .int .i64 br.e, .bool bi.n, .string (bstr bi.x), .int .i64 bi.e] 44
 rw [show ((w).alloc (.cells #[.bool ar.n, .string (bstr ar.x), .int .i64 ar.e, .bool ai.n, .string (bstr ai.x), .int .i64 ai.e] 44)).heap.size = w.heap.size + 1 by simp] at F3
 replace B0 := B0.alloc B0.size (.cells #[.bool br.n, .string (bstr br.x), .int .i64 br.e, .bool bi.n, .string (bstr bi.x), .int .i64 bi.e] 44)
 have q_w_F4 : Hid (w.heap.size ≤ w.heap.size + 1 + 1) := Lib.hid (by omega)
 replace F2 := F2.allocd (.cells #[.bool false, .string { data := #[] }, .int .i64 0, .bool false, .string { data := #[] }, .int .i64 0] 44)
 replace F3 := F3.allocd (.cells #[.bool false, .string { data := #[] }, .int .i64 0, .bool false, .string { data := #[] }, .int .i64 0] 44)
 have F4 := Blk.put (((w).alloc (.cells #[.bool ar.n, .string (bstr ar.x), .int .i64 ar.e, .bool ai.n, .string (bstr ai.x), .int .i64 ai.e] 44)).alloc (.cells #[.bool br.n, .string (bstr br.x), .int .i64 br.e, .bool bi.n, .string (bstr bi.x), .int .i64 bi.e] 44)) #[.bool false, .string { data := #[] }, .int .i64 0, .bool false, .string { data := #[] }, .int .i64 0] 44
 rw [show (((w).alloc (.cells #[.bool ar.n, .string (bstr ar.x), .int .i64 ar.e, .bool ai.n, .string (bstr ai.x), .int .i64 ai.e] 44)).alloc (.cells #[.bool br.n, .string (bstr br.x), .int .i64 br.e, .bool bi.n, .string (bstr bi.x), .int .i64 bi.e] 44)).heap.size = w.heap.size + 1 + 1 by simp] at F4
 replace B0 := B0.alloc B0.size (.cells #[.bool false, .string { data := #[] }, .int .i64 0, .bool false, .string { data := #[] }, .int .i64 0] 44)
 obtain ⟨xF23_0, xF23_1, xF23_2, xF23_3, xF23_4, xF23_5⟩ := F2.ce6
 obtain ⟨xF33_0, xF33_1, xF33_2, xF33_3, xF33_4, xF33_5⟩ := F3.ce6
 go_wp2_with fail
 (with_reducible refine (rcadd ar br _ oar obr).mono ?_)
 rintro r w1 ⟨rfl, hb1⟩
 clear xF23_0 xF23_1 xF23_2 xF23_3 xF23_4 xF23_5 xF33_0 xF33_1 xF33_2 xF33_3 xF33_4 xF33_5
 replace F2 := F2.keep hb1
 replace F3 := F3.keep hb1
 replace F4 := F4.keep hb1
 replace B0 := B0.trans (hb1.mono B0.size)
 clear hb1
 obtain ⟨q1, hq1⟩ : ∃ q, q = (yAdd ar br).1 := ⟨_, rfl⟩
 obtain ⟨k1, hk1⟩ : ∃ k, k = (yAdd ar br).2 := ⟨_, rfl⟩
 rw [← hq1, ← hk1]
 have ok1 : q1.ok := by rw [hq1]; exact yAdd_ok _ _
 have HQ1 := Lib.hid (And.intro hq1 hk1)
 clear hq1 hk1
 have q_F4_F6 : Hid (w.heap.size + 1 + 1 < w1.heap.size) := Lib.hid (by have := F4.lt; first | exact this | omega | (simp; done) | simpa using this)
 replace F2 := F2.allocd (.cells #[.bool q1.n, .string (bstr q1.x), .int .i64 q1.e] 38)
 replace F3 := F3.allocd (.cells #[.bool q1.n, .string (bstr q1.x), .int .i64 q1.e] 38)
 replace F4 := F4.allocd (.cells #[.bool q1.n, .string (bstr q1.x), .int .i64 q1.e] 38)
 have F6 := Blk.put (w1) #[.bool q1.n, .string (bstr q1.x), .int .i64 q1.e] 38
 replace B0 := B0.alloc B0.size (.cells #[.bool q1.n, .string (bstr q1.x), .int .i64 q1.e] 38)
 obtain ⟨xF25_0, xF25_1, xF25_2, xF25_3, xF25_4, xF25_5⟩ := F2.ce6
 obtain ⟨xF35_0, xF35_1, xF35_2, xF35_3, xF35_4, xF35_5⟩ := F3.ce6
 go_wp2_with fail
 (with_reducible refine (rcadd ai bi _ oai obi).mono ?_)
 rintro r w2 ⟨rfl, hb2⟩
 clear xF25_0 xF25_1 xF25_2 xF25_3 xF25_4 xF25_5 xF35_0 xF35_1 xF35_2 xF35_3 xF35_4 xF35_5
 replace F2 := F2.keep hb2
 replace F3 := F3.keep hb2
 replace F4 := F4.keep hb2
 replace F6 := F6.keep hb2
 replace B0 := B0.trans (hb2.mono B0.size)
 clear hb2
 obtain ⟨q2, hq2⟩ : ∃ q, q = (yAdd ai bi).1 := ⟨_, rfl⟩
 obtain ⟨k2, hk2⟩ : ∃ k, k = (yAdd ai bi).2 := ⟨_, rfl⟩
 rw [← hq2, ← hk2]
 have ok2 : q2.ok := by rw [hq2]; exact yAdd_ok _ _
 have HQ2 := Lib.hid (And.intro hq2 hk2)
 clear hq2 hk2
 have q_F4_F8 : Hid (w.heap.size + 1 + 1 < w2.heap.size) := Lib.hid (by have := F4.lt; first | exact this | omega | (simp; done) | simpa using this)
 clear F2
 clear F3
 replace F4 := F4.allocd (.cells #[.bool q2.n, .string (bstr q2.x), .int .i64 q2.e] 38)
 replace F6 := F6.allocd (.cells #[.bool q2.n, .string (bstr q2.x), .int .i64 q2.e] 38)
 have F8 := Blk.put (w2) #[.bool q2.n, .string (bstr q2.x), .int .i64 q2.e] 38
 replace B0 := B0.alloc B0.size (.cells #[.bool q2.n, .string (bstr q2.x), .int .i64 q2.e] 38)
 obtain ⟨xF67_0, xF67_1, xF67_2⟩ := F6.ce3
 obtain ⟨xF87_0, xF87_1, xF87_2⟩ := F8.ce3
 by_cases hk1 : k1 = 0
 ·have hb3 : (k1 == 0) = true := by simp [hk1]
  by_cases hk2 : k2 = 0
  ·have hb4 : (k2 == 0) = true := by simp [hk2]
   obtain ⟨xF47_0, xF47_1, xF47_2, xF47_3, xF47_4, xF47_5⟩ := F4.ce6
   obtain ⟨xF47_0f, xF47_1f, xF47_2f, xF47_3f, xF47_4f, xF47_5f⟩ := F4.fr6
   replace F6 := ((((((F6.far 0 (.bool q1.n) (Nat.ne_of_gt q_F4_F6.out)).far 1 (.string (bstr q1.x)) (Nat.ne_of_gt q_F4_F6.out)).far 2 (.int .i64 q1.e) (Nat.ne_of_gt q_F4_F6.out)).far 3 (.bool q2.n) (Nat.ne_of_gt q_F4_F6.out)).far 4 (.string (bstr q2.x)) (Nat.ne_of_gt q_F4_F6.out)).far 5 (.int .i64 q2.e) (Nat.ne_of_gt q_F4_F6.out))
   replace F8 := ((((((F8.far 0 (.bool q1.n) (Nat.ne_of_gt q_F4_F8.out)).far 1 (.string (bstr q1.x)) (Nat.ne_of_gt q_F4_F8.out)).far 2 (.int .i64 q1.e) (Nat.ne_of_gt q_F4_F8.out)).far 3 (.bool q2.n) (Nat.ne_of_gt q_F4_F8.out)).far 4 (.string (bstr q2.x)) (Nat.ne_of_gt q_F4_F8.out)).far 5 (.int .i64 q2.e) (Nat.ne_of_gt q_F4_F8.out))
   replace F4 : Blk ((((((((w2).alloc (.cells #[.bool q2.n, .string (bstr q2.x), .int .i64 q2.e] 38)).setCell ⟨w.heap.size + 1 + 1, 0, none⟩ (.bool q1.n)).setCell ⟨w.heap.size + 1 + 1, 1, none⟩ (.string (bstr q1.x))).setCell ⟨w.heap.size + 1 + 1, 2, none⟩ (.int .i64 q1.e)).setCell ⟨w.heap.size + 1 + 1, 3, none⟩ (.bool q2.n)).setCell ⟨w.heap.size + 1 + 1, 4, none⟩ (.string (bstr q2.x))).setCell ⟨w.heap.size + 1 + 1, 5, none⟩ (.int .i64 q2.e)) (w.heap.size + 1 + 1) #[.bool q1.n, .string (bstr q1.x), .int .i64 q1.e, .bool q2.n, .string (bstr q2.x), .int .i64 q2.e] 44 := ((((((F4.setAt 0 (.bool q1.n)).setAt 1 (.string (bstr q1.x))).setAt 2 (.int .i64 q1.e)).setAt 3 (.bool q2.n)).setAt 4 (.string (bstr q2.x))).setAt 5 (.int .i64 q2.e))
   replace B0 := ((((((B0.setCell (p := ⟨w.heap.size + 1 + 1, 0, none⟩) q_w_F4.out (.bool q1.n)).setCell (p := ⟨w.heap.size + 1 + 1, 1, none⟩) q_w_F4.out (.string (bstr q1.x))).setCell (p := ⟨w.heap.size + 1 + 1, 2, none⟩) q_w_F4.out (.int .i64 q1.e)).setCell (p := ⟨w.heap.size + 1 + 1, 3, none⟩) q_w_F4.out (.bool q2.n)).setCell (p := ⟨w.heap.size + 1 + 1, 4, none⟩) q_w_F4.out (.string (bstr q2.x))).setCell (p := ⟨w.heap.size + 1 + 1, 5, none⟩) q_w_F4.out (.int .i64 q2.e))
   obtain ⟨xF48_0, xF48_1, xF48_2, xF48_3, xF48_4, xF48_5⟩ := F4.ce6
   go_wp2
   exact bodyPost_ret (v := .tuple #[.agg #[.bool q1.n, .string (bstr q1.x), .int .i64 q1.e, .bool q2.n, .string (bstr q2.x), .int .i64 q2.e], .bool true]) (by simp [results, Tryz.results17, go_sem, xF48_0, xF48_1, xF48_2, xF48_3, xF48_4, xF48_5]) rfl ⟨⟨q1, q2, true, rfl, HQ1.out.1, HQ2.out.1, by rw [← HQ1.out.2, ← HQ2.out.2]; simp [hk1, hk2]⟩, B0⟩
  ·have hb4 : (k2 == 0) = false := by simp [hk2]
   obtain ⟨xF47_0, xF47_1, xF47_2, xF47_3, xF47_4, xF47_5⟩ := F4.ce6
   obtain ⟨xF47_0f, xF47_1f, xF47_2f, xF47_3f, xF47_4f, xF47_5f⟩ := F4.fr6
   replace F6 := ((((((F6.far 0 (.bool q1.n) (Nat.ne_of_gt q_F4_F6.out)).far 1 (.string (bstr q1.x)) (Nat.ne_of_gt q_F4_F6.out)).far 2 (.int .i64 q1.e) (Nat.ne_of_gt q_F4_F6.out)).far 3 (.bool q2.n) (Nat.ne_of_gt q_F4_F6.out)).far 4 (.string (bstr q2.x)) (Nat.ne_of_gt q_F4_F6.out)).far 5 (.int .i64 q2.e) (Nat.ne_of_gt q_F4_F6.out))
   replace F8 := ((((((F8.far 0 (.bool q1.n) (Nat.ne_of_gt q_F4_F8.out)).far 1 (.string (bstr q1.x)) (Nat.ne_of_gt q_F4_F8.out)).far 2 (.int .i64 q1.e) (Nat.ne_of_gt q_F4_F8.out)).far 3 (.bool q2.n) (Nat.ne_of_gt q_F4_F8.out)).far 4 (.string (bstr q2.x)) (Nat.ne_of_gt q_F4_F8.out)).far 5 (.int .i64 q2.e) (Nat.ne_of_gt q_F4_F8.out))
   replace F4 : Blk ((((((((w2).alloc (.cells #[.bool q2.n, .string (bstr q2.x), .int .i64 q2.e] 38)).setCell ⟨w.heap.size + 1 + 1, 0, none⟩ (.bool q1.n)).setCell ⟨w.heap.size + 1 + 1, 1, none⟩ (.string (bstr q1.x))).setCell ⟨w.heap.size + 1 + 1, 2, none⟩ (.int .i64 q1.e)).setCell ⟨w.heap.size + 1 + 1, 3, none⟩ (.bool q2.n)).setCell ⟨w.heap.size + 1 + 1, 4, none⟩ (.string (bstr q2.x))).setCell ⟨w.heap.size + 1 + 1, 5, none⟩ (.int .i64 q2.e)) (w.heap.size + 1 + 1) #[.bool q1.n, .string (bstr q1.x), .int .i64 q1.e, .bool q2.n, .string (bstr q2.x), .int .i64 q2.e] 44 := ((((((F4.setAt 0 (.bool q1.n)).setAt 1 (.string (bstr q1.x))).setAt 2 (.int .i64 q1.e)).setAt 3 (.bool q2.n)).setAt 4 (.string (bstr q2.x))).setAt 5 (.int .i64 q2.e))
   replace B0 := ((((((B0.setCell (p := ⟨w.heap.size + 1 + 1, 0, none⟩) q_w_F4.out (.bool q1.n)).setCell (p := ⟨w.heap.size + 1 + 1, 1, none⟩) q_w_F4.out (.string (bstr q1.x))).setCell (p := ⟨w.heap.size + 1 + 1, 2, none⟩) q_w_F4.out (.int .i64 q1.e)).setCell (p := ⟨w.heap.size + 1 + 1, 3, none⟩) q_w_F4.out (.bool q2.n)).setCell (p := ⟨w.heap.size + 1 + 1, 4, none⟩) q_w_F4.out (.string (bstr q2.x))).setCell (p := ⟨w.heap.size + 1 + 1, 5, none⟩) q_w_F4.out (.int .i64 q2.e))
   obtain ⟨xF48_0, xF48_1, xF48_2, xF48_3, xF48_4, xF48_5⟩ := F4.ce6
   go_wp2
   exact bodyPost_ret (v := .tuple #[.agg #[.bool q1.n, .string (bstr q1.x), .int .i64 q1.e, .bool q2.n, .string (bstr q2.x), .int .i64 q2.e], .bool false]) (by simp [results, Tryz.results17, go_sem, xF48_0, xF48_1, xF48_2, xF48_3, xF48_4, xF48_5]) rfl ⟨⟨q1, q2, false, rfl, HQ1.out.1, HQ2.out.1, by rw [← HQ1.out.2, ← HQ2.out.2]; simp [hk1, hk2]⟩, B0⟩
 ·have hb3 : (k1 == 0) = false := by simp [hk1]
  obtain ⟨xF47_0, xF47_1, xF47_2, xF47_3, xF47_4, xF47_5⟩ := F4.ce6
  obtain ⟨xF47_0f, xF47_1f, xF47_2f, xF47_3f, xF47_4f, xF47_5f⟩ := F4.fr6
  replace F6 := ((((((F6.far 0 (.bool q1.n) (Nat.ne_of_gt q_F4_F6.out)).far 1 (.string (bstr q1.x)) (Nat.ne_of_gt q_F4_F6.out)).far 2 (.int .i64 q1.e) (Nat.ne_of_gt q_F4_F6.out)).far 3 (.bool q2.n) (Nat.ne_of_gt q_F4_F6.out)).far 4 (.string (bstr q2.x)) (Nat.ne_of_gt q_F4_F6.out)).far 5 (.int .i64 q2.e) (Nat.ne_of_gt q_F4_F6.out))
  replace F8 := ((((((F8.far 0 (.bool q1.n) (Nat.ne_of_gt q_F4_F8.out)).far 1 (.string (bstr q1.x)) (Nat.ne_of_gt q_F4_F8.out)).far 2 (.int .i64 q1.e) (Nat.ne_of_gt q_F4_F8.out)).far 3 (.bool q2.n) (Nat.ne_of_gt q_F4_F8.out)).far 4 (.string (bstr q2.x)) (Nat.ne_of_gt q_F4_F8.out)).far 5 (.int .i64 q2.e) (Nat.ne_of_gt q_F4_F8.out))
  replace F4 : Blk ((((((((w2).alloc (.cells #[.bool q2.n, .string (bstr q2.x), .int .i64 q2.e] 38)).setCell ⟨w.heap.size + 1 + 1, 0, none⟩ (.bool q1.n)).setCell ⟨w.heap.size + 1 + 1, 1, none⟩ (.string (bstr q1.x))).setCell ⟨w.heap.size + 1 + 1, 2, none⟩ (.int .i64 q1.e)).setCell ⟨w.heap.size + 1 + 1, 3, none⟩ (.bool q2.n)).setCell ⟨w.heap.size + 1 + 1, 4, none⟩ (.string (bstr q2.x))).setCell ⟨w.heap.size + 1 + 1, 5, none⟩ (.int .i64 q2.e)) (w.heap.size + 1 + 1) #[.bool q1.n, .string (bstr q1.x), .int .i64 q1.e, .bool q2.n, .string (bstr q2.x), .int .i64 q2.e] 44 := ((((((F4.setAt 0 (.bool q1.n)).setAt 1 (.string (bstr q1.x))).setAt 2 (.int .i64 q1.e)).setAt 3 (.bool q2.n)).setAt 4 (.string (bstr q2.x))).setAt 5 (.int .i64 q2.e))
  replace B0 := ((((((B0.setCell (p := ⟨w.heap.size + 1 + 1, 0, none⟩) q_w_F4.out (.bool q1.n)).setCell (p := ⟨w.heap.size + 1 + 1, 1, none⟩) q_w_F4.out (.string (bstr q1.x))).setCell (p := ⟨w.heap.size + 1 + 1, 2, none⟩) q_w_F4.out (.int .i64 q1.e)).setCell (p := ⟨w.heap.size + 1 + 1, 3, none⟩) q_w_F4.out (.bool q2.n)).setCell (p := ⟨w.heap.size + 1 + 1, 4, none⟩) q_w_F4.out (.string (bstr q2.x))).setCell (p := ⟨w.heap.size + 1 + 1, 5, none⟩) q_w_F4.out (.int .i64 q2.e))
  obtain ⟨xF48_0, xF48_1, xF48_2, xF48_3, xF48_4, xF48_5⟩ := F4.ce6
  go_wp2
  exact bodyPost_ret (v := .tuple #[.agg #[.bool q1.n, .string (bstr q1.x), .int .i64 q1.e, .bool q2.n, .string (bstr q2.x), .int .i64 q2.e], .bool false]) (by simp [results, Tryz.results17, go_sem, xF48_0, xF48_1, xF48_2, xF48_3, xF48_4, xF48_5]) rfl ⟨⟨q1, q2, false, rfl, HQ1.out.1, HQ2.out.1, by rw [← HQ1.out.2, ← HQ2.out.2]; simp [hk1]⟩, B0⟩
end Go.Proofs.YtfdnbogbankjjaaGreatDoor
