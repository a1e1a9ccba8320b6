/- times, norm, square of filigreetop. (printed by gen_fw2.py) -/
import Derived.Test.YtfdnbogbankjjaaGreatDoorFV
namespace Go.Proofs.YtfdnbogbankjjaaGreatDoor
open Go Go.RowKit Go.PlainAid Fil

def TmOk (ar ai br bi : DY) : Prop := (yMul ar br).2 = 0 ∧ (yMul ai bi).2 = 0 ∧ (yMul ar bi).2 = 0 ∧ (yMul ai br).2 = 0 ∧ (ySub (yMul ar br).1 (yMul ai bi).1).2 = 0 ∧ (yAdd (yMul ar bi).1 (yMul ai br).1).2 = 0
def NmOk (ar ai : DY) : Prop := (yMul ar ar).2 = 0 ∧ (yMul ai ai).2 = 0 ∧ (yAdd (yMul ar ar).1 (yMul ai ai).1).2 = 0
def SqOk (x : Nat) : Prop := (flT x).2 = 0 ∧ (yMul (flT x).1 (flT x).1).2 = 0
set_option maxRecDepth 100000 in
set_option maxHeartbeats 8000000 in
theorem c_tnorm {ar ai : DY} (w : World) (oar : ar.ok) (oai : ai.ok) :
  Calls Tryz.prog 19 #[.agg #[.bool ar.n, .string (bstr ar.x), .int .i64 ar.e, .bool ai.n, .string (bstr ai.x), .int .i64 ai.e]] w fun r w' => (∃ (p : DY) (b : Bool), r = .returned (.tuple #[.agg #[.bool p.n, .string (bstr p.x), .int .i64 p.e], .bool b]) ∧ p.ok ∧ (b = true ↔ NmOk ar ai) ∧ (b = true → p = (yAdd (yMul ar ar).1 (yMul ai ai).1).1)) ∧ Below w.heap.size w w' := by
 go_enter Tryz.func19, Tryz.ntmps19
 have B0 := Below.refl w.heap.size w
 have F1 := Blk.put (w) #[.bool ar.n, .string (bstr ar.x), .int .i64 ar.e, .bool ai.n, .string (bstr ai.x), .int .i64 ai.e] 44
 replace B0 := B0.alloc B0.size (.cells #[.bool ar.n, .string (bstr ar.x), .int .i64 ar.e, .bool ai.n, .string (bstr ai.x), .int .i64 ai.e] 44)
 have q_w_F2 : Hid (w.heap.size ≤ w.heap.size + 1) := Lib.hid (by omega)
 replace F1 := F1.allocd (.cells #[.bool false, .string { data := #[] }, .int .i64 0] 38)
 have F2 := Blk.put ((w).alloc (.cells #[.bool ar.n, .string (bstr ar.x), .int .i64 ar.e, .bool ai.n, .string (bstr ai.x), .int .i64 ai.e] 44)) #[.bool false, .string { data := #[] }, .int .i64 0] 38
 rw [show ((w).alloc (.cells #[.bool ar.n, .string (bstr ar.x), .int .i64 ar.e, .bool ai.n, .string (bstr ai.x), .int .i64 ai.e] 44)).heap.size = w.heap.size + 1 by simp] at F2
 replace B0 := B0.alloc B0.size (.cells #[.bool false, .string { data := #[] }, .int .i64 0] 38)
 obtain ⟨xF12_0, xF12_1, xF12_2, xF12_3, xF12_4, xF12_5⟩ := F1.ce6
 go_wp2_with fail
 (with_reducible refine (rcmul ar ar _ oar oar).mono ?_)
 rintro r w1 ⟨rfl, hb1⟩
 clear xF12_0 xF12_1 xF12_2 xF12_3 xF12_4 xF12_5
 replace F1 := F1.keep hb1
 replace F2 := F2.keep hb1
 replace B0 := B0.trans (hb1.mono B0.size)
 clear hb1
 obtain ⟨q1, hq1⟩ : ∃ q, q = (yMul ar ar).1 := ⟨_, rfl⟩
 obtain ⟨k1, hk1⟩ : ∃ k, k = (yMul ar ar).2 := ⟨_, rfl⟩
 rw [← hq1, ← hk1]
 have ok1 : q1.ok := by rw [hq1]; exact yMul_ok _ _
 have HQ1 := Lib.hid (And.intro hq1 hk1)
 clear hq1 hk1
 replace F1 := F1.allocd (.cells #[.bool q1.n, .string (bstr q1.x), .int .i64 q1.e] 38)
 replace F2 := F2.allocd (.cells #[.bool q1.n, .string (bstr q1.x), .int .i64 q1.e] 38)
 have F4 := Blk.put (w1) #[.bool q1.n, .string (bstr q1.x), .int .i64 q1.e] 38
 replace B0 := B0.alloc B0.size (.cells #[.bool q1.n, .string (bstr q1.x), .int .i64 q1.e] 38)
 obtain ⟨xF14_0, xF14_1, xF14_2, xF14_3, xF14_4, xF14_5⟩ := F1.ce6
 go_wp2_with fail
 (with_reducible refine (rcmul ai ai _ oai oai).mono ?_)
 rintro r w2 ⟨rfl, hb2⟩
 clear xF14_0 xF14_1 xF14_2 xF14_3 xF14_4 xF14_5
 replace F1 := F1.keep hb2
 replace F2 := F2.keep hb2
 replace F4 := F4.keep hb2
 replace B0 := B0.trans (hb2.mono B0.size)
 clear hb2
 obtain ⟨q2, hq2⟩ : ∃ q, q = (yMul ai ai).1 := ⟨_, rfl⟩
 obtain ⟨k2, hk2⟩ : ∃ k, k = (yMul ai ai).2 := ⟨_, rfl⟩
 rw [← hq2, ← hk2]
 have ok2 : q2.ok := by rw [hq2]; exact yMul_ok _ _
 have HQ2 := Lib.hid (And.intro hq2 hk2)
 clear hq2 hk2
 clear F1
 replace F2 := F2.allocd (.cells #[.bool q2.n, .string (bstr q2.x), .int .i64 q2.e] 38)
 replace F4 := F4.allocd (.cells #[.bool q2.n, .string (bstr q2.x), .int .i64 q2.e] 38)
 have F6 := Blk.put (w2) #[.bool q2.n, .string (bstr q2.x), .int .i64 q2.e] 38
 replace B0 := B0.alloc B0.size (.cells #[.bool q2.n, .string (bstr q2.x), .int .i64 q2.e] 38)
 by_cases hk1 : k1 = 0
 ·have hb3 : (k1 == 0) = true := by simp [hk1]
  by_cases hk2 : k2 = 0
  ·have hb4 : (k2 == 0) = true := by simp [hk2]
   obtain ⟨xF46_0, xF46_1, xF46_2⟩ := F4.ce3
   obtain ⟨xF66_0, xF66_1, xF66_2⟩ := F6.ce3
   go_wp2_with fail
   (with_reducible refine (rcadd q1 q2 _ ok1 ok2).mono ?_)
   rintro r w3 ⟨rfl, hb3⟩
   clear xF46_0 xF46_1 xF46_2 xF66_0 xF66_1 xF66_2
   replace F2 := F2.keep hb3
   replace F4 := F4.keep hb3
   replace F6 := F6.keep hb3
   replace B0 := B0.trans (hb3.mono B0.size)
   clear hb3
   obtain ⟨q5, hq5⟩ : ∃ q, q = (yAdd q1 q2).1 := ⟨_, rfl⟩
   obtain ⟨k5, hk5⟩ : ∃ k, k = (yAdd q1 q2).2 := ⟨_, rfl⟩
   rw [← hq5, ← hk5]
   have ok5 : q5.ok := by rw [hq5]; exact yAdd_ok _ _
   have HQ5 := Lib.hid (And.intro hq5 hk5)
   clear hq5 hk5
   have q_F2_F8 : Hid (w.heap.size + 1 < w3.heap.size) := Lib.hid (by have := F2.lt; first | exact this | omega | (simp; done) | simpa using this)
   replace F2 := F2.allocd (.cells #[.bool q5.n, .string (bstr q5.x), .int .i64 q5.e] 38)
   clear F4
   clear F6
   have F8 := Blk.put (w3) #[.bool q5.n, .string (bstr q5.x), .int .i64 q5.e] 38
   replace B0 := B0.alloc B0.size (.cells #[.bool q5.n, .string (bstr q5.x), .int .i64 q5.e] 38)
   obtain ⟨xF88_0, xF88_1, xF88_2⟩ := F8.ce3
   by_cases hk5 : k5 = 0
   ·have hb6 : (k5 == 0) = true := by simp [hk5]
    obtain ⟨xF28_0, xF28_1, xF28_2⟩ := F2.ce3
    obtain ⟨xF28_0f, xF28_1f, xF28_2f⟩ := F2.fr3
    replace F8 := (((F8.far 0 (.bool q5.n) (Nat.ne_of_gt q_F2_F8.out)).far 1 (.string (bstr q5.x)) (Nat.ne_of_gt q_F2_F8.out)).far 2 (.int .i64 q5.e) (Nat.ne_of_gt q_F2_F8.out))
    replace F2 : Blk (((((w3).alloc (.cells #[.bool q5.n, .string (bstr q5.x), .int .i64 q5.e] 38)).setCell ⟨w.heap.size + 1, 0, none⟩ (.bool q5.n)).setCell ⟨w.heap.size + 1, 1, none⟩ (.string (bstr q5.x))).setCell ⟨w.heap.size + 1, 2, none⟩ (.int .i64 q5.e)) (w.heap.size + 1) #[.bool q5.n, .string (bstr q5.x), .int .i64 q5.e] 38 := (((F2.setAt 0 (.bool q5.n)).setAt 1 (.string (bstr q5.x))).setAt 2 (.int .i64 q5.e))
    replace B0 := (((B0.setCell (p := ⟨w.heap.size + 1, 0, none⟩) q_w_F2.out (.bool q5.n)).setCell (p := ⟨w.heap.size + 1, 1, none⟩) q_w_F2.out (.string (bstr q5.x))).setCell (p := ⟨w.heap.size + 1, 2, none⟩) q_w_F2.out (.int .i64 q5.e))
    obtain ⟨xF29_0, xF29_1, xF29_2⟩ := F2.ce3
    go_wp2
    exact bodyPost_ret (v := .tuple #[.agg #[.bool q5.n, .string (bstr q5.x), .int .i64 q5.e], .bool true]) (by simp [results, Tryz.results19, go_sem, xF29_0, xF29_1, xF29_2]) rfl ⟨⟨q5, true, rfl, ok5, by simp only [NmOk, ← HQ1.out.1, ← HQ1.out.2, ← HQ2.out.1, ← HQ2.out.2, ← HQ5.out.2]; simp [hk1, hk2, hk5], fun _ => by rw [HQ5.out.1, HQ1.out.1, HQ2.out.1]⟩, B0⟩
   ·have hb6 : (k5 == 0) = false := by simp [hk5]
    obtain ⟨xF28_0, xF28_1, xF28_2⟩ := F2.ce3
    obtain ⟨xF28_0f, xF28_1f, xF28_2f⟩ := F2.fr3
    replace F8 := (((F8.far 0 (.bool q5.n) (Nat.ne_of_gt q_F2_F8.out)).far 1 (.string (bstr q5.x)) (Nat.ne_of_gt q_F2_F8.out)).far 2 (.int .i64 q5.e) (Nat.ne_of_gt q_F2_F8.out))
    replace F2 : Blk (((((w3).alloc (.cells #[.bool q5.n, .string (bstr q5.x), .int .i64 q5.e] 38)).setCell ⟨w.heap.size + 1, 0, none⟩ (.bool q5.n)).setCell ⟨w.heap.size + 1, 1, none⟩ (.string (bstr q5.x))).setCell ⟨w.heap.size + 1, 2, none⟩ (.int .i64 q5.e)) (w.heap.size + 1) #[.bool q5.n, .string (bstr q5.x), .int .i64 q5.e] 38 := (((F2.setAt 0 (.bool q5.n)).setAt 1 (.string (bstr q5.x))).setAt 2 (.int .i64 q5.e))
    replace B0 := (((B0.setCell (p := ⟨w.heap.size + 1, 0, none⟩) q_w_F2.out (.bool q5.n)).setCell (p := ⟨w.heap.size + 1, 1, none⟩) q_w_F2.out (.string (bstr q5.x))).setCell (p := ⟨w.heap.size + 1, 2, none⟩) q_w_F2.out (.int .i64 q5.e))
    obtain ⟨xF29_0, xF29_1, xF29_2⟩ := F2.ce3
    go_wp2
    exact bodyPost_ret (v := .tuple #[.agg #[.bool q5.n, .string (bstr q5.x), .int .i64 q5.e], .bool false]) (by simp [results, Tryz.results19, go_sem, xF29_0, xF29_1, xF29_2]) rfl ⟨⟨q5, false, rfl, ok5, by simp only [NmOk, ← HQ1.out.1, ← HQ1.out.2, ← HQ2.out.1, ← HQ2.out.2, ← HQ5.out.2]; simp [hk1, hk2, hk5], fun _ => by rw [HQ5.out.1, HQ1.out.1, HQ2.out.1]⟩, B0⟩
  ·have hb4 : (k2 == 0) = false := by simp [hk2]
   obtain ⟨xF26_0, xF26_1, xF26_2⟩ := F2.ce3
   obtain ⟨xF26_0f, xF26_1f, xF26_2f⟩ := F2.fr3
   clear F4
   clear F6
   replace F2 : Blk (((((w2).alloc (.cells #[.bool q2.n, .string (bstr q2.x), .int .i64 q2.e] 38)).setCell ⟨w.heap.size + 1, 0, none⟩ (.bool false)).setCell ⟨w.heap.size + 1, 1, none⟩ (.string { data := #[] })).setCell ⟨w.heap.size + 1, 2, none⟩ (.int .i64 0)) (w.heap.size + 1) #[.bool false, .string { data := #[] }, .int .i64 0] 38 := (((F2.setAt 0 (.bool false)).setAt 1 (.string { data := #[] })).setAt 2 (.int .i64 0))
   replace B0 := (((B0.setCell (p := ⟨w.heap.size + 1, 0, none⟩) q_w_F2.out (.bool false)).setCell (p := ⟨w.heap.size + 1, 1, none⟩) q_w_F2.out (.string { data := #[] })).setCell (p := ⟨w.heap.size + 1, 2, none⟩) q_w_F2.out (.int .i64 0))
   obtain ⟨xF27_0, xF27_1, xF27_2⟩ := F2.ce3
   go_wp2
   exact bodyPost_ret (v := .tuple #[.agg #[.bool false, .string { data := #[] }, .int .i64 0], .bool false]) (by simp [results, Tryz.results19, go_sem, xF27_0, xF27_1, xF27_2]) rfl ⟨⟨DY.zero, false, by rw [show bstr DY.zero.x = ({ data := #[] } : ByteArray) from bstr_zero]; rfl, DY.zero_ok, by simp only [NmOk, ← HQ1.out.1, ← HQ1.out.2, ← HQ2.out.1, ← HQ2.out.2]; simp [hk1, hk2], fun h => by cases h⟩, B0⟩
 ·have hb3 : (k1 == 0) = false := by simp [hk1]
  obtain ⟨xF26_0, xF26_1, xF26_2⟩ := F2.ce3
  obtain ⟨xF26_0f, xF26_1f, xF26_2f⟩ := F2.fr3
  clear F4
  clear F6
  replace F2 : Blk (((((w2).alloc (.cells #[.bool q2.n, .string (bstr q2.x), .int .i64 q2.e] 38)).setCell ⟨w.heap.size + 1, 0, none⟩ (.bool false)).setCell ⟨w.heap.size + 1, 1, none⟩ (.string { data := #[] })).setCell ⟨w.heap.size + 1, 2, none⟩ (.int .i64 0)) (w.heap.size + 1) #[.bool false, .string { data := #[] }, .int .i64 0] 38 := (((F2.setAt 0 (.bool false)).setAt 1 (.string { data := #[] })).setAt 2 (.int .i64 0))
  replace B0 := (((B0.setCell (p := ⟨w.heap.size + 1, 0, none⟩) q_w_F2.out (.bool false)).setCell (p := ⟨w.heap.size + 1, 1, none⟩) q_w_F2.out (.string { data := #[] })).setCell (p := ⟨w.heap.size + 1, 2, none⟩) q_w_F2.out (.int .i64 0))
  obtain ⟨xF27_0, xF27_1, xF27_2⟩ := F2.ce3
  go_wp2
  exact bodyPost_ret (v := .tuple #[.agg #[.bool false, .string { data := #[] }, .int .i64 0], .bool false]) (by simp [results, Tryz.results19, go_sem, xF27_0, xF27_1, xF27_2]) rfl ⟨⟨DY.zero, false, by rw [show bstr DY.zero.x = ({ data := #[] } : ByteArray) from bstr_zero]; rfl, DY.zero_ok, by simp only [NmOk, ← HQ1.out.1, ← HQ1.out.2, ← HQ2.out.1, ← HQ2.out.2]; simp [hk1], fun h => by cases h⟩, B0⟩
set_option maxRecDepth 100000 in
set_option maxHeartbeats 8000000 in
theorem c_tsquare {x : Nat} (w : World) (hx : x < 18446744073709551616) :
  Calls Tryz.prog 20 #[.float .f64 x] w fun r w' => (∃ (p : DY) (b : Bool), r = .returned (.tuple #[.agg #[.bool p.n, .string (bstr p.x), .int .i64 p.e], .bool b]) ∧ p.ok ∧ (b = true ↔ SqOk x) ∧ (b = true → p = (yMul (flT x).1 (flT x).1).1)) ∧ Below w.heap.size w w' := by
 go_enter Tryz.func20, Tryz.ntmps20
 have B0 := Below.refl w.heap.size w
 have q_w_F2 : Hid (w.heap.size ≤ w.heap.size) := Lib.hid (by omega)
 have F2 := Blk.put (w) #[.bool false, .string { data := #[] }, .int .i64 0] 38
 replace B0 := B0.alloc B0.size (.cells #[.bool false, .string { data := #[] }, .int .i64 0] 38)
 go_wp2_with fail
 (with_reducible refine (rcff x _ hx).mono ?_)
 rintro r w1 ⟨rfl, hb1⟩
 replace F2 := F2.keep hb1
 replace B0 := B0.trans (hb1.mono B0.size)
 clear hb1
 obtain ⟨q1, hq1⟩ : ∃ q, q = (flT x).1 := ⟨_, rfl⟩
 obtain ⟨k1, hk1⟩ : ∃ k, k = (flT x).2 := ⟨_, rfl⟩
 rw [← hq1, ← hk1]
 have ok1 : q1.ok := by rw [hq1]; exact flT_ok _
 have HQ1 := Lib.hid (And.intro hq1 hk1)
 clear hq1 hk1
 replace F2 := F2.allocd (.cells #[.bool q1.n, .string (bstr q1.x), .int .i64 q1.e] 38)
 have F4 := Blk.put (w1) #[.bool q1.n, .string (bstr q1.x), .int .i64 q1.e] 38
 replace B0 := B0.alloc B0.size (.cells #[.bool q1.n, .string (bstr q1.x), .int .i64 q1.e] 38)
 by_cases hk1 : k1 = 0
 ·have hb2 : (k1 == 0) = true := by simp [hk1]
  obtain ⟨xF43_0, xF43_1, xF43_2⟩ := F4.ce3
  go_wp2_with fail
  (with_reducible refine (rcmul q1 q1 _ ok1 ok1).mono ?_)
  rintro r w2 ⟨rfl, hb2⟩
  clear xF43_0 xF43_1 xF43_2
  replace F2 := F2.keep hb2
  replace F4 := F4.keep hb2
  replace B0 := B0.trans (hb2.mono B0.size)
  clear hb2
  obtain ⟨q3, hq3⟩ : ∃ q, q = (yMul q1 q1).1 := ⟨_, rfl⟩
  obtain ⟨k3, hk3⟩ : ∃ k, k = (yMul q1 q1).2 := ⟨_, rfl⟩
  rw [← hq3, ← hk3]
  have ok3 : q3.ok := by rw [hq3]; exact yMul_ok _ _
  have HQ3 := Lib.hid (And.intro hq3 hk3)
  clear hq3 hk3
  have q_F2_F6 : Hid (w.heap.size < w2.heap.size) := Lib.hid (by have := F2.lt; first | exact this | omega | (simp; done) | simpa using this)
  replace F2 := F2.allocd (.cells #[.bool q3.n, .string (bstr q3.x), .int .i64 q3.e] 38)
  clear F4
  have F6 := Blk.put (w2) #[.bool q3.n, .string (bstr q3.x), .int .i64 q3.e] 38
  replace B0 := B0.alloc B0.size (.cells #[.bool q3.n, .string (bstr q3.x), .int .i64 q3.e] 38)
  obtain ⟨xF65_0, xF65_1, xF65_2⟩ := F6.ce3
  by_cases hk3 : k3 = 0
  ·have hb4 : (k3 == 0) = true := by simp [hk3]
   obtain ⟨xF25_0, xF25_1, xF25_2⟩ := F2.ce3
   obtain ⟨xF25_0f, xF25_1f, xF25_2f⟩ := F2.fr3
   replace F6 := (((F6.far 0 (.bool q3.n) (Nat.ne_of_gt q_F2_F6.out)).far 1 (.string (bstr q3.x)) (Nat.ne_of_gt q_F2_F6.out)).far 2 (.int .i64 q3.e) (Nat.ne_of_gt q_F2_F6.out))
   replace F2 : Blk (((((w2).alloc (.cells #[.bool q3.n, .string (bstr q3.x), .int .i64 q3.e] 38)).setCell ⟨w.heap.size, 0, none⟩ (.bool q3.n)).setCell ⟨w.heap.size, 1, none⟩ (.string (bstr q3.x))).setCell ⟨w.heap.size, 2, none⟩ (.int .i64 q3.e)) (w.heap.size) #[.bool q3.n, .string (bstr q3.x), .int .i64 q3.e] 38 := (((F2.setAt 0 (.bool q3.n)).setAt 1 (.string (bstr q3.x))).setAt 2 (.int .i64 q3.e))
   replace B0 := (((B0.setCell (p := ⟨w.heap.size, 0, none⟩) q_w_F2.out (.bool q3.n)).setCell (p := ⟨w.heap.size, 1, none⟩) q_w_F2.out (.string (bstr q3.x))).setCell (p := ⟨w.heap.size, 2, none⟩) q_w_F2.out (.int .i64 q3.e))
   obtain ⟨xF26_0, xF26_1, xF26_2⟩ := F2.ce3
   go_wp2
   exact bodyPost_ret (v := .tuple #[.agg #[.bool q3.n, .string (bstr q3.x), .int .i64 q3.e], .bool true]) (by simp [results, Tryz.results20, go_sem, xF26_0, xF26_1, xF26_2]) rfl ⟨⟨q3, true, rfl, ok3, by simp only [SqOk, ← HQ1.out.1, ← HQ1.out.2, ← HQ3.out.2]; simp [hk1, hk3], fun _ => by rw [HQ3.out.1, HQ1.out.1]⟩, B0⟩
  ·have hb4 : (k3 == 0) = false := by simp [hk3]
   obtain ⟨xF25_0, xF25_1, xF25_2⟩ := F2.ce3
   obtain ⟨xF25_0f, xF25_1f, xF25_2f⟩ := F2.fr3
   replace F6 := (((F6.far 0 (.bool q3.n) (Nat.ne_of_gt q_F2_F6.out)).far 1 (.string (bstr q3.x)) (Nat.ne_of_gt q_F2_F6.out)).far 2 (.int .i64 q3.e) (Nat.ne_of_gt q_F2_F6.out))
   replace F2 : Blk (((((w2).alloc (.cells #[.bool q3.n, .string (bstr q3.x), .int .i64 q3.e] 38)).setCell ⟨w.heap.size, 0, none⟩ (.bool q3.n)).setCell ⟨w.heap.size, 1, none⟩ (.string (bstr q3.x))).setCell ⟨w.heap.size, 2, none⟩ (.int .i64 q3.e)) (w.heap.size) #[.bool q3.n, .string (bstr q3.x), .int .i64 q3.e] 38 := (((F2.setAt 0 (.bool q3.n)).setAt 1 (.string (bstr q3.x))).setAt 2 (.int .i64 q3.e))
   replace B0 := (((B0.setCell (p := ⟨w.heap.size, 0, none⟩) q_w_F2.out (.bool q3.n)).setCell (p := ⟨w.heap.size, 1, none⟩) q_w_F2.out (.string (bstr q3.x))).setCell (p := ⟨w.heap.size, 2, none⟩) q_w_F2.out (.int .i64 q3.e))
   obtain ⟨xF26_0, xF26_1, xF26_2⟩ := F2.ce3
   go_wp2
   exact bodyPost_ret (v := .tuple #[.agg #[.bool q3.n, .string (bstr q3.x), .int .i64 q3.e], .bool false]) (by simp [results, Tryz.results20, go_sem, xF26_0, xF26_1, xF26_2]) rfl ⟨⟨q3, false, rfl, ok3, by simp only [SqOk, ← HQ1.out.1, ← HQ1.out.2, ← HQ3.out.2]; simp [hk1, hk3], fun _ => by rw [HQ3.out.1, HQ1.out.1]⟩, B0⟩
 ·have hb2 : (k1 == 0) = false := by simp [hk1]
  obtain ⟨xF23_0, xF23_1, xF23_2⟩ := F2.ce3
  obtain ⟨xF23_0f, xF23_1f, xF23_2f⟩ := F2.fr3
  clear F4
  replace F2 : Blk (((((w1).alloc (.cells #[.bool q1.n, .string (bstr q1.x), .int .i64 q1.e] 38)).setCell ⟨w.heap.size, 0, none⟩ (.bool false)).setCell ⟨w.heap.size, 1, none⟩ (.string { data := #[] })).setCell ⟨w.heap.size, 2, none⟩ (.int .i64 0)) (w.heap.size) #[.bool false, .string { data := #[] }, .int .i64 0] 38 := (((F2.setAt 0 (.bool false)).setAt 1 (.string { data := #[] })).setAt 2 (.int .i64 0))
  replace B0 := (((B0.setCell (p := ⟨w.heap.size, 0, none⟩) q_w_F2.out (.bool false)).setCell (p := ⟨w.heap.size, 1, none⟩) q_w_F2.out (.string { data := #[] })).setCell (p := ⟨w.heap.size, 2, none⟩) q_w_F2.out (.int .i64 0))
  obtain ⟨xF24_0, xF24_1, xF24_2⟩ := F2.ce3
  go_wp2
  exact bodyPost_ret (v := .tuple #[.agg #[.bool false, .string { data := #[] }, .int .i64 0], .bool false]) (by simp [results, Tryz.results20, go_sem, xF24_0, xF24_1, xF24_2]) rfl ⟨⟨DY.zero, false, by rw [show bstr DY.zero.x = ({ data := #[] } : ByteArray) from bstr_zero]; rfl, DY.zero_ok, by simp only [SqOk, ← HQ1.out.1, ← HQ1.out.2]; simp [hk1], fun h => by cases h⟩, B0⟩
end Go.Proofs.YtfdnbogbankjjaaGreatDoor
