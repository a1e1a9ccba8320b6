/- times of filigreetop. (printed by gen_fw2.py) -/
import Derived.Test.YtfdnbogbankjjaaGreatDoorFW
namespace Go.Proofs.YtfdnbogbankjjaaGreatDoor
open Go Go.RowKit Go.PlainAid Fil

set_option maxRecDepth 100000 in
set_option maxHeartbeats 8000000 in
theorem c_ttimes {ar ai br bi : DY} (w : World) (oar : ar.ok) (oai : ai.ok) (obr : br.ok) (obi : bi.ok) :
  Calls Tryz.prog 15 #[.agg #[.bool ar.n, .string (bstr ar.x), .int .i64 ar.e, .bool ai.n, .string (bstr ai.x), .int .i64 ai.e], .agg #[.bool br.n, .string (bstr br.x), .int .i64 br.e, .bool bi.n, .string (bstr bi.x), .int .i64 bi.e]] w fun r w' => (∃ (p q : DY) (b : Bool), r = .returned (.tuple #[.agg #[.bool p.n, .string (bstr p.x), .int .i64 p.e, .bool q.n, .string (bstr q.x), .int .i64 q.e], .bool b]) ∧ p.ok ∧ q.ok ∧ (b = true ↔ TmOk ar ai br bi) ∧ (b = true → p = (ySub (yMul ar br).1 (yMul ai bi).1).1 ∧ q = (yAdd (yMul ar bi).1 (yMul ai br).1).1)) ∧ Below w.heap.size w w' := by
 go_enter Tryz.func15, Tryz.ntmps15
 have B0 := Below.refl w.heap.size w
 have F2 := Blk.put (w) #[.bool ar.n, .string (bstr ar.x), .int .i64 ar.e, .bool ai.n, .string (bstr ai.x), .int .i64 ai.e] 44
 replace B0 := B0.alloc B0.size (.cells #[.bool ar.n, .string (bstr ar.x), .int .i64 ar.e, .bool ai.n, .string (bstr ai.x), .int .i64 ai.e] 44)
 replace F2 := F2.allocd (.cells #[.bool br.n, .string (bstr br.x), .int .i64 br.e, .bool bi.n, .string (bstr bi.x), .int .i64 bi.e] 44)
 have F3 := Blk.put ((w).alloc (.cells #[.bool ar.n, .string (bstr ar.x), .int .i64 ar.e, .bool ai.n, .string (bstr ai.x), .int .i64 ai.e] 44)) #[.bool br.n, .string (bstr br.x), .int .i64 br.e, .bool bi.n, .string (bstr bi.x), .int .i64 bi.e] 44
 rw [show ((w).alloc (.cells #[.bool ar.n, .string (bstr ar.x), .int .i64 ar.e, .bool ai.n, .string (bstr ai.x), .int .i64 ai.e] 44)).heap.size = w.heap.size + 1 by simp] at F3
 replace B0 := B0.alloc B0.size (.cells #[.bool br.n, .string (bstr br.x), .int .i64 br.e, .bool bi.n, .string (bstr bi.x), .int .i64 bi.e] 44)
 have q_w_F4 : Hid (w.heap.size ≤ w.heap.size + 1 + 1) := Lib.hid (by omega)
 replace F2 := F2.allocd (.cells #[.bool false, .string { data := #[] }, .int .i64 0, .bool false, .string { data := #[] }, .int .i64 0] 44)
 replace F3 := F3.allocd (.cells #[.bool false, .string { data := #[] }, .int .i64 0, .bool false, .string { data := #[] }, .int .i64 0] 44)
 have F4 := Blk.put (((w).alloc (.cells #[.bool ar.n, .string (bstr ar.x), .int .i64 ar.e, .bool ai.n, .string (bstr ai.x), .int .i64 ai.e] 44)).alloc (.cells #[.bool br.n, .string (bstr br.x), .int .i64 br.e, .bool bi.n, .string (bstr bi.x), .int .i64 bi.e] 44)) #[.bool false, .string { data := #[] }, .int .i64 0, .bool false, .string { data := #[] }, .int .i64 0] 44
 rw [show (((w).alloc (.cells #[.bool ar.n, .string (bstr ar.x), .int .i64 ar.e, .bool ai.n, .string (bstr ai.x), .int .i64 ai.e] 44)).alloc (.cells #[.bool br.n, .string (bstr br.x), .int .i64 br.e, .bool bi.n, .string (bstr bi.x), .int .i64 bi.e] 44)).heap.size = w.heap.size + 1 + 1 by simp] at F4
 replace B0 := B0.alloc B0.size (.cells #[.bool false, .string { data := #[] }, .int .i64 0, .bool false, .string { data := #[] }, .int .i64 0] 44)
 obtain ⟨xF23_0, xF23_1, xF23_2, xF23_3, xF23_4, xF23_5⟩ := F2.ce6
 obtain ⟨xF33_0, xF33_1, xF33_2, xF33_3, xF33_4, xF33_5⟩ := F3.ce6
 go_wp2_with fail
 (with_reducible refine (rcmul ar br _ oar obr).mono ?_)
 rintro r w1 ⟨rfl, hb1⟩
 clear xF23_0 xF23_1 xF23_2 xF23_3 xF23_4 xF23_5 xF33_0 xF33_1 xF33_2 xF33_3 xF33_4 xF33_5
 replace F2 := F2.keep hb1
 replace F3 := F3.keep hb1
 replace F4 := F4.keep hb1
 replace B0 := B0.trans (hb1.mono B0.size)
 clear hb1
 obtain ⟨q1, hq1⟩ : ∃ q, q = (yMul ar br).1 := ⟨_, rfl⟩
 obtain ⟨k1, hk1⟩ : ∃ k, k = (yMul ar br).2 := ⟨_, rfl⟩
 rw [← hq1, ← hk1]
 have ok1 : q1.ok := by rw [hq1]; exact yMul_ok _ _
 have HQ1 := Lib.hid (And.intro hq1 hk1)
 clear hq1 hk1
 replace F2 := F2.allocd (.cells #[.bool q1.n, .string (bstr q1.x), .int .i64 q1.e] 38)
 replace F3 := F3.allocd (.cells #[.bool q1.n, .string (bstr q1.x), .int .i64 q1.e] 38)
 replace F4 := F4.allocd (.cells #[.bool q1.n, .string (bstr q1.x), .int .i64 q1.e] 38)
 have F6 := Blk.put (w1) #[.bool q1.n, .string (bstr q1.x), .int .i64 q1.e] 38
 replace B0 := B0.alloc B0.size (.cells #[.bool q1.n, .string (bstr q1.x), .int .i64 q1.e] 38)
 obtain ⟨xF25_0, xF25_1, xF25_2, xF25_3, xF25_4, xF25_5⟩ := F2.ce6
 obtain ⟨xF35_0, xF35_1, xF35_2, xF35_3, xF35_4, xF35_5⟩ := F3.ce6
 go_wp2_with fail
 (with_reducible refine (rcmul ai bi _ oai obi).mono ?_)
 rintro r w2 ⟨rfl, hb2⟩
 clear xF25_0 xF25_1 xF25_2 xF25_3 xF25_4 xF25_5 xF35_0 xF35_1 xF35_2 xF35_3 xF35_4 xF35_5
 replace F2 := F2.keep hb2
 replace F3 := F3.keep hb2
 replace F4 := F4.keep hb2
 replace F6 := F6.keep hb2
 replace B0 := B0.trans (hb2.mono B0.size)
 clear hb2
 obtain ⟨q2, hq2⟩ : ∃ q, q = (yMul ai bi).1 := ⟨_, rfl⟩
 obtain ⟨k2, hk2⟩ : ∃ k, k = (yMul ai bi).2 := ⟨_, rfl⟩
 rw [← hq2, ← hk2]
 have ok2 : q2.ok := by rw [hq2]; exact yMul_ok _ _
 have HQ2 := Lib.hid (And.intro hq2 hk2)
 clear hq2 hk2
 replace F2 := F2.allocd (.cells #[.bool q2.n, .string (bstr q2.x), .int .i64 q2.e] 38)
 replace F3 := F3.allocd (.cells #[.bool q2.n, .string (bstr q2.x), .int .i64 q2.e] 38)
 replace F4 := F4.allocd (.cells #[.bool q2.n, .string (bstr q2.x), .int .i64 q2.e] 38)
 replace F6 := F6.allocd (.cells #[.bool q2.n, .string (bstr q2.x), .int .i64 q2.e] 38)
 have F8 := Blk.put (w2) #[.bool q2.n, .string (bstr q2.x), .int .i64 q2.e] 38
 replace B0 := B0.alloc B0.size (.cells #[.bool q2.n, .string (bstr q2.x), .int .i64 q2.e] 38)
 obtain ⟨xF27_0, xF27_1, xF27_2, xF27_3, xF27_4, xF27_5⟩ := F2.ce6
 obtain ⟨xF37_0, xF37_1, xF37_2, xF37_3, xF37_4, xF37_5⟩ := F3.ce6
 go_wp2_with fail
 (with_reducible refine (rcmul ar bi _ oar obi).mono ?_)
 rintro r w3 ⟨rfl, hb3⟩
 clear xF27_0 xF27_1 xF27_2 xF27_3 xF27_4 xF27_5 xF37_0 xF37_1 xF37_2 xF37_3 xF37_4 xF37_5
 replace F2 := F2.keep hb3
 replace F3 := F3.keep hb3
 replace F4 := F4.keep hb3
 replace F6 := F6.keep hb3
 replace F8 := F8.keep hb3
 replace B0 := B0.trans (hb3.mono B0.size)
 clear hb3
 obtain ⟨q3, hq3⟩ : ∃ q, q = (yMul ar bi).1 := ⟨_, rfl⟩
 obtain ⟨k3, hk3⟩ : ∃ k, k = (yMul ar bi).2 := ⟨_, rfl⟩
 rw [← hq3, ← hk3]
 have ok3 : q3.ok := by rw [hq3]; exact yMul_ok _ _
 have HQ3 := Lib.hid (And.intro hq3 hk3)
 clear hq3 hk3
 replace F2 := F2.allocd (.cells #[.bool q3.n, .string (bstr q3.x), .int .i64 q3.e] 38)
 replace F3 := F3.allocd (.cells #[.bool q3.n, .string (bstr q3.x), .int .i64 q3.e] 38)
 replace F4 := F4.allocd (.cells #[.bool q3.n, .string (bstr q3.x), .int .i64 q3.e] 38)
 replace F6 := F6.allocd (.cells #[.bool q3.n, .string (bstr q3.x), .int .i64 q3.e] 38)
 replace F8 := F8.allocd (.cells #[.bool q3.n, .string (bstr q3.x), .int .i64 q3.e] 38)
 have F10 := Blk.put (w3) #[.bool q3.n, .string (bstr q3.x), .int .i64 q3.e] 38
 replace B0 := B0.alloc B0.size (.cells #[.bool q3.n, .string (bstr q3.x), .int .i64 q3.e] 38)
 obtain ⟨xF29_0, xF29_1, xF29_2, xF29_3, xF29_4, xF29_5⟩ := F2.ce6
 obtain ⟨xF39_0, xF39_1, xF39_2, xF39_3, xF39_4, xF39_5⟩ := F3.ce6
 go_wp2_with fail
 (with_reducible refine (rcmul ai br _ oai obr).mono ?_)
 rintro r w4 ⟨rfl, hb4⟩
 clear xF29_0 xF29_1 xF29_2 xF29_3 xF29_4 xF29_5 xF39_0 xF39_1 xF39_2 xF39_3 xF39_4 xF39_5
 replace F2 := F2.keep hb4
 replace F3 := F3.keep hb4
 replace F4 := F4.keep hb4
 replace F6 := F6.keep hb4
 replace F8 := F8.keep hb4
 replace F10 := F10.keep hb4
 replace B0 := B0.trans (hb4.mono B0.size)
 clear hb4
 obtain ⟨q4, hq4⟩ : ∃ q, q = (yMul ai br).1 := ⟨_, rfl⟩
 obtain ⟨k4, hk4⟩ : ∃ k, k = (yMul ai br).2 := ⟨_, rfl⟩
 rw [← hq4, ← hk4]
 have ok4 : q4.ok := by rw [hq4]; exact yMul_ok _ _
 have HQ4 := Lib.hid (And.intro hq4 hk4)
 clear hq4 hk4
 clear F2
 clear F3
 replace F4 := F4.allocd (.cells #[.bool q4.n, .string (bstr q4.x), .int .i64 q4.e] 38)
 replace F6 := F6.allocd (.cells #[.bool q4.n, .string (bstr q4.x), .int .i64 q4.e] 38)
 replace F8 := F8.allocd (.cells #[.bool q4.n, .string (bstr q4.x), .int .i64 q4.e] 38)
 replace F10 := F10.allocd (.cells #[.bool q4.n, .string (bstr q4.x), .int .i64 q4.e] 38)
 have F12 := Blk.put (w4) #[.bool q4.n, .string (bstr q4.x), .int .i64 q4.e] 38
 replace B0 := B0.alloc B0.size (.cells #[.bool q4.n, .string (bstr q4.x), .int .i64 q4.e] 38)
 by_cases hk1 : k1 = 0
 ·have hb5 : (k1 == 0) = true := by simp [hk1]
  by_cases hk2 : k2 = 0
  ·have hb6 : (k2 == 0) = true := by simp [hk2]
   by_cases hk3 : k3 = 0
   ·have hb7 : (k3 == 0) = true := by simp [hk3]
    by_cases hk4 : k4 = 0
    ·have hb8 : (k4 == 0) = true := by simp [hk4]
     obtain ⟨xF611_0, xF611_1, xF611_2⟩ := F6.ce3
     obtain ⟨xF811_0, xF811_1, xF811_2⟩ := F8.ce3
     go_wp2_with fail
     (with_reducible refine (rcsub q1 q2 _ ok1 ok2).mono ?_)
     rintro r w5 ⟨rfl, hb5⟩
     clear xF611_0 xF611_1 xF611_2 xF811_0 xF811_1 xF811_2
     replace F4 := F4.keep hb5
     replace F6 := F6.keep hb5
     replace F8 := F8.keep hb5
     replace F10 := F10.keep hb5
     replace F12 := F12.keep hb5
     replace B0 := B0.trans (hb5.mono B0.size)
     clear hb5
     obtain ⟨q9, hq9⟩ : ∃ q, q = (ySub q1 q2).1 := ⟨_, rfl⟩
     obtain ⟨k9, hk9⟩ : ∃ k, k = (ySub q1 q2).2 := ⟨_, rfl⟩
     rw [← hq9, ← hk9]
     have ok9 : q9.ok := by rw [hq9]; exact ySub_ok _ _
     have HQ9 := Lib.hid (And.intro hq9 hk9)
     clear hq9 hk9
     have q_F4_F14 : Hid (w.heap.size + 1 + 1 < w5.heap.size) := Lib.hid (by have := F4.lt; first | exact this | omega | (simp; done) | simpa using this)
     replace F4 := F4.allocd (.cells #[.bool q9.n, .string (bstr q9.x), .int .i64 q9.e] 38)
     clear F6
     clear F8
     replace F10 := F10.allocd (.cells #[.bool q9.n, .string (bstr q9.x), .int .i64 q9.e] 38)
     replace F12 := F12.allocd (.cells #[.bool q9.n, .string (bstr q9.x), .int .i64 q9.e] 38)
     have F14 := Blk.put (w5) #[.bool q9.n, .string (bstr q9.x), .int .i64 q9.e] 38
     replace B0 := B0.alloc B0.size (.cells #[.bool q9.n, .string (bstr q9.x), .int .i64 q9.e] 38)
     obtain ⟨xF1013_0, xF1013_1, xF1013_2⟩ := F10.ce3
     obtain ⟨xF1213_0, xF1213_1, xF1213_2⟩ := F12.ce3
     go_wp2_with fail
     (with_reducible refine (rcadd q3 q4 _ ok3 ok4).mono ?_)
     rintro r w6 ⟨rfl, hb6⟩
     clear xF1013_0 xF1013_1 xF1013_2 xF1213_0 xF1213_1 xF1213_2
     replace F4 := F4.keep hb6
     replace F10 := F10.keep hb6
     replace F12 := F12.keep hb6
     replace F14 := F14.keep hb6
     replace B0 := B0.trans (hb6.mono B0.size)
     clear hb6
     obtain ⟨q10, hq10⟩ : ∃ q, q = (yAdd q3 q4).1 := ⟨_, rfl⟩
     obtain ⟨k10, hk10⟩ : ∃ k, k = (yAdd q3 q4).2 := ⟨_, rfl⟩
     rw [← hq10, ← hk10]
     have ok10 : q10.ok := by rw [hq10]; exact yAdd_ok _ _
     have HQ10 := Lib.hid (And.intro hq10 hk10)
     clear hq10 hk10
     have q_F4_F15 : Hid (w.heap.size + 1 + 1 < w6.heap.size) := Lib.hid (by have := F4.lt; first | exact this | omega | (simp; done) | simpa using this)
     replace F4 := F4.allocd (.cells #[.bool q10.n, .string (bstr q10.x), .int .i64 q10.e] 38)
     clear F10
     clear F12
     replace F14 := F14.allocd (.cells #[.bool q10.n, .string (bstr q10.x), .int .i64 q10.e] 38)
     have F15 := Blk.put (w6) #[.bool q10.n, .string (bstr q10.x), .int .i64 q10.e] 38
     replace B0 := B0.alloc B0.size (.cells #[.bool q10.n, .string (bstr q10.x), .int .i64 q10.e] 38)
     obtain ⟨xF1415_0, xF1415_1, xF1415_2⟩ := F14.ce3
     obtain ⟨xF1515_0, xF1515_1, xF1515_2⟩ := F15.ce3
     by_cases hk9 : k9 = 0
     ·have hb11 : (k9 == 0) = true := by simp [hk9]
      by_cases hk10 : k10 = 0
      ·have hb12 : (k10 == 0) = true := by simp [hk10]
       obtain ⟨xF415_0, xF415_1, xF415_2, xF415_3, xF415_4, xF415_5⟩ := F4.ce6
       obtain ⟨xF415_0f, xF415_1f, xF415_2f, xF415_3f, xF415_4f, xF415_5f⟩ := F4.fr6
       clear F14 F15
       go_wp2
       clear xF415_0 xF415_1 xF415_2 xF415_3 xF415_4 xF415_5 xF415_0f xF415_1f xF415_2f xF415_3f xF415_4f xF415_5f
       replace F4 : Blk ((((((((w6).alloc (.cells #[.bool q10.n, .string (bstr q10.x), .int .i64 q10.e] 38)).setCell ⟨w.heap.size + 1 + 1, 0, none⟩ (.bool q9.n)).setCell ⟨w.heap.size + 1 + 1, 1, none⟩ (.string (bstr q9.x))).setCell ⟨w.heap.size + 1 + 1, 2, none⟩ (.int .i64 q9.e)).setCell ⟨w.heap.size + 1 + 1, 3, none⟩ (.bool q10.n)).setCell ⟨w.heap.size + 1 + 1, 4, none⟩ (.string (bstr q10.x))).setCell ⟨w.heap.size + 1 + 1, 5, none⟩ (.int .i64 q10.e)) (w.heap.size + 1 + 1) #[.bool q9.n, .string (bstr q9.x), .int .i64 q9.e, .bool q10.n, .string (bstr q10.x), .int .i64 q10.e] 44 := ((((((F4.setAt 0 (.bool q9.n)).setAt 1 (.string (bstr q9.x))).setAt 2 (.int .i64 q9.e)).setAt 3 (.bool q10.n)).setAt 4 (.string (bstr q10.x))).setAt 5 (.int .i64 q10.e))
       replace B0 := ((((((B0.setCell (p := ⟨w.heap.size + 1 + 1, 0, none⟩) q_w_F4.out (.bool q9.n)).setCell (p := ⟨w.heap.size + 1 + 1, 1, none⟩) q_w_F4.out (.string (bstr q9.x))).setCell (p := ⟨w.heap.size + 1 + 1, 2, none⟩) q_w_F4.out (.int .i64 q9.e)).setCell (p := ⟨w.heap.size + 1 + 1, 3, none⟩) q_w_F4.out (.bool q10.n)).setCell (p := ⟨w.heap.size + 1 + 1, 4, none⟩) q_w_F4.out (.string (bstr q10.x))).setCell (p := ⟨w.heap.size + 1 + 1, 5, none⟩) q_w_F4.out (.int .i64 q10.e))
       generalize ((((((((w6).alloc (.cells #[.bool q10.n, .string (bstr q10.x), .int .i64 q10.e] 38)).setCell ⟨w.heap.size + 1 + 1, 0, none⟩ (.bool q9.n)).setCell ⟨w.heap.size + 1 + 1, 1, none⟩ (.string (bstr q9.x))).setCell ⟨w.heap.size + 1 + 1, 2, none⟩ (.int .i64 q9.e)).setCell ⟨w.heap.size + 1 + 1, 3, none⟩ (.bool q10.n)).setCell ⟨w.heap.size + 1 + 1, 4, none⟩ (.string (bstr q10.x))).setCell ⟨w.heap.size + 1 + 1, 5, none⟩ (.int .i64 q10.e)) = W1 at F4 B0 ⊢
       obtain ⟨xF416_0, xF416_1, xF416_2, xF416_3, xF416_4, xF416_5⟩ := F4.ce6
       exact bodyPost_ret (v := .tuple #[.agg #[.bool q9.n, .string (bstr q9.x), .int .i64 q9.e, .bool q10.n, .string (bstr q10.x), .int .i64 q10.e], .bool true]) (by simp [results, Tryz.results15, go_sem, xF416_0, xF416_1, xF416_2, xF416_3, xF416_4, xF416_5]) rfl ⟨⟨q9, q10, true, rfl, ok9, ok10, by simp only [TmOk, ← HQ1.out.1, ← HQ1.out.2, ← HQ2.out.1, ← HQ2.out.2, ← HQ3.out.1, ← HQ3.out.2, ← HQ4.out.1, ← HQ4.out.2, ← HQ9.out.2, ← HQ10.out.2]; simp [hk1, hk2, hk3, hk4, hk9, hk10], fun _ => ⟨by rw [HQ9.out.1, HQ1.out.1, HQ2.out.1], by rw [HQ10.out.1, HQ3.out.1, HQ4.out.1]⟩⟩, B0⟩
      ·have hb12 : (k10 == 0) = false := by simp [hk10]
       obtain ⟨xF415_0, xF415_1, xF415_2, xF415_3, xF415_4, xF415_5⟩ := F4.ce6
       obtain ⟨xF415_0f, xF415_1f, xF415_2f, xF415_3f, xF415_4f, xF415_5f⟩ := F4.fr6
       clear F14 F15
       go_wp2
       clear xF415_0 xF415_1 xF415_2 xF415_3 xF415_4 xF415_5 xF415_0f xF415_1f xF415_2f xF415_3f xF415_4f xF415_5f
       replace F4 : Blk ((((((((w6).alloc (.cells #[.bool q10.n, .string (bstr q10.x), .int .i64 q10.e] 38)).setCell ⟨w.heap.size + 1 + 1, 0, none⟩ (.bool q9.n)).setCell ⟨w.heap.size + 1 + 1, 1, none⟩ (.string (bstr q9.x))).setCell ⟨w.heap.size + 1 + 1, 2, none⟩ (.int .i64 q9.e)).setCell ⟨w.heap.size + 1 + 1, 3, none⟩ (.bool q10.n)).setCell ⟨w.heap.size + 1 + 1, 4, none⟩ (.string (bstr q10.x))).setCell ⟨w.heap.size + 1 + 1, 5, none⟩ (.int .i64 q10.e)) (w.heap.size + 1 + 1) #[.bool q9.n, .string (bstr q9.x), .int .i64 q9.e, .bool q10.n, .string (bstr q10.x), .int .i64 q10.e] 44 := ((((((F4.setAt 0 (.bool q9.n)).setAt 1 (.string (bstr q9.x))).setAt 2 (.int .i64 q9.e)).setAt 3 (.bool q10.n)).setAt 4 (.string (bstr q10.x))).setAt 5 (.int .i64 q10.e))
       replace B0 := ((((((B0.setCell (p := ⟨w.heap.size + 1 + 1, 0, none⟩) q_w_F4.out (.bool q9.n)).setCell (p := ⟨w.heap.size + 1 + 1, 1, none⟩) q_w_F4.out (.string (bstr q9.x))).setCell (p := ⟨w.heap.size + 1 + 1, 2, none⟩) q_w_F4.out (.int .i64 q9.e)).setCell (p := ⟨w.heap.size + 1 + 1, 3, none⟩) q_w_F4.out (.bool q10.n)).setCell (p := ⟨w.heap.size + 1 + 1, 4, none⟩) q_w_F4.out (.string (bstr q10.x))).setCell (p := ⟨w.heap.size + 1 + 1, 5, none⟩) q_w_F4.out (.int .i64 q10.e))
       generalize ((((((((w6).alloc (.cells #[.bool q10.n, .string (bstr q10.x), .int .i64 q10.e] 38)).setCell ⟨w.heap.size + 1 + 1, 0, none⟩ (.bool q9.n)).setCell ⟨w.heap.size + 1 + 1, 1, none⟩ (.string (bstr q9.x))).setCell ⟨w.heap.size + 1 + 1, 2, none⟩ (.int .i64 q9.e)).setCell ⟨w.heap.size + 1 + 1, 3, none⟩ (.bool q10.n)).setCell ⟨w.heap.size + 1 + 1, 4, none⟩ (.string (bstr q10.x))).setCell ⟨w.heap.size + 1 + 1, 5, none⟩ (.int .i64 q10.e)) = W2 at F4 B0 ⊢
       obtain ⟨xF416_0, xF416_1, xF416_2, xF416_3, xF416_4, xF416_5⟩ := F4.ce6
       exact bodyPost_ret (v := .tuple #[.agg #[.bool q9.n, .string (bstr q9.x), .int .i64 q9.e, .bool q10.n, .string (bstr q10.x), .int .i64 q10.e], .bool false]) (by simp [results, Tryz.results15, go_sem, xF416_0, xF416_1, xF416_2, xF416_3, xF416_4, xF416_5]) rfl ⟨⟨q9, q10, false, rfl, ok9, ok10, by simp only [TmOk, ← HQ1.out.1, ← HQ1.out.2, ← HQ2.out.1, ← HQ2.out.2, ← HQ3.out.1, ← HQ3.out.2, ← HQ4.out.1, ← HQ4.out.2, ← HQ9.out.2, ← HQ10.out.2]; simp [hk1, hk2, hk3, hk4, hk9, hk10], fun _ => ⟨by rw [HQ9.out.1, HQ1.out.1, HQ2.out.1], by rw [HQ10.out.1, HQ3.out.1, HQ4.out.1]⟩⟩, B0⟩
     ·have hb11 : (k9 == 0) = false := by simp [hk9]
      obtain ⟨xF415_0, xF415_1, xF415_2, xF415_3, xF415_4, xF415_5⟩ := F4.ce6
      obtain ⟨xF415_0f, xF415_1f, xF415_2f, xF415_3f, xF415_4f, xF415_5f⟩ := F4.fr6
      clear F14 F15
      go_wp2
      clear xF415_0 xF415_1 xF415_2 xF415_3 xF415_4 xF415_5 xF415_0f xF415_1f xF415_2f xF415_3f xF415_4f xF415_5f
      replace F4 : Blk ((((((((w6).alloc (.cells #[.bool q10.n, .string (bstr q10.x), .int .i64 q10.e] 38)).setCell ⟨w.heap.size + 1 + 1, 0, none⟩ (.bool q9.n)).setCell ⟨w.heap.size + 1 + 1, 1, none⟩ (.string (bstr q9.x))).setCell ⟨w.heap.size + 1 + 1, 2, none⟩ (.int .i64 q9.e)).setCell ⟨w.heap.size + 1 + 1, 3, none⟩ (.bool q10.n)).setCell ⟨w.heap.size + 1 + 1, 4, none⟩ (.string (bstr q10.x))).setCell ⟨w.heap.size + 1 + 1, 5, none⟩ (.int .i64 q10.e)) (w.heap.size + 1 + 1) #[.bool q9.n, .string (bstr q9.x), .int .i64 q9.e, .bool q10.n, .string (bstr q10.x), .int .i64 q10.e] 44 := ((((((F4.setAt 0 (.bool q9.n)).setAt 1 (.string (bstr q9.x))).setAt 2 (.int .i64 q9.e)).setAt 3 (.bool q10.n)).setAt 4 (.string (bstr q10.x))).setAt 5 (.int .i64 q10.e))
      replace B0 := ((((((B0.setCell (p := ⟨w.heap.size + 1 + 1, 0, none⟩) q_w_F4.out (.bool q9.n)).setCell (p := ⟨w.heap.size + 1 + 1, 1, none⟩) q_w_F4.out (.string (bstr q9.x))).setCell (p := ⟨w.heap.size + 1 + 1, 2, none⟩) q_w_F4.out (.int .i64 q9.e)).setCell (p := ⟨w.heap.size + 1 + 1, 3, none⟩) q_w_F4.out (.bool q10.n)).setCell (p := ⟨w.heap.size + 1 + 1, 4, none⟩) q_w_F4.out (.string (bstr q10.x))).setCell (p := ⟨w.heap.size + 1 + 1, 5, none⟩) q_w_F4.out (.int .i64 q10.e))
      generalize ((((((((w6).alloc (.cells #[.bool q10.n, .string (bstr q10.x), .int .i64 q10.e] 38)).setCell ⟨w.heap.size + 1 + 1, 0, none⟩ (.bool q9.n)).setCell ⟨w.heap.size + 1 + 1, 1, none⟩ (.string (bstr q9.x))).setCell ⟨w.heap.size + 1 + 1, 2, none⟩ (.int .i64 q9.e)).setCell ⟨w.heap.size + 1 + 1, 3, none⟩ (.bool q10.n)).setCell ⟨w.heap.size + 1 + 1, 4, none⟩ (.string (bstr q10.x))).setCell ⟨w.heap.size + 1 + 1, 5, none⟩ (.int .i64 q10.e)) = W3 at F4 B0 ⊢
      obtain ⟨xF416_0, xF416_1, xF416_2, xF416_3, xF416_4, xF416_5⟩ := F4.ce6
      exact bodyPost_ret (v := .tuple #[.agg #[.bool q9.n, .string (bstr q9.x), .int .i64 q9.e, .bool q10.n, .string (bstr q10.x), .int .i64 q10.e], .bool false]) (by simp [results, Tryz.results15, go_sem, xF416_0, xF416_1, xF416_2, xF416_3, xF416_4, xF416_5]) rfl ⟨⟨q9, q10, false, rfl, ok9, ok10, by simp only [TmOk, ← HQ1.out.1, ← HQ1.out.2, ← HQ2.out.1, ← HQ2.out.2, ← HQ3.out.1, ← HQ3.out.2, ← HQ4.out.1, ← HQ4.out.2, ← HQ9.out.2, ← HQ10.out.2]; simp [hk1, hk2, hk3, hk4, hk9], fun _ => ⟨by rw [HQ9.out.1, HQ1.out.1, HQ2.out.1], by rw [HQ10.out.1, HQ3.out.1, HQ4.out.1]⟩⟩, B0⟩
    ·have hb8 : (k4 == 0) = false := by simp [hk4]
     obtain ⟨xF411_0, xF411_1, xF411_2, xF411_3, xF411_4, xF411_5⟩ := F4.ce6
     obtain ⟨xF411_0f, xF411_1f, xF411_2f, xF411_3f, xF411_4f, xF411_5f⟩ := F4.fr6
     clear F6
     clear F8
     clear F10
     clear F12
     go_wp2
     clear xF411_0 xF411_1 xF411_2 xF411_3 xF411_4 xF411_5 xF411_0f xF411_1f xF411_2f xF411_3f xF411_4f xF411_5f
     replace F4 : Blk ((((((((w4).alloc (.cells #[.bool q4.n, .string (bstr q4.x), .int .i64 q4.e] 38)).setCell ⟨w.heap.size + 1 + 1, 0, none⟩ (.bool false)).setCell ⟨w.heap.size + 1 + 1, 1, none⟩ (.string { data := #[] })).setCell ⟨w.heap.size + 1 + 1, 2, none⟩ (.int .i64 0)).setCell ⟨w.heap.size + 1 + 1, 3, none⟩ (.bool false)).setCell ⟨w.heap.size + 1 + 1, 4, none⟩ (.string { data := #[] })).setCell ⟨w.heap.size + 1 + 1, 5, none⟩ (.int .i64 0)) (w.heap.size + 1 + 1) #[.bool false, .string { data := #[] }, .int .i64 0, .bool false, .string { data := #[] }, .int .i64 0] 44 := ((((((F4.setAt 0 (.bool false)).setAt 1 (.string { data := #[] })).setAt 2 (.int .i64 0)).setAt 3 (.bool false)).setAt 4 (.string { data := #[] })).setAt 5 (.int .i64 0))
     replace B0 := ((((((B0.setCell (p := ⟨w.heap.size + 1 + 1, 0, none⟩) q_w_F4.out (.bool false)).setCell (p := ⟨w.heap.size + 1 + 1, 1, none⟩) q_w_F4.out (.string { data := #[] })).setCell (p := ⟨w.heap.size + 1 + 1, 2, none⟩) q_w_F4.out (.int .i64 0)).setCell (p := ⟨w.heap.size + 1 + 1, 3, none⟩) q_w_F4.out (.bool false)).setCell (p := ⟨w.heap.size + 1 + 1, 4, none⟩) q_w_F4.out (.string { data := #[] })).setCell (p := ⟨w.heap.size + 1 + 1, 5, none⟩) q_w_F4.out (.int .i64 0))
     generalize ((((((((w4).alloc (.cells #[.bool q4.n, .string (bstr q4.x), .int .i64 q4.e] 38)).setCell ⟨w.heap.size + 1 + 1, 0, none⟩ (.bool false)).setCell ⟨w.heap.size + 1 + 1, 1, none⟩ (.string { data := #[] })).setCell ⟨w.heap.size + 1 + 1, 2, none⟩ (.int .i64 0)).setCell ⟨w.heap.size + 1 + 1, 3, none⟩ (.bool false)).setCell ⟨w.heap.size + 1 + 1, 4, none⟩ (.string { data := #[] })).setCell ⟨w.heap.size + 1 + 1, 5, none⟩ (.int .i64 0)) = W4 at F4 B0 ⊢
     obtain ⟨xF412_0, xF412_1, xF412_2, xF412_3, xF412_4, xF412_5⟩ := F4.ce6
     exact bodyPost_ret (v := .tuple #[.agg #[.bool false, .string { data := #[] }, .int .i64 0, .bool false, .string { data := #[] }, .int .i64 0], .bool false]) (by simp [results, Tryz.results15, go_sem, xF412_0, xF412_1, xF412_2, xF412_3, xF412_4, xF412_5]) rfl ⟨⟨DY.zero, DY.zero, false, by rw [show bstr DY.zero.x = ({ data := #[] } : ByteArray) from bstr_zero]; rfl, DY.zero_ok, DY.zero_ok, by simp only [TmOk, ← HQ1.out.1, ← HQ1.out.2, ← HQ2.out.1, ← HQ2.out.2, ← HQ3.out.1, ← HQ3.out.2, ← HQ4.out.1, ← HQ4.out.2]; simp [hk1, hk2, hk3, hk4], fun h => (Bool.false_ne_true h).elim⟩, B0⟩
   ·have hb7 : (k3 == 0) = false := by simp [hk3]
    obtain ⟨xF411_0, xF411_1, xF411_2, xF411_3, xF411_4, xF411_5⟩ := F4.ce6
    obtain ⟨xF411_0f, xF411_1f, xF411_2f, xF411_3f, xF411_4f, xF411_5f⟩ := F4.fr6
    clear F6
    clear F8
    clear F10
    clear F12
    go_wp2
    clear xF411_0 xF411_1 xF411_2 xF411_3 xF411_4 xF411_5 xF411_0f xF411_1f xF411_2f xF411_3f xF411_4f xF411_5f
    replace F4 : Blk ((((((((w4).alloc (.cells #[.bool q4.n, .string (bstr q4.x), .int .i64 q4.e] 38)).setCell ⟨w.heap.size + 1 + 1, 0, none⟩ (.bool false)).setCell ⟨w.heap.size + 1 + 1, 1, none⟩ (.string { data := #[] })).setCell ⟨w.heap.size + 1 + 1, 2, none⟩ (.int .i64 0)).setCell ⟨w.heap.size + 1 + 1, 3, none⟩ (.bool false)).setCell ⟨w.heap.size + 1 + 1, 4, none⟩ (.string { data := #[] })).setCell ⟨w.heap.size + 1 + 1, 5, none⟩ (.int .i64 0)) (w.heap.size + 1 + 1) #[.bool false, .string { data := #[] }, .int .i64 0, .bool false, .string { data := #[] }, .int .i64 0] 44 := ((((((F4.setAt 0 (.bool false)).setAt 1 (.string { data := #[] })).setAt 2 (.int .i64 0)).setAt 3 (.bool false)).setAt 4 (.string { data := #[] })).setAt 5 (.int .i64 0))
    replace B0 := ((((((B0.setCell (p := ⟨w.heap.size + 1 + 1, 0, none⟩) q_w_F4.out (.bool false)).setCell (p := ⟨w.heap.size + 1 + 1, 1, none⟩) q_w_F4.out (.string { data := #[] })).setCell (p := ⟨w.heap.size + 1 + 1, 2, none⟩) q_w_F4.out (.int .i64 0)).setCell (p := ⟨w.heap.size + 1 + 1, 3, none⟩) q_w_F4.out (.bool false)).setCell (p := ⟨w.heap.size + 1 + 1, 4, none⟩) q_w_F4.out (.string { data := #[] })).setCell (p := ⟨w.heap.size + 1 + 1, 5, none⟩) q_w_F4.out (.int .i64 0))
    generalize ((((((((w4).alloc (.cells #[.bool q4.n, .string (bstr q4.x), .int .i64 q4.e] 38)).setCell ⟨w.heap.size + 1 + 1, 0, none⟩ (.bool false)).setCell ⟨w.heap.size + 1 + 1, 1, none⟩ (.string { data := #[] })).setCell ⟨w.heap.size + 1 + 1, 2, none⟩ (.int .i64 0)).setCell ⟨w.heap.size + 1 + 1, 3, none⟩ (.bool false)).setCell ⟨w.heap.size + 1 + 1, 4, none⟩ (.string { data := #[] })).setCell ⟨w.heap.size + 1 + 1, 5, none⟩ (.int .i64 0)) = W5 at F4 B0 ⊢
    obtain ⟨xF412_0, xF412_1, xF412_2, xF412_3, xF412_4, xF412_5⟩ := F4.ce6
    exact bodyPost_ret (v := .tuple #[.agg #[.bool false, .string { data := #[] }, .int .i64 0, .bool false, .string { data := #[] }, .int .i64 0], .bool false]) (by simp [results, Tryz.results15, go_sem, xF412_0, xF412_1, xF412_2, xF412_3, xF412_4, xF412_5]) rfl ⟨⟨DY.zero, DY.zero, false, by rw [show bstr DY.zero.x = ({ data := #[] } : ByteArray) from bstr_zero]; rfl, DY.zero_ok, DY.zero_ok, by simp only [TmOk, ← HQ1.out.1, ← HQ1.out.2, ← HQ2.out.1, ← HQ2.out.2, ← HQ3.out.1, ← HQ3.out.2, ← HQ4.out.1, ← HQ4.out.2]; simp [hk1, hk2, hk3], fun h => (Bool.false_ne_true h).elim⟩, B0⟩
  ·have hb6 : (k2 == 0) = false := by simp [hk2]
   obtain ⟨xF411_0, xF411_1, xF411_2, xF411_3, xF411_4, xF411_5⟩ := F4.ce6
   obtain ⟨xF411_0f, xF411_1f, xF411_2f, xF411_3f, xF411_4f, xF411_5f⟩ := F4.fr6
   clear F6
   clear F8
   clear F10
   clear F12
   go_wp2
   clear xF411_0 xF411_1 xF411_2 xF411_3 xF411_4 xF411_5 xF411_0f xF411_1f xF411_2f xF411_3f xF411_4f xF411_5f
   replace F4 : Blk ((((((((w4).alloc (.cells #[.bool q4.n, .string (bstr q4.x), .int .i64 q4.e] 38)).setCell ⟨w.heap.size + 1 + 1, 0, none⟩ (.bool false)).setCell ⟨w.heap.size + 1 + 1, 1, none⟩ (.string { data := #[] })).setCell ⟨w.heap.size + 1 + 1, 2, none⟩ (.int .i64 0)).setCell ⟨w.heap.size + 1 + 1, 3, none⟩ (.bool false)).setCell ⟨w.heap.size + 1 + 1, 4, none⟩ (.string { data := #[] })).setCell ⟨w.heap.size + 1 + 1, 5, none⟩ (.int .i64 0)) (w.heap.size + 1 + 1) #[.bool false, .string { data := #[] }, .int .i64 0, .bool false, .string { data := #[] }, .int .i64 0] 44 := ((((((F4.setAt 0 (.bool false)).setAt 1 (.string { data := #[] })).setAt 2 (.int .i64 0)).setAt 3 (.bool false)).setAt 4 (.string { data := #[] })).setAt 5 (.int .i64 0))
   replace B0 := ((((((B0.setCell (p := ⟨w.heap.size + 1 + 1, 0, none⟩) q_w_F4.out (.bool false)).setCell (p := ⟨w.heap.size + 1 + 1, 1, none⟩) q_w_F4.out (.string { data := #[] })).setCell (p := ⟨w.heap.size + 1 + 1, 2, none⟩) q_w_F4.out (.int .i64 0)).setCell (p := ⟨w.heap.size + 1 + 1, 3, none⟩) q_w_F4.out (.bool false)).setCell (p := ⟨w.heap.size + 1 + 1, 4, none⟩) q_w_F4.out (.string { data := #[] })).setCell (p := ⟨w.heap.size + 1 + 1, 5, none⟩) q_w_F4.out (.int .i64 0))
   generalize ((((((((w4).alloc (.cells #[.bool q4.n, .string (bstr q4.x), .int .i64 q4.e] 38)).setCell ⟨w.heap.size + 1 + 1, 0, none⟩ (.bool false)).setCell ⟨w.heap.size + 1 + 1, 1, none⟩ (.string { data := #[] })).setCell ⟨w.heap.size + 1 + 1, 2, none⟩ (.int .i64 0)).setCell ⟨w.heap.size + 1 + 1, 3, none⟩ (.bool false)).setCell ⟨w.heap.size + 1 + 1, 4, none⟩ (.string { data := #[] })).setCell ⟨w.heap.size + 1 + 1, 5, none⟩ (.int .i64 0)) = W6 at F4 B0 ⊢
   obtain ⟨xF412_0, xF412_1, xF412_2, xF412_3, xF412_4, xF412_5⟩ := F4.ce6
   exact bodyPost_ret (v := .tuple #[.agg #[.bool false, .string { data := #[] }, .int .i64 0, .bool false, .string { data := #[] }, .int .i64 0], .bool false]) (by simp [results, Tryz.results15, go_sem, xF412_0, xF412_1, xF412_2, xF412_3, xF412_4, xF412_5]) rfl ⟨⟨DY.zero, DY.zero, false, by rw [show bstr DY.zero.x = ({ data := #[] } : ByteArray) from bstr_zero]; rfl, DY.zero_ok, DY.zero_ok, by simp only [TmOk, ← HQ1.out.1, ← HQ1.out.2, ← HQ2.out.1, ← HQ2.out.2, ← HQ3.out.1, ← HQ3.out.2, ← HQ4.out.1, ← HQ4.out.2]; simp [hk1, hk2], fun h => (Bool.false_ne_true h).elim⟩, B0⟩
 ·have hb5 : (k1 == 0) = false := by simp [hk1]
  obtain ⟨xF411_0, xF411_1, xF411_2, xF411_3, xF411_4, xF411_5⟩ := F4.ce6
  obtain ⟨xF411_0f, xF411_1f, xF411_2f, xF411_3f, xF411_4f, xF411_5f⟩ := F4.fr6
  clear F6
  clear F8
  clear F10
  clear F12
  go_wp2
  clear xF411_0 xF411_1 xF411_2 xF411_3 xF411_4 xF411_5 xF411_0f xF411_1f xF411_2f xF411_3f xF411_4f xF411_5f
  replace F4 : Blk ((((((((w4).alloc (.cells #[.bool q4.n, .string (bstr q4.x), .int .i64 q4.e] 38)).setCell ⟨w.heap.size + 1 + 1, 0, none⟩ (.bool false)).setCell ⟨w.heap.size + 1 + 1, 1, none⟩ (.string { data := #[] })).setCell ⟨w.heap.size + 1 + 1, 2, none⟩ (.int .i64 0)).setCell ⟨w.heap.size + 1 + 1, 3, none⟩ (.bool false)).setCell ⟨w.heap.size + 1 + 1, 4, none⟩ (.string { data := #[] })).setCell ⟨w.heap.size + 1 + 1, 5, none⟩ (.int .i64 0)) (w.heap.size + 1 + 1) #[.bool false, .string { data := #[] }, .int .i64 0, .bool false, .string { data := #[] }, .int .i64 0] 44 := ((((((F4.setAt 0 (.bool false)).setAt 1 (.string { data := #[] })).setAt 2 (.int .i64 0)).setAt 3 (.bool false)).setAt 4 (.string { data := #[] })).setAt 5 (.int .i64 0))
  replace B0 := ((((((B0.setCell (p := ⟨w.heap.size + 1 + 1, 0, none⟩) q_w_F4.out (.bool false)).setCell (p := ⟨w.heap.size + 1 + 1, 1, none⟩) q_w_F4.out (.string { data := #[] })).setCell (p := ⟨w.heap.size + 1 + 1, 2, none⟩) q_w_F4.out (.int .i64 0)).setCell (p := ⟨w.heap.size + 1 + 1, 3, none⟩) q_w_F4.out (.bool false)).setCell (p := ⟨w.heap.size + 1 + 1, 4, none⟩) q_w_F4.out (.string { data := #[] })).setCell (p := ⟨w.heap.size + 1 + 1, 5, none⟩) q_w_F4.out (.int .i64 0))
  generalize ((((((((w4).alloc (.cells #[.bool q4.n, .string (bstr q4.x), .int .i64 q4.e] 38)).setCell ⟨w.heap.size + 1 + 1, 0, none⟩ (.bool false)).setCell ⟨w.heap.size + 1 + 1, 1, none⟩ (.string { data := #[] })).setCell ⟨w.heap.size + 1 + 1, 2, none⟩ (.int .i64 0)).setCell ⟨w.heap.size + 1 + 1, 3, none⟩ (.bool false)).setCell ⟨w.heap.size + 1 + 1, 4, none⟩ (.string { data := #[] })).setCell ⟨w.heap.size + 1 + 1, 5, none⟩ (.int .i64 0)) = W7 at F4 B0 ⊢
  obtain ⟨xF412_0, xF412_1, xF412_2, xF412_3, xF412_4, xF412_5⟩ := F4.ce6
  exact bodyPost_ret (v := .tuple #[.agg #[.bool false, .string { data := #[] }, .int .i64 0, .bool false, .string { data := #[] }, .int .i64 0], .bool false]) (by simp [results, Tryz.results15, go_sem, xF412_0, xF412_1, xF412_2, xF412_3, xF412_4, xF412_5]) rfl ⟨⟨DY.zero, DY.zero, false, by rw [show bstr DY.zero.x = ({ data := #[] } : ByteArray) from bstr_zero]; rfl, DY.zero_ok, DY.zero_ok, by simp only [TmOk, ← HQ1.out.1, ← HQ1.out.2, ← HQ2.out.1, ← HQ2.out.2, ← HQ3.out.1, ← HQ3.out.2, ← HQ4.out.1, ← HQ4.out.2]; simp [hk1], fun h => (Bool.false_ne_true h).elim⟩, B0⟩
end Go.Proofs.YtfdnbogbankjjaaGreatDoor
