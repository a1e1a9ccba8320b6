/- filigreelaw04: few, small, three; RatioField. -/
import Derived.Test.YtfbggddmmkmadaaJW
namespace Go.Proofs.Ytfbggddmmkmadaa
open Go Go.RowKit Go.PlainAid Fil

set_option maxHeartbeats 1000000 in
theorem l4few_any (s : ByteArray) (w : World) (h : s.size ≤ 9223372036854775807) : Calls Try.prog 28 #[.string s] w fun r w' => r = .returned (.bool (decide (s.size ≤ 300))) ∧ w = w' := by
  by_cases h3 : s.size ≤ 300
  · have e : decide (s.size ≤ 300) = true := decide_eq_true h3
    rw [e]
    have t : decide ((s.size : Int) ≤ 300) = true := decide_eq_true (by omega)
    clear e
    go_enter Try.func28, Try.ntmps28
    go_wp2
    go_ret
    exact ⟨rfl, rfl⟩
  · have e : decide (s.size ≤ 300) = false := decide_eq_false h3
    rw [e]
    have t : decide ((s.size : Int) ≤ 300) = false := decide_eq_false (by omega)
    clear e
    go_enter Try.func28, Try.ntmps28
    go_wp2
    go_ret
    exact ⟨rfl, rfl⟩
def smallB (S T : ByteArray) : Bool := decide (S.size ≤ 300) && decide (T.size ≤ 300)
set_option maxHeartbeats 2000000 in
theorem l4small_any (N : Bool) (S T : ByteArray) (w : World) (hS : S.size ≤ 9223372036854775807) (hT : T.size ≤ 9223372036854775807) : Calls Try.prog 13 #[.agg #[.bool N, .string S, .string T]] w fun r w' => r = .returned (.bool (smallB S T)) ∧ Below w.heap.size w w' := by
  have h1 := fun W => l4few_any S W hS
  have h2 := fun W => l4few_any T W hT
  unfold smallB
  generalize decide (S.size ≤ 300) = x at *
  generalize decide (T.size ≤ 300) = y at *
  have hb := (Below.refl w.heap.size w).alloc (Nat.le_refl _) (.cells #[.bool N, .string S, .string T] 25)
  cases x
  · go_enter Try.func13, Try.ntmps13
    go_wp2_with fail
    refine (h1 _).mono ?_
    rintro r w1 ⟨rfl, rfl⟩
    go_wp2_with fail
    go_ret
    exact ⟨rfl, hb⟩
  · go_enter Try.func13, Try.ntmps13
    go_wp2_with fail
    refine (h1 _).mono ?_
    rintro r w1 ⟨rfl, rfl⟩
    go_wp2_with fail
    refine (h2 _).mono ?_
    rintro r w1 ⟨rfl, rfl⟩
    go_wp2_with fail
    go_ret
    exact ⟨rfl, hb⟩
set_option maxRecDepth 100000 in
set_option maxHeartbeats 8000000 in
theorem three_0 (xn : Bool) (xS xT : ByteArray) (yn : Bool) (yS yT : ByteArray) (zn : Bool) (zS zT : ByteArray) (w : World) (h0 : ∀ W, Calls Try.prog 13 #[.agg #[.bool xn, .string xS, .string xT]] W fun r w' => r = .returned (.bool false) ∧ Below W.heap.size W w') : Calls Try.prog 7 #[.agg #[.bool xn, .string xS, .string xT], .agg #[.bool yn, .string yS, .string yT], .agg #[.bool zn, .string zS, .string zT]] w fun r w' => r = .returned (.bool false) ∧ Below w.heap.size w w' := by
  go_enter Try.func7, Try.ntmps7
  have B0 := Below.refl w.heap.size w
  have F3 := Blk.put (w) #[.bool xn, .string xS, .string xT] 25
  replace B0 := B0.alloc B0.size (.cells #[.bool xn, .string xS, .string xT] 25)
  replace F3 := F3.allocd (.cells #[.bool yn, .string yS, .string yT] 25)
  replace B0 := B0.alloc B0.size (.cells #[.bool yn, .string yS, .string yT] 25)
  replace F3 := F3.allocd (.cells #[.bool zn, .string zS, .string zT] 25)
  replace B0 := B0.alloc B0.size (.cells #[.bool zn, .string zS, .string zT] 25)
  obtain ⟨xF30_0, xF30_1, xF30_2⟩ := F3.ce3
  go_wp2_with fail
  (with_reducible refine (h0 _).mono ?_)
  rintro r w1 ⟨rfl, hb1⟩
  clear xF30_0 xF30_1 xF30_2
  replace F3 := F3.keep hb1
  replace B0 := B0.trans (hb1.mono B0.size)
  clear hb1
  go_wp2
  go_ret
  exact ⟨rfl, B0⟩
set_option maxRecDepth 100000 in
set_option maxHeartbeats 8000000 in
theorem three_1 (xn : Bool) (xS xT : ByteArray) (yn : Bool) (yS yT : ByteArray) (zn : Bool) (zS zT : ByteArray) (w : World) (h0 : ∀ W, Calls Try.prog 13 #[.agg #[.bool xn, .string xS, .string xT]] W fun r w' => r = .returned (.bool true) ∧ Below W.heap.size W w') (h1 : ∀ W, Calls Try.prog 13 #[.agg #[.bool yn, .string yS, .string yT]] W fun r w' => r = .returned (.bool false) ∧ Below W.heap.size W w') : Calls Try.prog 7 #[.agg #[.bool xn, .string xS, .string xT], .agg #[.bool yn, .string yS, .string yT], .agg #[.bool zn, .string zS, .string zT]] w fun r w' => r = .returned (.bool false) ∧ Below w.heap.size w w' := by
  go_enter Try.func7, Try.ntmps7
  have B0 := Below.refl w.heap.size w
  have F3 := Blk.put (w) #[.bool xn, .string xS, .string xT] 25
  replace B0 := B0.alloc B0.size (.cells #[.bool xn, .string xS, .string xT] 25)
  replace F3 := F3.allocd (.cells #[.bool yn, .string yS, .string yT] 25)
  have F4 := Blk.put ((w).alloc (.cells #[.bool xn, .string xS, .string xT] 25)) #[.bool yn, .string yS, .string yT] 25
  rw [show ((w).alloc (.cells #[.bool xn, .string xS, .string xT] 25)).heap.size = w.heap.size + 1 by simp] at F4
  replace B0 := B0.alloc B0.size (.cells #[.bool yn, .string yS, .string yT] 25)
  replace F3 := F3.allocd (.cells #[.bool zn, .string zS, .string zT] 25)
  replace F4 := F4.allocd (.cells #[.bool zn, .string zS, .string zT] 25)
  replace B0 := B0.alloc B0.size (.cells #[.bool zn, .string zS, .string zT] 25)
  obtain ⟨xF30_0, xF30_1, xF30_2⟩ := F3.ce3
  go_wp2_with fail
  (with_reducible refine (h0 _).mono ?_)
  rintro r w1 ⟨rfl, hb1⟩
  clear xF30_0 xF30_1 xF30_2
  replace F3 := F3.keep hb1
  replace F4 := F4.keep hb1
  replace B0 := B0.trans (hb1.mono B0.size)
  clear hb1
  obtain ⟨xF41_0, xF41_1, xF41_2⟩ := F4.ce3
  go_wp2_with fail
  (with_reducible refine (h1 _).mono ?_)
  rintro r w2 ⟨rfl, hb2⟩
  clear xF41_0 xF41_1 xF41_2
  clear F3
  replace F4 := F4.keep hb2
  replace B0 := B0.trans (hb2.mono B0.size)
  clear hb2
  go_wp2
  go_ret
  exact ⟨rfl, B0⟩
set_option maxRecDepth 100000 in
set_option maxHeartbeats 8000000 in
theorem three_2 (xn : Bool) (xS xT : ByteArray) (yn : Bool) (yS yT : ByteArray) (zn : Bool) (zS zT : ByteArray) (w : World) (h0 : ∀ W, Calls Try.prog 13 #[.agg #[.bool xn, .string xS, .string xT]] W fun r w' => r = .returned (.bool true) ∧ Below W.heap.size W w') (h1 : ∀ W, Calls Try.prog 13 #[.agg #[.bool yn, .string yS, .string yT]] W fun r w' => r = .returned (.bool true) ∧ Below W.heap.size W w') (h2 : ∀ W, Calls Try.prog 13 #[.agg #[.bool zn, .string zS, .string zT]] W fun r w' => r = .returned (.bool false) ∧ Below W.heap.size W w') : Calls Try.prog 7 #[.agg #[.bool xn, .string xS, .string xT], .agg #[.bool yn, .string yS, .string yT], .agg #[.bool zn, .string zS, .string zT]] w fun r w' => r = .returned (.bool false) ∧ Below w.heap.size w w' := by
  go_enter Try.func7, Try.ntmps7
  have B0 := Below.refl w.heap.size w
  have F3 := Blk.put (w) #[.bool xn, .string xS, .string xT] 25
  replace B0 := B0.alloc B0.size (.cells #[.bool xn, .string xS, .string xT] 25)
  replace F3 := F3.allocd (.cells #[.bool yn, .string yS, .string yT] 25)
  have F4 := Blk.put ((w).alloc (.cells #[.bool xn, .string xS, .string xT] 25)) #[.bool yn, .string yS, .string yT] 25
  rw [show ((w).alloc (.cells #[.bool xn, .string xS, .string xT] 25)).heap.size = w.heap.size + 1 by simp] at F4
  replace B0 := B0.alloc B0.size (.cells #[.bool yn, .string yS, .string yT] 25)
  replace F3 := F3.allocd (.cells #[.bool zn, .string zS, .string zT] 25)
  replace F4 := F4.allocd (.cells #[.bool zn, .string zS, .string zT] 25)
  have F5 := Blk.put (((w).alloc (.cells #[.bool xn, .string xS, .string xT] 25)).alloc (.cells #[.bool yn, .string yS, .string yT] 25)) #[.bool zn, .string zS, .string zT] 25
  rw [show (((w).alloc (.cells #[.bool xn, .string xS, .string xT] 25)).alloc (.cells #[.bool yn, .string yS, .string yT] 25)).heap.size = w.heap.size + 1 + 1 by simp] at F5
  replace B0 := B0.alloc B0.size (.cells #[.bool zn, .string zS, .string zT] 25)
  obtain ⟨xF30_0, xF30_1, xF30_2⟩ := F3.ce3
  go_wp2_with fail
  (with_reducible refine (h0 _).mono ?_)
  rintro r w1 ⟨rfl, hb1⟩
  clear xF30_0 xF30_1 xF30_2
  replace F3 := F3.keep hb1
  replace F4 := F4.keep hb1
  replace F5 := F5.keep hb1
  replace B0 := B0.trans (hb1.mono B0.size)
  clear hb1
  obtain ⟨xF41_0, xF41_1, xF41_2⟩ := F4.ce3
  go_wp2_with fail
  (with_reducible refine (h1 _).mono ?_)
  rintro r w2 ⟨rfl, hb2⟩
  clear xF41_0 xF41_1 xF41_2
  clear F3
  replace F4 := F4.keep hb2
  replace F5 := F5.keep hb2
  replace B0 := B0.trans (hb2.mono B0.size)
  clear hb2
  obtain ⟨xF52_0, xF52_1, xF52_2⟩ := F5.ce3
  go_wp2_with fail
  (with_reducible refine (h2 _).mono ?_)
  rintro r w3 ⟨rfl, hb3⟩
  clear xF52_0 xF52_1 xF52_2
  clear F4
  replace F5 := F5.keep hb3
  replace B0 := B0.trans (hb3.mono B0.size)
  clear hb3
  go_wp2
  go_ret
  exact ⟨rfl, B0⟩
set_option maxRecDepth 100000 in
set_option maxHeartbeats 8000000 in
theorem three_3 (xn : Bool) (xS xT : ByteArray) (yn : Bool) (yS yT : ByteArray) (zn : Bool) (zS zT : ByteArray) (w : World) (h0 : ∀ W, Calls Try.prog 13 #[.agg #[.bool xn, .string xS, .string xT]] W fun r w' => r = .returned (.bool true) ∧ Below W.heap.size W w') (h1 : ∀ W, Calls Try.prog 13 #[.agg #[.bool yn, .string yS, .string yT]] W fun r w' => r = .returned (.bool true) ∧ Below W.heap.size W w') (h2 : ∀ W, Calls Try.prog 13 #[.agg #[.bool zn, .string zS, .string zT]] W fun r w' => r = .returned (.bool true) ∧ Below W.heap.size W w') (h3 : ∀ W, Calls Try.prog 14 #[.agg #[.bool xn, .string xS, .string xT]] W fun r w' => r = .returned (.bool false) ∧ Below W.heap.size W w') : Calls Try.prog 7 #[.agg #[.bool xn, .string xS, .string xT], .agg #[.bool yn, .string yS, .string yT], .agg #[.bool zn, .string zS, .string zT]] w fun r w' => r = .returned (.bool false) ∧ Below w.heap.size w w' := by
  go_enter Try.func7, Try.ntmps7
  have B0 := Below.refl w.heap.size w
  have F3 := Blk.put (w) #[.bool xn, .string xS, .string xT] 25
  replace B0 := B0.alloc B0.size (.cells #[.bool xn, .string xS, .string xT] 25)
  replace F3 := F3.allocd (.cells #[.bool yn, .string yS, .string yT] 25)
  have F4 := Blk.put ((w).alloc (.cells #[.bool xn, .string xS, .string xT] 25)) #[.bool yn, .string yS, .string yT] 25
  rw [show ((w).alloc (.cells #[.bool xn, .string xS, .string xT] 25)).heap.size = w.heap.size + 1 by simp] at F4
  replace B0 := B0.alloc B0.size (.cells #[.bool yn, .string yS, .string yT] 25)
  replace F3 := F3.allocd (.cells #[.bool zn, .string zS, .string zT] 25)
  replace F4 := F4.allocd (.cells #[.bool zn, .string zS, .string zT] 25)
  have F5 := Blk.put (((w).alloc (.cells #[.bool xn, .string xS, .string xT] 25)).alloc (.cells #[.bool yn, .string yS, .string yT] 25)) #[.bool zn, .string zS, .string zT] 25
  rw [show (((w).alloc (.cells #[.bool xn, .string xS, .string xT] 25)).alloc (.cells #[.bool yn, .string yS, .string yT] 25)).heap.size = w.heap.size + 1 + 1 by simp] at F5
  replace B0 := B0.alloc B0.size (.cells #[.bool zn, .string zS, .string zT] 25)
  obtain ⟨xF30_0, xF30_1, xF30_2⟩ := F3.ce3
  go_wp2_with fail
  (with_reducible refine (h0 _).mono ?_)
  rintro r w1 ⟨rfl, hb1⟩
  clear xF30_0 xF30_1 xF30_2
  replace F3 := F3.keep hb1
  replace F4 := F4.keep hb1
  replace F5 := F5.keep hb1
  replace B0 := B0.trans (hb1.mono B0.size)
  clear hb1
  obtain ⟨xF41_0, xF41_1, xF41_2⟩ := F4.ce3
  go_wp2_with fail
  (with_reducible refine (h1 _).mono ?_)
  rintro r w2 ⟨rfl, hb2⟩
  clear xF41_0 xF41_1 xF41_2
  replace F3 := F3.keep hb2
  replace F4 := F4.keep hb2
  replace F5 := F5.keep hb2
  replace B0 := B0.trans (hb2.mono B0.size)
  clear hb2
  obtain ⟨xF52_0, xF52_1, xF52_2⟩ := F5.ce3
  go_wp2_with fail
  (with_reducible refine (h2 _).mono ?_)
  rintro r w3 ⟨rfl, hb3⟩
  clear xF52_0 xF52_1 xF52_2
  replace F3 := F3.keep hb3
  clear F4
  replace F5 := F5.keep hb3
  replace B0 := B0.trans (hb3.mono B0.size)
  clear hb3
  obtain ⟨xF33_0, xF33_1, xF33_2⟩ := F3.ce3
  go_wp2_with fail
  (with_reducible refine (h3 _).mono ?_)
  rintro r w4 ⟨rfl, hb4⟩
  clear xF33_0 xF33_1 xF33_2
  replace F3 := F3.keep hb4
  clear F5
  replace B0 := B0.trans (hb4.mono B0.size)
  clear hb4
  go_wp2
  go_ret
  exact ⟨rfl, B0⟩
set_option maxRecDepth 100000 in
set_option maxHeartbeats 8000000 in
theorem three_4 (xn : Bool) (xS xT : ByteArray) (yn : Bool) (yS yT : ByteArray) (zn : Bool) (zS zT : ByteArray) (w : World) (h0 : ∀ W, Calls Try.prog 13 #[.agg #[.bool xn, .string xS, .string xT]] W fun r w' => r = .returned (.bool true) ∧ Below W.heap.size W w') (h1 : ∀ W, Calls Try.prog 13 #[.agg #[.bool yn, .string yS, .string yT]] W fun r w' => r = .returned (.bool true) ∧ Below W.heap.size W w') (h2 : ∀ W, Calls Try.prog 13 #[.agg #[.bool zn, .string zS, .string zT]] W fun r w' => r = .returned (.bool true) ∧ Below W.heap.size W w') (h3 : ∀ W, Calls Try.prog 14 #[.agg #[.bool xn, .string xS, .string xT]] W fun r w' => r = .returned (.bool true) ∧ Below W.heap.size W w') (h4 : ∀ W, Calls Try.prog 14 #[.agg #[.bool yn, .string yS, .string yT]] W fun r w' => r = .returned (.bool false) ∧ Below W.heap.size W w') : Calls Try.prog 7 #[.agg #[.bool xn, .string xS, .string xT], .agg #[.bool yn, .string yS, .string yT], .agg #[.bool zn, .string zS, .string zT]] w fun r w' => r = .returned (.bool false) ∧ Below w.heap.size w w' := by
  go_enter Try.func7, Try.ntmps7
  have B0 := Below.refl w.heap.size w
  have F3 := Blk.put (w) #[.bool xn, .string xS, .string xT] 25
  replace B0 := B0.alloc B0.size (.cells #[.bool xn, .string xS, .string xT] 25)
  replace F3 := F3.allocd (.cells #[.bool yn, .string yS, .string yT] 25)
  have F4 := Blk.put ((w).alloc (.cells #[.bool xn, .string xS, .string xT] 25)) #[.bool yn, .string yS, .string yT] 25
  rw [show ((w).alloc (.cells #[.bool xn, .string xS, .string xT] 25)).heap.size = w.heap.size + 1 by simp] at F4
  replace B0 := B0.alloc B0.size (.cells #[.bool yn, .string yS, .string yT] 25)
  replace F3 := F3.allocd (.cells #[.bool zn, .string zS, .string zT] 25)
  replace F4 := F4.allocd (.cells #[.bool zn, .string zS, .string zT] 25)
  have F5 := Blk.put (((w).alloc (.cells #[.bool xn, .string xS, .string xT] 25)).alloc (.cells #[.bool yn, .string yS, .string yT] 25)) #[.bool zn, .string zS, .string zT] 25
  rw [show (((w).alloc (.cells #[.bool xn, .string xS, .string xT] 25)).alloc (.cells #[.bool yn, .string yS, .string yT] 25)).heap.size = w.heap.size + 1 + 1 by simp] at F5
  replace B0 := B0.alloc B0.size (.cells #[.bool zn, .string zS, .string zT] 25)
  obtain ⟨xF30_0, xF30_1, xF30_2⟩ := F3.ce3
  go_wp2_with fail
  (with_reducible refine (h0 _).mono ?_)
  rintro r w1 ⟨rfl, hb1⟩
  clear xF30_0 xF30_1 xF30_2
  replace F3 := F3.keep hb1
  replace F4 := F4.keep hb1
  replace F5 := F5.keep hb1
  replace B0 := B0.trans (hb1.mono B0.size)
  clear hb1
  obtain ⟨xF41_0, xF41_1, xF41_2⟩ := F4.ce3
  go_wp2_with fail
  (with_reducible refine (h1 _).mono ?_)
  rintro r w2 ⟨rfl, hb2⟩
  clear xF41_0 xF41_1 xF41_2
  replace F3 := F3.keep hb2
  replace F4 := F4.keep hb2
  replace F5 := F5.keep hb2
  replace B0 := B0.trans (hb2.mono B0.size)
  clear hb2
  obtain ⟨xF52_0, xF52_1, xF52_2⟩ := F5.ce3
  go_wp2_with fail
  (with_reducible refine (h2 _).mono ?_)
  rintro r w3 ⟨rfl, hb3⟩
  clear xF52_0 xF52_1 xF52_2
  replace F3 := F3.keep hb3
  replace F4 := F4.keep hb3
  replace F5 := F5.keep hb3
  replace B0 := B0.trans (hb3.mono B0.size)
  clear hb3
  obtain ⟨xF33_0, xF33_1, xF33_2⟩ := F3.ce3
  go_wp2_with fail
  (with_reducible refine (h3 _).mono ?_)
  rintro r w4 ⟨rfl, hb4⟩
  clear xF33_0 xF33_1 xF33_2
  replace F3 := F3.keep hb4
  replace F4 := F4.keep hb4
  clear F5
  replace B0 := B0.trans (hb4.mono B0.size)
  clear hb4
  obtain ⟨xF44_0, xF44_1, xF44_2⟩ := F4.ce3
  go_wp2_with fail
  (with_reducible refine (h4 _).mono ?_)
  rintro r w5 ⟨rfl, hb5⟩
  clear xF44_0 xF44_1 xF44_2
  clear F3
  replace F4 := F4.keep hb5
  replace B0 := B0.trans (hb5.mono B0.size)
  clear hb5
  go_wp2
  go_ret
  exact ⟨rfl, B0⟩
set_option maxRecDepth 100000 in
set_option maxHeartbeats 8000000 in
theorem three_5 (xn : Bool) (xS xT : ByteArray) (yn : Bool) (yS yT : ByteArray) (zn : Bool) (zS zT : ByteArray) (w : World) (h0 : ∀ W, Calls Try.prog 13 #[.agg #[.bool xn, .string xS, .string xT]] W fun r w' => r = .returned (.bool true) ∧ Below W.heap.size W w') (h1 : ∀ W, Calls Try.prog 13 #[.agg #[.bool yn, .string yS, .string yT]] W fun r w' => r = .returned (.bool true) ∧ Below W.heap.size W w') (h2 : ∀ W, Calls Try.prog 13 #[.agg #[.bool zn, .string zS, .string zT]] W fun r w' => r = .returned (.bool true) ∧ Below W.heap.size W w') (h3 : ∀ W, Calls Try.prog 14 #[.agg #[.bool xn, .string xS, .string xT]] W fun r w' => r = .returned (.bool true) ∧ Below W.heap.size W w') (h4 : ∀ W, Calls Try.prog 14 #[.agg #[.bool yn, .string yS, .string yT]] W fun r w' => r = .returned (.bool true) ∧ Below W.heap.size W w') (h5 : ∀ W, Calls Try.prog 14 #[.agg #[.bool zn, .string zS, .string zT]] W fun r w' => r = .returned (.bool false) ∧ Below W.heap.size W w') : Calls Try.prog 7 #[.agg #[.bool xn, .string xS, .string xT], .agg #[.bool yn, .string yS, .string yT], .agg #[.bool zn, .string zS, .string zT]] w fun r w' => r = .returned (.bool false) ∧ Below w.heap.size w w' := by
  go_enter Try.func7, Try.ntmps7
  have B0 := Below.refl w.heap.size w
  have F3 := Blk.put (w) #[.bool xn, .string xS, .string xT] 25
  replace B0 := B0.alloc B0.size (.cells #[.bool xn, .string xS, .string xT] 25)
  replace F3 := F3.allocd (.cells #[.bool yn, .string yS, .string yT] 25)
  have F4 := Blk.put ((w).alloc (.cells #[.bool xn, .string xS, .string xT] 25)) #[.bool yn, .string yS, .string yT] 25
  rw [show ((w).alloc (.cells #[.bool xn, .string xS, .string xT] 25)).heap.size = w.heap.size + 1 by simp] at F4
  replace B0 := B0.alloc B0.size (.cells #[.bool yn, .string yS, .string yT] 25)
  replace F3 := F3.allocd (.cells #[.bool zn, .string zS, .string zT] 25)
  replace F4 := F4.allocd (.cells #[.bool zn, .string zS, .string zT] 25)
  have F5 := Blk.put (((w).alloc (.cells #[.bool xn, .string xS, .string xT] 25)).alloc (.cells #[.bool yn, .string yS, .string yT] 25)) #[.bool zn, .string zS, .string zT] 25
  rw [show (((w).alloc (.cells #[.bool xn, .string xS, .string xT] 25)).alloc (.cells #[.bool yn, .string yS, .string yT] 25)).heap.size = w.heap.size + 1 + 1 by simp] at F5
  replace B0 := B0.alloc B0.size (.cells #[.bool zn, .string zS, .string zT] 25)
  obtain ⟨xF30_0, xF30_1, xF30_2⟩ := F3.ce3
  go_wp2_with fail
  (with_reducible refine (h0 _).mono ?_)
  rintro r w1 ⟨rfl, hb1⟩
  clear xF30_0 xF30_1 xF30_2
  replace F3 := F3.keep hb1
  replace F4 := F4.keep hb1
  replace F5 := F5.keep hb1
  replace B0 := B0.trans (hb1.mono B0.size)
  clear hb1
  obtain ⟨xF41_0, xF41_1, xF41_2⟩ := F4.ce3
  go_wp2_with fail
  (with_reducible refine (h1 _).mono ?_)
  rintro r w2 ⟨rfl, hb2⟩
  clear xF41_0 xF41_1 xF41_2
  replace F3 := F3.keep hb2
  replace F4 := F4.keep hb2
  replace F5 := F5.keep hb2
  replace B0 := B0.trans (hb2.mono B0.size)
  clear hb2
  obtain ⟨xF52_0, xF52_1, xF52_2⟩ := F5.ce3
  go_wp2_with fail
  (with_reducible refine (h2 _).mono ?_)
  rintro r w3 ⟨rfl, hb3⟩
  clear xF52_0 xF52_1 xF52_2
  replace F3 := F3.keep hb3
  replace F4 := F4.keep hb3
  replace F5 := F5.keep hb3
  replace B0 := B0.trans (hb3.mono B0.size)
  clear hb3
  obtain ⟨xF33_0, xF33_1, xF33_2⟩ := F3.ce3
  go_wp2_with fail
  (with_reducible refine (h3 _).mono ?_)
  rintro r w4 ⟨rfl, hb4⟩
  clear xF33_0 xF33_1 xF33_2
  replace F3 := F3.keep hb4
  replace F4 := F4.keep hb4
  replace F5 := F5.keep hb4
  replace B0 := B0.trans (hb4.mono B0.size)
  clear hb4
  obtain ⟨xF44_0, xF44_1, xF44_2⟩ := F4.ce3
  go_wp2_with fail
  (with_reducible refine (h4 _).mono ?_)
  rintro r w5 ⟨rfl, hb5⟩
  clear xF44_0 xF44_1 xF44_2
  clear F3
  replace F4 := F4.keep hb5
  replace F5 := F5.keep hb5
  replace B0 := B0.trans (hb5.mono B0.size)
  clear hb5
  obtain ⟨xF55_0, xF55_1, xF55_2⟩ := F5.ce3
  go_wp2_with fail
  (with_reducible refine (h5 _).mono ?_)
  rintro r w6 ⟨rfl, hb6⟩
  clear xF55_0 xF55_1 xF55_2
  clear F4
  replace F5 := F5.keep hb6
  replace B0 := B0.trans (hb6.mono B0.size)
  clear hb6
  go_wp2
  go_ret
  exact ⟨rfl, B0⟩
set_option maxRecDepth 100000 in
set_option maxHeartbeats 8000000 in
theorem three_6 (xn : Bool) (xS xT : ByteArray) (yn : Bool) (yS yT : ByteArray) (zn : Bool) (zS zT : ByteArray) (w : World) (h0 : ∀ W, Calls Try.prog 13 #[.agg #[.bool xn, .string xS, .string xT]] W fun r w' => r = .returned (.bool true) ∧ Below W.heap.size W w') (h1 : ∀ W, Calls Try.prog 13 #[.agg #[.bool yn, .string yS, .string yT]] W fun r w' => r = .returned (.bool true) ∧ Below W.heap.size W w') (h2 : ∀ W, Calls Try.prog 13 #[.agg #[.bool zn, .string zS, .string zT]] W fun r w' => r = .returned (.bool true) ∧ Below W.heap.size W w') (h3 : ∀ W, Calls Try.prog 14 #[.agg #[.bool xn, .string xS, .string xT]] W fun r w' => r = .returned (.bool true) ∧ Below W.heap.size W w') (h4 : ∀ W, Calls Try.prog 14 #[.agg #[.bool yn, .string yS, .string yT]] W fun r w' => r = .returned (.bool true) ∧ Below W.heap.size W w') (h5 : ∀ W, Calls Try.prog 14 #[.agg #[.bool zn, .string zS, .string zT]] W fun r w' => r = .returned (.bool true) ∧ Below W.heap.size W w') (hz : xS.size + yS.size + zS.size + xT.size + yT.size + zT.size < 2000) : Calls Try.prog 7 #[.agg #[.bool xn, .string xS, .string xT], .agg #[.bool yn, .string yS, .string yT], .agg #[.bool zn, .string zS, .string zT]] w fun r w' => r = .returned (.bool true) ∧ Below w.heap.size w w' := by
  have hzd : decide ((xS.size : Int) + yS.size + zS.size + xT.size + yT.size + zT.size < 2000) = true := decide_eq_true (by omega)
  go_enter Try.func7, Try.ntmps7
  have B0 := Below.refl w.heap.size w
  have F3 := Blk.put (w) #[.bool xn, .string xS, .string xT] 25
  replace B0 := B0.alloc B0.size (.cells #[.bool xn, .string xS, .string xT] 25)
  replace F3 := F3.allocd (.cells #[.bool yn, .string yS, .string yT] 25)
  have F4 := Blk.put ((w).alloc (.cells #[.bool xn, .string xS, .string xT] 25)) #[.bool yn, .string yS, .string yT] 25
  rw [show ((w).alloc (.cells #[.bool xn, .string xS, .string xT] 25)).heap.size = w.heap.size + 1 by simp] at F4
  replace B0 := B0.alloc B0.size (.cells #[.bool yn, .string yS, .string yT] 25)
  replace F3 := F3.allocd (.cells #[.bool zn, .string zS, .string zT] 25)
  replace F4 := F4.allocd (.cells #[.bool zn, .string zS, .string zT] 25)
  have F5 := Blk.put (((w).alloc (.cells #[.bool xn, .string xS, .string xT] 25)).alloc (.cells #[.bool yn, .string yS, .string yT] 25)) #[.bool zn, .string zS, .string zT] 25
  rw [show (((w).alloc (.cells #[.bool xn, .string xS, .string xT] 25)).alloc (.cells #[.bool yn, .string yS, .string yT] 25)).heap.size = w.heap.size + 1 + 1 by simp] at F5
  replace B0 := B0.alloc B0.size (.cells #[.bool zn, .string zS, .string zT] 25)
  obtain ⟨xF30_0, xF30_1, xF30_2⟩ := F3.ce3
  go_wp2_with fail
  (with_reducible refine (h0 _).mono ?_)
  rintro r w1 ⟨rfl, hb1⟩
  clear xF30_0 xF30_1 xF30_2
  replace F3 := F3.keep hb1
  replace F4 := F4.keep hb1
  replace F5 := F5.keep hb1
  replace B0 := B0.trans (hb1.mono B0.size)
  clear hb1
  obtain ⟨xF41_0, xF41_1, xF41_2⟩ := F4.ce3
  go_wp2_with fail
  (with_reducible refine (h1 _).mono ?_)
  rintro r w2 ⟨rfl, hb2⟩
  clear xF41_0 xF41_1 xF41_2
  replace F3 := F3.keep hb2
  replace F4 := F4.keep hb2
  replace F5 := F5.keep hb2
  replace B0 := B0.trans (hb2.mono B0.size)
  clear hb2
  obtain ⟨xF52_0, xF52_1, xF52_2⟩ := F5.ce3
  go_wp2_with fail
  (with_reducible refine (h2 _).mono ?_)
  rintro r w3 ⟨rfl, hb3⟩
  clear xF52_0 xF52_1 xF52_2
  replace F3 := F3.keep hb3
  replace F4 := F4.keep hb3
  replace F5 := F5.keep hb3
  replace B0 := B0.trans (hb3.mono B0.size)
  clear hb3
  obtain ⟨xF33_0, xF33_1, xF33_2⟩ := F3.ce3
  go_wp2_with fail
  (with_reducible refine (h3 _).mono ?_)
  rintro r w4 ⟨rfl, hb4⟩
  clear xF33_0 xF33_1 xF33_2
  replace F3 := F3.keep hb4
  replace F4 := F4.keep hb4
  replace F5 := F5.keep hb4
  replace B0 := B0.trans (hb4.mono B0.size)
  clear hb4
  obtain ⟨xF44_0, xF44_1, xF44_2⟩ := F4.ce3
  go_wp2_with fail
  (with_reducible refine (h4 _).mono ?_)
  rintro r w5 ⟨rfl, hb5⟩
  clear xF44_0 xF44_1 xF44_2
  replace F3 := F3.keep hb5
  replace F4 := F4.keep hb5
  replace F5 := F5.keep hb5
  replace B0 := B0.trans (hb5.mono B0.size)
  clear hb5
  obtain ⟨xF55_0, xF55_1, xF55_2⟩ := F5.ce3
  go_wp2_with fail
  (with_reducible refine (h5 _).mono ?_)
  rintro r w6 ⟨rfl, hb6⟩
  clear xF55_0 xF55_1 xF55_2
  replace F3 := F3.keep hb6
  replace F4 := F4.keep hb6
  replace F5 := F5.keep hb6
  replace B0 := B0.trans (hb6.mono B0.size)
  clear hb6
  obtain ⟨xF36_0, xF36_1, xF36_2⟩ := F3.ce3
  obtain ⟨xF46_0, xF46_1, xF46_2⟩ := F4.ce3
  obtain ⟨xF56_0, xF56_1, xF56_2⟩ := F5.ce3
  go_wp2
  go_ret
  exact ⟨rfl, B0⟩
def threeB (xn : Bool) (xS xT : ByteArray) (yn : Bool) (yS yT : ByteArray) (zn : Bool) (zS zT : ByteArray) : Bool := smallB xS xT && smallB yS yT && smallB zS zT && kMayB xn xS xT && kMayB yn yS yT && kMayB zn zS zT
theorem small_sizes {S T : ByteArray} (h : smallB S T = true) : S.size ≤ 300 ∧ T.size ≤ 300 := by
  unfold smallB at h
  rw [Bool.and_eq_true] at h
  exact ⟨of_decide_eq_true h.1, of_decide_eq_true h.2⟩
theorem l4three_any (xn : Bool) (xS xT : ByteArray) (yn : Bool) (yS yT : ByteArray) (zn : Bool) (zS zT : ByteArray) (w : World) (b1 : xS.size ≤ 9223372036854775807) (b2 : xT.size ≤ 9223372036854775807) (b3 : yS.size ≤ 9223372036854775807) (b4 : yT.size ≤ 9223372036854775807) (b5 : zS.size ≤ 9223372036854775807) (b6 : zT.size ≤ 9223372036854775807) :
    Calls Try.prog 7 #[.agg #[.bool xn, .string xS, .string xT], .agg #[.bool yn, .string yS, .string yT], .agg #[.bool zn, .string zS, .string zT]] w fun r w' => r = .returned (.bool (threeB xn xS xT yn yS yT zn zS zT)) ∧ Below w.heap.size w w' := by
  have h0 := fun W => l4small_any xn xS xT W b1 b2
  have h1 := fun W => l4small_any yn yS yT W b3 b4
  have h2 := fun W => l4small_any zn zS zT W b5 b6
  have h3 := fun W => kmay_any xn xS xT W b1 b2
  have h4 := fun W => kmay_any yn yS yT W b3 b4
  have h5 := fun W => kmay_any zn zS zT W b5 b6
  unfold threeB
  cases e0 : smallB xS xT
  · rw [e0] at h0; exact three_0 xn xS xT yn yS yT zn zS zT w h0
  rw [e0] at h0
  cases e1 : smallB yS yT
  · rw [e1] at h1; exact three_1 xn xS xT yn yS yT zn zS zT w h0 h1
  rw [e1] at h1
  cases e2 : smallB zS zT
  · rw [e2] at h2; exact three_2 xn xS xT yn yS yT zn zS zT w h0 h1 h2
  rw [e2] at h2
  cases e3 : kMayB xn xS xT
  · rw [e3] at h3; exact three_3 xn xS xT yn yS yT zn zS zT w h0 h1 h2 h3
  rw [e3] at h3
  cases e4 : kMayB yn yS yT
  · rw [e4] at h4; exact three_4 xn xS xT yn yS yT zn zS zT w h0 h1 h2 h3 h4
  rw [e4] at h4
  cases e5 : kMayB zn zS zT
  · rw [e5] at h5; exact three_5 xn xS xT yn yS yT zn zS zT w h0 h1 h2 h3 h4 h5
  rw [e5] at h5
  have z0 := small_sizes e0
  have z1 := small_sizes e1
  have z2 := small_sizes e2
  exact three_6 xn xS xT yn yS yT zn zS zT w h0 h1 h2 h3 h4 h5 (by omega)
end Go.Proofs.Ytfbggddmmkmadaa
