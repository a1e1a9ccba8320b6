/- DyadTexts: its ways, by letters. -/
import Derived.Test.YtjldfclncipbgaaGreatDoorMU
namespace Go.Proofs.YtjldfclncipbgaaGreatDoor
open Go Go.RowKit Go.PlainAid Fil

set_option maxRecDepth 1000000 in
set_option maxHeartbeats 16000000 in
theorem dtexts_bad (s : ByteArray) (xn : Bool) (xS : ByteArray) (xe : Int) (yn : Bool) (yS : ByteArray) (ye f : Int) (w : World) (hS : ∀ W, Below w.heap.size w W → Calls Tryz.prog 7 #[.agg #[.bool xn, .string xS, .int .i64 xe]] W fun r w' => r = .returned (.tuple #[.string { data := #[] }, .int .i64 2]) ∧ Below W.heap.size W w')
    (hR : ∀ W, Below w.heap.size w W → Calls Tryz.prog 8 #[.string s] W fun r w' => r = .returned (.tuple #[.agg #[.bool yn, .string yS, .int .i64 ye], .int .i64 f]) ∧ Below W.heap.size W w')
    (hr : ∀ W, Calls Tryz.prog 9 #[.string s] W fun r w' => r = .returned (.tuple #[.agg #[.bool yn, .string yS, .int .i64 ye], .int .i64 f]) ∧ Below W.heap.size W w')
    (hM : ∀ W, Calls Tryz.prog 10 #[.agg #[.bool xn, .string xS, .int .i64 xe]] W fun r w' => r = .returned (.bool false) ∧ Below W.heap.size W w')
    (hl : ∀ W, Below w.heap.size w W → Calls Tryz.prog 11 #[] W fun r w' => r = .returned (.bool true) ∧ Below W.heap.size W w') :
    Calls Tryz.prog 3 #[.agg #[.bool xn, .string xS, .int .i64 xe], .string s] w fun r w' => r = .returned (.bool true) ∧ Below w.heap.size w w' := by
  go_enter Tryz.func3, Tryz.ntmps3
  have B0 := Below.refl w.heap.size w
  have F2 := Blk.put (w) #[.bool xn, .string xS, .int .i64 xe] 24
  replace B0 := B0.alloc B0.size (.cells #[.bool xn, .string xS, .int .i64 xe] 24)
  obtain ⟨xF20_0, xF20_1, xF20_2⟩ := F2.ce3
  go_wp2_with fail
  (with_reducible refine (hS _ B0).mono ?_)
  rintro r w1 ⟨rfl, hb1⟩
  clear xF20_0 xF20_1 xF20_2
  replace F2 := F2.keep hb1
  replace B0 := B0.trans (hb1.mono B0.size)
  clear hb1
  go_wp2_with fail
  (with_reducible refine (hR _ B0).mono ?_)
  rintro r w2 ⟨rfl, hb2⟩
  replace F2 := F2.keep hb2
  replace B0 := B0.trans (hb2.mono B0.size)
  clear hb2
  replace F2 := F2.allocd (.cells #[.bool yn, .string yS, .int .i64 ye] 24)
  have F7 := Blk.put (w2) #[.bool yn, .string yS, .int .i64 ye] 24
  replace B0 := B0.alloc B0.size (.cells #[.bool yn, .string yS, .int .i64 ye] 24)
  go_wp2_with fail
  (with_reducible refine (hr _).mono ?_)
  rintro r w3 ⟨rfl, hb3⟩
  replace F2 := F2.keep hb3
  replace F7 := F7.keep hb3
  replace B0 := B0.trans (hb3.mono B0.size)
  clear hb3
  replace F2 := F2.allocd (.cells #[.bool yn, .string yS, .int .i64 ye] 24)
  replace F7 := F7.allocd (.cells #[.bool yn, .string yS, .int .i64 ye] 24)
  have F9 := Blk.put (w3) #[.bool yn, .string yS, .int .i64 ye] 24
  replace B0 := B0.alloc B0.size (.cells #[.bool yn, .string yS, .int .i64 ye] 24)
  obtain ⟨xF73_0, xF73_1, xF73_2⟩ := F7.ce3
  obtain ⟨xF93_0, xF93_1, xF93_2⟩ := F9.ce3
  obtain ⟨xF23_0, xF23_1, xF23_2⟩ := F2.ce3
  go_wp2_with fail
  (with_reducible refine (hM _).mono ?_)
  rintro r w4 ⟨rfl, hb4⟩
  clear xF73_0 xF73_1 xF73_2 xF93_0 xF93_1 xF93_2 xF23_0 xF23_1 xF23_2
  replace F2 := F2.keep hb4
  replace F7 := F7.keep hb4
  replace F9 := F9.keep hb4
  replace B0 := B0.trans (hb4.mono B0.size)
  clear hb4
  go_wp2_with fail
  (with_reducible refine (hl _ B0).mono ?_)
  rintro r w5 ⟨rfl, hb5⟩
  clear F2
  clear F7
  clear F9
  replace B0 := B0.trans (hb5.mono B0.size)
  clear hb5
  go_wp2
  go_ret
  exact ⟨rfl, B0⟩
set_option maxRecDepth 1000000 in
set_option maxHeartbeats 16000000 in
theorem dtexts_good (s : ByteArray) (xn : Bool) (xS : ByteArray) (xe : Int) (yn : Bool) (yS : ByteArray) (ye f : Int) (t : ByteArray) (w : World) (hS : ∀ W, Below w.heap.size w W → Calls Tryz.prog 7 #[.agg #[.bool xn, .string xS, .int .i64 xe]] W fun r w' => r = .returned (.tuple #[.string t, .int .i64 0]) ∧ Below W.heap.size W w')
    (hR : ∀ W, Below w.heap.size w W → Calls Tryz.prog 8 #[.string s] W fun r w' => r = .returned (.tuple #[.agg #[.bool yn, .string yS, .int .i64 ye], .int .i64 f]) ∧ Below W.heap.size W w')
    (hr : ∀ W, Calls Tryz.prog 9 #[.string s] W fun r w' => r = .returned (.tuple #[.agg #[.bool yn, .string yS, .int .i64 ye], .int .i64 f]) ∧ Below W.heap.size W w')
    (hM : ∀ W, Calls Tryz.prog 10 #[.agg #[.bool xn, .string xS, .int .i64 xe]] W fun r w' => r = .returned (.bool true) ∧ Below W.heap.size W w')
    (hT : ∀ W, Calls Tryz.prog 12 #[.agg #[.bool xn, .string xS, .int .i64 xe]] W fun r w' => r = .returned (.string t) ∧ Below W.heap.size W w')
    (hl : ∀ W, Below w.heap.size w W → Calls Tryz.prog 11 #[] W fun r w' => r = .returned (.bool true) ∧ Below W.heap.size W w') :
    Calls Tryz.prog 3 #[.agg #[.bool xn, .string xS, .int .i64 xe], .string s] w fun r w' => r = .returned (.bool true) ∧ Below w.heap.size w w' := by
  go_enter Tryz.func3, Tryz.ntmps3
  have B0 := Below.refl w.heap.size w
  have F2 := Blk.put (w) #[.bool xn, .string xS, .int .i64 xe] 24
  replace B0 := B0.alloc B0.size (.cells #[.bool xn, .string xS, .int .i64 xe] 24)
  obtain ⟨xF20_0, xF20_1, xF20_2⟩ := F2.ce3
  go_wp2_with fail
  (with_reducible refine (hS _ B0).mono ?_)
  rintro r w1 ⟨rfl, hb1⟩
  clear xF20_0 xF20_1 xF20_2
  replace F2 := F2.keep hb1
  replace B0 := B0.trans (hb1.mono B0.size)
  clear hb1
  go_wp2_with fail
  (with_reducible refine (hR _ B0).mono ?_)
  rintro r w2 ⟨rfl, hb2⟩
  replace F2 := F2.keep hb2
  replace B0 := B0.trans (hb2.mono B0.size)
  clear hb2
  replace F2 := F2.allocd (.cells #[.bool yn, .string yS, .int .i64 ye] 24)
  have F7 := Blk.put (w2) #[.bool yn, .string yS, .int .i64 ye] 24
  replace B0 := B0.alloc B0.size (.cells #[.bool yn, .string yS, .int .i64 ye] 24)
  go_wp2_with fail
  (with_reducible refine (hr _).mono ?_)
  rintro r w3 ⟨rfl, hb3⟩
  replace F2 := F2.keep hb3
  replace F7 := F7.keep hb3
  replace B0 := B0.trans (hb3.mono B0.size)
  clear hb3
  replace F2 := F2.allocd (.cells #[.bool yn, .string yS, .int .i64 ye] 24)
  replace F7 := F7.allocd (.cells #[.bool yn, .string yS, .int .i64 ye] 24)
  have F9 := Blk.put (w3) #[.bool yn, .string yS, .int .i64 ye] 24
  replace B0 := B0.alloc B0.size (.cells #[.bool yn, .string yS, .int .i64 ye] 24)
  obtain ⟨xF73_0, xF73_1, xF73_2⟩ := F7.ce3
  obtain ⟨xF93_0, xF93_1, xF93_2⟩ := F9.ce3
  obtain ⟨xF23_0, xF23_1, xF23_2⟩ := F2.ce3
  go_wp2_with fail
  (with_reducible refine (hM _).mono ?_)
  rintro r w4 ⟨rfl, hb4⟩
  clear xF73_0 xF73_1 xF73_2 xF93_0 xF93_1 xF93_2 xF23_0 xF23_1 xF23_2
  replace F2 := F2.keep hb4
  replace F7 := F7.keep hb4
  replace F9 := F9.keep hb4
  replace B0 := B0.trans (hb4.mono B0.size)
  clear hb4
  obtain ⟨xF24_0, xF24_1, xF24_2⟩ := F2.ce3
  go_wp2_with fail
  (with_reducible refine (hT _).mono ?_)
  rintro r w5 ⟨rfl, hb5⟩
  clear xF24_0 xF24_1 xF24_2
  replace F2 := F2.keep hb5
  clear F7
  clear F9
  replace B0 := B0.trans (hb5.mono B0.size)
  clear hb5
  go_wp2_with fail
  (with_reducible refine (hl _ B0).mono ?_)
  rintro r w6 ⟨rfl, hb6⟩
  clear F2
  replace B0 := B0.trans (hb6.mono B0.size)
  clear hb6
  go_wp2
  go_ret
  exact ⟨rfl, B0⟩
end Go.Proofs.YtjldfclncipbgaaGreatDoor
