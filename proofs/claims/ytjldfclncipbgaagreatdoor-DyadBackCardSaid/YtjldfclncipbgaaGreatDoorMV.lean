/- DyadBack: its ways, by letters. -/
import Derived.Test.YtjldfclncipbgaaGreatDoorMU
namespace Go.Proofs.YtjldfclncipbgaaGreatDoor
open Go Go.RowKit Go.PlainAid Fil

set_option maxRecDepth 1000000 in
set_option maxHeartbeats 16000000 in
theorem back_no_bad (s : ByteArray) (xn : Bool) (xS : ByteArray) (xe : Int) (w : World) (hl : ∀ W, Below w.heap.size w W → Calls Tryz.prog 11 #[] W fun r w' => r = .returned (.bool true) ∧ Below W.heap.size W w')
    (hC : ∀ W, Calls Tryz.prog 13 #[.agg #[.bool xn, .string xS, .int .i64 xe]] W fun r w' => r = .returned (.int .i64 2) ∧ Below W.heap.size W w')
    (hr : ∀ W, Below w.heap.size w W → Calls Tryz.prog 8 #[.string s] W fun r w' => r = .returned (.tuple #[.agg #[.bool false, .string { data := #[] }, .int .i64 0], .int .i64 30]) ∧ Below W.heap.size W w') :
    Calls Tryz.prog 4 #[.agg #[.bool xn, .string xS, .int .i64 xe], .string s] w fun r w' => r = .returned (.bool true) ∧ Below w.heap.size w w' := by
  go_enter Tryz.func4, Tryz.ntmps4
  have B0 := Below.refl w.heap.size w
  have F2 := Blk.put (w) #[.bool xn, .string xS, .int .i64 xe] 24
  replace B0 := B0.alloc B0.size (.cells #[.bool xn, .string xS, .int .i64 xe] 24)
  go_wp2_with fail
  (with_reducible refine (hl _ B0).mono ?_)
  rintro r w1 ⟨rfl, hb1⟩
  replace F2 := F2.keep hb1
  replace B0 := B0.trans (hb1.mono B0.size)
  clear hb1
  obtain ⟨xF21_0, xF21_1, xF21_2⟩ := F2.ce3
  go_wp2_with fail
  (with_reducible refine (hC _).mono ?_)
  rintro r w2 ⟨rfl, hb2⟩
  clear xF21_0 xF21_1 xF21_2
  replace F2 := F2.keep hb2
  replace B0 := B0.trans (hb2.mono B0.size)
  clear hb2
  go_wp2_with fail
  (with_reducible refine (hr _ B0).mono ?_)
  rintro r w3 ⟨rfl, hb3⟩
  clear F2
  replace B0 := B0.trans (hb3.mono B0.size)
  clear hb3
  have F9 := Blk.put (w3) #[.bool false, .string { data := #[] }, .int .i64 0] 24
  replace B0 := B0.alloc B0.size (.cells #[.bool false, .string { data := #[] }, .int .i64 0] 24)
  obtain ⟨xF93_0, xF93_1, xF93_2⟩ := F9.ce3
  go_wp2
  go_ret
  exact ⟨rfl, B0⟩
set_option maxRecDepth 1000000 in
set_option maxHeartbeats 16000000 in
theorem back_no_good (s : ByteArray) (xn : Bool) (xS : ByteArray) (xe : Int) (yn : Bool) (yS : ByteArray) (ye : Int) (w : World) (hl : ∀ W, Below w.heap.size w W → Calls Tryz.prog 11 #[] W fun r w' => r = .returned (.bool true) ∧ Below W.heap.size W w')
    (hC : ∀ W, Calls Tryz.prog 13 #[.agg #[.bool xn, .string xS, .int .i64 xe]] W fun r w' => r = .returned (.int .i64 2) ∧ Below W.heap.size W w')
    (hr : ∀ W, Below w.heap.size w W → Calls Tryz.prog 8 #[.string s] W fun r w' => r = .returned (.tuple #[.agg #[.bool yn, .string yS, .int .i64 ye], .int .i64 0]) ∧ Below W.heap.size W w')
    (hs : ∀ W, Below w.heap.size w W → Calls Tryz.prog 7 #[.agg #[.bool yn, .string yS, .int .i64 ye]] W fun r w' => r = .returned (.tuple #[.string s, .int .i64 0]) ∧ Below W.heap.size W w') :
    Calls Tryz.prog 4 #[.agg #[.bool xn, .string xS, .int .i64 xe], .string s] w fun r w' => r = .returned (.bool true) ∧ Below w.heap.size w w' := by
  go_enter Tryz.func4, Tryz.ntmps4
  have B0 := Below.refl w.heap.size w
  have F2 := Blk.put (w) #[.bool xn, .string xS, .int .i64 xe] 24
  replace B0 := B0.alloc B0.size (.cells #[.bool xn, .string xS, .int .i64 xe] 24)
  go_wp2_with fail
  (with_reducible refine (hl _ B0).mono ?_)
  rintro r w1 ⟨rfl, hb1⟩
  replace F2 := F2.keep hb1
  replace B0 := B0.trans (hb1.mono B0.size)
  clear hb1
  obtain ⟨xF21_0, xF21_1, xF21_2⟩ := F2.ce3
  go_wp2_with fail
  (with_reducible refine (hC _).mono ?_)
  rintro r w2 ⟨rfl, hb2⟩
  clear xF21_0 xF21_1 xF21_2
  replace F2 := F2.keep hb2
  replace B0 := B0.trans (hb2.mono B0.size)
  clear hb2
  go_wp2_with fail
  (with_reducible refine (hr _ B0).mono ?_)
  rintro r w3 ⟨rfl, hb3⟩
  clear F2
  replace B0 := B0.trans (hb3.mono B0.size)
  clear hb3
  have F9 := Blk.put (w3) #[.bool yn, .string yS, .int .i64 ye] 24
  replace B0 := B0.alloc B0.size (.cells #[.bool yn, .string yS, .int .i64 ye] 24)
  obtain ⟨xF93_0, xF93_1, xF93_2⟩ := F9.ce3
  go_wp2_with fail
  (with_reducible refine (hs _ B0).mono ?_)
  rintro r w4 ⟨rfl, hb4⟩
  clear xF93_0 xF93_1 xF93_2
  replace F9 := F9.keep hb4
  replace B0 := B0.trans (hb4.mono B0.size)
  clear hb4
  go_wp2
  go_ret
  exact ⟨rfl, B0⟩
set_option maxRecDepth 1000000 in
set_option maxHeartbeats 16000000 in
theorem back_yes_bad (s : ByteArray) (xn : Bool) (xS : ByteArray) (xe : Int) (t : ByteArray) (w : World) (hl : ∀ W, Below w.heap.size w W → Calls Tryz.prog 11 #[] W fun r w' => r = .returned (.bool true) ∧ Below W.heap.size W w')
    (hC : ∀ W, Calls Tryz.prog 13 #[.agg #[.bool xn, .string xS, .int .i64 xe]] W fun r w' => r = .returned (.int .i64 0) ∧ Below W.heap.size W w')
    (hS : ∀ W, Below w.heap.size w W → Calls Tryz.prog 7 #[.agg #[.bool xn, .string xS, .int .i64 xe]] W fun r w' => r = .returned (.tuple #[.string t, .int .i64 0]) ∧ Below W.heap.size W w')
    (hR : ∀ W, Below w.heap.size w W → Calls Tryz.prog 8 #[.string t] W fun r w' => r = .returned (.tuple #[.agg #[.bool xn, .string xS, .int .i64 xe], .int .i64 0]) ∧ Below W.heap.size W w')
    (hr : ∀ W, Below w.heap.size w W → Calls Tryz.prog 8 #[.string s] W fun r w' => r = .returned (.tuple #[.agg #[.bool false, .string { data := #[] }, .int .i64 0], .int .i64 30]) ∧ Below W.heap.size W w') :
    Calls Tryz.prog 4 #[.agg #[.bool xn, .string xS, .int .i64 xe], .string s] w fun r w' => r = .returned (.bool true) ∧ Below w.heap.size w w' := by
  go_enter Tryz.func4, Tryz.ntmps4
  have B0 := Below.refl w.heap.size w
  have F2 := Blk.put (w) #[.bool xn, .string xS, .int .i64 xe] 24
  replace B0 := B0.alloc B0.size (.cells #[.bool xn, .string xS, .int .i64 xe] 24)
  go_wp2_with fail
  (with_reducible refine (hl _ B0).mono ?_)
  rintro r w1 ⟨rfl, hb1⟩
  replace F2 := F2.keep hb1
  replace B0 := B0.trans (hb1.mono B0.size)
  clear hb1
  obtain ⟨xF21_0, xF21_1, xF21_2⟩ := F2.ce3
  go_wp2_with fail
  (with_reducible refine (hC _).mono ?_)
  rintro r w2 ⟨rfl, hb2⟩
  clear xF21_0 xF21_1 xF21_2
  replace F2 := F2.keep hb2
  replace B0 := B0.trans (hb2.mono B0.size)
  clear hb2
  obtain ⟨xF22_0, xF22_1, xF22_2⟩ := F2.ce3
  go_wp2_with fail
  (with_reducible refine (hS _ B0).mono ?_)
  rintro r w3 ⟨rfl, hb3⟩
  clear xF22_0 xF22_1 xF22_2
  replace F2 := F2.keep hb3
  replace B0 := B0.trans (hb3.mono B0.size)
  clear hb3
  go_wp2_with fail
  (with_reducible refine (hR _ B0).mono ?_)
  rintro r w4 ⟨rfl, hb4⟩
  replace F2 := F2.keep hb4
  replace B0 := B0.trans (hb4.mono B0.size)
  clear hb4
  replace F2 := F2.allocd (.cells #[.bool xn, .string xS, .int .i64 xe] 24)
  have F7 := Blk.put (w4) #[.bool xn, .string xS, .int .i64 xe] 24
  replace B0 := B0.alloc B0.size (.cells #[.bool xn, .string xS, .int .i64 xe] 24)
  obtain ⟨xF74_0, xF74_1, xF74_2⟩ := F7.ce3
  obtain ⟨xF24_0, xF24_1, xF24_2⟩ := F2.ce3
  go_wp2_with fail
  (with_reducible refine (hr _ B0).mono ?_)
  rintro r w5 ⟨rfl, hb5⟩
  clear xF74_0 xF74_1 xF74_2 xF24_0 xF24_1 xF24_2
  replace F2 := F2.keep hb5
  replace F7 := F7.keep hb5
  replace B0 := B0.trans (hb5.mono B0.size)
  clear hb5
  clear F2
  clear F7
  have F9 := Blk.put (w5) #[.bool false, .string { data := #[] }, .int .i64 0] 24
  replace B0 := B0.alloc B0.size (.cells #[.bool false, .string { data := #[] }, .int .i64 0] 24)
  obtain ⟨xF95_0, xF95_1, xF95_2⟩ := F9.ce3
  go_wp2
  go_ret
  exact ⟨rfl, B0⟩
set_option maxRecDepth 1000000 in
set_option maxHeartbeats 16000000 in
theorem back_yes_good (s : ByteArray) (xn : Bool) (xS : ByteArray) (xe : Int) (t : ByteArray) (yn : Bool) (yS : ByteArray) (ye : Int) (w : World) (hl : ∀ W, Below w.heap.size w W → Calls Tryz.prog 11 #[] W fun r w' => r = .returned (.bool true) ∧ Below W.heap.size W w')
    (hC : ∀ W, Calls Tryz.prog 13 #[.agg #[.bool xn, .string xS, .int .i64 xe]] W fun r w' => r = .returned (.int .i64 0) ∧ Below W.heap.size W w')
    (hS : ∀ W, Below w.heap.size w W → Calls Tryz.prog 7 #[.agg #[.bool xn, .string xS, .int .i64 xe]] W fun r w' => r = .returned (.tuple #[.string t, .int .i64 0]) ∧ Below W.heap.size W w')
    (hR : ∀ W, Below w.heap.size w W → Calls Tryz.prog 8 #[.string t] W fun r w' => r = .returned (.tuple #[.agg #[.bool xn, .string xS, .int .i64 xe], .int .i64 0]) ∧ Below W.heap.size W w')
    (hr : ∀ W, Below w.heap.size w W → Calls Tryz.prog 8 #[.string s] W fun r w' => r = .returned (.tuple #[.agg #[.bool yn, .string yS, .int .i64 ye], .int .i64 0]) ∧ Below W.heap.size W w')
    (hs : ∀ W, Below w.heap.size w W → Calls Tryz.prog 7 #[.agg #[.bool yn, .string yS, .int .i64 ye]] W fun r w' => r = .returned (.tuple #[.string s, .int .i64 0]) ∧ Below W.heap.size W w') :
    Calls Tryz.prog 4 #[.agg #[.bool xn, .string xS, .int .i64 xe], .string s] w fun r w' => r = .returned (.bool true) ∧ Below w.heap.size w w' := by
  go_enter Tryz.func4, Tryz.ntmps4
  have B0 := Below.refl w.heap.size w
  have F2 := Blk.put (w) #[.bool xn, .string xS, .int .i64 xe] 24
  replace B0 := B0.alloc B0.size (.cells #[.bool xn, .string xS, .int .i64 xe] 24)
  go_wp2_with fail
  (with_reducible refine (hl _ B0).mono ?_)
  rintro r w1 ⟨rfl, hb1⟩
  replace F2 := F2.keep hb1
  replace B0 := B0.trans (hb1.mono B0.size)
  clear hb1
  obtain ⟨xF21_0, xF21_1, xF21_2⟩ := F2.ce3
  go_wp2_with fail
  (with_reducible refine (hC _).mono ?_)
  rintro r w2 ⟨rfl, hb2⟩
  clear xF21_0 xF21_1 xF21_2
  replace F2 := F2.keep hb2
  replace B0 := B0.trans (hb2.mono B0.size)
  clear hb2
  obtain ⟨xF22_0, xF22_1, xF22_2⟩ := F2.ce3
  go_wp2_with fail
  (with_reducible refine (hS _ B0).mono ?_)
  rintro r w3 ⟨rfl, hb3⟩
  clear xF22_0 xF22_1 xF22_2
  replace F2 := F2.keep hb3
  replace B0 := B0.trans (hb3.mono B0.size)
  clear hb3
  go_wp2_with fail
  (with_reducible refine (hR _ B0).mono ?_)
  rintro r w4 ⟨rfl, hb4⟩
  replace F2 := F2.keep hb4
  replace B0 := B0.trans (hb4.mono B0.size)
  clear hb4
  replace F2 := F2.allocd (.cells #[.bool xn, .string xS, .int .i64 xe] 24)
  have F7 := Blk.put (w4) #[.bool xn, .string xS, .int .i64 xe] 24
  replace B0 := B0.alloc B0.size (.cells #[.bool xn, .string xS, .int .i64 xe] 24)
  obtain ⟨xF74_0, xF74_1, xF74_2⟩ := F7.ce3
  obtain ⟨xF24_0, xF24_1, xF24_2⟩ := F2.ce3
  go_wp2_with fail
  (with_reducible refine (hr _ B0).mono ?_)
  rintro r w5 ⟨rfl, hb5⟩
  clear xF74_0 xF74_1 xF74_2 xF24_0 xF24_1 xF24_2
  replace F2 := F2.keep hb5
  replace F7 := F7.keep hb5
  replace B0 := B0.trans (hb5.mono B0.size)
  clear hb5
  clear F2
  clear F7
  have F9 := Blk.put (w5) #[.bool yn, .string yS, .int .i64 ye] 24
  replace B0 := B0.alloc B0.size (.cells #[.bool yn, .string yS, .int .i64 ye] 24)
  obtain ⟨xF95_0, xF95_1, xF95_2⟩ := F9.ce3
  go_wp2_with fail
  (with_reducible refine (hs _ B0).mono ?_)
  rintro r w6 ⟨rfl, hb6⟩
  clear xF95_0 xF95_1 xF95_2
  replace F9 := F9.keep hb6
  replace B0 := B0.trans (hb6.mono B0.size)
  clear hb6
  go_wp2
  go_ret
  exact ⟨rfl, B0⟩
end Go.Proofs.YtjldfclncipbgaaGreatDoor
