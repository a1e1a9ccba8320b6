/- GaussTexts, GaussBack: their ways, by letters. -/
import Derived.Test.YtjldfclncipbgaaGreatDoorY7
import Derived.Test.YtjldfclncipbgaaGreatDoorH4
namespace Go.Proofs.YtjldfclncipbgaaGreatDoor
open Go Go.RowKit Go.PlainAid Fil

set_option maxRecDepth 1000000 in
set_option maxHeartbeats 16000000 in
theorem gtexts_bad (s : ByteArray) (xn : Bool) (xS : ByteArray) (xe : Int) (xm : Bool) (xT : ByteArray) (xf : Int) (yn : Bool) (yS : ByteArray) (ye : Int) (ym : Bool) (yT : ByteArray) (yf : Int) (f : Int) (w : World) (hS : ∀ W, Below w.heap.size w W → Calls Tryz.prog 14 #[.agg #[.bool xn, .string xS, .int .i64 xe, .bool xm, .string xT, .int .i64 xf]] W fun r w' => r = .returned (.tuple #[.string { data := #[] }, .int .i64 2]) ∧ Below W.heap.size W w')
    (hR : ∀ W, Below w.heap.size w W → Calls Tryz.prog 15 #[.string s] W fun r w' => r = .returned (.tuple #[.agg #[.bool yn, .string yS, .int .i64 ye, .bool ym, .string yT, .int .i64 yf], .int .i64 f]) ∧ Below W.heap.size W w')
    (hr : ∀ W, Calls Tryz.prog 16 #[.string s] W fun r w' => r = .returned (.tuple #[.agg #[.bool yn, .string yS, .int .i64 ye, .bool ym, .string yT, .int .i64 yf], .int .i64 f]) ∧ Below W.heap.size W w')
    (h6 : ∀ W, Calls Tryz.prog 17 #[.agg #[.bool yn, .string yS, .int .i64 ye, .bool ym, .string yT, .int .i64 yf], .int .i64 f, .agg #[.bool yn, .string yS, .int .i64 ye, .bool ym, .string yT, .int .i64 yf], .int .i64 f] W fun r w' => r = .returned (.bool true) ∧ Below W.heap.size W w')
    (hM : ∀ W, Calls Tryz.prog 18 #[.agg #[.bool xn, .string xS, .int .i64 xe, .bool xm, .string xT, .int .i64 xf]] W fun r w' => r = .returned (.bool false) ∧ Below W.heap.size W w')
    (hl : ∀ W, Below w.heap.size w W → Calls Tryz.prog 19 #[] W fun r w' => r = .returned (.bool true) ∧ Below W.heap.size W w') :
    Calls Tryz.prog 5 #[.agg #[.bool xn, .string xS, .int .i64 xe, .bool xm, .string xT, .int .i64 xf], .string s] w fun r w' => r = .returned (.bool true) ∧ Below w.heap.size w w' := by
  go_enter Tryz.func5, Tryz.ntmps5
  have B0 := Below.refl w.heap.size w
  have F2 := Blk.put (w) #[.bool xn, .string xS, .int .i64 xe, .bool xm, .string xT, .int .i64 xf] 38
  replace B0 := B0.alloc B0.size (.cells #[.bool xn, .string xS, .int .i64 xe, .bool xm, .string xT, .int .i64 xf] 38)
  obtain ⟨xF20_0, xF20_1, xF20_2, xF20_3, xF20_4, xF20_5⟩ := F2.ce6
  go_wp2_with fail
  (with_reducible refine (hS _ B0).mono ?_)
  rintro r w1 ⟨rfl, hb1⟩
  clear xF20_0 xF20_1 xF20_2 xF20_3 xF20_4 xF20_5
  replace F2 := F2.keep hb1
  replace B0 := B0.trans (hb1.mono B0.size)
  clear hb1
  go_wp2_with fail
  (with_reducible refine (hR _ B0).mono ?_)
  rintro r w2 ⟨rfl, hb2⟩
  replace F2 := F2.keep hb2
  replace B0 := B0.trans (hb2.mono B0.size)
  clear hb2
  replace F2 := F2.allocd (.cells #[.bool yn, .string yS, .int .i64 ye, .bool ym, .string yT, .int .i64 yf] 38)
  have F7 := Blk.put (w2) #[.bool yn, .string yS, .int .i64 ye, .bool ym, .string yT, .int .i64 yf] 38
  replace B0 := B0.alloc B0.size (.cells #[.bool yn, .string yS, .int .i64 ye, .bool ym, .string yT, .int .i64 yf] 38)
  go_wp2_with fail
  (with_reducible refine (hr _).mono ?_)
  rintro r w3 ⟨rfl, hb3⟩
  replace F2 := F2.keep hb3
  replace F7 := F7.keep hb3
  replace B0 := B0.trans (hb3.mono B0.size)
  clear hb3
  replace F2 := F2.allocd (.cells #[.bool yn, .string yS, .int .i64 ye, .bool ym, .string yT, .int .i64 yf] 38)
  replace F7 := F7.allocd (.cells #[.bool yn, .string yS, .int .i64 ye, .bool ym, .string yT, .int .i64 yf] 38)
  have F9 := Blk.put (w3) #[.bool yn, .string yS, .int .i64 ye, .bool ym, .string yT, .int .i64 yf] 38
  replace B0 := B0.alloc B0.size (.cells #[.bool yn, .string yS, .int .i64 ye, .bool ym, .string yT, .int .i64 yf] 38)
  obtain ⟨xF73_0, xF73_1, xF73_2, xF73_3, xF73_4, xF73_5⟩ := F7.ce6
  obtain ⟨xF93_0, xF93_1, xF93_2, xF93_3, xF93_4, xF93_5⟩ := F9.ce6
  go_wp2_with fail
  (with_reducible refine (h6 _).mono ?_)
  rintro r w4 ⟨rfl, hb4⟩
  clear xF73_0 xF73_1 xF73_2 xF73_3 xF73_4 xF73_5 xF93_0 xF93_1 xF93_2 xF93_3 xF93_4 xF93_5
  replace F2 := F2.keep hb4
  replace F7 := F7.keep hb4
  replace F9 := F9.keep hb4
  replace B0 := B0.trans (hb4.mono B0.size)
  clear hb4
  obtain ⟨xF24_0, xF24_1, xF24_2, xF24_3, xF24_4, xF24_5⟩ := F2.ce6
  go_wp2_with fail
  (with_reducible refine (hM _).mono ?_)
  rintro r w5 ⟨rfl, hb5⟩
  clear xF24_0 xF24_1 xF24_2 xF24_3 xF24_4 xF24_5
  replace F2 := F2.keep hb5
  clear F7
  clear F9
  replace B0 := B0.trans (hb5.mono B0.size)
  clear hb5
  go_wp2_with fail
  (with_reducible refine (hl _ B0).mono ?_)
  rintro r w6 ⟨rfl, hb6⟩
  clear F2
  replace B0 := B0.trans (hb6.mono B0.size)
  clear hb6
  go_wp2
  go_ret
  exact ⟨rfl, B0⟩
set_option maxRecDepth 1000000 in
set_option maxHeartbeats 16000000 in
theorem gtexts_good (s : ByteArray) (xn : Bool) (xS : ByteArray) (xe : Int) (xm : Bool) (xT : ByteArray) (xf : Int) (yn : Bool) (yS : ByteArray) (ye : Int) (ym : Bool) (yT : ByteArray) (yf : Int) (f : Int) (t : ByteArray) (w : World) (hS : ∀ W, Below w.heap.size w W → Calls Tryz.prog 14 #[.agg #[.bool xn, .string xS, .int .i64 xe, .bool xm, .string xT, .int .i64 xf]] W fun r w' => r = .returned (.tuple #[.string t, .int .i64 0]) ∧ Below W.heap.size W w')
    (hR : ∀ W, Below w.heap.size w W → Calls Tryz.prog 15 #[.string s] W fun r w' => r = .returned (.tuple #[.agg #[.bool yn, .string yS, .int .i64 ye, .bool ym, .string yT, .int .i64 yf], .int .i64 f]) ∧ Below W.heap.size W w')
    (hr : ∀ W, Calls Tryz.prog 16 #[.string s] W fun r w' => r = .returned (.tuple #[.agg #[.bool yn, .string yS, .int .i64 ye, .bool ym, .string yT, .int .i64 yf], .int .i64 f]) ∧ Below W.heap.size W w')
    (h6 : ∀ W, Calls Tryz.prog 17 #[.agg #[.bool yn, .string yS, .int .i64 ye, .bool ym, .string yT, .int .i64 yf], .int .i64 f, .agg #[.bool yn, .string yS, .int .i64 ye, .bool ym, .string yT, .int .i64 yf], .int .i64 f] W fun r w' => r = .returned (.bool true) ∧ Below W.heap.size W w')
    (hM : ∀ W, Calls Tryz.prog 18 #[.agg #[.bool xn, .string xS, .int .i64 xe, .bool xm, .string xT, .int .i64 xf]] W fun r w' => r = .returned (.bool true) ∧ Below W.heap.size W w')
    (hT : ∀ W, Calls Tryz.prog 20 #[.agg #[.bool xn, .string xS, .int .i64 xe, .bool xm, .string xT, .int .i64 xf]] W fun r w' => r = .returned (.string t) ∧ Below W.heap.size W w')
    (hl : ∀ W, Below w.heap.size w W → Calls Tryz.prog 19 #[] W fun r w' => r = .returned (.bool true) ∧ Below W.heap.size W w') :
    Calls Tryz.prog 5 #[.agg #[.bool xn, .string xS, .int .i64 xe, .bool xm, .string xT, .int .i64 xf], .string s] w fun r w' => r = .returned (.bool true) ∧ Below w.heap.size w w' := by
  go_enter Tryz.func5, Tryz.ntmps5
  have B0 := Below.refl w.heap.size w
  have F2 := Blk.put (w) #[.bool xn, .string xS, .int .i64 xe, .bool xm, .string xT, .int .i64 xf] 38
  replace B0 := B0.alloc B0.size (.cells #[.bool xn, .string xS, .int .i64 xe, .bool xm, .string xT, .int .i64 xf] 38)
  obtain ⟨xF20_0, xF20_1, xF20_2, xF20_3, xF20_4, xF20_5⟩ := F2.ce6
  go_wp2_with fail
  (with_reducible refine (hS _ B0).mono ?_)
  rintro r w1 ⟨rfl, hb1⟩
  clear xF20_0 xF20_1 xF20_2 xF20_3 xF20_4 xF20_5
  replace F2 := F2.keep hb1
  replace B0 := B0.trans (hb1.mono B0.size)
  clear hb1
  go_wp2_with fail
  (with_reducible refine (hR _ B0).mono ?_)
  rintro r w2 ⟨rfl, hb2⟩
  replace F2 := F2.keep hb2
  replace B0 := B0.trans (hb2.mono B0.size)
  clear hb2
  replace F2 := F2.allocd (.cells #[.bool yn, .string yS, .int .i64 ye, .bool ym, .string yT, .int .i64 yf] 38)
  have F7 := Blk.put (w2) #[.bool yn, .string yS, .int .i64 ye, .bool ym, .string yT, .int .i64 yf] 38
  replace B0 := B0.alloc B0.size (.cells #[.bool yn, .string yS, .int .i64 ye, .bool ym, .string yT, .int .i64 yf] 38)
  go_wp2_with fail
  (with_reducible refine (hr _).mono ?_)
  rintro r w3 ⟨rfl, hb3⟩
  replace F2 := F2.keep hb3
  replace F7 := F7.keep hb3
  replace B0 := B0.trans (hb3.mono B0.size)
  clear hb3
  replace F2 := F2.allocd (.cells #[.bool yn, .string yS, .int .i64 ye, .bool ym, .string yT, .int .i64 yf] 38)
  replace F7 := F7.allocd (.cells #[.bool yn, .string yS, .int .i64 ye, .bool ym, .string yT, .int .i64 yf] 38)
  have F9 := Blk.put (w3) #[.bool yn, .string yS, .int .i64 ye, .bool ym, .string yT, .int .i64 yf] 38
  replace B0 := B0.alloc B0.size (.cells #[.bool yn, .string yS, .int .i64 ye, .bool ym, .string yT, .int .i64 yf] 38)
  obtain ⟨xF73_0, xF73_1, xF73_2, xF73_3, xF73_4, xF73_5⟩ := F7.ce6
  obtain ⟨xF93_0, xF93_1, xF93_2, xF93_3, xF93_4, xF93_5⟩ := F9.ce6
  go_wp2_with fail
  (with_reducible refine (h6 _).mono ?_)
  rintro r w4 ⟨rfl, hb4⟩
  clear xF73_0 xF73_1 xF73_2 xF73_3 xF73_4 xF73_5 xF93_0 xF93_1 xF93_2 xF93_3 xF93_4 xF93_5
  replace F2 := F2.keep hb4
  replace F7 := F7.keep hb4
  replace F9 := F9.keep hb4
  replace B0 := B0.trans (hb4.mono B0.size)
  clear hb4
  obtain ⟨xF24_0, xF24_1, xF24_2, xF24_3, xF24_4, xF24_5⟩ := F2.ce6
  go_wp2_with fail
  (with_reducible refine (hM _).mono ?_)
  rintro r w5 ⟨rfl, hb5⟩
  clear xF24_0 xF24_1 xF24_2 xF24_3 xF24_4 xF24_5
  replace F2 := F2.keep hb5
  clear F7
  clear F9
  replace B0 := B0.trans (hb5.mono B0.size)
  clear hb5
  obtain ⟨xF25_0, xF25_1, xF25_2, xF25_3, xF25_4, xF25_5⟩ := F2.ce6
  go_wp2_with fail
  (with_reducible refine (hT _).mono ?_)
  rintro r w6 ⟨rfl, hb6⟩
  clear xF25_0 xF25_1 xF25_2 xF25_3 xF25_4 xF25_5
  replace F2 := F2.keep hb6
  replace B0 := B0.trans (hb6.mono B0.size)
  clear hb6
  go_wp2_with fail
  (with_reducible refine (hl _ B0).mono ?_)
  rintro r w7 ⟨rfl, hb7⟩
  clear F2
  replace B0 := B0.trans (hb7.mono B0.size)
  clear hb7
  go_wp2
  go_ret
  exact ⟨rfl, B0⟩
set_option maxRecDepth 1000000 in
set_option maxHeartbeats 16000000 in
theorem gback_no_bad (s : ByteArray) (xn : Bool) (xS : ByteArray) (xe : Int) (xm : Bool) (xT : ByteArray) (xf : Int) (w : World) (hl : ∀ W, Below w.heap.size w W → Calls Tryz.prog 19 #[] W fun r w' => r = .returned (.bool true) ∧ Below W.heap.size W w')
    (hC : ∀ W, Calls Tryz.prog 21 #[.agg #[.bool xn, .string xS, .int .i64 xe, .bool xm, .string xT, .int .i64 xf]] W fun r w' => r = .returned (.int .i64 2) ∧ Below W.heap.size W w')
    (hr : ∀ W, Below w.heap.size w W → Calls Tryz.prog 15 #[.string s] W fun r w' => r = .returned (.tuple #[.agg #[.bool false, .string { data := #[] }, .int .i64 0, .bool false, .string { data := #[] }, .int .i64 0], .int .i64 60]) ∧ Below W.heap.size W w') :
    Calls Tryz.prog 6 #[.agg #[.bool xn, .string xS, .int .i64 xe, .bool xm, .string xT, .int .i64 xf], .string s] w fun r w' => r = .returned (.bool true) ∧ Below w.heap.size w w' := by
  go_enter Tryz.func6, Tryz.ntmps6
  have B0 := Below.refl w.heap.size w
  have F2 := Blk.put (w) #[.bool xn, .string xS, .int .i64 xe, .bool xm, .string xT, .int .i64 xf] 38
  replace B0 := B0.alloc B0.size (.cells #[.bool xn, .string xS, .int .i64 xe, .bool xm, .string xT, .int .i64 xf] 38)
  go_wp2_with fail
  (with_reducible refine (hl _ B0).mono ?_)
  rintro r w1 ⟨rfl, hb1⟩
  replace F2 := F2.keep hb1
  replace B0 := B0.trans (hb1.mono B0.size)
  clear hb1
  obtain ⟨xF21_0, xF21_1, xF21_2, xF21_3, xF21_4, xF21_5⟩ := F2.ce6
  go_wp2_with fail
  (with_reducible refine (hC _).mono ?_)
  rintro r w2 ⟨rfl, hb2⟩
  clear xF21_0 xF21_1 xF21_2 xF21_3 xF21_4 xF21_5
  replace F2 := F2.keep hb2
  replace B0 := B0.trans (hb2.mono B0.size)
  clear hb2
  go_wp2_with fail
  (with_reducible refine (hr _ B0).mono ?_)
  rintro r w3 ⟨rfl, hb3⟩
  clear F2
  replace B0 := B0.trans (hb3.mono B0.size)
  clear hb3
  have F9 := Blk.put (w3) #[.bool false, .string { data := #[] }, .int .i64 0, .bool false, .string { data := #[] }, .int .i64 0] 38
  replace B0 := B0.alloc B0.size (.cells #[.bool false, .string { data := #[] }, .int .i64 0, .bool false, .string { data := #[] }, .int .i64 0] 38)
  obtain ⟨xF93_0, xF93_1, xF93_2, xF93_3, xF93_4, xF93_5⟩ := F9.ce6
  go_wp2
  go_ret
  exact ⟨rfl, B0⟩
set_option maxRecDepth 1000000 in
set_option maxHeartbeats 16000000 in
theorem gback_no_good (s : ByteArray) (xn : Bool) (xS : ByteArray) (xe : Int) (xm : Bool) (xT : ByteArray) (xf : Int) (yn : Bool) (yS : ByteArray) (ye : Int) (ym : Bool) (yT : ByteArray) (yf : Int) (w : World) (hl : ∀ W, Below w.heap.size w W → Calls Tryz.prog 19 #[] W fun r w' => r = .returned (.bool true) ∧ Below W.heap.size W w')
    (hC : ∀ W, Calls Tryz.prog 21 #[.agg #[.bool xn, .string xS, .int .i64 xe, .bool xm, .string xT, .int .i64 xf]] W fun r w' => r = .returned (.int .i64 2) ∧ Below W.heap.size W w')
    (hr : ∀ W, Below w.heap.size w W → Calls Tryz.prog 15 #[.string s] W fun r w' => r = .returned (.tuple #[.agg #[.bool yn, .string yS, .int .i64 ye, .bool ym, .string yT, .int .i64 yf], .int .i64 0]) ∧ Below W.heap.size W w')
    (hs : ∀ W, Below w.heap.size w W → Calls Tryz.prog 14 #[.agg #[.bool yn, .string yS, .int .i64 ye, .bool ym, .string yT, .int .i64 yf]] W fun r w' => r = .returned (.tuple #[.string s, .int .i64 0]) ∧ Below W.heap.size W w') :
    Calls Tryz.prog 6 #[.agg #[.bool xn, .string xS, .int .i64 xe, .bool xm, .string xT, .int .i64 xf], .string s] w fun r w' => r = .returned (.bool true) ∧ Below w.heap.size w w' := by
  go_enter Tryz.func6, Tryz.ntmps6
  have B0 := Below.refl w.heap.size w
  have F2 := Blk.put (w) #[.bool xn, .string xS, .int .i64 xe, .bool xm, .string xT, .int .i64 xf] 38
  replace B0 := B0.alloc B0.size (.cells #[.bool xn, .string xS, .int .i64 xe, .bool xm, .string xT, .int .i64 xf] 38)
  go_wp2_with fail
  (with_reducible refine (hl _ B0).mono ?_)
  rintro r w1 ⟨rfl, hb1⟩
  replace F2 := F2.keep hb1
  replace B0 := B0.trans (hb1.mono B0.size)
  clear hb1
  obtain ⟨xF21_0, xF21_1, xF21_2, xF21_3, xF21_4, xF21_5⟩ := F2.ce6
  go_wp2_with fail
  (with_reducible refine (hC _).mono ?_)
  rintro r w2 ⟨rfl, hb2⟩
  clear xF21_0 xF21_1 xF21_2 xF21_3 xF21_4 xF21_5
  replace F2 := F2.keep hb2
  replace B0 := B0.trans (hb2.mono B0.size)
  clear hb2
  go_wp2_with fail
  (with_reducible refine (hr _ B0).mono ?_)
  rintro r w3 ⟨rfl, hb3⟩
  clear F2
  replace B0 := B0.trans (hb3.mono B0.size)
  clear hb3
  have F9 := Blk.put (w3) #[.bool yn, .string yS, .int .i64 ye, .bool ym, .string yT, .int .i64 yf] 38
  replace B0 := B0.alloc B0.size (.cells #[.bool yn, .string yS, .int .i64 ye, .bool ym, .string yT, .int .i64 yf] 38)
  obtain ⟨xF93_0, xF93_1, xF93_2, xF93_3, xF93_4, xF93_5⟩ := F9.ce6
  go_wp2_with fail
  (with_reducible refine (hs _ B0).mono ?_)
  rintro r w4 ⟨rfl, hb4⟩
  clear xF93_0 xF93_1 xF93_2 xF93_3 xF93_4 xF93_5
  replace F9 := F9.keep hb4
  replace B0 := B0.trans (hb4.mono B0.size)
  clear hb4
  go_wp2
  go_ret
  exact ⟨rfl, B0⟩
set_option maxRecDepth 1000000 in
set_option maxHeartbeats 16000000 in
theorem gback_yes_bad (s : ByteArray) (xn : Bool) (xS : ByteArray) (xe : Int) (xm : Bool) (xT : ByteArray) (xf : Int) (t : ByteArray) (w : World) (hl : ∀ W, Below w.heap.size w W → Calls Tryz.prog 19 #[] W fun r w' => r = .returned (.bool true) ∧ Below W.heap.size W w')
    (hC : ∀ W, Calls Tryz.prog 21 #[.agg #[.bool xn, .string xS, .int .i64 xe, .bool xm, .string xT, .int .i64 xf]] W fun r w' => r = .returned (.int .i64 0) ∧ Below W.heap.size W w')
    (hS : ∀ W, Below w.heap.size w W → Calls Tryz.prog 14 #[.agg #[.bool xn, .string xS, .int .i64 xe, .bool xm, .string xT, .int .i64 xf]] W fun r w' => r = .returned (.tuple #[.string t, .int .i64 0]) ∧ Below W.heap.size W w')
    (hR : ∀ W, Below w.heap.size w W → Calls Tryz.prog 15 #[.string t] W fun r w' => r = .returned (.tuple #[.agg #[.bool xn, .string xS, .int .i64 xe, .bool xm, .string xT, .int .i64 xf], .int .i64 0]) ∧ Below W.heap.size W w')
    (ho : ∀ Bk W, W.heap.size = Bk → Calls Tryz.prog 22 #[.slice (some ⟨Bk, 0, none⟩) 2 2] (W.alloc (.cells #[.int .i64 0, .int .i64 0] 25)) fun r w' => r = .returned (.bool true) ∧ Below W.heap.size W w')
    (hr : ∀ W, Below w.heap.size w W → Calls Tryz.prog 15 #[.string s] W fun r w' => r = .returned (.tuple #[.agg #[.bool false, .string { data := #[] }, .int .i64 0, .bool false, .string { data := #[] }, .int .i64 0], .int .i64 60]) ∧ Below W.heap.size W w') :
    Calls Tryz.prog 6 #[.agg #[.bool xn, .string xS, .int .i64 xe, .bool xm, .string xT, .int .i64 xf], .string s] w fun r w' => r = .returned (.bool true) ∧ Below w.heap.size w w' := by
  go_enter Tryz.func6, Tryz.ntmps6
  have B0 := Below.refl w.heap.size w
  have F2 := Blk.put (w) #[.bool xn, .string xS, .int .i64 xe, .bool xm, .string xT, .int .i64 xf] 38
  replace B0 := B0.alloc B0.size (.cells #[.bool xn, .string xS, .int .i64 xe, .bool xm, .string xT, .int .i64 xf] 38)
  go_wp2_with fail
  (with_reducible refine (hl _ B0).mono ?_)
  rintro r w1 ⟨rfl, hb1⟩
  replace F2 := F2.keep hb1
  replace B0 := B0.trans (hb1.mono B0.size)
  clear hb1
  obtain ⟨xF21_0, xF21_1, xF21_2, xF21_3, xF21_4, xF21_5⟩ := F2.ce6
  go_wp2_with fail
  (with_reducible refine (hC _).mono ?_)
  rintro r w2 ⟨rfl, hb2⟩
  clear xF21_0 xF21_1 xF21_2 xF21_3 xF21_4 xF21_5
  replace F2 := F2.keep hb2
  replace B0 := B0.trans (hb2.mono B0.size)
  clear hb2
  obtain ⟨xF22_0, xF22_1, xF22_2, xF22_3, xF22_4, xF22_5⟩ := F2.ce6
  go_wp2_with fail
  (with_reducible refine (hS _ B0).mono ?_)
  rintro r w3 ⟨rfl, hb3⟩
  clear xF22_0 xF22_1 xF22_2 xF22_3 xF22_4 xF22_5
  replace F2 := F2.keep hb3
  replace B0 := B0.trans (hb3.mono B0.size)
  clear hb3
  go_wp2_with fail
  (with_reducible refine (hR _ B0).mono ?_)
  rintro r w4 ⟨rfl, hb4⟩
  replace F2 := F2.keep hb4
  replace B0 := B0.trans (hb4.mono B0.size)
  clear hb4
  replace F2 := F2.allocd (.cells #[.bool xn, .string xS, .int .i64 xe, .bool xm, .string xT, .int .i64 xf] 38)
  have F7 := Blk.put (w4) #[.bool xn, .string xS, .int .i64 xe, .bool xm, .string xT, .int .i64 xf] 38
  replace B0 := B0.alloc B0.size (.cells #[.bool xn, .string xS, .int .i64 xe, .bool xm, .string xT, .int .i64 xf] 38)
  go_wp2_with fail
  (with_reducible refine (ho _ _ (by simp)).mono ?_)
  rintro r w5 ⟨rfl, hb5⟩
  replace F2 := F2.keep hb5
  replace F7 := F7.keep hb5
  replace B0 := B0.trans (hb5.mono B0.size)
  clear hb5
  obtain ⟨xF75_0, xF75_1, xF75_2, xF75_3, xF75_4, xF75_5⟩ := F7.ce6
  obtain ⟨xF25_0, xF25_1, xF25_2, xF25_3, xF25_4, xF25_5⟩ := F2.ce6
  go_wp2_with fail
  (with_reducible refine (hr _ B0).mono ?_)
  rintro r w6 ⟨rfl, hb6⟩
  clear xF75_0 xF75_1 xF75_2 xF75_3 xF75_4 xF75_5 xF25_0 xF25_1 xF25_2 xF25_3 xF25_4 xF25_5
  replace F2 := F2.keep hb6
  replace F7 := F7.keep hb6
  replace B0 := B0.trans (hb6.mono B0.size)
  clear hb6
  clear F2
  clear F7
  have F9 := Blk.put (w6) #[.bool false, .string { data := #[] }, .int .i64 0, .bool false, .string { data := #[] }, .int .i64 0] 38
  replace B0 := B0.alloc B0.size (.cells #[.bool false, .string { data := #[] }, .int .i64 0, .bool false, .string { data := #[] }, .int .i64 0] 38)
  obtain ⟨xF96_0, xF96_1, xF96_2, xF96_3, xF96_4, xF96_5⟩ := F9.ce6
  go_wp2
  go_ret
  exact ⟨rfl, B0⟩
set_option maxRecDepth 1000000 in
set_option maxHeartbeats 16000000 in
theorem gback_yes_good (s : ByteArray) (xn : Bool) (xS : ByteArray) (xe : Int) (xm : Bool) (xT : ByteArray) (xf : Int) (t : ByteArray) (yn : Bool) (yS : ByteArray) (ye : Int) (ym : Bool) (yT : ByteArray) (yf : Int) (w : World) (hl : ∀ W, Below w.heap.size w W → Calls Tryz.prog 19 #[] W fun r w' => r = .returned (.bool true) ∧ Below W.heap.size W w')
    (hC : ∀ W, Calls Tryz.prog 21 #[.agg #[.bool xn, .string xS, .int .i64 xe, .bool xm, .string xT, .int .i64 xf]] W fun r w' => r = .returned (.int .i64 0) ∧ Below W.heap.size W w')
    (hS : ∀ W, Below w.heap.size w W → Calls Tryz.prog 14 #[.agg #[.bool xn, .string xS, .int .i64 xe, .bool xm, .string xT, .int .i64 xf]] W fun r w' => r = .returned (.tuple #[.string t, .int .i64 0]) ∧ Below W.heap.size W w')
    (hR : ∀ W, Below w.heap.size w W → Calls Tryz.prog 15 #[.string t] W fun r w' => r = .returned (.tuple #[.agg #[.bool xn, .string xS, .int .i64 xe, .bool xm, .string xT, .int .i64 xf], .int .i64 0]) ∧ Below W.heap.size W w')
    (ho : ∀ Bk W, W.heap.size = Bk → Calls Tryz.prog 22 #[.slice (some ⟨Bk, 0, none⟩) 2 2] (W.alloc (.cells #[.int .i64 0, .int .i64 0] 25)) fun r w' => r = .returned (.bool true) ∧ Below W.heap.size W w')
    (hr : ∀ W, Below w.heap.size w W → Calls Tryz.prog 15 #[.string s] W fun r w' => r = .returned (.tuple #[.agg #[.bool yn, .string yS, .int .i64 ye, .bool ym, .string yT, .int .i64 yf], .int .i64 0]) ∧ Below W.heap.size W w')
    (hs : ∀ W, Below w.heap.size w W → Calls Tryz.prog 14 #[.agg #[.bool yn, .string yS, .int .i64 ye, .bool ym, .string yT, .int .i64 yf]] W fun r w' => r = .returned (.tuple #[.string s, .int .i64 0]) ∧ Below W.heap.size W w') :
    Calls Tryz.prog 6 #[.agg #[.bool xn, .string xS, .int .i64 xe, .bool xm, .string xT, .int .i64 xf], .string s] w fun r w' => r = .returned (.bool true) ∧ Below w.heap.size w w' := by
  go_enter Tryz.func6, Tryz.ntmps6
  have B0 := Below.refl w.heap.size w
  have F2 := Blk.put (w) #[.bool xn, .string xS, .int .i64 xe, .bool xm, .string xT, .int .i64 xf] 38
  replace B0 := B0.alloc B0.size (.cells #[.bool xn, .string xS, .int .i64 xe, .bool xm, .string xT, .int .i64 xf] 38)
  go_wp2_with fail
  (with_reducible refine (hl _ B0).mono ?_)
  rintro r w1 ⟨rfl, hb1⟩
  replace F2 := F2.keep hb1
  replace B0 := B0.trans (hb1.mono B0.size)
  clear hb1
  obtain ⟨xF21_0, xF21_1, xF21_2, xF21_3, xF21_4, xF21_5⟩ := F2.ce6
  go_wp2_with fail
  (with_reducible refine (hC _).mono ?_)
  rintro r w2 ⟨rfl, hb2⟩
  clear xF21_0 xF21_1 xF21_2 xF21_3 xF21_4 xF21_5
  replace F2 := F2.keep hb2
  replace B0 := B0.trans (hb2.mono B0.size)
  clear hb2
  obtain ⟨xF22_0, xF22_1, xF22_2, xF22_3, xF22_4, xF22_5⟩ := F2.ce6
  go_wp2_with fail
  (with_reducible refine (hS _ B0).mono ?_)
  rintro r w3 ⟨rfl, hb3⟩
  clear xF22_0 xF22_1 xF22_2 xF22_3 xF22_4 xF22_5
  replace F2 := F2.keep hb3
  replace B0 := B0.trans (hb3.mono B0.size)
  clear hb3
  go_wp2_with fail
  (with_reducible refine (hR _ B0).mono ?_)
  rintro r w4 ⟨rfl, hb4⟩
  replace F2 := F2.keep hb4
  replace B0 := B0.trans (hb4.mono B0.size)
  clear hb4
  replace F2 := F2.allocd (.cells #[.bool xn, .string xS, .int .i64 xe, .bool xm, .string xT, .int .i64 xf] 38)
  have F7 := Blk.put (w4) #[.bool xn, .string xS, .int .i64 xe, .bool xm, .string xT, .int .i64 xf] 38
  replace B0 := B0.alloc B0.size (.cells #[.bool xn, .string xS, .int .i64 xe, .bool xm, .string xT, .int .i64 xf] 38)
  go_wp2_with fail
  (with_reducible refine (ho _ _ (by simp)).mono ?_)
  rintro r w5 ⟨rfl, hb5⟩
  replace F2 := F2.keep hb5
  replace F7 := F7.keep hb5
  replace B0 := B0.trans (hb5.mono B0.size)
  clear hb5
  obtain ⟨xF75_0, xF75_1, xF75_2, xF75_3, xF75_4, xF75_5⟩ := F7.ce6
  obtain ⟨xF25_0, xF25_1, xF25_2, xF25_3, xF25_4, xF25_5⟩ := F2.ce6
  go_wp2_with fail
  (with_reducible refine (hr _ B0).mono ?_)
  rintro r w6 ⟨rfl, hb6⟩
  clear xF75_0 xF75_1 xF75_2 xF75_3 xF75_4 xF75_5 xF25_0 xF25_1 xF25_2 xF25_3 xF25_4 xF25_5
  replace F2 := F2.keep hb6
  replace F7 := F7.keep hb6
  replace B0 := B0.trans (hb6.mono B0.size)
  clear hb6
  clear F2
  clear F7
  have F9 := Blk.put (w6) #[.bool yn, .string yS, .int .i64 ye, .bool ym, .string yT, .int .i64 yf] 38
  replace B0 := B0.alloc B0.size (.cells #[.bool yn, .string yS, .int .i64 ye, .bool ym, .string yT, .int .i64 yf] 38)
  obtain ⟨xF96_0, xF96_1, xF96_2, xF96_3, xF96_4, xF96_5⟩ := F9.ce6
  go_wp2_with fail
  (with_reducible refine (hs _ B0).mono ?_)
  rintro r w7 ⟨rfl, hb7⟩
  clear xF96_0 xF96_1 xF96_2 xF96_3 xF96_4 xF96_5
  replace F9 := F9.keep hb7
  replace B0 := B0.trans (hb7.mono B0.size)
  clear hb7
  go_wp2
  go_ret
  exact ⟨rfl, B0⟩
end Go.Proofs.YtjldfclncipbgaaGreatDoor
