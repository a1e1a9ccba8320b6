/- Merged: MC MD -/
import Derived.Test.YtbhfnigblhfikaaGreatMB
import Derived.Test.YtbhfnigblhfikaaGreatUD
import Derived.Test.YtbhfnigblhfikaaGreatKg
import Derived.Test.YtbhfnigblhfikaaGreatM6

/- The reference of layer 4: Nearest; RatioTexts: its ways, by letters. -/
namespace Go.Proofs.YtbhfnigblhfikaaGreat
open Go Go.RowKit Go.PlainAid Fil

set_option maxRecDepth 1000000 in
set_option maxHeartbeats 16000000 in
theorem p4near_err (s : ByteArray) (xn : Bool) (xS xT : ByteArray) (e : Int) (w : World) (hd : ∀ W, Calls Tryz.prog 12 #[.string s] W fun r w' => r = .returned (.tuple #[.agg #[.bool xn, .string xS, .string xT], .int .i64 e]) ∧ Below W.heap.size W w')
    (he : (e != 0) = true) :
    Calls Tryz.prog 14 #[.string s] w fun r w' => r = .returned (.tuple #[.float .f64 0, .int .i64 e]) ∧ Below w.heap.size w w' := by
  go_enter Tryz.func14, Tryz.ntmps14
  have B0 := Below.refl w.heap.size w
  go_wp2_with fail
  (with_reducible refine (hd _).mono ?_)
  rintro r w1 ⟨rfl, hb1⟩
  replace B0 := B0.trans (hb1.mono B0.size)
  clear hb1
  replace B0 := B0.alloc B0.size (.cells #[.bool xn, .string xS, .string xT] 24)
  go_wp2
  go_ret2
  exact ⟨rfl, B0⟩
set_option maxRecDepth 1000000 in
set_option maxHeartbeats 16000000 in
theorem p4near_fl (s : ByteArray) (xn : Bool) (xS xT : ByteArray) (R : Nat) (w : World) (hd : ∀ W, Calls Tryz.prog 12 #[.string s] W fun r w' => r = .returned (.tuple #[.agg #[.bool xn, .string xS, .string xT], .int .i64 0]) ∧ Below W.heap.size W w')
    (hf : ∀ W, Calls Tryz.prog 49 #[.agg #[.bool xn, .string xS, .string xT]] W fun r w' => r = .returned (.float .f64 R) ∧ Below W.heap.size W w')
    (h0 : xS.toList.isEmpty = false) :
    Calls Tryz.prog 14 #[.string s] w fun r w' => r = .returned (.tuple #[.float .f64 R, .int .i64 0]) ∧ Below w.heap.size w w' := by
  have h02 : ¬ xS.toList = [] := fun h => by rw [h] at h0; exact Bool.noConfusion h0
  have h03 : (xS.toList == []) = false := by simpa using h02
  go_enter Tryz.func14, Tryz.ntmps14
  have B0 := Below.refl w.heap.size w
  go_wp2_with fail
  (with_reducible refine (hd _).mono ?_)
  rintro r w1 ⟨rfl, hb1⟩
  replace B0 := B0.trans (hb1.mono B0.size)
  clear hb1
  have F4 := Blk.put (w1) #[.bool xn, .string xS, .string xT] 24
  replace B0 := B0.alloc B0.size (.cells #[.bool xn, .string xS, .string xT] 24)
  obtain ⟨xF41_0, xF41_1, xF41_2⟩ := F4.ce3
  go_wp2_with fail
  (with_reducible refine (hf _).mono ?_)
  rintro r w2 ⟨rfl, hb2⟩
  clear xF41_0 xF41_1 xF41_2
  replace F4 := F4.keep hb2
  replace B0 := B0.trans (hb2.mono B0.size)
  clear hb2
  go_wp2
  go_ret2
  exact ⟨rfl, B0⟩
set_option maxRecDepth 1000000 in
set_option maxHeartbeats 16000000 in
theorem p4near_nil (s : ByteArray) (xn : Bool) (xT : ByteArray) (R : Nat) (b : Bool) (w : World) (hd : ∀ W, Calls Tryz.prog 12 #[.string s] W fun r w' => r = .returned (.tuple #[.agg #[.bool xn, .string { data := #[] }, .string xT], .int .i64 0]) ∧ Below W.heap.size W w')
    (hf : ∀ W, Calls Tryz.prog 48 #[.bool b, .float .f64 0] W fun r w' => r = .returned (.float .f64 R) ∧ Below W.heap.size W w')
    (s0 : 0 < s.size) (c : Nat) (hc : (s[0]'s0).toNat = c) (hb : ((c : Int) == 45) = b) :
    Calls Tryz.prog 14 #[.string s] w fun r w' => r = .returned (.tuple #[.float .f64 R, .int .i64 0]) ∧ Below w.heap.size w w' := by
  go_enter Tryz.func14, Tryz.ntmps14
  have B0 := Below.refl w.heap.size w
  go_wp2_with fail
  (with_reducible refine (hd _).mono ?_)
  rintro r w1 ⟨rfl, hb1⟩
  replace B0 := B0.trans (hb1.mono B0.size)
  clear hb1
  have F4 := Blk.put (w1) #[.bool xn, .string { data := #[] }, .string xT] 24
  replace B0 := B0.alloc B0.size (.cells #[.bool xn, .string { data := #[] }, .string xT] 24)
  obtain ⟨xF41_0, xF41_1, xF41_2⟩ := F4.ce3
  go_wp2_with fail
  (with_reducible refine (hf _).mono ?_)
  rintro r w2 ⟨rfl, hb2⟩
  clear xF41_0 xF41_1 xF41_2
  replace F4 := F4.keep hb2
  replace B0 := B0.trans (hb2.mono B0.size)
  clear hb2
  go_wp2
  go_ret2
  exact ⟨rfl, B0⟩
set_option maxRecDepth 1000000 in
set_option maxHeartbeats 16000000 in
theorem texts_far (xn : Bool) (xS xT : ByteArray) (s : ByteArray) (w : World) (h0 : ∀ W, Calls Tryz.prog 4 #[.agg #[.bool xn, .string xS, .string xT]] W fun r w' => r = .returned (.bool false) ∧ Below W.heap.size W w')
    (hl : ∀ W, Calls Tryz.prog 5 #[] W fun r w' => r = .returned (.bool true) ∧ Below W.heap.size W w') :
    Calls Tryz.prog 3 #[.agg #[.bool xn, .string xS, .string xT], .string s] w fun r w' => r = .returned (.bool true) ∧ Below w.heap.size w w' := by
  go_enter Tryz.func3, Tryz.ntmps3
  have B0 := Below.refl w.heap.size w
  have F2 := Blk.put (w) #[.bool xn, .string xS, .string xT] 24
  replace B0 := B0.alloc B0.size (.cells #[.bool xn, .string xS, .string xT] 24)
  obtain ⟨xF20_0, xF20_1, xF20_2⟩ := F2.ce3
  go_wp2_with fail
  (with_reducible refine (h0 _).mono ?_)
  rintro r w1 ⟨rfl, hb1⟩
  clear xF20_0 xF20_1 xF20_2
  replace F2 := F2.keep hb1
  replace B0 := B0.trans (hb1.mono B0.size)
  clear hb1
  go_wp2_with fail
  (with_reducible refine (hl _).mono ?_)
  rintro r w2 ⟨rfl, hb2⟩
  clear F2
  replace B0 := B0.trans (hb2.mono B0.size)
  clear hb2
  go_wp2
  go_ret
  exact ⟨rfl, B0⟩
set_option maxRecDepth 1000000 in
set_option maxHeartbeats 16000000 in
theorem texts_long (xn : Bool) (xS xT : ByteArray) (s : ByteArray) (w : World) (h0 : ∀ W, Calls Tryz.prog 4 #[.agg #[.bool xn, .string xS, .string xT]] W fun r w' => r = .returned (.bool true) ∧ Below W.heap.size W w')
    (hs : (5000 : Int) < (s.size : Int))
    (hl : ∀ W, Calls Tryz.prog 5 #[] W fun r w' => r = .returned (.bool true) ∧ Below W.heap.size W w') :
    Calls Tryz.prog 3 #[.agg #[.bool xn, .string xS, .string xT], .string s] w fun r w' => r = .returned (.bool true) ∧ Below w.heap.size w w' := by
  go_enter Tryz.func3, Tryz.ntmps3
  have B0 := Below.refl w.heap.size w
  have F2 := Blk.put (w) #[.bool xn, .string xS, .string xT] 24
  replace B0 := B0.alloc B0.size (.cells #[.bool xn, .string xS, .string xT] 24)
  obtain ⟨xF20_0, xF20_1, xF20_2⟩ := F2.ce3
  go_wp2_with fail
  (with_reducible refine (h0 _).mono ?_)
  rintro r w1 ⟨rfl, hb1⟩
  clear xF20_0 xF20_1 xF20_2
  replace F2 := F2.keep hb1
  replace B0 := B0.trans (hb1.mono B0.size)
  clear hb1
  go_wp2_with fail
  (with_reducible refine (hl _).mono ?_)
  rintro r w2 ⟨rfl, hb2⟩
  clear F2
  replace B0 := B0.trans (hb2.mono B0.size)
  clear hb2
  go_wp2
  go_ret
  exact ⟨rfl, B0⟩
set_option maxRecDepth 1000000 in
set_option maxHeartbeats 16000000 in
theorem texts_bad (xn : Bool) (xS xT : ByteArray) (s : ByteArray) (yn : Bool) (yS yT : ByteArray) (zn : Bool) (zS zT : ByteArray) (a : Nat) (e f g : Int) (w : World) (h0 : ∀ W, Calls Tryz.prog 4 #[.agg #[.bool xn, .string xS, .string xT]] W fun r w' => r = .returned (.bool true) ∧ Below W.heap.size W w')
    (hs : ¬ (5000 : Int) < (s.size : Int))
    (h1 : ∀ W, Calls Tryz.prog 6 #[.agg #[.bool xn, .string xS, .string xT]] W fun r w' => r = .returned (.tuple #[.string { data := #[] }, .int .i64 2]) ∧ Below W.heap.size W w')
    (h2 : ∀ W, Calls Tryz.prog 7 #[.agg #[.bool xn, .string xS, .string xT]] W fun r w' => r = .returned (.bool false) ∧ Below W.heap.size W w')
    (h3 : ∀ W, Calls Tryz.prog 9 #[.string s] W fun r w' => r = .returned (.tuple #[.agg #[.bool yn, .string yS, .string yT], .int .i64 e]) ∧ Below W.heap.size W w')
    (h4 : ∀ W, Calls Tryz.prog 10 #[.string s] W fun r w' => r = .returned (.tuple #[.agg #[.bool yn, .string yS, .string yT], .int .i64 e]) ∧ Below W.heap.size W w')
    (h5 : ∀ W, Calls Tryz.prog 11 #[.string s] W fun r w' => r = .returned (.tuple #[.agg #[.bool zn, .string zS, .string zT], .int .i64 f]) ∧ Below W.heap.size W w')
    (h6 : ∀ W, Calls Tryz.prog 12 #[.string s] W fun r w' => r = .returned (.tuple #[.agg #[.bool zn, .string zS, .string zT], .int .i64 f]) ∧ Below W.heap.size W w')
    (h7 : ∀ W, Calls Tryz.prog 13 #[.string s] W fun r w' => r = .returned (.tuple #[.float .f64 a, .int .i64 g]) ∧ Below W.heap.size W w')
    (h8 : ∀ W, Calls Tryz.prog 14 #[.string s] W fun r w' => r = .returned (.tuple #[.float .f64 a, .int .i64 g]) ∧ Below W.heap.size W w')
    (hl : ∀ W, Calls Tryz.prog 5 #[] W fun r w' => r = .returned (.bool true) ∧ Below W.heap.size W w') :
    Calls Tryz.prog 3 #[.agg #[.bool xn, .string xS, .string xT], .string s] w fun r w' => r = .returned (.bool true) ∧ Below w.heap.size w w' := by
  go_enter Tryz.func3, Tryz.ntmps3
  have B0 := Below.refl w.heap.size w
  have F2 := Blk.put (w) #[.bool xn, .string xS, .string xT] 24
  replace B0 := B0.alloc B0.size (.cells #[.bool xn, .string xS, .string xT] 24)
  obtain ⟨xF20_0, xF20_1, xF20_2⟩ := F2.ce3
  go_wp2_with fail
  (with_reducible refine (h0 _).mono ?_)
  rintro r w1 ⟨rfl, hb1⟩
  clear xF20_0 xF20_1 xF20_2
  replace F2 := F2.keep hb1
  replace B0 := B0.trans (hb1.mono B0.size)
  clear hb1
  obtain ⟨xF21_0, xF21_1, xF21_2⟩ := F2.ce3
  go_wp2_with fail
  (with_reducible refine (h1 _).mono ?_)
  rintro r w2 ⟨rfl, hb2⟩
  clear xF21_0 xF21_1 xF21_2
  replace F2 := F2.keep hb2
  replace B0 := B0.trans (hb2.mono B0.size)
  clear hb2
  obtain ⟨xF22_0, xF22_1, xF22_2⟩ := F2.ce3
  go_wp2_with fail
  (with_reducible refine (h2 _).mono ?_)
  rintro r w3 ⟨rfl, hb3⟩
  clear xF22_0 xF22_1 xF22_2
  replace F2 := F2.keep hb3
  replace B0 := B0.trans (hb3.mono B0.size)
  clear hb3
  obtain ⟨xF23_0, xF23_1, xF23_2⟩ := F2.ce3
  go_wp2_with fail
  (with_reducible refine (h2 _).mono ?_)
  rintro r w4 ⟨rfl, hb4⟩
  clear xF23_0 xF23_1 xF23_2
  replace F2 := F2.keep hb4
  replace B0 := B0.trans (hb4.mono B0.size)
  clear hb4
  go_wp2_with fail
  (with_reducible refine (h3 _).mono ?_)
  rintro r w5 ⟨rfl, hb5⟩
  clear F2
  replace B0 := B0.trans (hb5.mono B0.size)
  clear hb5
  have F7 := Blk.put (w5) #[.bool yn, .string yS, .string yT] 24
  replace B0 := B0.alloc B0.size (.cells #[.bool yn, .string yS, .string yT] 24)
  go_wp2_with fail
  (with_reducible refine (h4 _).mono ?_)
  rintro r w6 ⟨rfl, hb6⟩
  replace F7 := F7.keep hb6
  replace B0 := B0.trans (hb6.mono B0.size)
  clear hb6
  replace F7 := F7.allocd (.cells #[.bool yn, .string yS, .string yT] 24)
  have F9 := Blk.put (w6) #[.bool yn, .string yS, .string yT] 24
  replace B0 := B0.alloc B0.size (.cells #[.bool yn, .string yS, .string yT] 24)
  go_wp2_with fail
  (with_reducible refine (h5 _).mono ?_)
  rintro r w7 ⟨rfl, hb7⟩
  replace F7 := F7.keep hb7
  replace F9 := F9.keep hb7
  replace B0 := B0.trans (hb7.mono B0.size)
  clear hb7
  replace F7 := F7.allocd (.cells #[.bool zn, .string zS, .string zT] 24)
  replace F9 := F9.allocd (.cells #[.bool zn, .string zS, .string zT] 24)
  have F11 := Blk.put (w7) #[.bool zn, .string zS, .string zT] 24
  replace B0 := B0.alloc B0.size (.cells #[.bool zn, .string zS, .string zT] 24)
  go_wp2_with fail
  (with_reducible refine (h6 _).mono ?_)
  rintro r w8 ⟨rfl, hb8⟩
  replace F7 := F7.keep hb8
  replace F9 := F9.keep hb8
  replace F11 := F11.keep hb8
  replace B0 := B0.trans (hb8.mono B0.size)
  clear hb8
  replace F7 := F7.allocd (.cells #[.bool zn, .string zS, .string zT] 24)
  replace F9 := F9.allocd (.cells #[.bool zn, .string zS, .string zT] 24)
  replace F11 := F11.allocd (.cells #[.bool zn, .string zS, .string zT] 24)
  have F13 := Blk.put (w8) #[.bool zn, .string zS, .string zT] 24
  replace B0 := B0.alloc B0.size (.cells #[.bool zn, .string zS, .string zT] 24)
  go_wp2_with fail
  (with_reducible refine (h7 _).mono ?_)
  rintro r w9 ⟨rfl, hb9⟩
  replace F7 := F7.keep hb9
  replace F9 := F9.keep hb9
  replace F11 := F11.keep hb9
  replace F13 := F13.keep hb9
  replace B0 := B0.trans (hb9.mono B0.size)
  clear hb9
  go_wp2_with fail
  (with_reducible refine (h8 _).mono ?_)
  rintro r w10 ⟨rfl, hb10⟩
  replace F7 := F7.keep hb10
  replace F9 := F9.keep hb10
  replace F11 := F11.keep hb10
  replace F13 := F13.keep hb10
  replace B0 := B0.trans (hb10.mono B0.size)
  clear hb10
  obtain ⟨xF710_0, xF710_1, xF710_2⟩ := F7.ce3
  obtain ⟨xF910_0, xF910_1, xF910_2⟩ := F9.ce3
  obtain ⟨xF1110_0, xF1110_1, xF1110_2⟩ := F11.ce3
  obtain ⟨xF1310_0, xF1310_1, xF1310_2⟩ := F13.ce3
  go_wp2_with fail
  (with_reducible refine (l4like_same2 _ _).mono ?_)
  rintro r w11 ⟨rfl, hb11⟩
  clear xF710_0 xF710_1 xF710_2 xF910_0 xF910_1 xF910_2 xF1110_0 xF1110_1 xF1110_2 xF1310_0 xF1310_1 xF1310_2
  replace F7 := F7.keep hb11
  replace F9 := F9.keep hb11
  replace F11 := F11.keep hb11
  replace F13 := F13.keep hb11
  replace B0 := B0.trans (hb11.mono B0.size)
  clear hb11
  go_wp2_with fail
  (with_reducible refine (hl _).mono ?_)
  rintro r w12 ⟨rfl, hb12⟩
  clear F7
  clear F9
  clear F11
  clear F13
  replace B0 := B0.trans (hb12.mono B0.size)
  clear hb12
  go_wp2
  go_ret
  exact ⟨rfl, B0⟩
set_option maxRecDepth 1000000 in
set_option maxHeartbeats 16000000 in
theorem texts_good (xn : Bool) (xS xT : ByteArray) (s : ByteArray) (yn : Bool) (yS yT : ByteArray) (zn : Bool) (zS zT : ByteArray) (a : Nat) (e f g : Int) (t : ByteArray) (w : World) (h0 : ∀ W, Calls Tryz.prog 4 #[.agg #[.bool xn, .string xS, .string xT]] W fun r w' => r = .returned (.bool true) ∧ Below W.heap.size W w')
    (hs : ¬ (5000 : Int) < (s.size : Int))
    (h1 : ∀ W, Calls Tryz.prog 6 #[.agg #[.bool xn, .string xS, .string xT]] W fun r w' => r = .returned (.tuple #[.string t, .int .i64 0]) ∧ Below W.heap.size W w')
    (h2 : ∀ W, Calls Tryz.prog 7 #[.agg #[.bool xn, .string xS, .string xT]] W fun r w' => r = .returned (.bool true) ∧ Below W.heap.size W w')
    (h9 : ∀ W, Calls Tryz.prog 8 #[.agg #[.bool xn, .string xS, .string xT]] W fun r w' => r = .returned (.string t) ∧ Below W.heap.size W w')
    (h3 : ∀ W, Calls Tryz.prog 9 #[.string s] W fun r w' => r = .returned (.tuple #[.agg #[.bool yn, .string yS, .string yT], .int .i64 e]) ∧ Below W.heap.size W w')
    (h4 : ∀ W, Calls Tryz.prog 10 #[.string s] W fun r w' => r = .returned (.tuple #[.agg #[.bool yn, .string yS, .string yT], .int .i64 e]) ∧ Below W.heap.size W w')
    (h5 : ∀ W, Calls Tryz.prog 11 #[.string s] W fun r w' => r = .returned (.tuple #[.agg #[.bool zn, .string zS, .string zT], .int .i64 f]) ∧ Below W.heap.size W w')
    (h6 : ∀ W, Calls Tryz.prog 12 #[.string s] W fun r w' => r = .returned (.tuple #[.agg #[.bool zn, .string zS, .string zT], .int .i64 f]) ∧ Below W.heap.size W w')
    (h7 : ∀ W, Calls Tryz.prog 13 #[.string s] W fun r w' => r = .returned (.tuple #[.float .f64 a, .int .i64 g]) ∧ Below W.heap.size W w')
    (h8 : ∀ W, Calls Tryz.prog 14 #[.string s] W fun r w' => r = .returned (.tuple #[.float .f64 a, .int .i64 g]) ∧ Below W.heap.size W w')
    (hl : ∀ W, Calls Tryz.prog 5 #[] W fun r w' => r = .returned (.bool true) ∧ Below W.heap.size W w') :
    Calls Tryz.prog 3 #[.agg #[.bool xn, .string xS, .string xT], .string s] w fun r w' => r = .returned (.bool true) ∧ Below w.heap.size w w' := by
  go_enter Tryz.func3, Tryz.ntmps3
  have B0 := Below.refl w.heap.size w
  have F2 := Blk.put (w) #[.bool xn, .string xS, .string xT] 24
  replace B0 := B0.alloc B0.size (.cells #[.bool xn, .string xS, .string xT] 24)
  obtain ⟨xF20_0, xF20_1, xF20_2⟩ := F2.ce3
  go_wp2_with fail
  (with_reducible refine (h0 _).mono ?_)
  rintro r w1 ⟨rfl, hb1⟩
  clear xF20_0 xF20_1 xF20_2
  replace F2 := F2.keep hb1
  replace B0 := B0.trans (hb1.mono B0.size)
  clear hb1
  obtain ⟨xF21_0, xF21_1, xF21_2⟩ := F2.ce3
  go_wp2_with fail
  (with_reducible refine (h1 _).mono ?_)
  rintro r w2 ⟨rfl, hb2⟩
  clear xF21_0 xF21_1 xF21_2
  replace F2 := F2.keep hb2
  replace B0 := B0.trans (hb2.mono B0.size)
  clear hb2
  obtain ⟨xF22_0, xF22_1, xF22_2⟩ := F2.ce3
  go_wp2_with fail
  (with_reducible refine (h2 _).mono ?_)
  rintro r w3 ⟨rfl, hb3⟩
  clear xF22_0 xF22_1 xF22_2
  replace F2 := F2.keep hb3
  replace B0 := B0.trans (hb3.mono B0.size)
  clear hb3
  obtain ⟨xF23_0, xF23_1, xF23_2⟩ := F2.ce3
  go_wp2_with fail
  (with_reducible refine (h2 _).mono ?_)
  rintro r w4 ⟨rfl, hb4⟩
  clear xF23_0 xF23_1 xF23_2
  replace F2 := F2.keep hb4
  replace B0 := B0.trans (hb4.mono B0.size)
  clear hb4
  obtain ⟨xF24_0, xF24_1, xF24_2⟩ := F2.ce3
  go_wp2_with fail
  (with_reducible refine (h9 _).mono ?_)
  rintro r w5 ⟨rfl, hb5⟩
  clear xF24_0 xF24_1 xF24_2
  replace F2 := F2.keep hb5
  replace B0 := B0.trans (hb5.mono B0.size)
  clear hb5
  go_wp2_with fail
  (with_reducible refine (h3 _).mono ?_)
  rintro r w6 ⟨rfl, hb6⟩
  clear F2
  replace B0 := B0.trans (hb6.mono B0.size)
  clear hb6
  have F7 := Blk.put (w6) #[.bool yn, .string yS, .string yT] 24
  replace B0 := B0.alloc B0.size (.cells #[.bool yn, .string yS, .string yT] 24)
  go_wp2_with fail
  (with_reducible refine (h4 _).mono ?_)
  rintro r w7 ⟨rfl, hb7⟩
  replace F7 := F7.keep hb7
  replace B0 := B0.trans (hb7.mono B0.size)
  clear hb7
  replace F7 := F7.allocd (.cells #[.bool yn, .string yS, .string yT] 24)
  have F9 := Blk.put (w7) #[.bool yn, .string yS, .string yT] 24
  replace B0 := B0.alloc B0.size (.cells #[.bool yn, .string yS, .string yT] 24)
  go_wp2_with fail
  (with_reducible refine (h5 _).mono ?_)
  rintro r w8 ⟨rfl, hb8⟩
  replace F7 := F7.keep hb8
  replace F9 := F9.keep hb8
  replace B0 := B0.trans (hb8.mono B0.size)
  clear hb8
  replace F7 := F7.allocd (.cells #[.bool zn, .string zS, .string zT] 24)
  replace F9 := F9.allocd (.cells #[.bool zn, .string zS, .string zT] 24)
  have F11 := Blk.put (w8) #[.bool zn, .string zS, .string zT] 24
  replace B0 := B0.alloc B0.size (.cells #[.bool zn, .string zS, .string zT] 24)
  go_wp2_with fail
  (with_reducible refine (h6 _).mono ?_)
  rintro r w9 ⟨rfl, hb9⟩
  replace F7 := F7.keep hb9
  replace F9 := F9.keep hb9
  replace F11 := F11.keep hb9
  replace B0 := B0.trans (hb9.mono B0.size)
  clear hb9
  replace F7 := F7.allocd (.cells #[.bool zn, .string zS, .string zT] 24)
  replace F9 := F9.allocd (.cells #[.bool zn, .string zS, .string zT] 24)
  replace F11 := F11.allocd (.cells #[.bool zn, .string zS, .string zT] 24)
  have F13 := Blk.put (w9) #[.bool zn, .string zS, .string zT] 24
  replace B0 := B0.alloc B0.size (.cells #[.bool zn, .string zS, .string zT] 24)
  go_wp2_with fail
  (with_reducible refine (h7 _).mono ?_)
  rintro r w10 ⟨rfl, hb10⟩
  replace F7 := F7.keep hb10
  replace F9 := F9.keep hb10
  replace F11 := F11.keep hb10
  replace F13 := F13.keep hb10
  replace B0 := B0.trans (hb10.mono B0.size)
  clear hb10
  go_wp2_with fail
  (with_reducible refine (h8 _).mono ?_)
  rintro r w11 ⟨rfl, hb11⟩
  replace F7 := F7.keep hb11
  replace F9 := F9.keep hb11
  replace F11 := F11.keep hb11
  replace F13 := F13.keep hb11
  replace B0 := B0.trans (hb11.mono B0.size)
  clear hb11
  obtain ⟨xF711_0, xF711_1, xF711_2⟩ := F7.ce3
  obtain ⟨xF911_0, xF911_1, xF911_2⟩ := F9.ce3
  obtain ⟨xF1111_0, xF1111_1, xF1111_2⟩ := F11.ce3
  obtain ⟨xF1311_0, xF1311_1, xF1311_2⟩ := F13.ce3
  go_wp2_with fail
  (with_reducible refine (l4like_same2 _ _).mono ?_)
  rintro r w12 ⟨rfl, hb12⟩
  clear xF711_0 xF711_1 xF711_2 xF911_0 xF911_1 xF911_2 xF1111_0 xF1111_1 xF1111_2 xF1311_0 xF1311_1 xF1311_2
  replace F7 := F7.keep hb12
  replace F9 := F9.keep hb12
  replace F11 := F11.keep hb12
  replace F13 := F13.keep hb12
  replace B0 := B0.trans (hb12.mono B0.size)
  clear hb12
  go_wp2_with fail
  (with_reducible refine (hl _).mono ?_)
  rintro r w13 ⟨rfl, hb13⟩
  clear F7
  clear F9
  clear F11
  clear F13
  replace B0 := B0.trans (hb13.mono B0.size)
  clear hb13
  go_wp2
  go_ret
  exact ⟨rfl, B0⟩
end Go.Proofs.YtbhfnigblhfikaaGreat

/- RatioTexts: the law for any input. -/
namespace Go.Proofs.YtbhfnigblhfikaaGreat
open Go Go.RowKit Go.PlainAid Fil

theorem dn8_tight {x m N : Nat} (hx : x < 10 ^ m) (h : 10 * (m + 2) ≤ 24 * N) : Fil.dn 8 x ≤ N := by
  obtain ⟨k, hk⟩ : ∃ k, k = (m + 2) / 3 := ⟨_, rfl⟩
  have h1 : 10 ^ m ≤ 10 ^ (3 * k) := Nat.pow_le_pow_right (by decide) (by omega)
  have h2 : (10 : Nat) ^ (3 * k) ≤ 2 ^ (10 * k) := by rw [Nat.pow_mul, Nat.pow_mul]; exact Nat.pow_le_pow_left (by decide) _
  exact dn_le (by decide) (Nat.lt_of_lt_of_le hx (Nat.le_trans h1 (Nat.le_trans h2 (pmono (by omega)))))
theorem dcm_bts {s : ByteArray} {d : Dcm} (h : DcmOk s d) (hs : s.size ≤ 4096) (hf : dcmFew d) : Bts 4000 (dcmR d) := by
  have h1 := h.sizes
  have hN := dval_lt _ (dec_app h.head h.tail)
  rw [len_toList, ByteArray.size_append] at hN
  have hp : dval 0 d.power.data.toList ≤ 5000 := by
    rcases hf with h2 | h2
    · have : d.power.data.toList = [] := List.eq_nil_of_length_eq_zero (by rw [Array.length_toList]; exact h2)
      rw [this, dval_nil]; omega
    · exact h2
  have hP : dcmP d ≤ 5000 - d.tail.size ∧ -(5000 + d.tail.size : Int) ≤ dcmP d := by unfold dcmP; split <;> omega
  obtain ⟨m, hm⟩ : ∃ m, m = (dcmP d).natAbs := ⟨_, rfl⟩
  have one : Fil.dn 8 ((1 : Int)).natAbs ≤ 4000 := Nat.le_trans (dn_le (n := 1) (by decide) (by decide)) (by omega)
  unfold dcmR
  rw [← hm]
  split
  · rename_i hpos
    refine bts_div (by decide) ?_ one
    rw [sz_mul_nat, sz_abs]
    refine dn8_tight (m := d.head.size + d.tail.size + m) (by rw [Nat.pow_add]; exact Nat.mul_lt_mul_of_pos_right hN (Nat.pow_pos (by decide))) (by omega)
  · rename_i hneg
    refine bts_div (ten_ne _) ?_ ?_
    · rw [sz_abs]; exact dn8_tight hN (by omega)
    · rw [Int.natAbs_natCast]; exact dn8_tight (m := m + 1) (Nat.pow_lt_pow_right (by decide) (by omega)) (by omega)
theorem p4float_some (x : Rat) (hx : Bts 4000 x) (h0 : x.num ≠ 0) (W : World) : Calls Tryz.prog 49 #[kA x] W fun r w' => r = .returned (.float .f64 (kFl x)) ∧ Below W.heap.size W w' := by
  have hd := x.den_nz
  have hn : x.num.natAbs ≠ 0 := by omega
  obtain ⟨Q, hQ, har⟩ := p4around_any (sg x.num) x.num.natAbs x.den hn hd (by have := hx.1; omega) (by have := hx.2; omega)
  have hR : kRung x = _ := ar_N hn hd hQ
  obtain ⟨hL, _⟩ := ar_pos hd hQ
  have hT := (bstr_ne hn).1
  have hT2 := (bstr_ne hn).2
  have hFl : kFl x = Ieee.double.word (sg x.num) (kRung x) := by unfold kFl; rw [if_neg h0]
  obtain ⟨up, hup⟩ : ∃ up, up = (decide (0 < aC x.num.natAbs x.den Q) || (decide (aC x.num.natAbs x.den Q = 0) && !aE x.num.natAbs x.den Q)) := ⟨_, rfl⟩
  rw [← hup] at hR
  have hsgn := fun (v : Nat) (N : Bool) (h : v ≤ 9218868437227405312) (W : World) => p4signed_any N v W (by omega)
  rw [hFl, hR]
  unfold kA
  generalize aL x.num.natAbs x.den Q = L at *
  generalize aC x.num.natAbs x.den Q = c at *
  generalize aE x.num.natAbs x.den Q = e at *
  by_cases c1 : 0 < c
  · obtain rfl : up = true := by rw [hup, decide_eq_true c1]; rfl
    exact p4float_gt _ _ L (L + 1) _ _ c e c1 W hT hT2 har (hsgn _ _ (by omega))
  · by_cases c2 : c = 0
    · subst c2
      cases e
      · obtain rfl : up = true := by rw [hup]; rfl
        exact p4float_odd _ _ L (L + 1) _ _ W hT hT2 har (hsgn _ _ (by omega))
      · obtain rfl : up = false := by rw [hup]; rfl
        exact p4float_even _ _ L (L + 1) _ _ W hT hT2 har (hsgn _ _ (by omega))
    · obtain rfl : up = false := by rw [hup, decide_eq_false c1, decide_eq_false c2]; rfl
      exact p4float_lt _ _ L (L + 1) _ _ c e c1 c2 W hT hT2 har (hsgn _ _ (by omega))
theorem p4nearest_good (s : ByteArray) (w : World) (hs : s.size ≤ 9223372036854775807) (h : decOk s) :
    Calls Tryz.prog 14 #[.string s] w fun r w' => r = .returned (.tuple #[.float .f64 (nrF s), .int .i64 0]) ∧ Below w.heap.size w w' := by
  have hd := fun W => p4decimal_any s W hs
  rw [decV_ok h] at hd
  have hb := dcm_bts h.dcm h.1 h.2.2
  unfold nrF
  by_cases h0 : (dcmR (SP s).1).num = 0
  · rw [if_pos h0]
    have hgh := good_pos h.dcm.head
    have hsz := h.dcm.sizes
    have s0 : 0 < s.size := by omega
    unfold kA at hd
    rw [show bstr (dcmR (SP s).1).num.natAbs = { data := #[] } by rw [h0]; exact bstr_zero] at hd
    by_cases h45 : byt s 0 = 45
    · rw [if_pos ⟨s0, h45⟩]
      have hf : ∀ W, Calls Tryz.prog 48 #[.bool true, .float .f64 0] W fun r w' => r = .returned (.float .f64 9223372036854775808) ∧ Below W.heap.size W w' := fun W => (p4signed_any true 0 W (by decide)).mono fun _ _ ⟨a, b⟩ => ⟨a, b ▸ Below.refl _ _⟩
      exact p4near_nil s _ _ _ true w hd hf s0 _ rfl (by rw [byt_in s0] at h45; rw [h45]; rfl)
    · rw [if_neg (fun k => h45 k.2)]
      have hf : ∀ W, Calls Tryz.prog 48 #[.bool false, .float .f64 0] W fun r w' => r = .returned (.float .f64 0) ∧ Below W.heap.size W w' := fun W => (p4signed_any false 0 W (by decide)).mono fun _ _ ⟨a, b⟩ => ⟨a, b ▸ Below.refl _ _⟩
      exact p4near_nil s _ _ _ false w hd hf s0 _ rfl (by rw [byt_in s0] at h45; simp; omega)
  · rw [if_neg h0]
    have hf := fun W => p4float_some (dcmR (SP s).1) hb h0 W
    exact p4near_fl s _ _ _ _ w hd hf (str_cons (by rw [bstr_size]; exact dn_pos (by omega)))
theorem p4nearest_bad (s : ByteArray) (w : World) (hs : s.size ≤ 9223372036854775807) (e : Int) (he : e = 4 ∨ e = 40) (hv : decV s = errV e) :
    Calls Tryz.prog 14 #[.string s] w fun r w' => r = .returned (.tuple #[.float .f64 0, .int .i64 e]) ∧ Below w.heap.size w w' := by
  have hd := fun W => p4decimal_any s W hs
  rw [hv] at hd
  exact p4near_err s _ _ _ e w hd (by rcases he with rfl | rfl <;> rfl)
/-- what both Reads tell -/
theorem reads_some (s : ByteArray) (hs : s.size ≤ 80000) : ∃ (n : Bool) (S T : ByteArray) (e : Int), (∀ W, Calls Tryz.prog 9 #[.string s] W fun r w' => r = .returned (.tuple #[.agg #[.bool n, .string S, .string T], .int .i64 e]) ∧ Below W.heap.size W w') ∧ (∀ W, Calls Tryz.prog 10 #[.string s] W fun r w' => r = .returned (.tuple #[.agg #[.bool n, .string S, .string T], .int .i64 e]) ∧ Below W.heap.size W w') := by
  have h1 := fun W => kread_any s W hs
  have h2 := fun W => p4read_any s W hs
  by_cases h : ∃ z, Fits z ∧ ktx z = s.data.toList
  · obtain ⟨z, fz, hz⟩ := h
    refine ⟨sg z.num, bstr z.num.natAbs, bstr z.den, 0, fun W => (h1 W).mono fun _ _ k => ⟨?_, k.2⟩, fun W => (h2 W).mono fun _ _ k => ⟨?_, k.2⟩⟩
    · rcases k.1 with ⟨y, fy, hy, e⟩ | ⟨hn, _⟩
      · rw [e, ktx_inj fy (hy.trans hz.symm)]; rfl
      · exact absurd hz (hn z fz)
    · rcases k.1 with ⟨y, fy, hy, e⟩ | ⟨hn, _⟩
      · rw [e, ktx_inj fy (hy.trans hz.symm)]; rfl
      · exact absurd hz (hn z fz)
  · refine ⟨false, ⟨#[]⟩, ⟨#[]⟩, 40, fun W => (h1 W).mono fun _ _ k => ⟨?_, k.2⟩, fun W => (h2 W).mono fun _ _ k => ⟨?_, k.2⟩⟩
    · rcases k.1 with ⟨y, fy, hy, e⟩ | ⟨_, e⟩
      · exact absurd ⟨y, fy, hy⟩ h
      · exact e
    · rcases k.1 with ⟨y, fy, hy, e⟩ | ⟨_, e⟩
      · exact absurd ⟨y, fy, hy⟩ h
      · exact e
theorem decs_some (s : ByteArray) : ∃ (n : Bool) (S T : ByteArray) (e : Int), decV s = .tuple #[.agg #[.bool n, .string S, .string T], .int .i64 e] := by
  by_cases h : decOk s
  · exact ⟨_, _, _, _, decV_ok h⟩
  · obtain ⟨e, _, hv⟩ := decV_bad h
    exact ⟨_, _, _, _, hv⟩
theorem nears_some (s : ByteArray) (hs : s.size ≤ 9223372036854775807) : ∃ (a : Nat) (g : Int), (∀ W, Calls Tryz.prog 13 #[.string s] W fun r w' => r = .returned (.tuple #[.float .f64 a, .int .i64 g]) ∧ Below W.heap.size W w') ∧ (∀ W, Calls Tryz.prog 14 #[.string s] W fun r w' => r = .returned (.tuple #[.float .f64 a, .int .i64 g]) ∧ Below W.heap.size W w') := by
  by_cases h : decOk s
  · exact ⟨_, _, fun W => knearest_good s W hs h, fun W => p4nearest_good s W hs h⟩
  · obtain ⟨e, he, hv⟩ := decV_bad h
    refine ⟨0, e, fun W => ?_, fun W => p4nearest_bad s W hs e he hv⟩
    obtain ⟨e2, he2, hv2, k⟩ := knearest_bad s W hs h
    have : e2 = e := by
      rw [hv] at hv2
      unfold errV at hv2
      simp at hv2
      exact hv2.symm
    rw [this] at k
    exact k
theorem ratioTexts_any (xn : Bool) (xS xT : ByteArray) (s : ByteArray) (w : World) (b1 : xS.size ≤ 9223372036854775807) (b2 : xT.size ≤ 9223372036854775807) (b3 : s.size ≤ 9223372036854775807) :
    Calls Tryz.prog 3 #[.agg #[.bool xn, .string xS, .string xT], .string s] w fun r w' => r = .returned (.bool true) ∧ Below w.heap.size w w' := by
  have h0 := fun W => l4small_any xn xS xT W b1 b2
  have hl := fun W => l4lives_any W
  cases e1 : smallB xS xT
  · rw [e1] at h0
    exact texts_far _ _ _ s w h0 hl
  · rw [e1] at h0
    by_cases hs : 5000 < s.size
    · exact texts_long _ _ _ s w h0 (by omega) hl
    · obtain ⟨yn, yS, yT, e, h3, h4⟩ := reads_some s (by omega)
      obtain ⟨zn, zS, zT, f, hz⟩ := decs_some s
      have h5 := fun W => kdecimal_any s W b3
      have h6 := fun W => p4decimal_any s W b3
      rw [hz] at h5 h6
      obtain ⟨a, g, h7, h8⟩ := nears_some s b3
      have h2 := fun W => p4may_any xn xS xT W b1 b2
      cases e3 : kMayB xn xS xT
      · rw [e3] at h2
        exact texts_bad _ _ _ s _ _ _ _ _ _ a e f g w h0 (by omega) (fun W => ktext_bad xn xS xT W b1 b2 e3) h2 h3 h4 h5 h6 h7 h8 hl
      · rw [e3] at h2
        obtain ⟨x, fx, rfl, rfl, rfl⟩ := rat_of_may e3
        exact texts_good _ _ _ s _ _ _ _ _ _ a e f g _ w h0 (by omega) (fun W => ktext_ok x W fx) h2 (fun W => p4text_ok x W fx) h3 h4 h5 h6 h7 h8 hl
end Go.Proofs.YtbhfnigblhfikaaGreat
