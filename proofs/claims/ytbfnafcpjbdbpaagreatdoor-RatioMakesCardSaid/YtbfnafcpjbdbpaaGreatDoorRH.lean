/- filigreelaw04.RatioMakes, its ways by letters. -/
import Derived.Test.YtbfnafcpjbdbpaaGreatDoorJW
namespace Go.Proofs.YtbfnafcpjbdbpaaGreatDoor
open Go Go.RowKit Go.PlainAid Fil

set_option maxRecDepth 1000000 in
set_option maxHeartbeats 16000000 in
theorem makes_far0 (xn : Bool) (xS xT : ByteArray) (N : Bool) (P Q : ByteArray) (z : Int) (dn : Bool) (dS : ByteArray) (de : Int) (w : World) (f0 : ∀ W, Calls Tryz.prog 5 #[.agg #[.bool xn, .string xS, .string xT]] W fun r w' => r = .returned (.bool false) ∧ Below W.heap.size W w') (hl : ∀ W, Calls Tryz.prog 7 #[] W fun r w' => r = .returned (.bool true) ∧ Below W.heap.size W w') :
    Calls Tryz.prog 3 #[.agg #[.bool xn, .string xS, .string xT], .bool N, .string P, .string Q, .int .i64 z, .agg #[.bool dn, .string dS, .int .i64 de]] w fun r w' => r = .returned (.bool true) ∧ Below w.heap.size w w' := by
  go_enter Tryz.func3, Tryz.ntmps3
  have B0 := Below.refl w.heap.size w
  have F6 := Blk.put (w) #[.bool xn, .string xS, .string xT] 24
  replace B0 := B0.alloc B0.size (.cells #[.bool xn, .string xS, .string xT] 24)
  replace F6 := F6.allocd (.cells #[.bool dn, .string dS, .int .i64 de] 26)
  replace B0 := B0.alloc B0.size (.cells #[.bool dn, .string dS, .int .i64 de] 26)
  obtain ⟨xF60_0, xF60_1, xF60_2⟩ := F6.ce3
  go_wp2_with fail
  (with_reducible refine (f0 _).mono ?_)
  rintro r w1 ⟨rfl, hb1⟩
  clear xF60_0 xF60_1 xF60_2
  replace F6 := F6.keep hb1
  replace B0 := B0.trans (hb1.mono B0.size)
  clear hb1
  go_wp2_with fail
  (with_reducible refine (hl _).mono ?_)
  rintro r w2 ⟨rfl, hb2⟩
  clear F6
  replace B0 := B0.trans (hb2.mono B0.size)
  clear hb2
  go_wp2
  go_ret
  exact ⟨rfl, B0⟩
set_option maxRecDepth 1000000 in
set_option maxHeartbeats 16000000 in
theorem makes_far1 (xn : Bool) (xS xT : ByteArray) (N : Bool) (P Q : ByteArray) (z : Int) (dn : Bool) (dS : ByteArray) (de : Int) (w : World) (f0 : ∀ W, Calls Tryz.prog 5 #[.agg #[.bool xn, .string xS, .string xT]] W fun r w' => r = .returned (.bool true) ∧ Below W.heap.size W w') (f1 : ∀ W, Calls Tryz.prog 6 #[.string P] W fun r w' => r = .returned (.bool false) ∧ Below W.heap.size W w') (hl : ∀ W, Calls Tryz.prog 7 #[] W fun r w' => r = .returned (.bool true) ∧ Below W.heap.size W w') :
    Calls Tryz.prog 3 #[.agg #[.bool xn, .string xS, .string xT], .bool N, .string P, .string Q, .int .i64 z, .agg #[.bool dn, .string dS, .int .i64 de]] w fun r w' => r = .returned (.bool true) ∧ Below w.heap.size w w' := by
  go_enter Tryz.func3, Tryz.ntmps3
  have B0 := Below.refl w.heap.size w
  have F6 := Blk.put (w) #[.bool xn, .string xS, .string xT] 24
  replace B0 := B0.alloc B0.size (.cells #[.bool xn, .string xS, .string xT] 24)
  replace F6 := F6.allocd (.cells #[.bool dn, .string dS, .int .i64 de] 26)
  replace B0 := B0.alloc B0.size (.cells #[.bool dn, .string dS, .int .i64 de] 26)
  obtain ⟨xF60_0, xF60_1, xF60_2⟩ := F6.ce3
  go_wp2_with fail
  (with_reducible refine (f0 _).mono ?_)
  rintro r w1 ⟨rfl, hb1⟩
  clear xF60_0 xF60_1 xF60_2
  replace F6 := F6.keep hb1
  replace B0 := B0.trans (hb1.mono B0.size)
  clear hb1
  go_wp2_with fail
  (with_reducible refine (f1 _).mono ?_)
  rintro r w2 ⟨rfl, hb2⟩
  clear F6
  replace B0 := B0.trans (hb2.mono B0.size)
  clear hb2
  go_wp2_with fail
  (with_reducible refine (hl _).mono ?_)
  rintro r w3 ⟨rfl, hb3⟩
  replace B0 := B0.trans (hb3.mono B0.size)
  clear hb3
  go_wp2
  go_ret
  exact ⟨rfl, B0⟩
set_option maxRecDepth 1000000 in
set_option maxHeartbeats 16000000 in
theorem makes_far2 (xn : Bool) (xS xT : ByteArray) (N : Bool) (P Q : ByteArray) (z : Int) (dn : Bool) (dS : ByteArray) (de : Int) (w : World) (f0 : ∀ W, Calls Tryz.prog 5 #[.agg #[.bool xn, .string xS, .string xT]] W fun r w' => r = .returned (.bool true) ∧ Below W.heap.size W w') (f1 : ∀ W, Calls Tryz.prog 6 #[.string P] W fun r w' => r = .returned (.bool true) ∧ Below W.heap.size W w') (f2 : ∀ W, Calls Tryz.prog 6 #[.string Q] W fun r w' => r = .returned (.bool false) ∧ Below W.heap.size W w') (hl : ∀ W, Calls Tryz.prog 7 #[] W fun r w' => r = .returned (.bool true) ∧ Below W.heap.size W w') :
    Calls Tryz.prog 3 #[.agg #[.bool xn, .string xS, .string xT], .bool N, .string P, .string Q, .int .i64 z, .agg #[.bool dn, .string dS, .int .i64 de]] w fun r w' => r = .returned (.bool true) ∧ Below w.heap.size w w' := by
  go_enter Tryz.func3, Tryz.ntmps3
  have B0 := Below.refl w.heap.size w
  have F6 := Blk.put (w) #[.bool xn, .string xS, .string xT] 24
  replace B0 := B0.alloc B0.size (.cells #[.bool xn, .string xS, .string xT] 24)
  replace F6 := F6.allocd (.cells #[.bool dn, .string dS, .int .i64 de] 26)
  replace B0 := B0.alloc B0.size (.cells #[.bool dn, .string dS, .int .i64 de] 26)
  obtain ⟨xF60_0, xF60_1, xF60_2⟩ := F6.ce3
  go_wp2_with fail
  (with_reducible refine (f0 _).mono ?_)
  rintro r w1 ⟨rfl, hb1⟩
  clear xF60_0 xF60_1 xF60_2
  replace F6 := F6.keep hb1
  replace B0 := B0.trans (hb1.mono B0.size)
  clear hb1
  go_wp2_with fail
  (with_reducible refine (f1 _).mono ?_)
  rintro r w2 ⟨rfl, hb2⟩
  clear F6
  replace B0 := B0.trans (hb2.mono B0.size)
  clear hb2
  go_wp2_with fail
  (with_reducible refine (f2 _).mono ?_)
  rintro r w3 ⟨rfl, hb3⟩
  replace B0 := B0.trans (hb3.mono B0.size)
  clear hb3
  go_wp2_with fail
  (with_reducible refine (hl _).mono ?_)
  rintro r w4 ⟨rfl, hb4⟩
  replace B0 := B0.trans (hb4.mono B0.size)
  clear hb4
  go_wp2
  go_ret
  exact ⟨rfl, B0⟩
set_option maxRecDepth 1000000 in
set_option maxHeartbeats 16000000 in
theorem makes_far3 (xn : Bool) (xS xT : ByteArray) (N : Bool) (P Q : ByteArray) (z : Int) (dn : Bool) (dS : ByteArray) (de : Int) (w : World) (f0 : ∀ W, Calls Tryz.prog 5 #[.agg #[.bool xn, .string xS, .string xT]] W fun r w' => r = .returned (.bool true) ∧ Below W.heap.size W w') (f1 : ∀ W, Calls Tryz.prog 6 #[.string P] W fun r w' => r = .returned (.bool true) ∧ Below W.heap.size W w') (f2 : ∀ W, Calls Tryz.prog 6 #[.string Q] W fun r w' => r = .returned (.bool true) ∧ Below W.heap.size W w') (f3 : ∀ W, Calls Tryz.prog 6 #[.string dS] W fun r w' => r = .returned (.bool false) ∧ Below W.heap.size W w') (hl : ∀ W, Calls Tryz.prog 7 #[] W fun r w' => r = .returned (.bool true) ∧ Below W.heap.size W w') :
    Calls Tryz.prog 3 #[.agg #[.bool xn, .string xS, .string xT], .bool N, .string P, .string Q, .int .i64 z, .agg #[.bool dn, .string dS, .int .i64 de]] w fun r w' => r = .returned (.bool true) ∧ Below w.heap.size w w' := by
  go_enter Tryz.func3, Tryz.ntmps3
  have B0 := Below.refl w.heap.size w
  have F6 := Blk.put (w) #[.bool xn, .string xS, .string xT] 24
  replace B0 := B0.alloc B0.size (.cells #[.bool xn, .string xS, .string xT] 24)
  replace F6 := F6.allocd (.cells #[.bool dn, .string dS, .int .i64 de] 26)
  have F11 := Blk.put ((w).alloc (.cells #[.bool xn, .string xS, .string xT] 24)) #[.bool dn, .string dS, .int .i64 de] 26
  rw [show ((w).alloc (.cells #[.bool xn, .string xS, .string xT] 24)).heap.size = w.heap.size + 1 by simp] at F11
  replace B0 := B0.alloc B0.size (.cells #[.bool dn, .string dS, .int .i64 de] 26)
  obtain ⟨xF60_0, xF60_1, xF60_2⟩ := F6.ce3
  go_wp2_with fail
  (with_reducible refine (f0 _).mono ?_)
  rintro r w1 ⟨rfl, hb1⟩
  clear xF60_0 xF60_1 xF60_2
  replace F6 := F6.keep hb1
  replace F11 := F11.keep hb1
  replace B0 := B0.trans (hb1.mono B0.size)
  clear hb1
  go_wp2_with fail
  (with_reducible refine (f1 _).mono ?_)
  rintro r w2 ⟨rfl, hb2⟩
  clear F6
  replace F11 := F11.keep hb2
  replace B0 := B0.trans (hb2.mono B0.size)
  clear hb2
  go_wp2_with fail
  (with_reducible refine (f2 _).mono ?_)
  rintro r w3 ⟨rfl, hb3⟩
  replace F11 := F11.keep hb3
  replace B0 := B0.trans (hb3.mono B0.size)
  clear hb3
  obtain ⟨xF113_0, xF113_1, xF113_2⟩ := F11.ce3
  go_wp2_with fail
  (with_reducible refine (f3 _).mono ?_)
  rintro r w4 ⟨rfl, hb4⟩
  clear xF113_0 xF113_1 xF113_2
  replace F11 := F11.keep hb4
  replace B0 := B0.trans (hb4.mono B0.size)
  clear hb4
  go_wp2_with fail
  (with_reducible refine (hl _).mono ?_)
  rintro r w5 ⟨rfl, hb5⟩
  clear F11
  replace B0 := B0.trans (hb5.mono B0.size)
  clear hb5
  go_wp2
  go_ret
  exact ⟨rfl, B0⟩
set_option maxRecDepth 1000000 in
set_option maxHeartbeats 16000000 in
theorem makes_go (xn : Bool) (xS xT : ByteArray) (N : Bool) (P Q : ByteArray) (z : Int) (dn : Bool) (dS : ByteArray) (de : Int) (an : Bool) (aS aT : ByteArray) (ae : Int) (bn : Bool) (bS bT : ByteArray) (be : Int) (cn : Bool) (cS : ByteArray) (ce : Int) (ck : Bool) (m : Bool) (gn : Bool) (gS gT : ByteArray) (w : World) (f0 : ∀ W, Calls Tryz.prog 5 #[.agg #[.bool xn, .string xS, .string xT]] W fun r w' => r = .returned (.bool true) ∧ Below W.heap.size W w') (f1 : ∀ W, Calls Tryz.prog 6 #[.string P] W fun r w' => r = .returned (.bool true) ∧ Below W.heap.size W w') (f2 : ∀ W, Calls Tryz.prog 6 #[.string Q] W fun r w' => r = .returned (.bool true) ∧ Below W.heap.size W w') (f3 : ∀ W, Calls Tryz.prog 6 #[.string dS] W fun r w' => r = .returned (.bool true) ∧ Below W.heap.size W w') (h1 : ∀ W, Calls Tryz.prog 8 #[.bool N, .string P, .string Q] W fun r w' => r = .returned (.tuple #[.agg #[.bool an, .string aS, .string aT], .int .i64 ae]) ∧ Below W.heap.size W w') (h2 : ∀ W, Calls Tryz.prog 9 #[.bool N, .string P, .string Q] W fun r w' => r = .returned (.tuple #[.agg #[.bool an, .string aS, .string aT], .int .i64 ae]) ∧ Below W.heap.size W w') (h3 : ∀ W, Calls Tryz.prog 10 #[.agg #[.bool dn, .string dS, .int .i64 de]] W fun r w' => r = .returned (.tuple #[.agg #[.bool bn, .string bS, .string bT], .int .i64 be]) ∧ Below W.heap.size W w') (h4 : ∀ W, Calls Tryz.prog 11 #[.agg #[.bool dn, .string dS, .int .i64 de]] W fun r w' => r = .returned (.tuple #[.agg #[.bool bn, .string bS, .string bT], .int .i64 be]) ∧ Below W.heap.size W w') (h5 : ∀ W, Tab W → Calls Tryz.prog 12 #[.agg #[.bool xn, .string xS, .string xT]] W fun r w' => r = .returned (.tuple #[.agg #[.bool cn, .string cS, .int .i64 ce], .bool ck]) ∧ Below W.heap.size W w') (h6 : ∀ W, Calls Tryz.prog 13 #[.agg #[.bool xn, .string xS, .string xT]] W fun r w' => r = .returned (.tuple #[.agg #[.bool cn, .string cS, .int .i64 ce], .bool ck]) ∧ Below W.heap.size W w') (h7 : ∀ W, Calls Tryz.prog 14 #[.agg #[.bool xn, .string xS, .string xT]] W fun r w' => r = .returned (.bool m) ∧ Below W.heap.size W w') (h8 : ∀ W, Calls Tryz.prog 15 #[.agg #[.bool xn, .string xS, .string xT]] W fun r w' => r = .returned (.bool m) ∧ Below W.heap.size W w') (h9 : ∀ W, Calls Tryz.prog 16 #[.int .i64 z] W fun r w' => r = .returned (.agg #[.bool gn, .string gS, .string gT]) ∧ Below W.heap.size W w') (h10 : ∀ W, Calls Tryz.prog 17 #[.int .i64 z] W fun r w' => r = .returned (.agg #[.bool gn, .string gS, .string gT]) ∧ Below W.heap.size W w') (hl : ∀ W, Calls Tryz.prog 7 #[] W fun r w' => r = .returned (.bool true) ∧ Below W.heap.size W w') (hT : Tab w) :
    Calls Tryz.prog 3 #[.agg #[.bool xn, .string xS, .string xT], .bool N, .string P, .string Q, .int .i64 z, .agg #[.bool dn, .string dS, .int .i64 de]] w fun r w' => r = .returned (.bool true) ∧ Below w.heap.size w w' := by
  go_enter Tryz.func3, Tryz.ntmps3
  have B0 := Below.refl w.heap.size w
  have F6 := Blk.put (w) #[.bool xn, .string xS, .string xT] 24
  replace B0 := B0.alloc B0.size (.cells #[.bool xn, .string xS, .string xT] 24)
  replace F6 := F6.allocd (.cells #[.bool dn, .string dS, .int .i64 de] 26)
  have F11 := Blk.put ((w).alloc (.cells #[.bool xn, .string xS, .string xT] 24)) #[.bool dn, .string dS, .int .i64 de] 26
  rw [show ((w).alloc (.cells #[.bool xn, .string xS, .string xT] 24)).heap.size = w.heap.size + 1 by simp] at F11
  replace B0 := B0.alloc B0.size (.cells #[.bool dn, .string dS, .int .i64 de] 26)
  obtain ⟨xF60_0, xF60_1, xF60_2⟩ := F6.ce3
  go_wp2_with fail
  (with_reducible refine (f0 _).mono ?_)
  rintro r w1 ⟨rfl, hb1⟩
  clear xF60_0 xF60_1 xF60_2
  replace F6 := F6.keep hb1
  replace F11 := F11.keep hb1
  replace B0 := B0.trans (hb1.mono B0.size)
  clear hb1
  go_wp2_with fail
  (with_reducible refine (f1 _).mono ?_)
  rintro r w2 ⟨rfl, hb2⟩
  replace F6 := F6.keep hb2
  replace F11 := F11.keep hb2
  replace B0 := B0.trans (hb2.mono B0.size)
  clear hb2
  go_wp2_with fail
  (with_reducible refine (f2 _).mono ?_)
  rintro r w3 ⟨rfl, hb3⟩
  replace F6 := F6.keep hb3
  replace F11 := F11.keep hb3
  replace B0 := B0.trans (hb3.mono B0.size)
  clear hb3
  obtain ⟨xF113_0, xF113_1, xF113_2⟩ := F11.ce3
  go_wp2_with fail
  (with_reducible refine (f3 _).mono ?_)
  rintro r w4 ⟨rfl, hb4⟩
  clear xF113_0 xF113_1 xF113_2
  replace F6 := F6.keep hb4
  replace F11 := F11.keep hb4
  replace B0 := B0.trans (hb4.mono B0.size)
  clear hb4
  go_wp2_with fail
  (with_reducible refine (h1 _).mono ?_)
  rintro r w5 ⟨rfl, hb5⟩
  replace F6 := F6.keep hb5
  replace F11 := F11.keep hb5
  replace B0 := B0.trans (hb5.mono B0.size)
  clear hb5
  replace F6 := F6.allocd (.cells #[.bool an, .string aS, .string aT] 24)
  replace F11 := F11.allocd (.cells #[.bool an, .string aS, .string aT] 24)
  have F13 := Blk.put (w5) #[.bool an, .string aS, .string aT] 24
  replace B0 := B0.alloc B0.size (.cells #[.bool an, .string aS, .string aT] 24)
  go_wp2_with fail
  (with_reducible refine (h2 _).mono ?_)
  rintro r w6 ⟨rfl, hb6⟩
  replace F6 := F6.keep hb6
  replace F11 := F11.keep hb6
  replace F13 := F13.keep hb6
  replace B0 := B0.trans (hb6.mono B0.size)
  clear hb6
  replace F6 := F6.allocd (.cells #[.bool an, .string aS, .string aT] 24)
  replace F11 := F11.allocd (.cells #[.bool an, .string aS, .string aT] 24)
  replace F13 := F13.allocd (.cells #[.bool an, .string aS, .string aT] 24)
  have F15 := Blk.put (w6) #[.bool an, .string aS, .string aT] 24
  replace B0 := B0.alloc B0.size (.cells #[.bool an, .string aS, .string aT] 24)
  obtain ⟨xF116_0, xF116_1, xF116_2⟩ := F11.ce3
  go_wp2_with fail
  (with_reducible refine (h3 _).mono ?_)
  rintro r w7 ⟨rfl, hb7⟩
  clear xF116_0 xF116_1 xF116_2
  replace F6 := F6.keep hb7
  replace F11 := F11.keep hb7
  replace F13 := F13.keep hb7
  replace F15 := F15.keep hb7
  replace B0 := B0.trans (hb7.mono B0.size)
  clear hb7
  replace F6 := F6.allocd (.cells #[.bool bn, .string bS, .string bT] 24)
  replace F11 := F11.allocd (.cells #[.bool bn, .string bS, .string bT] 24)
  replace F13 := F13.allocd (.cells #[.bool bn, .string bS, .string bT] 24)
  replace F15 := F15.allocd (.cells #[.bool bn, .string bS, .string bT] 24)
  have F17 := Blk.put (w7) #[.bool bn, .string bS, .string bT] 24
  replace B0 := B0.alloc B0.size (.cells #[.bool bn, .string bS, .string bT] 24)
  obtain ⟨xF117_0, xF117_1, xF117_2⟩ := F11.ce3
  go_wp2_with fail
  (with_reducible refine (h4 _).mono ?_)
  rintro r w8 ⟨rfl, hb8⟩
  clear xF117_0 xF117_1 xF117_2
  replace F6 := F6.keep hb8
  replace F11 := F11.keep hb8
  replace F13 := F13.keep hb8
  replace F15 := F15.keep hb8
  replace F17 := F17.keep hb8
  replace B0 := B0.trans (hb8.mono B0.size)
  clear hb8
  replace F6 := F6.allocd (.cells #[.bool bn, .string bS, .string bT] 24)
  clear F11
  replace F13 := F13.allocd (.cells #[.bool bn, .string bS, .string bT] 24)
  replace F15 := F15.allocd (.cells #[.bool bn, .string bS, .string bT] 24)
  replace F17 := F17.allocd (.cells #[.bool bn, .string bS, .string bT] 24)
  have F19 := Blk.put (w8) #[.bool bn, .string bS, .string bT] 24
  replace B0 := B0.alloc B0.size (.cells #[.bool bn, .string bS, .string bT] 24)
  obtain ⟨xF68_0, xF68_1, xF68_2⟩ := F6.ce3
  go_wp2_with fail
  (with_reducible refine (h5 _ (hT.below B0)).mono ?_)
  rintro r w9 ⟨rfl, hb9⟩
  clear xF68_0 xF68_1 xF68_2
  replace F6 := F6.keep hb9
  replace F13 := F13.keep hb9
  replace F15 := F15.keep hb9
  replace F17 := F17.keep hb9
  replace F19 := F19.keep hb9
  replace B0 := B0.trans (hb9.mono B0.size)
  clear hb9
  replace F6 := F6.allocd (.cells #[.bool cn, .string cS, .int .i64 ce] 26)
  replace F13 := F13.allocd (.cells #[.bool cn, .string cS, .int .i64 ce] 26)
  replace F15 := F15.allocd (.cells #[.bool cn, .string cS, .int .i64 ce] 26)
  replace F17 := F17.allocd (.cells #[.bool cn, .string cS, .int .i64 ce] 26)
  replace F19 := F19.allocd (.cells #[.bool cn, .string cS, .int .i64 ce] 26)
  have F21 := Blk.put (w9) #[.bool cn, .string cS, .int .i64 ce] 26
  replace B0 := B0.alloc B0.size (.cells #[.bool cn, .string cS, .int .i64 ce] 26)
  obtain ⟨xF69_0, xF69_1, xF69_2⟩ := F6.ce3
  go_wp2_with fail
  (with_reducible refine (h6 _).mono ?_)
  rintro r w10 ⟨rfl, hb10⟩
  clear xF69_0 xF69_1 xF69_2
  replace F6 := F6.keep hb10
  replace F13 := F13.keep hb10
  replace F15 := F15.keep hb10
  replace F17 := F17.keep hb10
  replace F19 := F19.keep hb10
  replace F21 := F21.keep hb10
  replace B0 := B0.trans (hb10.mono B0.size)
  clear hb10
  replace F6 := F6.allocd (.cells #[.bool cn, .string cS, .int .i64 ce] 26)
  replace F13 := F13.allocd (.cells #[.bool cn, .string cS, .int .i64 ce] 26)
  replace F15 := F15.allocd (.cells #[.bool cn, .string cS, .int .i64 ce] 26)
  replace F17 := F17.allocd (.cells #[.bool cn, .string cS, .int .i64 ce] 26)
  replace F19 := F19.allocd (.cells #[.bool cn, .string cS, .int .i64 ce] 26)
  replace F21 := F21.allocd (.cells #[.bool cn, .string cS, .int .i64 ce] 26)
  have F23 := Blk.put (w10) #[.bool cn, .string cS, .int .i64 ce] 26
  replace B0 := B0.alloc B0.size (.cells #[.bool cn, .string cS, .int .i64 ce] 26)
  go_wp2_with fail
  refine wp_region_any (by kernel_rfl) ?_
  obtain ⟨xF610_0, xF610_1, xF610_2⟩ := F6.ce3
  obtain ⟨xF1310_0, xF1310_1, xF1310_2⟩ := F13.ce3
  obtain ⟨xF1510_0, xF1510_1, xF1510_2⟩ := F15.ce3
  obtain ⟨xF1710_0, xF1710_1, xF1710_2⟩ := F17.ce3
  obtain ⟨xF1910_0, xF1910_1, xF1910_2⟩ := F19.ce3
  obtain ⟨xF2110_0, xF2110_1, xF2110_2⟩ := F21.ce3
  obtain ⟨xF2310_0, xF2310_1, xF2310_2⟩ := F23.ce3
  have hHeld : (fun w' : World => w'.cell? ⟨w.heap.size, 0, none⟩ = some (.bool xn) ∧ w'.cell? ⟨w.heap.size, 1, none⟩ = some (.string xS) ∧ w'.cell? ⟨w.heap.size, 2, none⟩ = some (.string xT) ∧ w'.cell? ⟨w5.heap.size, 0, none⟩ = some (.bool an) ∧ w'.cell? ⟨w5.heap.size, 1, none⟩ = some (.string aS) ∧ w'.cell? ⟨w5.heap.size, 2, none⟩ = some (.string aT) ∧ w'.cell? ⟨w6.heap.size, 0, none⟩ = some (.bool an) ∧ w'.cell? ⟨w6.heap.size, 1, none⟩ = some (.string aS) ∧ w'.cell? ⟨w6.heap.size, 2, none⟩ = some (.string aT) ∧ w'.cell? ⟨w7.heap.size, 0, none⟩ = some (.bool bn) ∧ w'.cell? ⟨w7.heap.size, 1, none⟩ = some (.string bS) ∧ w'.cell? ⟨w7.heap.size, 2, none⟩ = some (.string bT) ∧ w'.cell? ⟨w8.heap.size, 0, none⟩ = some (.bool bn) ∧ w'.cell? ⟨w8.heap.size, 1, none⟩ = some (.string bS) ∧ w'.cell? ⟨w8.heap.size, 2, none⟩ = some (.string bT) ∧ w'.cell? ⟨w9.heap.size, 0, none⟩ = some (.bool cn) ∧ w'.cell? ⟨w9.heap.size, 1, none⟩ = some (.string cS) ∧ w'.cell? ⟨w9.heap.size, 2, none⟩ = some (.int .i64 ce) ∧ w'.cell? ⟨w10.heap.size, 0, none⟩ = some (.bool cn) ∧ w'.cell? ⟨w10.heap.size, 1, none⟩ = some (.string cS) ∧ w'.cell? ⟨w10.heap.size, 2, none⟩ = some (.int .i64 ce)) ((w10).alloc (.cells #[.bool cn, .string cS, .int .i64 ce] 26)).drew := ⟨xF610_0, xF610_1, xF610_2, xF1310_0, xF1310_1, xF1310_2, xF1510_0, xF1510_1, xF1510_2, xF1710_0, xF1710_1, xF1710_2, xF1910_0, xF1910_1, xF1910_2, xF2110_0, xF2110_1, xF2110_2, xF2310_0, xF2310_1, xF2310_2⟩
  refine wpAny_of_held (S := fun w' : World => w'.cell? ⟨w.heap.size, 0, none⟩ = some (.bool xn) ∧ w'.cell? ⟨w.heap.size, 1, none⟩ = some (.string xS) ∧ w'.cell? ⟨w.heap.size, 2, none⟩ = some (.string xT) ∧ w'.cell? ⟨w5.heap.size, 0, none⟩ = some (.bool an) ∧ w'.cell? ⟨w5.heap.size, 1, none⟩ = some (.string aS) ∧ w'.cell? ⟨w5.heap.size, 2, none⟩ = some (.string aT) ∧ w'.cell? ⟨w6.heap.size, 0, none⟩ = some (.bool an) ∧ w'.cell? ⟨w6.heap.size, 1, none⟩ = some (.string aS) ∧ w'.cell? ⟨w6.heap.size, 2, none⟩ = some (.string aT) ∧ w'.cell? ⟨w7.heap.size, 0, none⟩ = some (.bool bn) ∧ w'.cell? ⟨w7.heap.size, 1, none⟩ = some (.string bS) ∧ w'.cell? ⟨w7.heap.size, 2, none⟩ = some (.string bT) ∧ w'.cell? ⟨w8.heap.size, 0, none⟩ = some (.bool bn) ∧ w'.cell? ⟨w8.heap.size, 1, none⟩ = some (.string bS) ∧ w'.cell? ⟨w8.heap.size, 2, none⟩ = some (.string bT) ∧ w'.cell? ⟨w9.heap.size, 0, none⟩ = some (.bool cn) ∧ w'.cell? ⟨w9.heap.size, 1, none⟩ = some (.string cS) ∧ w'.cell? ⟨w9.heap.size, 2, none⟩ = some (.int .i64 ce) ∧ w'.cell? ⟨w10.heap.size, 0, none⟩ = some (.bool cn) ∧ w'.cell? ⟨w10.heap.size, 1, none⟩ = some (.string cS) ∧ w'.cell? ⟨w10.heap.size, 2, none⟩ = some (.int .i64 ce)) _ _ _ _ ?_
  replace F6 := F6.drew
  replace F13 := F13.drew
  replace F15 := F15.drew
  replace F17 := F17.drew
  replace F19 := F19.drew
  replace F21 := F21.drew
  replace F23 := F23.drew
  replace B0 := B0.drew
  refine wpAnyH_take (i := 0) (v := _) (by first | (simp only [List.getElem?_toArray, List.getElem?_cons_zero]; rfl) | rfl) (by kernel_rfl) (by kernel_rfl) (by kernel_rfl) (by exact fun _ _ _ h => h) (Or.inl ⟨by rfl, by (intro w hSw; (try dsimp only at hSw); go_simp; try with_reducible rfl)⟩) (by assumption) ?_
  (try dsimp only [Act.put]); (try go_frame)
  refine wpAnyH_take (i := 2) (v := _) (by first | (simp only [List.getElem?_toArray, List.getElem?_cons_zero, List.getElem?_cons_succ]; rfl) | rfl) (by kernel_rfl) (by kernel_rfl) (by kernel_rfl) (by exact fun _ _ _ h => h) (Or.inl ⟨by rfl, by (intro w hSw; (try dsimp only at hSw); go_simp; try with_reducible rfl)⟩) (by assumption) ?_
  (try dsimp only [Act.put]); (try go_frame)
  refine wpAnyH_ready (rs := [1]) (by kernel_rfl) (by simp) ?_
  refine AllReadyH.cons rfl (fun K hK => ?_) AllReadyH.nil
  go_simp
  (with_reducible refine (h7 _).mono ?_)
  rintro r w11 ⟨rfl, hb11⟩
  clear xF610_0 xF610_1 xF610_2 xF1310_0 xF1310_1 xF1310_2 xF1510_0 xF1510_1 xF1510_2 xF1710_0 xF1710_1 xF1710_2 xF1910_0 xF1910_1 xF1910_2 xF2110_0 xF2110_1 xF2110_2 xF2310_0 xF2310_1 xF2310_2
  replace F6 := F6.keep hb11
  replace F13 := F13.keep hb11
  replace F15 := F15.keep hb11
  replace F17 := F17.keep hb11
  replace F19 := F19.keep hb11
  replace F21 := F21.keep hb11
  replace F23 := F23.keep hb11
  replace B0 := B0.trans (hb11.mono B0.size)
  clear hb11
  obtain ⟨xF612_0, xF612_1, xF612_2⟩ := F6.ce3
  obtain ⟨xF1312_0, xF1312_1, xF1312_2⟩ := F13.ce3
  obtain ⟨xF1512_0, xF1512_1, xF1512_2⟩ := F15.ce3
  obtain ⟨xF1712_0, xF1712_1, xF1712_2⟩ := F17.ce3
  obtain ⟨xF1912_0, xF1912_1, xF1912_2⟩ := F19.ce3
  obtain ⟨xF2112_0, xF2112_1, xF2112_2⟩ := F21.ce3
  obtain ⟨xF2312_0, xF2312_1, xF2312_2⟩ := F23.ce3
  refine hK.out _ _ ?_ (fun hHeld => ?_)
  · exact ⟨xF612_0, xF612_1, xF612_2, xF1312_0, xF1312_1, xF1312_2, xF1512_0, xF1512_1, xF1512_2, xF1712_0, xF1712_1, xF1712_2, xF1912_0, xF1912_1, xF1912_2, xF2112_0, xF2112_1, xF2112_2, xF2312_0, xF2312_1, xF2312_2⟩
  clear hK K
  (try dsimp only [Act.put]); (try go_frame)
  refine wpAnyH_ready (rs := [3]) (by kernel_rfl) (by simp) ?_
  refine AllReadyH.cons rfl (fun K hK => ?_) AllReadyH.nil
  go_simp
  (with_reducible refine (h8 _).mono ?_)
  rintro r w12 ⟨rfl, hb12⟩
  clear xF612_0 xF612_1 xF612_2 xF1312_0 xF1312_1 xF1312_2 xF1512_0 xF1512_1 xF1512_2 xF1712_0 xF1712_1 xF1712_2 xF1912_0 xF1912_1 xF1912_2 xF2112_0 xF2112_1 xF2112_2 xF2312_0 xF2312_1 xF2312_2
  replace F6 := F6.keep hb12
  replace F13 := F13.keep hb12
  replace F15 := F15.keep hb12
  replace F17 := F17.keep hb12
  replace F19 := F19.keep hb12
  replace F21 := F21.keep hb12
  replace F23 := F23.keep hb12
  replace B0 := B0.trans (hb12.mono B0.size)
  clear hb12
  obtain ⟨xF613_0, xF613_1, xF613_2⟩ := F6.ce3
  obtain ⟨xF1313_0, xF1313_1, xF1313_2⟩ := F13.ce3
  obtain ⟨xF1513_0, xF1513_1, xF1513_2⟩ := F15.ce3
  obtain ⟨xF1713_0, xF1713_1, xF1713_2⟩ := F17.ce3
  obtain ⟨xF1913_0, xF1913_1, xF1913_2⟩ := F19.ce3
  obtain ⟨xF2113_0, xF2113_1, xF2113_2⟩ := F21.ce3
  obtain ⟨xF2313_0, xF2313_1, xF2313_2⟩ := F23.ce3
  refine hK.out _ _ ?_ (fun hHeld => ?_)
  · exact ⟨xF613_0, xF613_1, xF613_2, xF1313_0, xF1313_1, xF1313_2, xF1513_0, xF1513_1, xF1513_2, xF1713_0, xF1713_1, xF1713_2, xF1913_0, xF1913_1, xF1913_2, xF2113_0, xF2113_1, xF2113_2, xF2313_0, xF2313_1, xF2313_2⟩
  clear hK K
  (try dsimp only [Act.put]); (try go_frame)
  refine wpAnyH_take (i := 4) (v := _) (by first | (simp only [List.getElem?_toArray, List.getElem?_cons_zero, List.getElem?_cons_succ]; rfl) | rfl) (by kernel_rfl) (by kernel_rfl) (by kernel_rfl) (by exact fun _ _ _ h => h) (Or.inl ⟨by rfl, by (intro w hSw; (try dsimp only at hSw); go_simp; try with_reducible rfl)⟩) (by assumption) ?_
  (try dsimp only [Act.put]); (try go_frame)
  refine wpAnyH_take (i := 5) (v := _) (by first | (simp only [List.getElem?_toArray, List.getElem?_cons_zero, List.getElem?_cons_succ]; rfl) | rfl) (by kernel_rfl) (by kernel_rfl) (by kernel_rfl) (by exact fun _ _ _ h => h) (Or.inl ⟨by rfl, by (intro w hSw; (try dsimp only at hSw); go_simp; try with_reducible rfl)⟩) (by assumption) ?_
  (try dsimp only [Act.put]); (try go_frame)
  refine wpAnyH_take (i := 6) (v := _) (by first | (simp only [List.getElem?_toArray, List.getElem?_cons_zero, List.getElem?_cons_succ]; rfl) | rfl) (by kernel_rfl) (by kernel_rfl) (by kernel_rfl) (by exact fun _ _ _ h => h) (Or.inl ⟨by rfl, by (intro w hSw; (try dsimp only at hSw); go_simp; try with_reducible rfl)⟩) (by assumption) ?_
  (try dsimp only [Act.put]); (try go_frame)
  refine wpAnyH_take (i := 7) (v := _) (by first | (simp only [List.getElem?_toArray, List.getElem?_cons_zero, List.getElem?_cons_succ]; rfl) | rfl) (by kernel_rfl) (by kernel_rfl) (by kernel_rfl) (by exact fun _ _ _ h => h) (Or.inl ⟨by rfl, by (intro w hSw; (try dsimp only at hSw); go_simp; try with_reducible rfl)⟩) (by assumption) ?_
  (try dsimp only [Act.put]); (try go_frame)
  refine wpAnyH_take (i := 8) (v := _) (by first | (simp only [List.getElem?_toArray, List.getElem?_cons_zero, List.getElem?_cons_succ]; rfl) | rfl) (by kernel_rfl) (by kernel_rfl) (by kernel_rfl) (by exact fun _ _ _ h => h) (Or.inl ⟨by rfl, by (intro w hSw; (try dsimp only at hSw); go_simp; try with_reducible rfl)⟩) (by assumption) ?_
  (try dsimp only [Act.put]); (try go_frame)
  refine wpAnyH_take (i := 9) (v := _) (by first | (simp only [List.getElem?_toArray, List.getElem?_cons_zero, List.getElem?_cons_succ]; rfl) | rfl) (by kernel_rfl) (by kernel_rfl) (by kernel_rfl) (by exact fun _ _ _ h => h) (Or.inl ⟨by rfl, by (intro w hSw; (try dsimp only at hSw); go_simp; try with_reducible rfl)⟩) (by assumption) ?_
  (try dsimp only [Act.put]); (try go_frame)
  refine wpAnyH_take (i := 10) (v := _) (by first | (simp only [List.getElem?_toArray, List.getElem?_cons_zero, List.getElem?_cons_succ]; rfl) | rfl) (by kernel_rfl) (by kernel_rfl) (by kernel_rfl) (by exact fun _ _ _ h => h) (Or.inl ⟨by rfl, by (intro w hSw; (try dsimp only at hSw); go_simp; try with_reducible rfl)⟩) (by assumption) ?_
  (try dsimp only [Act.put]); (try go_frame)
  refine wpAnyH_take (i := 11) (v := _) (by first | (simp only [List.getElem?_toArray, List.getElem?_cons_zero, List.getElem?_cons_succ]; rfl) | rfl) (by kernel_rfl) (by kernel_rfl) (by kernel_rfl) (by exact fun _ _ _ h => h) (Or.inl ⟨by rfl, by (intro w hSw; (try dsimp only at hSw); go_simp; try with_reducible rfl)⟩) (by assumption) ?_
  (try dsimp only [Act.put]); (try go_frame)
  refine wpAnyH_take (i := 12) (v := _) (by first | (simp only [List.getElem?_toArray, List.getElem?_cons_zero, List.getElem?_cons_succ]; rfl) | rfl) (by kernel_rfl) (by kernel_rfl) (by kernel_rfl) (by exact fun _ _ _ h => h) (Or.inl ⟨by rfl, by (intro w hSw; (try dsimp only at hSw); go_simp; try with_reducible rfl)⟩) (by assumption) ?_
  (try dsimp only [Act.put]); (try go_frame)
  refine wpAnyH_take (i := 13) (v := _) (by first | (simp only [List.getElem?_toArray, List.getElem?_cons_zero, List.getElem?_cons_succ]; rfl) | rfl) (by kernel_rfl) (by kernel_rfl) (by kernel_rfl) (by exact fun _ _ _ h => h) (Or.inl ⟨by rfl, by (intro w hSw; (try dsimp only at hSw); go_simp; try with_reducible rfl)⟩) (by assumption) ?_
  (try dsimp only [Act.put]); (try go_frame)
  refine wpAnyH_take (i := 14) (v := _) (by first | (simp only [List.getElem?_toArray, List.getElem?_cons_zero, List.getElem?_cons_succ]; rfl) | rfl) (by kernel_rfl) (by kernel_rfl) (by kernel_rfl) (by exact fun _ _ _ h => h) (Or.inl ⟨by rfl, by (intro w hSw; (try dsimp only at hSw); go_simp; try with_reducible rfl)⟩) (by assumption) ?_
  (try dsimp only [Act.put]); (try go_frame)
  refine wpAnyH_take (i := 15) (v := _) (by first | (simp only [List.getElem?_toArray, List.getElem?_cons_zero, List.getElem?_cons_succ]; rfl) | rfl) (by kernel_rfl) (by kernel_rfl) (by kernel_rfl) (by exact fun _ _ _ h => h) (Or.inl ⟨by rfl, by (intro w hSw; (try dsimp only at hSw); go_simp; try with_reducible rfl)⟩) (by assumption) ?_
  (try dsimp only [Act.put]); (try go_frame)
  refine wpAnyH_take (i := 16) (v := _) (by first | (simp only [List.getElem?_toArray, List.getElem?_cons_zero, List.getElem?_cons_succ]; rfl) | rfl) (by kernel_rfl) (by kernel_rfl) (by kernel_rfl) (by exact fun _ _ _ h => h) (Or.inl ⟨by rfl, by (intro w hSw; (try dsimp only at hSw); go_simp; try with_reducible rfl)⟩) (by assumption) ?_
  (try dsimp only [Act.put]); (try go_frame)
  refine wpAnyH_take (i := 18) (v := _) (by first | (simp only [List.getElem?_toArray, List.getElem?_cons_zero, List.getElem?_cons_succ]; rfl) | rfl) (by kernel_rfl) (by kernel_rfl) (by kernel_rfl) (by exact fun _ _ _ h => h) (Or.inl ⟨by rfl, by (intro w hSw; (try dsimp only at hSw); go_simp; try with_reducible rfl)⟩) (by assumption) ?_
  (try dsimp only [Act.put]); (try go_frame)
  refine wpAnyH_ready (rs := [17]) (by kernel_rfl) (by simp) ?_
  refine AllReadyH.cons rfl (fun K hK => ?_) AllReadyH.nil
  go_simp
  (with_reducible refine (h9 _).mono ?_)
  rintro r w13 ⟨rfl, hb13⟩
  clear xF613_0 xF613_1 xF613_2 xF1313_0 xF1313_1 xF1313_2 xF1513_0 xF1513_1 xF1513_2 xF1713_0 xF1713_1 xF1713_2 xF1913_0 xF1913_1 xF1913_2 xF2113_0 xF2113_1 xF2113_2 xF2313_0 xF2313_1 xF2313_2
  replace F6 := F6.keep hb13
  replace F13 := F13.keep hb13
  replace F15 := F15.keep hb13
  replace F17 := F17.keep hb13
  replace F19 := F19.keep hb13
  replace F21 := F21.keep hb13
  replace F23 := F23.keep hb13
  replace B0 := B0.trans (hb13.mono B0.size)
  clear hb13
  obtain ⟨xF614_0, xF614_1, xF614_2⟩ := F6.ce3
  obtain ⟨xF1314_0, xF1314_1, xF1314_2⟩ := F13.ce3
  obtain ⟨xF1514_0, xF1514_1, xF1514_2⟩ := F15.ce3
  obtain ⟨xF1714_0, xF1714_1, xF1714_2⟩ := F17.ce3
  obtain ⟨xF1914_0, xF1914_1, xF1914_2⟩ := F19.ce3
  obtain ⟨xF2114_0, xF2114_1, xF2114_2⟩ := F21.ce3
  obtain ⟨xF2314_0, xF2314_1, xF2314_2⟩ := F23.ce3
  refine hK.out _ _ ?_ (fun hHeld => ?_)
  · exact ⟨xF614_0, xF614_1, xF614_2, xF1314_0, xF1314_1, xF1314_2, xF1514_0, xF1514_1, xF1514_2, xF1714_0, xF1714_1, xF1714_2, xF1914_0, xF1914_1, xF1914_2, xF2114_0, xF2114_1, xF2114_2, xF2314_0, xF2314_1, xF2314_2⟩
  clear hK K
  (try dsimp only [Act.put]); (try go_frame)
  refine wpAnyH_ready (rs := [19]) (by kernel_rfl) (by simp) ?_
  refine AllReadyH.cons rfl (fun K hK => ?_) AllReadyH.nil
  go_simp
  (with_reducible refine (h10 _).mono ?_)
  rintro r w14 ⟨rfl, hb14⟩
  clear xF614_0 xF614_1 xF614_2 xF1314_0 xF1314_1 xF1314_2 xF1514_0 xF1514_1 xF1514_2 xF1714_0 xF1714_1 xF1714_2 xF1914_0 xF1914_1 xF1914_2 xF2114_0 xF2114_1 xF2114_2 xF2314_0 xF2314_1 xF2314_2
  replace F6 := F6.keep hb14
  replace F13 := F13.keep hb14
  replace F15 := F15.keep hb14
  replace F17 := F17.keep hb14
  replace F19 := F19.keep hb14
  replace F21 := F21.keep hb14
  replace F23 := F23.keep hb14
  replace B0 := B0.trans (hb14.mono B0.size)
  clear hb14
  obtain ⟨xF615_0, xF615_1, xF615_2⟩ := F6.ce3
  obtain ⟨xF1315_0, xF1315_1, xF1315_2⟩ := F13.ce3
  obtain ⟨xF1515_0, xF1515_1, xF1515_2⟩ := F15.ce3
  obtain ⟨xF1715_0, xF1715_1, xF1715_2⟩ := F17.ce3
  obtain ⟨xF1915_0, xF1915_1, xF1915_2⟩ := F19.ce3
  obtain ⟨xF2115_0, xF2115_1, xF2115_2⟩ := F21.ce3
  obtain ⟨xF2315_0, xF2315_1, xF2315_2⟩ := F23.ce3
  refine hK.out _ _ ?_ (fun hHeld => ?_)
  · exact ⟨xF615_0, xF615_1, xF615_2, xF1315_0, xF1315_1, xF1315_2, xF1515_0, xF1515_1, xF1515_2, xF1715_0, xF1715_1, xF1715_2, xF1915_0, xF1915_1, xF1915_2, xF2115_0, xF2115_1, xF2115_2, xF2315_0, xF2315_1, xF2315_2⟩
  clear hK K
  (try dsimp only [Act.put]); (try go_frame)
  refine wpAnyH_take (i := 20) (v := _) (by first | (simp only [List.getElem?_toArray, List.getElem?_cons_zero, List.getElem?_cons_succ]; rfl) | rfl) (by kernel_rfl) (by kernel_rfl) (by kernel_rfl) (by exact fun _ _ _ h => h) (Or.inl ⟨by rfl, by (intro w hSw; (try dsimp only at hSw); go_simp; try with_reducible rfl)⟩) (by assumption) ?_
  (try dsimp only [Act.put]); (try go_frame)
  refine wpAnyH_take (i := 21) (v := _) (by first | (simp only [List.getElem?_toArray, List.getElem?_cons_zero, List.getElem?_cons_succ]; rfl) | rfl) (by kernel_rfl) (by kernel_rfl) (by kernel_rfl) (by exact fun _ _ _ h => h) (Or.inl ⟨by rfl, by (intro w hSw; (try dsimp only at hSw); go_simp; try with_reducible rfl)⟩) (by assumption) ?_
  (try dsimp only [Act.put]); (try go_frame)
  refine wpAnyH_take (i := 22) (v := _) (by first | (simp only [List.getElem?_toArray, List.getElem?_cons_zero, List.getElem?_cons_succ]; rfl) | rfl) (by kernel_rfl) (by kernel_rfl) (by kernel_rfl) (by exact fun _ _ _ h => h) (Or.inl ⟨by rfl, by (intro w hSw; (try dsimp only at hSw); go_simp; try with_reducible rfl)⟩) (by assumption) ?_
  (try dsimp only [Act.put]); (try go_frame)
  refine wpAnyH_take (i := 23) (v := _) (by first | (simp only [List.getElem?_toArray, List.getElem?_cons_zero, List.getElem?_cons_succ]; rfl) | rfl) (by kernel_rfl) (by kernel_rfl) (by kernel_rfl) (by exact fun _ _ _ h => h) (Or.inl ⟨by rfl, by (intro w hSw; (try dsimp only at hSw); go_simp; try with_reducible rfl)⟩) (by assumption) ?_
  (try dsimp only [Act.put]); (try go_frame)
  refine wpAnyH_take (i := 24) (v := _) (by first | (simp only [List.getElem?_toArray, List.getElem?_cons_zero, List.getElem?_cons_succ]; rfl) | rfl) (by kernel_rfl) (by kernel_rfl) (by kernel_rfl) (by exact fun _ _ _ h => h) (Or.inl ⟨by rfl, by (intro w hSw; (try dsimp only at hSw); go_simp; try with_reducible rfl)⟩) (by assumption) ?_
  (try dsimp only [Act.put]); (try go_frame)
  refine wpAnyH_take (i := 25) (v := _) (by first | (simp only [List.getElem?_toArray, List.getElem?_cons_zero, List.getElem?_cons_succ]; rfl) | rfl) (by kernel_rfl) (by kernel_rfl) (by kernel_rfl) (by exact fun _ _ _ h => h) (Or.inl ⟨by rfl, by (intro w hSw; (try dsimp only at hSw); go_simp; try with_reducible rfl)⟩) (by assumption) ?_
  (try dsimp only [Act.put]); (try go_frame)
  refine wpAnyH_take (i := 26) (v := _) (by first | (simp only [List.getElem?_toArray, List.getElem?_cons_zero, List.getElem?_cons_succ]; rfl) | rfl) (by kernel_rfl) (by kernel_rfl) (by kernel_rfl) (by exact fun _ _ _ h => h) (Or.inl ⟨by rfl, by (intro w hSw; (try dsimp only at hSw); go_simp; try with_reducible rfl)⟩) (by assumption) ?_
  (try dsimp only [Act.put]); (try go_frame)
  refine wpAnyH_take (i := 27) (v := _) (by first | (simp only [List.getElem?_toArray, List.getElem?_cons_zero, List.getElem?_cons_succ]; rfl) | rfl) (by kernel_rfl) (by kernel_rfl) (by kernel_rfl) (by exact fun _ _ _ h => h) (Or.inl ⟨by rfl, by (intro w hSw; (try dsimp only at hSw); go_simp; try with_reducible rfl)⟩) (by assumption) ?_
  (try dsimp only [Act.put]); (try go_frame)
  refine wpAnyH_take (i := 28) (v := _) (by first | (simp only [List.getElem?_toArray, List.getElem?_cons_zero, List.getElem?_cons_succ]; rfl) | rfl) (by kernel_rfl) (by kernel_rfl) (by kernel_rfl) (by exact fun _ _ _ h => h) (Or.inl ⟨by rfl, by (intro w hSw; (try dsimp only at hSw); go_simp; try with_reducible rfl)⟩) (by assumption) ?_
  (try dsimp only [Act.put]); (try go_frame)
  refine wpAnyH_take (i := 29) (v := _) (by first | (simp only [List.getElem?_toArray, List.getElem?_cons_zero, List.getElem?_cons_succ]; rfl) | rfl) (by kernel_rfl) (by kernel_rfl) (by kernel_rfl) (by exact fun _ _ _ h => h) (Or.inl ⟨by rfl, by (intro w hSw; (try dsimp only at hSw); go_simp; try with_reducible rfl)⟩) (by assumption) ?_
  (try dsimp only [Act.put]); (try go_frame)
  refine wpAnyH_take (i := 30) (v := _) (by first | (simp only [List.getElem?_toArray, List.getElem?_cons_zero, List.getElem?_cons_succ]; rfl) | rfl) (by kernel_rfl) (by kernel_rfl) (by kernel_rfl) (by exact fun _ _ _ h => h) (Or.inl ⟨by rfl, by (intro w hSw; (try dsimp only at hSw); go_simp; try with_reducible rfl)⟩) (by assumption) ?_
  (try dsimp only [Act.put]); (try go_frame)
  refine wpAnyH_take (i := 31) (v := _) (by first | (simp only [List.getElem?_toArray, List.getElem?_cons_zero, List.getElem?_cons_succ]; rfl) | rfl) (by kernel_rfl) (by kernel_rfl) (by kernel_rfl) (by exact fun _ _ _ h => h) (Or.inl ⟨by rfl, by (intro w hSw; (try dsimp only at hSw); go_simp; try with_reducible rfl)⟩) (by assumption) ?_
  (try dsimp only [Act.put]); (try go_frame)
  refine wpAnyH_take (i := 32) (v := _) (by first | (simp only [List.getElem?_toArray, List.getElem?_cons_zero, List.getElem?_cons_succ]; rfl) | rfl) (by kernel_rfl) (by kernel_rfl) (by kernel_rfl) (by exact fun _ _ _ h => h) (Or.inl ⟨by rfl, by (intro w hSw; (try dsimp only at hSw); go_simp; try with_reducible rfl)⟩) (by assumption) ?_
  (try dsimp only [Act.put]); (try go_frame)
  refine wpAnyH_take (i := 33) (v := _) (by first | (simp only [List.getElem?_toArray, List.getElem?_cons_zero, List.getElem?_cons_succ]; rfl) | rfl) (by kernel_rfl) (by kernel_rfl) (by kernel_rfl) (by exact fun _ _ _ h => h) (Or.inl ⟨by rfl, by (intro w hSw; (try dsimp only at hSw); go_simp; try with_reducible rfl)⟩) (by assumption) ?_
  (try dsimp only [Act.put]); (try go_frame)
  refine wpAnyH_take (i := 34) (v := _) (by first | (simp only [List.getElem?_toArray, List.getElem?_cons_zero, List.getElem?_cons_succ]; rfl) | rfl) (by kernel_rfl) (by kernel_rfl) (by kernel_rfl) (by exact fun _ _ _ h => h) (Or.inl ⟨by rfl, by (intro w hSw; (try dsimp only at hSw); go_simp; try with_reducible rfl)⟩) (by assumption) ?_
  (try dsimp only [Act.put]); (try go_frame)
  refine wpAnyH_take (i := 35) (v := _) (by first | (simp only [List.getElem?_toArray, List.getElem?_cons_zero, List.getElem?_cons_succ]; rfl) | rfl) (by kernel_rfl) (by kernel_rfl) (by kernel_rfl) (by exact fun _ _ _ h => h) (Or.inl ⟨by rfl, by (intro w hSw; (try dsimp only at hSw); go_simp; try with_reducible rfl)⟩) (by assumption) ?_
  (try dsimp only [Act.put]); (try go_frame)
  refine wpAnyH_take (i := 36) (v := _) (by first | (simp only [List.getElem?_toArray, List.getElem?_cons_zero, List.getElem?_cons_succ]; rfl) | rfl) (by kernel_rfl) (by kernel_rfl) (by kernel_rfl) (by exact fun _ _ _ h => h) (Or.inl ⟨by rfl, by (intro w hSw; (try dsimp only at hSw); go_simp; try with_reducible rfl)⟩) (by assumption) ?_
  (try dsimp only [Act.put]); (try go_frame)
  refine wpAnyH_take (i := 37) (v := _) (by first | (simp only [List.getElem?_toArray, List.getElem?_cons_zero, List.getElem?_cons_succ]; rfl) | rfl) (by kernel_rfl) (by kernel_rfl) (by kernel_rfl) (by exact fun _ _ _ h => h) (Or.inl ⟨by rfl, by (intro w hSw; (try dsimp only at hSw); go_simp; try with_reducible rfl)⟩) (by assumption) ?_
  (try dsimp only [Act.put]); (try go_frame)
  refine wpAnyH_take (i := 38) (v := _) (by first | (simp only [List.getElem?_toArray, List.getElem?_cons_zero, List.getElem?_cons_succ]; rfl) | rfl) (by kernel_rfl) (by kernel_rfl) (by kernel_rfl) (by exact fun _ _ _ h => h) (Or.inl ⟨by rfl, by (intro w hSw; (try dsimp only at hSw); go_simp; try with_reducible rfl)⟩) (by assumption) ?_
  (try dsimp only [Act.put]); (try go_frame)
  refine wpAnyH_take (i := 39) (v := _) (by first | (simp only [List.getElem?_toArray, List.getElem?_cons_zero, List.getElem?_cons_succ]; rfl) | rfl) (by kernel_rfl) (by kernel_rfl) (by kernel_rfl) (by exact fun _ _ _ h => h) (Or.inl ⟨by rfl, by (intro w hSw; (try dsimp only at hSw); go_simp; try with_reducible rfl)⟩) (by assumption) ?_
  (try dsimp only [Act.put]); (try go_frame)
  refine wpAnyH_take (i := 40) (v := _) (by first | (simp only [List.getElem?_toArray, List.getElem?_cons_zero, List.getElem?_cons_succ]; rfl) | rfl) (by kernel_rfl) (by kernel_rfl) (by kernel_rfl) (by exact fun _ _ _ h => h) (Or.inl ⟨by rfl, by (intro w hSw; (try dsimp only at hSw); go_simp; try with_reducible rfl)⟩) (by assumption) ?_
  (try dsimp only [Act.put]); (try go_frame)
  refine wpAnyH_take (i := 41) (v := _) (by first | (simp only [List.getElem?_toArray, List.getElem?_cons_zero, List.getElem?_cons_succ]; rfl) | rfl) (by kernel_rfl) (by kernel_rfl) (by kernel_rfl) (by exact fun _ _ _ h => h) (Or.inl ⟨by rfl, by (intro w hSw; (try dsimp only at hSw); go_simp; try with_reducible rfl)⟩) (by assumption) ?_
  (try dsimp only [Act.put]); (try go_frame)
  refine wpAnyH_take (i := 42) (v := _) (by first | (simp only [List.getElem?_toArray, List.getElem?_cons_zero, List.getElem?_cons_succ]; rfl) | rfl) (by kernel_rfl) (by kernel_rfl) (by kernel_rfl) (by exact fun _ _ _ h => h) (Or.inl ⟨by rfl, by (intro w hSw; (try dsimp only at hSw); go_simp; try with_reducible rfl)⟩) (by assumption) ?_
  (try dsimp only [Act.put]); (try go_frame)
  refine wpAnyH_ready (rs := [43]) (by kernel_rfl) (by simp) ?_
  refine AllReadyH.cons rfl (fun K hK => ?_) AllReadyH.nil
  go_simp
  (with_reducible refine (hl _).mono ?_)
  rintro r w15 ⟨rfl, hb15⟩
  clear xF615_0 xF615_1 xF615_2 xF1315_0 xF1315_1 xF1315_2 xF1515_0 xF1515_1 xF1515_2 xF1715_0 xF1715_1 xF1715_2 xF1915_0 xF1915_1 xF1915_2 xF2115_0 xF2115_1 xF2115_2 xF2315_0 xF2315_1 xF2315_2
  replace F6 := F6.keep hb15
  replace F13 := F13.keep hb15
  replace F15 := F15.keep hb15
  replace F17 := F17.keep hb15
  replace F19 := F19.keep hb15
  replace F21 := F21.keep hb15
  replace F23 := F23.keep hb15
  replace B0 := B0.trans (hb15.mono B0.size)
  clear hb15
  obtain ⟨xF616_0, xF616_1, xF616_2⟩ := F6.ce3
  obtain ⟨xF1316_0, xF1316_1, xF1316_2⟩ := F13.ce3
  obtain ⟨xF1516_0, xF1516_1, xF1516_2⟩ := F15.ce3
  obtain ⟨xF1716_0, xF1716_1, xF1716_2⟩ := F17.ce3
  obtain ⟨xF1916_0, xF1916_1, xF1916_2⟩ := F19.ce3
  obtain ⟨xF2116_0, xF2116_1, xF2116_2⟩ := F21.ce3
  obtain ⟨xF2316_0, xF2316_1, xF2316_2⟩ := F23.ce3
  refine hK.out _ _ ?_ (fun hHeld => ?_)
  · exact ⟨xF616_0, xF616_1, xF616_2, xF1316_0, xF1316_1, xF1316_2, xF1516_0, xF1516_1, xF1516_2, xF1716_0, xF1716_1, xF1716_2, xF1916_0, xF1916_1, xF1916_2, xF2116_0, xF2116_1, xF2116_2, xF2316_0, xF2316_1, xF2316_2⟩
  clear hK K
  (try dsimp only [Act.put]); (try go_frame)
  refine wpAnyH_take (i := 44) (v := _) (by first | (simp only [List.getElem?_toArray, List.getElem?_cons_zero, List.getElem?_cons_succ]; rfl) | rfl) (by kernel_rfl) (by kernel_rfl) (by kernel_rfl) (by exact fun _ _ _ h => h) (Or.inl ⟨by rfl, by (intro w hSw; (try dsimp only at hSw); go_simp; try with_reducible rfl)⟩) (by assumption) ?_
  (try dsimp only [Act.put]); (try go_frame)
  refine wpAnyH_take (i := 45) (v := _) (by first | (simp only [List.getElem?_toArray, List.getElem?_cons_zero, List.getElem?_cons_succ]; rfl) | rfl) (by kernel_rfl) (by kernel_rfl) (by kernel_rfl) (by exact fun _ _ _ h => h) (Or.inl ⟨by rfl, by (intro w hSw; (try dsimp only at hSw); go_simp; try with_reducible rfl)⟩) (by assumption) ?_
  (try dsimp only [Act.put]); (try go_frame)
  refine wpAnyH_done (by kernel_rfl) ?_ _
  try simp only [QCut]
  clear hHeld
  clear xF616_0 xF616_1 xF616_2 xF1316_0 xF1316_1 xF1316_2 xF1516_0 xF1516_1 xF1516_2 xF1716_0 xF1716_1 xF1716_2 xF1916_0 xF1916_1 xF1916_2 xF2116_0 xF2116_1 xF2116_2 xF2316_0 xF2316_1 xF2316_2
  go_wp2
  go_ret
  exact ⟨rfl, B0⟩
end Go.Proofs.YtbfnafcpjbdbpaaGreatDoor
