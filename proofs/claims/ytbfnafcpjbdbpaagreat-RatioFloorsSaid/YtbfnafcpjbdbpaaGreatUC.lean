/- Merged: UB UC -/
import Derived.Test.YtbfnafcpjbdbpaaGreatR9

/- ratio's Float, Floor, Below, Above, Part: the ways that were lacking; RatioFloors: its ways, by letters. -/
namespace Go.Proofs.YtbfnafcpjbdbpaaGreat
open Go Go.RowKit Go.PlainAid Fil

set_option maxRecDepth 100000 in
set_option maxHeartbeats 2000000 in
theorem l4like_same2 (f : Nat) (w : World) : Calls Tryz.prog 28 #[.float .f64 f, .float .f64 f] w fun r w' => r = .returned (.bool true) ∧ Below w.heap.size w w' := by
  have h1 := run_f64bits
  have hb := Below.refl w.heap.size w
  cases ho : (FloatKind.f64.format.order f f != some .eq)
  all_goals
    go_enter Tryz.func28, Tryz.ntmps28
    go_wp2_with fail
    go_ret
    exact ⟨rfl, hb⟩
set_option maxRecDepth 1000000 in
set_option maxHeartbeats 16000000 in
theorem kfloat_bad (xn : Bool) (xS xT : ByteArray)  (w : World) (h : ∀ W, Calls Tryz.prog 45 #[.agg #[.bool xn, .string xS, .string xT]] W fun r w' => r = .returned (.bool false) ∧ Below W.heap.size W w') :
    Calls Tryz.prog 31 #[.agg #[.bool xn, .string xS, .string xT]] w fun r w' => r = .returned (.tuple #[.float .f64 0, .int .i64 2]) ∧ Below w.heap.size w w' := by
  go_enter Tryz.func31, Tryz.ntmps31
  have B0 := Below.refl w.heap.size w
  have F1 := Blk.put (w) #[.bool xn, .string xS, .string xT] 24
  replace B0 := B0.alloc B0.size (.cells #[.bool xn, .string xS, .string xT] 24)
  obtain ⟨xF10_0, xF10_1, xF10_2⟩ := F1.ce3
  go_wp2_with fail
  (with_reducible refine (h _).mono ?_)
  rintro r w1 ⟨rfl, hb1⟩
  clear xF10_0 xF10_1 xF10_2
  replace F1 := F1.keep hb1
  replace B0 := B0.trans (hb1.mono B0.size)
  clear hb1
  go_wp2
  go_ret2
  exact ⟨rfl, B0⟩
set_option maxRecDepth 1000000 in
set_option maxHeartbeats 16000000 in
theorem kfloor_bad (xn : Bool) (xS xT : ByteArray)  (w : World) (h : ∀ W, Calls Tryz.prog 45 #[.agg #[.bool xn, .string xS, .string xT]] W fun r w' => r = .returned (.bool false) ∧ Below W.heap.size W w') :
    Calls Tryz.prog 29 #[.agg #[.bool xn, .string xS, .string xT]] w fun r w' => r = .returned (.tuple #[.agg #[.bool false, .string { data := #[] }, .string { data := #[] }], .int .i64 2]) ∧ Below w.heap.size w w' := by
  go_enter Tryz.func29, Tryz.ntmps29
  have B0 := Below.refl w.heap.size w
  have F1 := Blk.put (w) #[.bool xn, .string xS, .string xT] 24
  replace B0 := B0.alloc B0.size (.cells #[.bool xn, .string xS, .string xT] 24)
  have q_w_F2 : Hid (w.heap.size ≤ w.heap.size + 1) := Lib.hid (by omega)
  replace F1 := F1.allocd (.cells #[.bool false, .string { data := #[] }, .string { data := #[] }] 24)
  have F2 := Blk.put ((w).alloc (.cells #[.bool xn, .string xS, .string xT] 24)) #[.bool false, .string { data := #[] }, .string { data := #[] }] 24
  rw [show ((w).alloc (.cells #[.bool xn, .string xS, .string xT] 24)).heap.size = w.heap.size + 1 by simp] at F2
  replace B0 := B0.alloc B0.size (.cells #[.bool false, .string { data := #[] }, .string { data := #[] }] 24)
  obtain ⟨xF10_0, xF10_1, xF10_2⟩ := F1.ce3
  go_wp2_with fail
  (with_reducible refine (h _).mono ?_)
  rintro r w1 ⟨rfl, hb1⟩
  clear xF10_0 xF10_1 xF10_2
  replace F1 := F1.keep hb1
  replace F2 := F2.keep hb1
  replace B0 := B0.trans (hb1.mono B0.size)
  clear hb1
  obtain ⟨xF21_0, xF21_1, xF21_2⟩ := F2.ce3
  obtain ⟨xF21_0f, xF21_1f, xF21_2f⟩ := F2.fr3
  clear F1
  replace F2 : Blk ((((w1).setCell ⟨w.heap.size + 1, 0, none⟩ (.bool false)).setCell ⟨w.heap.size + 1, 1, none⟩ (.string { data := #[] })).setCell ⟨w.heap.size + 1, 2, none⟩ (.string { data := #[] })) (w.heap.size + 1) #[.bool false, .string { data := #[] }, .string { data := #[] }] 24 := (((F2.setAt 0 (.bool false)).setAt 1 (.string { data := #[] })).setAt 2 (.string { data := #[] }))
  replace B0 := (((B0.setCell (p := ⟨w.heap.size + 1, 0, none⟩) q_w_F2.out (.bool false)).setCell (p := ⟨w.heap.size + 1, 1, none⟩) q_w_F2.out (.string { data := #[] })).setCell (p := ⟨w.heap.size + 1, 2, none⟩) q_w_F2.out (.string { data := #[] }))
  obtain ⟨xF22_0, xF22_1, xF22_2⟩ := F2.ce3
  go_wp2
  exact bodyPost_ret (v := .tuple #[.agg #[.bool false, .string { data := #[] }, .string { data := #[] }], .int .i64 2]) (by simp [results, Tryz.results29, go_sem, xF22_0, xF22_1, xF22_2]) rfl ⟨rfl, B0⟩
set_option maxRecDepth 1000000 in
set_option maxHeartbeats 16000000 in
theorem kbelow_bad (xn : Bool) (xS xT : ByteArray)  (w : World) (h : ∀ W, Calls Tryz.prog 31 #[.agg #[.bool xn, .string xS, .string xT]] W fun r w' => r = .returned (.tuple #[.float .f64 0, .int .i64 2]) ∧ Below W.heap.size W w') :
    Calls Tryz.prog 32 #[.agg #[.bool xn, .string xS, .string xT]] w fun r w' => r = .returned (.tuple #[.float .f64 0, .int .i64 2]) ∧ Below w.heap.size w w' := by
  go_enter Tryz.func32, Tryz.ntmps32
  have B0 := Below.refl w.heap.size w
  have F1 := Blk.put (w) #[.bool xn, .string xS, .string xT] 24
  replace B0 := B0.alloc B0.size (.cells #[.bool xn, .string xS, .string xT] 24)
  obtain ⟨xF10_0, xF10_1, xF10_2⟩ := F1.ce3
  go_wp2_with fail
  (with_reducible refine (h _).mono ?_)
  rintro r w1 ⟨rfl, hb1⟩
  clear xF10_0 xF10_1 xF10_2
  replace F1 := F1.keep hb1
  replace B0 := B0.trans (hb1.mono B0.size)
  clear hb1
  go_wp2
  go_ret2
  exact ⟨rfl, B0⟩
set_option maxRecDepth 1000000 in
set_option maxHeartbeats 16000000 in
theorem kabove_bad (xn : Bool) (xS xT : ByteArray)  (w : World) (h : ∀ W, Calls Tryz.prog 31 #[.agg #[.bool xn, .string xS, .string xT]] W fun r w' => r = .returned (.tuple #[.float .f64 0, .int .i64 2]) ∧ Below W.heap.size W w') :
    Calls Tryz.prog 33 #[.agg #[.bool xn, .string xS, .string xT]] w fun r w' => r = .returned (.tuple #[.float .f64 0, .int .i64 2]) ∧ Below w.heap.size w w' := by
  go_enter Tryz.func33, Tryz.ntmps33
  have B0 := Below.refl w.heap.size w
  have F1 := Blk.put (w) #[.bool xn, .string xS, .string xT] 24
  replace B0 := B0.alloc B0.size (.cells #[.bool xn, .string xS, .string xT] 24)
  obtain ⟨xF10_0, xF10_1, xF10_2⟩ := F1.ce3
  go_wp2_with fail
  (with_reducible refine (h _).mono ?_)
  rintro r w1 ⟨rfl, hb1⟩
  clear xF10_0 xF10_1 xF10_2
  replace F1 := F1.keep hb1
  replace B0 := B0.trans (hb1.mono B0.size)
  clear hb1
  go_wp2
  go_ret2
  exact ⟨rfl, B0⟩
set_option maxRecDepth 1000000 in
set_option maxHeartbeats 16000000 in
theorem kpart_bad (xn : Bool) (xS xT : ByteArray)  (w : World) (h : ∀ W, Calls Tryz.prog 29 #[.agg #[.bool xn, .string xS, .string xT]] W fun r w' => r = .returned (.tuple #[.agg #[.bool false, .string { data := #[] }, .string { data := #[] }], .int .i64 2]) ∧ Below W.heap.size W w') :
    Calls Tryz.prog 30 #[.agg #[.bool xn, .string xS, .string xT]] w fun r w' => r = .returned (.tuple #[.agg #[.bool false, .string { data := #[] }, .string { data := #[] }], .int .i64 2]) ∧ Below w.heap.size w w' := by
  go_enter Tryz.func30, Tryz.ntmps30
  have B0 := Below.refl w.heap.size w
  have F1 := Blk.put (w) #[.bool xn, .string xS, .string xT] 24
  replace B0 := B0.alloc B0.size (.cells #[.bool xn, .string xS, .string xT] 24)
  have q_w_F2 : Hid (w.heap.size ≤ w.heap.size + 1) := Lib.hid (by omega)
  replace F1 := F1.allocd (.cells #[.bool false, .string { data := #[] }, .string { data := #[] }] 24)
  have F2 := Blk.put ((w).alloc (.cells #[.bool xn, .string xS, .string xT] 24)) #[.bool false, .string { data := #[] }, .string { data := #[] }] 24
  rw [show ((w).alloc (.cells #[.bool xn, .string xS, .string xT] 24)).heap.size = w.heap.size + 1 by simp] at F2
  replace B0 := B0.alloc B0.size (.cells #[.bool false, .string { data := #[] }, .string { data := #[] }] 24)
  obtain ⟨xF10_0, xF10_1, xF10_2⟩ := F1.ce3
  go_wp2_with fail
  (with_reducible refine (h _).mono ?_)
  rintro r w1 ⟨rfl, hb1⟩
  clear xF10_0 xF10_1 xF10_2
  replace F1 := F1.keep hb1
  replace F2 := F2.keep hb1
  replace B0 := B0.trans (hb1.mono B0.size)
  clear hb1
  clear F1
  replace F2 := F2.allocd (.cells #[.bool false, .string { data := #[] }, .string { data := #[] }] 24)
  replace B0 := B0.alloc B0.size (.cells #[.bool false, .string { data := #[] }, .string { data := #[] }] 24)
  obtain ⟨xF21_0, xF21_1, xF21_2⟩ := F2.ce3
  obtain ⟨xF21_0f, xF21_1f, xF21_2f⟩ := F2.fr3
  replace F2 : Blk (((((w1).alloc (.cells #[.bool false, .string { data := #[] }, .string { data := #[] }] 24)).setCell ⟨w.heap.size + 1, 0, none⟩ (.bool false)).setCell ⟨w.heap.size + 1, 1, none⟩ (.string { data := #[] })).setCell ⟨w.heap.size + 1, 2, none⟩ (.string { data := #[] })) (w.heap.size + 1) #[.bool false, .string { data := #[] }, .string { data := #[] }] 24 := (((F2.setAt 0 (.bool false)).setAt 1 (.string { data := #[] })).setAt 2 (.string { data := #[] }))
  replace B0 := (((B0.setCell (p := ⟨w.heap.size + 1, 0, none⟩) q_w_F2.out (.bool false)).setCell (p := ⟨w.heap.size + 1, 1, none⟩) q_w_F2.out (.string { data := #[] })).setCell (p := ⟨w.heap.size + 1, 2, none⟩) q_w_F2.out (.string { data := #[] }))
  obtain ⟨xF22_0, xF22_1, xF22_2⟩ := F2.ce3
  go_wp2
  exact bodyPost_ret (v := .tuple #[.agg #[.bool false, .string { data := #[] }, .string { data := #[] }], .int .i64 2]) (by simp [results, Tryz.results30, go_sem, xF22_0, xF22_1, xF22_2]) rfl ⟨rfl, B0⟩
set_option maxRecDepth 1000000 in
set_option maxHeartbeats 16000000 in
theorem kpart_ok (xn : Bool) (xS xT : ByteArray) (fn : Bool) (fS fT : ByteArray) (gn : Bool) (gS gT : ByteArray) (w : World) (h : ∀ W, Calls Tryz.prog 29 #[.agg #[.bool xn, .string xS, .string xT]] W fun r w' => r = .returned (.tuple #[.agg #[.bool fn, .string fS, .string fT], .int .i64 0]) ∧ Below W.heap.size W w')
    (h2 : ∀ W, Calls Tryz.prog 9 #[.agg #[.bool xn, .string xS, .string xT], .agg #[.bool fn, .string fS, .string fT]] W fun r w' => r = .returned (.tuple #[.agg #[.bool gn, .string gS, .string gT], .int .i64 0]) ∧ Below W.heap.size W w') :
    Calls Tryz.prog 30 #[.agg #[.bool xn, .string xS, .string xT]] w fun r w' => r = .returned (.tuple #[.agg #[.bool gn, .string gS, .string gT], .int .i64 0]) ∧ Below w.heap.size w w' := by
  go_enter Tryz.func30, Tryz.ntmps30
  have B0 := Below.refl w.heap.size w
  have F1 := Blk.put (w) #[.bool xn, .string xS, .string xT] 24
  replace B0 := B0.alloc B0.size (.cells #[.bool xn, .string xS, .string xT] 24)
  have q_w_F2 : Hid (w.heap.size ≤ w.heap.size + 1) := Lib.hid (by omega)
  replace F1 := F1.allocd (.cells #[.bool false, .string { data := #[] }, .string { data := #[] }] 24)
  have F2 := Blk.put ((w).alloc (.cells #[.bool xn, .string xS, .string xT] 24)) #[.bool false, .string { data := #[] }, .string { data := #[] }] 24
  rw [show ((w).alloc (.cells #[.bool xn, .string xS, .string xT] 24)).heap.size = w.heap.size + 1 by simp] at F2
  replace B0 := B0.alloc B0.size (.cells #[.bool false, .string { data := #[] }, .string { data := #[] }] 24)
  obtain ⟨xF10_0, xF10_1, xF10_2⟩ := F1.ce3
  go_wp2_with fail
  (with_reducible refine (h _).mono ?_)
  rintro r w1 ⟨rfl, hb1⟩
  clear xF10_0 xF10_1 xF10_2
  replace F1 := F1.keep hb1
  replace F2 := F2.keep hb1
  replace B0 := B0.trans (hb1.mono B0.size)
  clear hb1
  replace F1 := F1.allocd (.cells #[.bool fn, .string fS, .string fT] 24)
  replace F2 := F2.allocd (.cells #[.bool fn, .string fS, .string fT] 24)
  have F4 := Blk.put (w1) #[.bool fn, .string fS, .string fT] 24
  replace B0 := B0.alloc B0.size (.cells #[.bool fn, .string fS, .string fT] 24)
  obtain ⟨xF11_0, xF11_1, xF11_2⟩ := F1.ce3
  obtain ⟨xF41_0, xF41_1, xF41_2⟩ := F4.ce3
  go_wp2_with fail
  (with_reducible refine (h2 _).mono ?_)
  rintro r w2 ⟨rfl, hb2⟩
  clear xF11_0 xF11_1 xF11_2 xF41_0 xF41_1 xF41_2
  replace F1 := F1.keep hb2
  replace F2 := F2.keep hb2
  replace F4 := F4.keep hb2
  replace B0 := B0.trans (hb2.mono B0.size)
  clear hb2
  obtain ⟨xF22_0, xF22_1, xF22_2⟩ := F2.ce3
  obtain ⟨xF22_0f, xF22_1f, xF22_2f⟩ := F2.fr3
  clear F1
  clear F4
  replace F2 : Blk ((((w2).setCell ⟨w.heap.size + 1, 0, none⟩ (.bool gn)).setCell ⟨w.heap.size + 1, 1, none⟩ (.string gS)).setCell ⟨w.heap.size + 1, 2, none⟩ (.string gT)) (w.heap.size + 1) #[.bool gn, .string gS, .string gT] 24 := (((F2.setAt 0 (.bool gn)).setAt 1 (.string gS)).setAt 2 (.string gT))
  replace B0 := (((B0.setCell (p := ⟨w.heap.size + 1, 0, none⟩) q_w_F2.out (.bool gn)).setCell (p := ⟨w.heap.size + 1, 1, none⟩) q_w_F2.out (.string gS)).setCell (p := ⟨w.heap.size + 1, 2, none⟩) q_w_F2.out (.string gT))
  obtain ⟨xF23_0, xF23_1, xF23_2⟩ := F2.ce3
  go_wp2
  exact bodyPost_ret (v := .tuple #[.agg #[.bool gn, .string gS, .string gT], .int .i64 0]) (by simp [results, Tryz.results30, go_sem, xF23_0, xF23_1, xF23_2]) rfl ⟨rfl, B0⟩
set_option maxRecDepth 1000000 in
set_option maxHeartbeats 16000000 in
theorem floors_far (xn : Bool) (xS xT : ByteArray)  (w : World) (h0 : ∀ W, Calls Tryz.prog 6 #[.agg #[.bool xn, .string xS, .string xT]] W fun r w' => r = .returned (.bool false) ∧ Below W.heap.size W w')
    (hl : ∀ W, Calls Tryz.prog 7 #[] W fun r w' => r = .returned (.bool true) ∧ Below W.heap.size W w') :
    Calls Tryz.prog 5 #[.agg #[.bool xn, .string xS, .string xT]] w fun r w' => r = .returned (.bool true) ∧ Below w.heap.size w w' := by
  go_enter Tryz.func5, Tryz.ntmps5
  have B0 := Below.refl w.heap.size w
  have F1 := Blk.put (w) #[.bool xn, .string xS, .string xT] 24
  replace B0 := B0.alloc B0.size (.cells #[.bool xn, .string xS, .string xT] 24)
  obtain ⟨xF10_0, xF10_1, xF10_2⟩ := F1.ce3
  go_wp2_with fail
  (with_reducible refine (h0 _).mono ?_)
  rintro r w1 ⟨rfl, hb1⟩
  clear xF10_0 xF10_1 xF10_2
  replace F1 := F1.keep hb1
  replace B0 := B0.trans (hb1.mono B0.size)
  clear hb1
  go_wp2_with fail
  (with_reducible refine (hl _).mono ?_)
  rintro r w2 ⟨rfl, hb2⟩
  clear F1
  replace B0 := B0.trans (hb2.mono B0.size)
  clear hb2
  go_wp2
  go_ret
  exact ⟨rfl, B0⟩
set_option maxRecDepth 1000000 in
set_option maxHeartbeats 16000000 in
theorem floors_bad (xn : Bool) (xS xT : ByteArray)  (w : World) (h0 : ∀ W, Calls Tryz.prog 6 #[.agg #[.bool xn, .string xS, .string xT]] W fun r w' => r = .returned (.bool true) ∧ Below W.heap.size W w')
    (h1 : ∀ W, Calls Tryz.prog 29 #[.agg #[.bool xn, .string xS, .string xT]] W fun r w' => r = .returned (.tuple #[.agg #[.bool false, .string { data := #[] }, .string { data := #[] }], .int .i64 2]) ∧ Below W.heap.size W w')
    (h2 : ∀ W, Calls Tryz.prog 30 #[.agg #[.bool xn, .string xS, .string xT]] W fun r w' => r = .returned (.tuple #[.agg #[.bool false, .string { data := #[] }, .string { data := #[] }], .int .i64 2]) ∧ Below W.heap.size W w')
    (h3 : ∀ W, Calls Tryz.prog 31 #[.agg #[.bool xn, .string xS, .string xT]] W fun r w' => r = .returned (.tuple #[.float .f64 0, .int .i64 2]) ∧ Below W.heap.size W w')
    (h4 : ∀ W, Calls Tryz.prog 32 #[.agg #[.bool xn, .string xS, .string xT]] W fun r w' => r = .returned (.tuple #[.float .f64 0, .int .i64 2]) ∧ Below W.heap.size W w')
    (h5 : ∀ W, Calls Tryz.prog 33 #[.agg #[.bool xn, .string xS, .string xT]] W fun r w' => r = .returned (.tuple #[.float .f64 0, .int .i64 2]) ∧ Below W.heap.size W w')
    (h6 : ∀ W, Calls Tryz.prog 14 #[.agg #[.bool xn, .string xS, .string xT]] W fun r w' => r = .returned (.bool false) ∧ Below W.heap.size W w')
    (hl : ∀ W, Calls Tryz.prog 7 #[] W fun r w' => r = .returned (.bool true) ∧ Below W.heap.size W w') :
    Calls Tryz.prog 5 #[.agg #[.bool xn, .string xS, .string xT]] w fun r w' => r = .returned (.bool true) ∧ Below w.heap.size w w' := by
  go_enter Tryz.func5, Tryz.ntmps5
  have B0 := Below.refl w.heap.size w
  have F1 := Blk.put (w) #[.bool xn, .string xS, .string xT] 24
  replace B0 := B0.alloc B0.size (.cells #[.bool xn, .string xS, .string xT] 24)
  obtain ⟨xF10_0, xF10_1, xF10_2⟩ := F1.ce3
  go_wp2_with fail
  (with_reducible refine (h0 _).mono ?_)
  rintro r w1 ⟨rfl, hb1⟩
  clear xF10_0 xF10_1 xF10_2
  replace F1 := F1.keep hb1
  replace B0 := B0.trans (hb1.mono B0.size)
  clear hb1
  obtain ⟨xF11_0, xF11_1, xF11_2⟩ := F1.ce3
  go_wp2_with fail
  (with_reducible refine (h1 _).mono ?_)
  rintro r w2 ⟨rfl, hb2⟩
  clear xF11_0 xF11_1 xF11_2
  replace F1 := F1.keep hb2
  replace B0 := B0.trans (hb2.mono B0.size)
  clear hb2
  replace F1 := F1.allocd (.cells #[.bool false, .string { data := #[] }, .string { data := #[] }] 24)
  have F3 := Blk.put (w2) #[.bool false, .string { data := #[] }, .string { data := #[] }] 24
  replace B0 := B0.alloc B0.size (.cells #[.bool false, .string { data := #[] }, .string { data := #[] }] 24)
  obtain ⟨xF12_0, xF12_1, xF12_2⟩ := F1.ce3
  go_wp2_with fail
  (with_reducible refine (h2 _).mono ?_)
  rintro r w3 ⟨rfl, hb3⟩
  clear xF12_0 xF12_1 xF12_2
  replace F1 := F1.keep hb3
  replace F3 := F3.keep hb3
  replace B0 := B0.trans (hb3.mono B0.size)
  clear hb3
  replace F1 := F1.allocd (.cells #[.bool false, .string { data := #[] }, .string { data := #[] }] 24)
  replace F3 := F3.allocd (.cells #[.bool false, .string { data := #[] }, .string { data := #[] }] 24)
  have F5 := Blk.put (w3) #[.bool false, .string { data := #[] }, .string { data := #[] }] 24
  replace B0 := B0.alloc B0.size (.cells #[.bool false, .string { data := #[] }, .string { data := #[] }] 24)
  obtain ⟨xF13_0, xF13_1, xF13_2⟩ := F1.ce3
  go_wp2_with fail
  (with_reducible refine (h3 _).mono ?_)
  rintro r w4 ⟨rfl, hb4⟩
  clear xF13_0 xF13_1 xF13_2
  replace F1 := F1.keep hb4
  replace F3 := F3.keep hb4
  replace F5 := F5.keep hb4
  replace B0 := B0.trans (hb4.mono B0.size)
  clear hb4
  obtain ⟨xF14_0, xF14_1, xF14_2⟩ := F1.ce3
  go_wp2_with fail
  (with_reducible refine (h4 _).mono ?_)
  rintro r w5 ⟨rfl, hb5⟩
  clear xF14_0 xF14_1 xF14_2
  replace F1 := F1.keep hb5
  replace F3 := F3.keep hb5
  replace F5 := F5.keep hb5
  replace B0 := B0.trans (hb5.mono B0.size)
  clear hb5
  obtain ⟨xF15_0, xF15_1, xF15_2⟩ := F1.ce3
  go_wp2_with fail
  (with_reducible refine (h5 _).mono ?_)
  rintro r w6 ⟨rfl, hb6⟩
  clear xF15_0 xF15_1 xF15_2
  replace F1 := F1.keep hb6
  replace F3 := F3.keep hb6
  replace F5 := F5.keep hb6
  replace B0 := B0.trans (hb6.mono B0.size)
  clear hb6
  obtain ⟨xF16_0, xF16_1, xF16_2⟩ := F1.ce3
  go_wp2_with fail
  (with_reducible refine (h6 _).mono ?_)
  rintro r w7 ⟨rfl, hb7⟩
  clear xF16_0 xF16_1 xF16_2
  replace F1 := F1.keep hb7
  replace F3 := F3.keep hb7
  replace F5 := F5.keep hb7
  replace B0 := B0.trans (hb7.mono B0.size)
  clear hb7
  clear F1
  replace F3 := F3.allocd (.cells #[.bool false, .string { data := #[] }, .string { data := #[] }] 24)
  replace F5 := F5.allocd (.cells #[.bool false, .string { data := #[] }, .string { data := #[] }] 24)
  have F13 := Blk.put (w7) #[.bool false, .string { data := #[] }, .string { data := #[] }] 24
  replace B0 := B0.alloc B0.size (.cells #[.bool false, .string { data := #[] }, .string { data := #[] }] 24)
  obtain ⟨xF37_0, xF37_1, xF37_2⟩ := F3.ce3
  obtain ⟨xF137_0, xF137_1, xF137_2⟩ := F13.ce3
  obtain ⟨xF57_0, xF57_1, xF57_2⟩ := F5.ce3
  go_wp2_with fail
  (with_reducible refine (l4like_same2 _ _).mono ?_)
  rintro r w8 ⟨rfl, hb8⟩
  clear xF37_0 xF37_1 xF37_2 xF137_0 xF137_1 xF137_2 xF57_0 xF57_1 xF57_2
  replace F3 := F3.keep hb8
  replace F5 := F5.keep hb8
  replace F13 := F13.keep hb8
  replace B0 := B0.trans (hb8.mono B0.size)
  clear hb8
  go_wp2_with fail
  (with_reducible refine (l4like_same2 _ _).mono ?_)
  rintro r w9 ⟨rfl, hb9⟩
  clear F3
  clear F5
  clear F13
  replace B0 := B0.trans (hb9.mono B0.size)
  clear hb9
  go_wp2_with fail
  (with_reducible refine (l4like_same2 _ _).mono ?_)
  rintro r w10 ⟨rfl, hb10⟩
  replace B0 := B0.trans (hb10.mono B0.size)
  clear hb10
  go_wp2_with fail
  (with_reducible refine (hl _).mono ?_)
  rintro r w11 ⟨rfl, hb11⟩
  replace B0 := B0.trans (hb11.mono B0.size)
  clear hb11
  go_wp2
  go_ret
  exact ⟨rfl, B0⟩
end Go.Proofs.YtbfnafcpjbdbpaaGreat

/- RatioFloors: its last way. -/
namespace Go.Proofs.YtbfnafcpjbdbpaaGreat
open Go Go.RowKit Go.PlainAid Fil

set_option maxRecDepth 1000000 in
set_option maxHeartbeats 16000000 in
theorem floors_good (xn : Bool) (xS xT : ByteArray) (fn : Bool) (fS fT : ByteArray) (gn : Bool) (gS gT : ByteArray) (on : Bool) (oS oT : ByteArray) (a b d : Nat) (w : World) (h0 : ∀ W, Calls Tryz.prog 6 #[.agg #[.bool xn, .string xS, .string xT]] W fun r w' => r = .returned (.bool true) ∧ Below W.heap.size W w')
    (h1 : ∀ W, Calls Tryz.prog 29 #[.agg #[.bool xn, .string xS, .string xT]] W fun r w' => r = .returned (.tuple #[.agg #[.bool fn, .string fS, .string fT], .int .i64 0]) ∧ Below W.heap.size W w')
    (h2 : ∀ W, Calls Tryz.prog 30 #[.agg #[.bool xn, .string xS, .string xT]] W fun r w' => r = .returned (.tuple #[.agg #[.bool gn, .string gS, .string gT], .int .i64 0]) ∧ Below W.heap.size W w')
    (h3 : ∀ W, Calls Tryz.prog 31 #[.agg #[.bool xn, .string xS, .string xT]] W fun r w' => r = .returned (.tuple #[.float .f64 a, .int .i64 0]) ∧ Below W.heap.size W w')
    (h4 : ∀ W, Calls Tryz.prog 32 #[.agg #[.bool xn, .string xS, .string xT]] W fun r w' => r = .returned (.tuple #[.float .f64 b, .int .i64 0]) ∧ Below W.heap.size W w')
    (h5 : ∀ W, Calls Tryz.prog 33 #[.agg #[.bool xn, .string xS, .string xT]] W fun r w' => r = .returned (.tuple #[.float .f64 d, .int .i64 0]) ∧ Below W.heap.size W w')
    (h6 : ∀ W, Calls Tryz.prog 14 #[.agg #[.bool xn, .string xS, .string xT]] W fun r w' => r = .returned (.bool true) ∧ Below W.heap.size W w')
    (h7 : ∀ W, Calls Tryz.prog 34 #[.agg #[.bool xn, .string xS, .string xT]] W fun r w' => r = .returned (.agg #[.bool fn, .string fS, .string fT]) ∧ Below W.heap.size W w')
    (h8 : ∀ W, Calls Tryz.prog 15 #[.agg #[.bool fn, .string fS, .string fT]] W fun r w' => r = .returned (.agg #[.bool on, .string oS, .string oT]) ∧ Below W.heap.size W w')
    (h9 : ∀ W, Calls Tryz.prog 16 #[.agg #[.bool xn, .string xS, .string xT], .agg #[.bool on, .string oS, .string oT]] W fun r w' => r = .returned (.agg #[.bool gn, .string gS, .string gT]) ∧ Below W.heap.size W w')
    (h10 : ∀ W, Calls Tryz.prog 35 #[.agg #[.bool xn, .string xS, .string xT]] W fun r w' => r = .returned (.float .f64 a) ∧ Below W.heap.size W w')
    (h11 : ∀ W, Calls Tryz.prog 36 #[.agg #[.bool xn, .string xS, .string xT]] W fun r w' => r = .returned (.float .f64 b) ∧ Below W.heap.size W w')
    (h12 : ∀ W, Calls Tryz.prog 37 #[.agg #[.bool xn, .string xS, .string xT]] W fun r w' => r = .returned (.float .f64 d) ∧ Below W.heap.size W w')
    (hl : ∀ W, Calls Tryz.prog 7 #[] W fun r w' => r = .returned (.bool true) ∧ Below W.heap.size W w') :
    Calls Tryz.prog 5 #[.agg #[.bool xn, .string xS, .string xT]] w fun r w' => r = .returned (.bool true) ∧ Below w.heap.size w w' := by
  go_enter Tryz.func5, Tryz.ntmps5
  have B0 := Below.refl w.heap.size w
  have F1 := Blk.put (w) #[.bool xn, .string xS, .string xT] 24
  replace B0 := B0.alloc B0.size (.cells #[.bool xn, .string xS, .string xT] 24)
  obtain ⟨xF10_0, xF10_1, xF10_2⟩ := F1.ce3
  go_wp2_with fail
  (with_reducible refine (h0 _).mono ?_)
  rintro r w1 ⟨rfl, hb1⟩
  clear xF10_0 xF10_1 xF10_2
  replace F1 := F1.keep hb1
  replace B0 := B0.trans (hb1.mono B0.size)
  clear hb1
  obtain ⟨xF11_0, xF11_1, xF11_2⟩ := F1.ce3
  go_wp2_with fail
  (with_reducible refine (h1 _).mono ?_)
  rintro r w2 ⟨rfl, hb2⟩
  clear xF11_0 xF11_1 xF11_2
  replace F1 := F1.keep hb2
  replace B0 := B0.trans (hb2.mono B0.size)
  clear hb2
  replace F1 := F1.allocd (.cells #[.bool fn, .string fS, .string fT] 24)
  have F3 := Blk.put (w2) #[.bool fn, .string fS, .string fT] 24
  replace B0 := B0.alloc B0.size (.cells #[.bool fn, .string fS, .string fT] 24)
  obtain ⟨xF12_0, xF12_1, xF12_2⟩ := F1.ce3
  go_wp2_with fail
  (with_reducible refine (h2 _).mono ?_)
  rintro r w3 ⟨rfl, hb3⟩
  clear xF12_0 xF12_1 xF12_2
  replace F1 := F1.keep hb3
  replace F3 := F3.keep hb3
  replace B0 := B0.trans (hb3.mono B0.size)
  clear hb3
  replace F1 := F1.allocd (.cells #[.bool gn, .string gS, .string gT] 24)
  replace F3 := F3.allocd (.cells #[.bool gn, .string gS, .string gT] 24)
  have F5 := Blk.put (w3) #[.bool gn, .string gS, .string gT] 24
  replace B0 := B0.alloc B0.size (.cells #[.bool gn, .string gS, .string gT] 24)
  obtain ⟨xF13_0, xF13_1, xF13_2⟩ := F1.ce3
  go_wp2_with fail
  (with_reducible refine (h3 _).mono ?_)
  rintro r w4 ⟨rfl, hb4⟩
  clear xF13_0 xF13_1 xF13_2
  replace F1 := F1.keep hb4
  replace F3 := F3.keep hb4
  replace F5 := F5.keep hb4
  replace B0 := B0.trans (hb4.mono B0.size)
  clear hb4
  obtain ⟨xF14_0, xF14_1, xF14_2⟩ := F1.ce3
  go_wp2_with fail
  (with_reducible refine (h4 _).mono ?_)
  rintro r w5 ⟨rfl, hb5⟩
  clear xF14_0 xF14_1 xF14_2
  replace F1 := F1.keep hb5
  replace F3 := F3.keep hb5
  replace F5 := F5.keep hb5
  replace B0 := B0.trans (hb5.mono B0.size)
  clear hb5
  obtain ⟨xF15_0, xF15_1, xF15_2⟩ := F1.ce3
  go_wp2_with fail
  (with_reducible refine (h5 _).mono ?_)
  rintro r w6 ⟨rfl, hb6⟩
  clear xF15_0 xF15_1 xF15_2
  replace F1 := F1.keep hb6
  replace F3 := F3.keep hb6
  replace F5 := F5.keep hb6
  replace B0 := B0.trans (hb6.mono B0.size)
  clear hb6
  obtain ⟨xF16_0, xF16_1, xF16_2⟩ := F1.ce3
  go_wp2_with fail
  (with_reducible refine (h6 _).mono ?_)
  rintro r w7 ⟨rfl, hb7⟩
  clear xF16_0 xF16_1 xF16_2
  replace F1 := F1.keep hb7
  replace F3 := F3.keep hb7
  replace F5 := F5.keep hb7
  replace B0 := B0.trans (hb7.mono B0.size)
  clear hb7
  go_wp2_with fail
  refine wp_region_any (by kernel_rfl) ?_
  obtain ⟨xF37_0, xF37_1, xF37_2⟩ := F3.ce3
  obtain ⟨xF17_0, xF17_1, xF17_2⟩ := F1.ce3
  obtain ⟨xF57_0, xF57_1, xF57_2⟩ := F5.ce3
  have hHeld : (fun w' : World => w'.cell? ⟨w2.heap.size, 0, none⟩ = some (.bool fn) ∧ w'.cell? ⟨w2.heap.size, 1, none⟩ = some (.string fS) ∧ w'.cell? ⟨w2.heap.size, 2, none⟩ = some (.string fT) ∧ w'.cell? ⟨w.heap.size, 0, none⟩ = some (.bool xn) ∧ w'.cell? ⟨w.heap.size, 1, none⟩ = some (.string xS) ∧ w'.cell? ⟨w.heap.size, 2, none⟩ = some (.string xT) ∧ w'.cell? ⟨w3.heap.size, 0, none⟩ = some (.bool gn) ∧ w'.cell? ⟨w3.heap.size, 1, none⟩ = some (.string gS) ∧ w'.cell? ⟨w3.heap.size, 2, none⟩ = some (.string gT)) (w7).drew := ⟨xF37_0, xF37_1, xF37_2, xF17_0, xF17_1, xF17_2, xF57_0, xF57_1, xF57_2⟩
  refine wpAny_of_held (S := fun w' : World => w'.cell? ⟨w2.heap.size, 0, none⟩ = some (.bool fn) ∧ w'.cell? ⟨w2.heap.size, 1, none⟩ = some (.string fS) ∧ w'.cell? ⟨w2.heap.size, 2, none⟩ = some (.string fT) ∧ w'.cell? ⟨w.heap.size, 0, none⟩ = some (.bool xn) ∧ w'.cell? ⟨w.heap.size, 1, none⟩ = some (.string xS) ∧ w'.cell? ⟨w.heap.size, 2, none⟩ = some (.string xT) ∧ w'.cell? ⟨w3.heap.size, 0, none⟩ = some (.bool gn) ∧ w'.cell? ⟨w3.heap.size, 1, none⟩ = some (.string gS) ∧ w'.cell? ⟨w3.heap.size, 2, none⟩ = some (.string gT)) _ _ _ _ ?_
  replace F1 := F1.drew
  replace F3 := F3.drew
  replace F5 := F5.drew
  replace B0 := B0.drew
  refine wpAnyH_take (i := 0) (v := _) (by first | (simp only [List.getElem?_toArray, List.getElem?_cons_zero]; rfl) | rfl) (by kernel_rfl) (by kernel_rfl) (by kernel_rfl) (by exact fun _ _ _ h => h) (Or.inl ⟨by rfl, by (intro w hSw; (try dsimp only at hSw); go_simp; try with_reducible rfl)⟩) (by assumption) ?_
  (try dsimp only [Act.put]); (try go_frame)
  refine wpAnyH_take (i := 1) (v := _) (by first | (simp only [List.getElem?_toArray, List.getElem?_cons_zero, List.getElem?_cons_succ]; rfl) | rfl) (by kernel_rfl) (by kernel_rfl) (by kernel_rfl) (by exact fun _ _ _ h => h) (Or.inl ⟨by rfl, by (intro w hSw; (try dsimp only at hSw); go_simp; try with_reducible rfl)⟩) (by assumption) ?_
  (try dsimp only [Act.put]); (try go_frame)
  refine wpAnyH_ready (rs := [2]) (by kernel_rfl) (by simp) ?_
  refine AllReadyH.cons rfl (fun K hK => ?_) AllReadyH.nil
  go_simp
  (with_reducible refine (h7 _).mono ?_)
  rintro r w8 ⟨rfl, hb8⟩
  clear xF37_0 xF37_1 xF37_2 xF17_0 xF17_1 xF17_2 xF57_0 xF57_1 xF57_2
  replace F1 := F1.keep hb8
  replace F3 := F3.keep hb8
  replace F5 := F5.keep hb8
  replace B0 := B0.trans (hb8.mono B0.size)
  clear hb8
  obtain ⟨xF39_0, xF39_1, xF39_2⟩ := F3.ce3
  obtain ⟨xF19_0, xF19_1, xF19_2⟩ := F1.ce3
  obtain ⟨xF59_0, xF59_1, xF59_2⟩ := F5.ce3
  refine hK.out _ _ ?_ (fun hHeld => ?_)
  · exact ⟨xF39_0, xF39_1, xF39_2, xF19_0, xF19_1, xF19_2, xF59_0, xF59_1, xF59_2⟩
  clear hK K
  (try dsimp only [Act.put]); (try go_frame)
  refine wpAnyH_take (i := 3) (v := _) (by first | (simp only [List.getElem?_toArray, List.getElem?_cons_zero, List.getElem?_cons_succ]; rfl) | rfl) (by kernel_rfl) (by kernel_rfl) (by kernel_rfl) (by exact fun _ _ _ h => h) (Or.inl ⟨by rfl, by (intro w hSw; (try dsimp only at hSw); go_simp; try with_reducible rfl)⟩) (by assumption) ?_
  (try dsimp only [Act.put]); (try go_frame)
  refine wpAnyH_take (i := 4) (v := _) (by first | (simp only [List.getElem?_toArray, List.getElem?_cons_zero, List.getElem?_cons_succ]; rfl) | rfl) (by kernel_rfl) (by kernel_rfl) (by kernel_rfl) (by exact fun _ _ _ h => h) (Or.inl ⟨by rfl, by (intro w hSw; (try dsimp only at hSw); go_simp; try with_reducible rfl)⟩) (by assumption) ?_
  (try dsimp only [Act.put]); (try go_frame)
  refine wpAnyH_take (i := 5) (v := _) (by first | (simp only [List.getElem?_toArray, List.getElem?_cons_zero, List.getElem?_cons_succ]; rfl) | rfl) (by kernel_rfl) (by kernel_rfl) (by kernel_rfl) (by exact fun _ _ _ h => h) (Or.inl ⟨by rfl, by (intro w hSw; (try dsimp only at hSw); go_simp; try with_reducible rfl)⟩) (by assumption) ?_
  (try dsimp only [Act.put]); (try go_frame)
  refine wpAnyH_take (i := 6) (v := _) (by first | (simp only [List.getElem?_toArray, List.getElem?_cons_zero, List.getElem?_cons_succ]; rfl) | rfl) (by kernel_rfl) (by kernel_rfl) (by kernel_rfl) (by exact fun _ _ _ h => h) (Or.inl ⟨by rfl, by (intro w hSw; (try dsimp only at hSw); go_simp; try with_reducible rfl)⟩) (by assumption) ?_
  (try dsimp only [Act.put]); (try go_frame)
  refine wpAnyH_take (i := 7) (v := _) (by first | (simp only [List.getElem?_toArray, List.getElem?_cons_zero, List.getElem?_cons_succ]; rfl) | rfl) (by kernel_rfl) (by kernel_rfl) (by kernel_rfl) (by exact fun _ _ _ h => h) (Or.inl ⟨by rfl, by (intro w hSw; (try dsimp only at hSw); go_simp; try with_reducible rfl)⟩) (by assumption) ?_
  (try dsimp only [Act.put]); (try go_frame)
  refine wpAnyH_ready (rs := [8]) (by kernel_rfl) (by simp) ?_
  refine AllReadyH.cons rfl (fun K hK => ?_) AllReadyH.nil
  go_simp
  (with_reducible refine (h7 _).mono ?_)
  rintro r w9 ⟨rfl, hb9⟩
  clear xF39_0 xF39_1 xF39_2 xF19_0 xF19_1 xF19_2 xF59_0 xF59_1 xF59_2
  replace F1 := F1.keep hb9
  replace F3 := F3.keep hb9
  replace F5 := F5.keep hb9
  replace B0 := B0.trans (hb9.mono B0.size)
  clear hb9
  obtain ⟨xF310_0, xF310_1, xF310_2⟩ := F3.ce3
  obtain ⟨xF110_0, xF110_1, xF110_2⟩ := F1.ce3
  obtain ⟨xF510_0, xF510_1, xF510_2⟩ := F5.ce3
  refine hK.out _ _ ?_ (fun hHeld => ?_)
  · exact ⟨xF310_0, xF310_1, xF310_2, xF110_0, xF110_1, xF110_2, xF510_0, xF510_1, xF510_2⟩
  clear hK K
  (try dsimp only [Act.put]); (try go_frame)
  refine wpAnyH_ready (rs := [9]) (by kernel_rfl) (by simp) ?_
  refine AllReadyH.cons rfl (fun K hK => ?_) AllReadyH.nil
  go_simp
  (with_reducible refine (h8 _).mono ?_)
  rintro r w10 ⟨rfl, hb10⟩
  clear xF310_0 xF310_1 xF310_2 xF110_0 xF110_1 xF110_2 xF510_0 xF510_1 xF510_2
  replace F1 := F1.keep hb10
  replace F3 := F3.keep hb10
  replace F5 := F5.keep hb10
  replace B0 := B0.trans (hb10.mono B0.size)
  clear hb10
  obtain ⟨xF311_0, xF311_1, xF311_2⟩ := F3.ce3
  obtain ⟨xF111_0, xF111_1, xF111_2⟩ := F1.ce3
  obtain ⟨xF511_0, xF511_1, xF511_2⟩ := F5.ce3
  refine hK.out _ _ ?_ (fun hHeld => ?_)
  · exact ⟨xF311_0, xF311_1, xF311_2, xF111_0, xF111_1, xF111_2, xF511_0, xF511_1, xF511_2⟩
  clear hK K
  (try dsimp only [Act.put]); (try go_frame)
  refine wpAnyH_ready (rs := [10]) (by kernel_rfl) (by simp) ?_
  refine AllReadyH.cons rfl (fun K hK => ?_) AllReadyH.nil
  go_simp
  (with_reducible refine (h9 _).mono ?_)
  rintro r w11 ⟨rfl, hb11⟩
  clear xF311_0 xF311_1 xF311_2 xF111_0 xF111_1 xF111_2 xF511_0 xF511_1 xF511_2
  replace F1 := F1.keep hb11
  replace F3 := F3.keep hb11
  replace F5 := F5.keep hb11
  replace B0 := B0.trans (hb11.mono B0.size)
  clear hb11
  obtain ⟨xF312_0, xF312_1, xF312_2⟩ := F3.ce3
  obtain ⟨xF112_0, xF112_1, xF112_2⟩ := F1.ce3
  obtain ⟨xF512_0, xF512_1, xF512_2⟩ := F5.ce3
  refine hK.out _ _ ?_ (fun hHeld => ?_)
  · exact ⟨xF312_0, xF312_1, xF312_2, xF112_0, xF112_1, xF112_2, xF512_0, xF512_1, xF512_2⟩
  clear hK K
  (try dsimp only [Act.put]); (try go_frame)
  refine wpAnyH_take (i := 11) (v := _) (by first | (simp only [List.getElem?_toArray, List.getElem?_cons_zero, List.getElem?_cons_succ]; rfl) | rfl) (by kernel_rfl) (by kernel_rfl) (by kernel_rfl) (by exact fun _ _ _ h => h) (Or.inl ⟨by rfl, by (intro w hSw; (try dsimp only at hSw); go_simp; try with_reducible rfl)⟩) (by assumption) ?_
  (try dsimp only [Act.put]); (try go_frame)
  refine wpAnyH_take (i := 12) (v := _) (by first | (simp only [List.getElem?_toArray, List.getElem?_cons_zero, List.getElem?_cons_succ]; rfl) | rfl) (by kernel_rfl) (by kernel_rfl) (by kernel_rfl) (by exact fun _ _ _ h => h) (Or.inl ⟨by rfl, by (intro w hSw; (try dsimp only at hSw); go_simp; try with_reducible rfl)⟩) (by assumption) ?_
  (try dsimp only [Act.put]); (try go_frame)
  refine wpAnyH_take (i := 13) (v := _) (by first | (simp only [List.getElem?_toArray, List.getElem?_cons_zero, List.getElem?_cons_succ]; rfl) | rfl) (by kernel_rfl) (by kernel_rfl) (by kernel_rfl) (by exact fun _ _ _ h => h) (Or.inl ⟨by rfl, by (intro w hSw; (try dsimp only at hSw); go_simp; try with_reducible rfl)⟩) (by assumption) ?_
  (try dsimp only [Act.put]); (try go_frame)
  refine wpAnyH_take (i := 14) (v := _) (by first | (simp only [List.getElem?_toArray, List.getElem?_cons_zero, List.getElem?_cons_succ]; rfl) | rfl) (by kernel_rfl) (by kernel_rfl) (by kernel_rfl) (by exact fun _ _ _ h => h) (Or.inl ⟨by rfl, by (intro w hSw; (try dsimp only at hSw); go_simp; try with_reducible rfl)⟩) (by assumption) ?_
  (try dsimp only [Act.put]); (try go_frame)
  refine wpAnyH_take (i := 15) (v := _) (by first | (simp only [List.getElem?_toArray, List.getElem?_cons_zero, List.getElem?_cons_succ]; rfl) | rfl) (by kernel_rfl) (by kernel_rfl) (by kernel_rfl) (by exact fun _ _ _ h => h) (Or.inl ⟨by rfl, by (intro w hSw; (try dsimp only at hSw); go_simp; try with_reducible rfl)⟩) (by assumption) ?_
  (try dsimp only [Act.put]); (try go_frame)
  refine wpAnyH_ready (rs := [16]) (by kernel_rfl) (by simp) ?_
  refine AllReadyH.cons rfl (fun K hK => ?_) AllReadyH.nil
  go_simp
  (with_reducible refine (h10 _).mono ?_)
  rintro r w12 ⟨rfl, hb12⟩
  clear xF312_0 xF312_1 xF312_2 xF112_0 xF112_1 xF112_2 xF512_0 xF512_1 xF512_2
  replace F1 := F1.keep hb12
  replace F3 := F3.keep hb12
  replace F5 := F5.keep hb12
  replace B0 := B0.trans (hb12.mono B0.size)
  clear hb12
  obtain ⟨xF313_0, xF313_1, xF313_2⟩ := F3.ce3
  obtain ⟨xF113_0, xF113_1, xF113_2⟩ := F1.ce3
  obtain ⟨xF513_0, xF513_1, xF513_2⟩ := F5.ce3
  refine hK.out _ _ ?_ (fun hHeld => ?_)
  · exact ⟨xF313_0, xF313_1, xF313_2, xF113_0, xF113_1, xF113_2, xF513_0, xF513_1, xF513_2⟩
  clear hK K
  (try dsimp only [Act.put]); (try go_frame)
  refine wpAnyH_ready (rs := [17]) (by kernel_rfl) (by simp) ?_
  refine AllReadyH.cons rfl (fun K hK => ?_) AllReadyH.nil
  go_simp
  (with_reducible refine (l4like_same2 _ _).mono ?_)
  rintro r w13 ⟨rfl, hb13⟩
  clear xF313_0 xF313_1 xF313_2 xF113_0 xF113_1 xF113_2 xF513_0 xF513_1 xF513_2
  replace F1 := F1.keep hb13
  replace F3 := F3.keep hb13
  replace F5 := F5.keep hb13
  replace B0 := B0.trans (hb13.mono B0.size)
  clear hb13
  obtain ⟨xF314_0, xF314_1, xF314_2⟩ := F3.ce3
  obtain ⟨xF114_0, xF114_1, xF114_2⟩ := F1.ce3
  obtain ⟨xF514_0, xF514_1, xF514_2⟩ := F5.ce3
  refine hK.out _ _ ?_ (fun hHeld => ?_)
  · exact ⟨xF314_0, xF314_1, xF314_2, xF114_0, xF114_1, xF114_2, xF514_0, xF514_1, xF514_2⟩
  clear hK K
  (try dsimp only [Act.put]); (try go_frame)
  refine wpAnyH_take (i := 18) (v := _) (by first | (simp only [List.getElem?_toArray, List.getElem?_cons_zero, List.getElem?_cons_succ]; rfl) | rfl) (by kernel_rfl) (by kernel_rfl) (by kernel_rfl) (by exact fun _ _ _ h => h) (Or.inl ⟨by rfl, by (intro w hSw; (try dsimp only at hSw); go_simp; try with_reducible rfl)⟩) (by assumption) ?_
  (try dsimp only [Act.put]); (try go_frame)
  refine wpAnyH_take (i := 19) (v := _) (by first | (simp only [List.getElem?_toArray, List.getElem?_cons_zero, List.getElem?_cons_succ]; rfl) | rfl) (by kernel_rfl) (by kernel_rfl) (by kernel_rfl) (by exact fun _ _ _ h => h) (Or.inl ⟨by rfl, by (intro w hSw; (try dsimp only at hSw); go_simp; try with_reducible rfl)⟩) (by assumption) ?_
  (try dsimp only [Act.put]); (try go_frame)
  refine wpAnyH_take (i := 20) (v := _) (by first | (simp only [List.getElem?_toArray, List.getElem?_cons_zero, List.getElem?_cons_succ]; rfl) | rfl) (by kernel_rfl) (by kernel_rfl) (by kernel_rfl) (by exact fun _ _ _ h => h) (Or.inl ⟨by rfl, by (intro w hSw; (try dsimp only at hSw); go_simp; try with_reducible rfl)⟩) (by assumption) ?_
  (try dsimp only [Act.put]); (try go_frame)
  refine wpAnyH_take (i := 21) (v := _) (by first | (simp only [List.getElem?_toArray, List.getElem?_cons_zero, List.getElem?_cons_succ]; rfl) | rfl) (by kernel_rfl) (by kernel_rfl) (by kernel_rfl) (by exact fun _ _ _ h => h) (Or.inl ⟨by rfl, by (intro w hSw; (try dsimp only at hSw); go_simp; try with_reducible rfl)⟩) (by assumption) ?_
  (try dsimp only [Act.put]); (try go_frame)
  refine wpAnyH_ready (rs := [22]) (by kernel_rfl) (by simp) ?_
  refine AllReadyH.cons rfl (fun K hK => ?_) AllReadyH.nil
  go_simp
  (with_reducible refine (h11 _).mono ?_)
  rintro r w14 ⟨rfl, hb14⟩
  clear xF314_0 xF314_1 xF314_2 xF114_0 xF114_1 xF114_2 xF514_0 xF514_1 xF514_2
  replace F1 := F1.keep hb14
  replace F3 := F3.keep hb14
  replace F5 := F5.keep hb14
  replace B0 := B0.trans (hb14.mono B0.size)
  clear hb14
  obtain ⟨xF315_0, xF315_1, xF315_2⟩ := F3.ce3
  obtain ⟨xF115_0, xF115_1, xF115_2⟩ := F1.ce3
  obtain ⟨xF515_0, xF515_1, xF515_2⟩ := F5.ce3
  refine hK.out _ _ ?_ (fun hHeld => ?_)
  · exact ⟨xF315_0, xF315_1, xF315_2, xF115_0, xF115_1, xF115_2, xF515_0, xF515_1, xF515_2⟩
  clear hK K
  (try dsimp only [Act.put]); (try go_frame)
  refine wpAnyH_ready (rs := [23]) (by kernel_rfl) (by simp) ?_
  refine AllReadyH.cons rfl (fun K hK => ?_) AllReadyH.nil
  go_simp
  (with_reducible refine (l4like_same2 _ _).mono ?_)
  rintro r w15 ⟨rfl, hb15⟩
  clear xF315_0 xF315_1 xF315_2 xF115_0 xF115_1 xF115_2 xF515_0 xF515_1 xF515_2
  replace F1 := F1.keep hb15
  replace F3 := F3.keep hb15
  replace F5 := F5.keep hb15
  replace B0 := B0.trans (hb15.mono B0.size)
  clear hb15
  obtain ⟨xF316_0, xF316_1, xF316_2⟩ := F3.ce3
  obtain ⟨xF116_0, xF116_1, xF116_2⟩ := F1.ce3
  obtain ⟨xF516_0, xF516_1, xF516_2⟩ := F5.ce3
  refine hK.out _ _ ?_ (fun hHeld => ?_)
  · exact ⟨xF316_0, xF316_1, xF316_2, xF116_0, xF116_1, xF116_2, xF516_0, xF516_1, xF516_2⟩
  clear hK K
  (try dsimp only [Act.put]); (try go_frame)
  refine wpAnyH_take (i := 24) (v := _) (by first | (simp only [List.getElem?_toArray, List.getElem?_cons_zero, List.getElem?_cons_succ]; rfl) | rfl) (by kernel_rfl) (by kernel_rfl) (by kernel_rfl) (by exact fun _ _ _ h => h) (Or.inl ⟨by rfl, by (intro w hSw; (try dsimp only at hSw); go_simp; try with_reducible rfl)⟩) (by assumption) ?_
  (try dsimp only [Act.put]); (try go_frame)
  refine wpAnyH_take (i := 25) (v := _) (by first | (simp only [List.getElem?_toArray, List.getElem?_cons_zero, List.getElem?_cons_succ]; rfl) | rfl) (by kernel_rfl) (by kernel_rfl) (by kernel_rfl) (by exact fun _ _ _ h => h) (Or.inl ⟨by rfl, by (intro w hSw; (try dsimp only at hSw); go_simp; try with_reducible rfl)⟩) (by assumption) ?_
  (try dsimp only [Act.put]); (try go_frame)
  refine wpAnyH_take (i := 26) (v := _) (by first | (simp only [List.getElem?_toArray, List.getElem?_cons_zero, List.getElem?_cons_succ]; rfl) | rfl) (by kernel_rfl) (by kernel_rfl) (by kernel_rfl) (by exact fun _ _ _ h => h) (Or.inl ⟨by rfl, by (intro w hSw; (try dsimp only at hSw); go_simp; try with_reducible rfl)⟩) (by assumption) ?_
  (try dsimp only [Act.put]); (try go_frame)
  refine wpAnyH_take (i := 27) (v := _) (by first | (simp only [List.getElem?_toArray, List.getElem?_cons_zero, List.getElem?_cons_succ]; rfl) | rfl) (by kernel_rfl) (by kernel_rfl) (by kernel_rfl) (by exact fun _ _ _ h => h) (Or.inl ⟨by rfl, by (intro w hSw; (try dsimp only at hSw); go_simp; try with_reducible rfl)⟩) (by assumption) ?_
  (try dsimp only [Act.put]); (try go_frame)
  refine wpAnyH_ready (rs := [28]) (by kernel_rfl) (by simp) ?_
  refine AllReadyH.cons rfl (fun K hK => ?_) AllReadyH.nil
  go_simp
  (with_reducible refine (h12 _).mono ?_)
  rintro r w16 ⟨rfl, hb16⟩
  clear xF316_0 xF316_1 xF316_2 xF116_0 xF116_1 xF116_2 xF516_0 xF516_1 xF516_2
  replace F1 := F1.keep hb16
  replace F3 := F3.keep hb16
  replace F5 := F5.keep hb16
  replace B0 := B0.trans (hb16.mono B0.size)
  clear hb16
  obtain ⟨xF317_0, xF317_1, xF317_2⟩ := F3.ce3
  obtain ⟨xF117_0, xF117_1, xF117_2⟩ := F1.ce3
  obtain ⟨xF517_0, xF517_1, xF517_2⟩ := F5.ce3
  refine hK.out _ _ ?_ (fun hHeld => ?_)
  · exact ⟨xF317_0, xF317_1, xF317_2, xF117_0, xF117_1, xF117_2, xF517_0, xF517_1, xF517_2⟩
  clear hK K
  (try dsimp only [Act.put]); (try go_frame)
  refine wpAnyH_ready (rs := [29]) (by kernel_rfl) (by simp) ?_
  refine AllReadyH.cons rfl (fun K hK => ?_) AllReadyH.nil
  go_simp
  (with_reducible refine (l4like_same2 _ _).mono ?_)
  rintro r w17 ⟨rfl, hb17⟩
  clear xF317_0 xF317_1 xF317_2 xF117_0 xF117_1 xF117_2 xF517_0 xF517_1 xF517_2
  replace F1 := F1.keep hb17
  replace F3 := F3.keep hb17
  replace F5 := F5.keep hb17
  replace B0 := B0.trans (hb17.mono B0.size)
  clear hb17
  obtain ⟨xF318_0, xF318_1, xF318_2⟩ := F3.ce3
  obtain ⟨xF118_0, xF118_1, xF118_2⟩ := F1.ce3
  obtain ⟨xF518_0, xF518_1, xF518_2⟩ := F5.ce3
  refine hK.out _ _ ?_ (fun hHeld => ?_)
  · exact ⟨xF318_0, xF318_1, xF318_2, xF118_0, xF118_1, xF118_2, xF518_0, xF518_1, xF518_2⟩
  clear hK K
  (try dsimp only [Act.put]); (try go_frame)
  refine wpAnyH_take (i := 30) (v := _) (by first | (simp only [List.getElem?_toArray, List.getElem?_cons_zero, List.getElem?_cons_succ]; rfl) | rfl) (by kernel_rfl) (by kernel_rfl) (by kernel_rfl) (by exact fun _ _ _ h => h) (Or.inl ⟨by rfl, by (intro w hSw; (try dsimp only at hSw); go_simp; try with_reducible rfl)⟩) (by assumption) ?_
  (try dsimp only [Act.put]); (try go_frame)
  refine wpAnyH_take (i := 31) (v := _) (by first | (simp only [List.getElem?_toArray, List.getElem?_cons_zero, List.getElem?_cons_succ]; rfl) | rfl) (by kernel_rfl) (by kernel_rfl) (by kernel_rfl) (by exact fun _ _ _ h => h) (Or.inl ⟨by rfl, by (intro w hSw; (try dsimp only at hSw); go_simp; try with_reducible rfl)⟩) (by assumption) ?_
  (try dsimp only [Act.put]); (try go_frame)
  refine wpAnyH_ready (rs := [32]) (by kernel_rfl) (by simp) ?_
  refine AllReadyH.cons rfl (fun K hK => ?_) AllReadyH.nil
  go_simp
  (with_reducible refine (hl _).mono ?_)
  rintro r w18 ⟨rfl, hb18⟩
  clear xF318_0 xF318_1 xF318_2 xF118_0 xF118_1 xF118_2 xF518_0 xF518_1 xF518_2
  replace F1 := F1.keep hb18
  replace F3 := F3.keep hb18
  replace F5 := F5.keep hb18
  replace B0 := B0.trans (hb18.mono B0.size)
  clear hb18
  obtain ⟨xF319_0, xF319_1, xF319_2⟩ := F3.ce3
  obtain ⟨xF119_0, xF119_1, xF119_2⟩ := F1.ce3
  obtain ⟨xF519_0, xF519_1, xF519_2⟩ := F5.ce3
  refine hK.out _ _ ?_ (fun hHeld => ?_)
  · exact ⟨xF319_0, xF319_1, xF319_2, xF119_0, xF119_1, xF119_2, xF519_0, xF519_1, xF519_2⟩
  clear hK K
  (try dsimp only [Act.put]); (try go_frame)
  refine wpAnyH_take (i := 33) (v := _) (by first | (simp only [List.getElem?_toArray, List.getElem?_cons_zero, List.getElem?_cons_succ]; rfl) | rfl) (by kernel_rfl) (by kernel_rfl) (by kernel_rfl) (by exact fun _ _ _ h => h) (Or.inl ⟨by rfl, by (intro w hSw; (try dsimp only at hSw); go_simp; try with_reducible rfl)⟩) (by assumption) ?_
  (try dsimp only [Act.put]); (try go_frame)
  refine wpAnyH_take (i := 34) (v := _) (by first | (simp only [List.getElem?_toArray, List.getElem?_cons_zero, List.getElem?_cons_succ]; rfl) | rfl) (by kernel_rfl) (by kernel_rfl) (by kernel_rfl) (by exact fun _ _ _ h => h) (Or.inl ⟨by rfl, by (intro w hSw; (try dsimp only at hSw); go_simp; try with_reducible rfl)⟩) (by assumption) ?_
  (try dsimp only [Act.put]); (try go_frame)
  refine wpAnyH_done (by kernel_rfl) ?_ _
  try simp only [QCut]
  clear hHeld
  clear xF319_0 xF319_1 xF319_2 xF119_0 xF119_1 xF119_2 xF519_0 xF519_1 xF519_2
  go_wp2
  go_ret
  exact ⟨rfl, B0⟩
end Go.Proofs.YtbfnafcpjbdbpaaGreat
