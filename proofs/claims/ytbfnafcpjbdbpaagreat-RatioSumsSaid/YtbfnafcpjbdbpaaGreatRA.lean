/- filigreelaw04.RatioSums: its ways, by letters; Neg. -/
import Derived.Test.YtbfnafcpjbdbpaaGreatR9
namespace Go.Proofs.YtbfnafcpjbdbpaaGreat
open Go Go.RowKit Go.PlainAid Fil

set_option maxRecDepth 1000000 in
set_option maxHeartbeats 16000000 in
theorem sums_far1 (xn : Bool) (xS xT : ByteArray) (yn : Bool) (yS yT : ByteArray) (w : World) (h0x : ∀ W, Calls Tryz.prog 6 #[.agg #[.bool xn, .string xS, .string xT]] W fun r w' => r = .returned (.bool false) ∧ Below W.heap.size W w')
    (hl : ∀ W, Calls Tryz.prog 7 #[] W fun r w' => r = .returned (.bool true) ∧ Below W.heap.size W w') :
    Calls Tryz.prog 3 #[.agg #[.bool xn, .string xS, .string xT], .agg #[.bool yn, .string yS, .string yT]] w fun r w' => r = .returned (.bool true) ∧ Below w.heap.size w w' := by
  go_enter Tryz.func3, Tryz.ntmps3
  have B0 := Below.refl w.heap.size w
  have F2 := Blk.put (w) #[.bool xn, .string xS, .string xT] 24
  replace B0 := B0.alloc B0.size (.cells #[.bool xn, .string xS, .string xT] 24)
  replace F2 := F2.allocd (.cells #[.bool yn, .string yS, .string yT] 24)
  replace B0 := B0.alloc B0.size (.cells #[.bool yn, .string yS, .string yT] 24)
  obtain ⟨xF20_0, xF20_1, xF20_2⟩ := F2.ce3
  go_wp2_with fail
  (with_reducible refine (h0x _).mono ?_)
  rintro r w1 ⟨rfl, hb1⟩
  clear xF20_0 xF20_1 xF20_2
  replace F2 := F2.keep hb1
  replace B0 := B0.trans (hb1.mono B0.size)
  clear hb1
  go_wp2_with fail
  (with_reducible refine (hl _).mono ?_)
  rintro r w2 ⟨rfl, hb2⟩
  clear F2
  replace B0 := B0.trans (hb2.mono B0.size)
  clear hb2
  go_wp2
  go_ret
  exact ⟨rfl, B0⟩
set_option maxRecDepth 1000000 in
set_option maxHeartbeats 16000000 in
theorem sums_far2 (xn : Bool) (xS xT : ByteArray) (yn : Bool) (yS yT : ByteArray) (w : World) (h0x : ∀ W, Calls Tryz.prog 6 #[.agg #[.bool xn, .string xS, .string xT]] W fun r w' => r = .returned (.bool true) ∧ Below W.heap.size W w')
    (h0y : ∀ W, Calls Tryz.prog 6 #[.agg #[.bool yn, .string yS, .string yT]] W fun r w' => r = .returned (.bool false) ∧ Below W.heap.size W w')
    (hl : ∀ W, Calls Tryz.prog 7 #[] W fun r w' => r = .returned (.bool true) ∧ Below W.heap.size W w') :
    Calls Tryz.prog 3 #[.agg #[.bool xn, .string xS, .string xT], .agg #[.bool yn, .string yS, .string yT]] w fun r w' => r = .returned (.bool true) ∧ Below w.heap.size w w' := by
  go_enter Tryz.func3, Tryz.ntmps3
  have B0 := Below.refl w.heap.size w
  have F2 := Blk.put (w) #[.bool xn, .string xS, .string xT] 24
  replace B0 := B0.alloc B0.size (.cells #[.bool xn, .string xS, .string xT] 24)
  replace F2 := F2.allocd (.cells #[.bool yn, .string yS, .string yT] 24)
  have F3 := Blk.put ((w).alloc (.cells #[.bool xn, .string xS, .string xT] 24)) #[.bool yn, .string yS, .string yT] 24
  rw [show ((w).alloc (.cells #[.bool xn, .string xS, .string xT] 24)).heap.size = w.heap.size + 1 by simp] at F3
  replace B0 := B0.alloc B0.size (.cells #[.bool yn, .string yS, .string yT] 24)
  obtain ⟨xF20_0, xF20_1, xF20_2⟩ := F2.ce3
  go_wp2_with fail
  (with_reducible refine (h0x _).mono ?_)
  rintro r w1 ⟨rfl, hb1⟩
  clear xF20_0 xF20_1 xF20_2
  replace F2 := F2.keep hb1
  replace F3 := F3.keep hb1
  replace B0 := B0.trans (hb1.mono B0.size)
  clear hb1
  obtain ⟨xF31_0, xF31_1, xF31_2⟩ := F3.ce3
  go_wp2_with fail
  (with_reducible refine (h0y _).mono ?_)
  rintro r w2 ⟨rfl, hb2⟩
  clear xF31_0 xF31_1 xF31_2
  clear F2
  replace F3 := F3.keep hb2
  replace B0 := B0.trans (hb2.mono B0.size)
  clear hb2
  go_wp2_with fail
  (with_reducible refine (hl _).mono ?_)
  rintro r w3 ⟨rfl, hb3⟩
  clear F3
  replace B0 := B0.trans (hb3.mono B0.size)
  clear hb3
  go_wp2
  go_ret
  exact ⟨rfl, B0⟩
set_option maxRecDepth 1000000 in
set_option maxHeartbeats 16000000 in
theorem sums_bad1 (xn : Bool) (xS xT : ByteArray) (yn : Bool) (yS yT : ByteArray) (w : World) (h0x : ∀ W, Calls Tryz.prog 6 #[.agg #[.bool xn, .string xS, .string xT]] W fun r w' => r = .returned (.bool true) ∧ Below W.heap.size W w')
    (h0y : ∀ W, Calls Tryz.prog 6 #[.agg #[.bool yn, .string yS, .string yT]] W fun r w' => r = .returned (.bool true) ∧ Below W.heap.size W w')
    (h1 : ∀ W, Calls Tryz.prog 8 #[.agg #[.bool xn, .string xS, .string xT], .agg #[.bool yn, .string yS, .string yT]] W fun r w' => r = .returned (.tuple #[.agg #[.bool false, .string { data := #[] }, .string { data := #[] }], .int .i64 2]) ∧ Below W.heap.size W w')
    (h2 : ∀ W, Calls Tryz.prog 9 #[.agg #[.bool xn, .string xS, .string xT], .agg #[.bool yn, .string yS, .string yT]] W fun r w' => r = .returned (.tuple #[.agg #[.bool false, .string { data := #[] }, .string { data := #[] }], .int .i64 2]) ∧ Below W.heap.size W w')
    (h3 : ∀ W, Calls Tryz.prog 10 #[.agg #[.bool xn, .string xS, .string xT], .agg #[.bool yn, .string yS, .string yT]] W fun r w' => r = .returned (.tuple #[.agg #[.bool false, .string { data := #[] }, .string { data := #[] }], .int .i64 2]) ∧ Below W.heap.size W w')
    (h4 : ∀ W, Calls Tryz.prog 11 #[.agg #[.bool xn, .string xS, .string xT], .agg #[.bool yn, .string yS, .string yT]] W fun r w' => r = .returned (.tuple #[.agg #[.bool false, .string { data := #[] }, .string { data := #[] }], .int .i64 2]) ∧ Below W.heap.size W w')
    (h5 : ∀ W, Calls Tryz.prog 12 #[.agg #[.bool xn, .string xS, .string xT], .agg #[.bool yn, .string yS, .string yT]] W fun r w' => r = .returned (.tuple #[.int .i64 0, .int .i64 2]) ∧ Below W.heap.size W w')
    (h6 : ∀ W, Calls Tryz.prog 13 #[.agg #[.bool xn, .string xS, .string xT]] W fun r w' => r = .returned (.tuple #[.agg #[.bool false, .string { data := #[] }, .string { data := #[] }], .int .i64 2]) ∧ Below W.heap.size W w')
    (h7 : ∀ W, Calls Tryz.prog 14 #[.agg #[.bool xn, .string xS, .string xT]] W fun r w' => r = .returned (.bool false) ∧ Below W.heap.size W w')
    (hl : ∀ W, Calls Tryz.prog 7 #[] W fun r w' => r = .returned (.bool true) ∧ Below W.heap.size W w') :
    Calls Tryz.prog 3 #[.agg #[.bool xn, .string xS, .string xT], .agg #[.bool yn, .string yS, .string yT]] w fun r w' => r = .returned (.bool true) ∧ Below w.heap.size w w' := by
  go_enter Tryz.func3, Tryz.ntmps3
  have B0 := Below.refl w.heap.size w
  have F2 := Blk.put (w) #[.bool xn, .string xS, .string xT] 24
  replace B0 := B0.alloc B0.size (.cells #[.bool xn, .string xS, .string xT] 24)
  replace F2 := F2.allocd (.cells #[.bool yn, .string yS, .string yT] 24)
  have F3 := Blk.put ((w).alloc (.cells #[.bool xn, .string xS, .string xT] 24)) #[.bool yn, .string yS, .string yT] 24
  rw [show ((w).alloc (.cells #[.bool xn, .string xS, .string xT] 24)).heap.size = w.heap.size + 1 by simp] at F3
  replace B0 := B0.alloc B0.size (.cells #[.bool yn, .string yS, .string yT] 24)
  obtain ⟨xF20_0, xF20_1, xF20_2⟩ := F2.ce3
  go_wp2_with fail
  (with_reducible refine (h0x _).mono ?_)
  rintro r w1 ⟨rfl, hb1⟩
  clear xF20_0 xF20_1 xF20_2
  replace F2 := F2.keep hb1
  replace F3 := F3.keep hb1
  replace B0 := B0.trans (hb1.mono B0.size)
  clear hb1
  obtain ⟨xF31_0, xF31_1, xF31_2⟩ := F3.ce3
  go_wp2_with fail
  (with_reducible refine (h0y _).mono ?_)
  rintro r w2 ⟨rfl, hb2⟩
  clear xF31_0 xF31_1 xF31_2
  replace F2 := F2.keep hb2
  replace F3 := F3.keep hb2
  replace B0 := B0.trans (hb2.mono B0.size)
  clear hb2
  obtain ⟨xF22_0, xF22_1, xF22_2⟩ := F2.ce3
  obtain ⟨xF32_0, xF32_1, xF32_2⟩ := F3.ce3
  go_wp2_with fail
  (with_reducible refine (h1 _).mono ?_)
  rintro r w3 ⟨rfl, hb3⟩
  clear xF22_0 xF22_1 xF22_2 xF32_0 xF32_1 xF32_2
  replace F2 := F2.keep hb3
  replace F3 := F3.keep hb3
  replace B0 := B0.trans (hb3.mono B0.size)
  clear hb3
  replace F2 := F2.allocd (.cells #[.bool false, .string { data := #[] }, .string { data := #[] }] 24)
  replace F3 := F3.allocd (.cells #[.bool false, .string { data := #[] }, .string { data := #[] }] 24)
  have F5 := Blk.put (w3) #[.bool false, .string { data := #[] }, .string { data := #[] }] 24
  replace B0 := B0.alloc B0.size (.cells #[.bool false, .string { data := #[] }, .string { data := #[] }] 24)
  obtain ⟨xF23_0, xF23_1, xF23_2⟩ := F2.ce3
  obtain ⟨xF33_0, xF33_1, xF33_2⟩ := F3.ce3
  go_wp2_with fail
  (with_reducible refine (h2 _).mono ?_)
  rintro r w4 ⟨rfl, hb4⟩
  clear xF23_0 xF23_1 xF23_2 xF33_0 xF33_1 xF33_2
  replace F2 := F2.keep hb4
  replace F3 := F3.keep hb4
  replace F5 := F5.keep hb4
  replace B0 := B0.trans (hb4.mono B0.size)
  clear hb4
  replace F2 := F2.allocd (.cells #[.bool false, .string { data := #[] }, .string { data := #[] }] 24)
  replace F3 := F3.allocd (.cells #[.bool false, .string { data := #[] }, .string { data := #[] }] 24)
  replace F5 := F5.allocd (.cells #[.bool false, .string { data := #[] }, .string { data := #[] }] 24)
  have F7 := Blk.put (w4) #[.bool false, .string { data := #[] }, .string { data := #[] }] 24
  replace B0 := B0.alloc B0.size (.cells #[.bool false, .string { data := #[] }, .string { data := #[] }] 24)
  obtain ⟨xF24_0, xF24_1, xF24_2⟩ := F2.ce3
  obtain ⟨xF34_0, xF34_1, xF34_2⟩ := F3.ce3
  go_wp2_with fail
  (with_reducible refine (h3 _).mono ?_)
  rintro r w5 ⟨rfl, hb5⟩
  clear xF24_0 xF24_1 xF24_2 xF34_0 xF34_1 xF34_2
  replace F2 := F2.keep hb5
  replace F3 := F3.keep hb5
  replace F5 := F5.keep hb5
  replace F7 := F7.keep hb5
  replace B0 := B0.trans (hb5.mono B0.size)
  clear hb5
  replace F2 := F2.allocd (.cells #[.bool false, .string { data := #[] }, .string { data := #[] }] 24)
  replace F3 := F3.allocd (.cells #[.bool false, .string { data := #[] }, .string { data := #[] }] 24)
  replace F5 := F5.allocd (.cells #[.bool false, .string { data := #[] }, .string { data := #[] }] 24)
  replace F7 := F7.allocd (.cells #[.bool false, .string { data := #[] }, .string { data := #[] }] 24)
  have F9 := Blk.put (w5) #[.bool false, .string { data := #[] }, .string { data := #[] }] 24
  replace B0 := B0.alloc B0.size (.cells #[.bool false, .string { data := #[] }, .string { data := #[] }] 24)
  obtain ⟨xF25_0, xF25_1, xF25_2⟩ := F2.ce3
  obtain ⟨xF35_0, xF35_1, xF35_2⟩ := F3.ce3
  go_wp2_with fail
  (with_reducible refine (h4 _).mono ?_)
  rintro r w6 ⟨rfl, hb6⟩
  clear xF25_0 xF25_1 xF25_2 xF35_0 xF35_1 xF35_2
  replace F2 := F2.keep hb6
  replace F3 := F3.keep hb6
  replace F5 := F5.keep hb6
  replace F7 := F7.keep hb6
  replace F9 := F9.keep hb6
  replace B0 := B0.trans (hb6.mono B0.size)
  clear hb6
  replace F2 := F2.allocd (.cells #[.bool false, .string { data := #[] }, .string { data := #[] }] 24)
  replace F3 := F3.allocd (.cells #[.bool false, .string { data := #[] }, .string { data := #[] }] 24)
  replace F5 := F5.allocd (.cells #[.bool false, .string { data := #[] }, .string { data := #[] }] 24)
  replace F7 := F7.allocd (.cells #[.bool false, .string { data := #[] }, .string { data := #[] }] 24)
  replace F9 := F9.allocd (.cells #[.bool false, .string { data := #[] }, .string { data := #[] }] 24)
  have F11 := Blk.put (w6) #[.bool false, .string { data := #[] }, .string { data := #[] }] 24
  replace B0 := B0.alloc B0.size (.cells #[.bool false, .string { data := #[] }, .string { data := #[] }] 24)
  obtain ⟨xF26_0, xF26_1, xF26_2⟩ := F2.ce3
  obtain ⟨xF36_0, xF36_1, xF36_2⟩ := F3.ce3
  go_wp2_with fail
  (with_reducible refine (h5 _).mono ?_)
  rintro r w7 ⟨rfl, hb7⟩
  clear xF26_0 xF26_1 xF26_2 xF36_0 xF36_1 xF36_2
  replace F2 := F2.keep hb7
  replace F3 := F3.keep hb7
  replace F5 := F5.keep hb7
  replace F7 := F7.keep hb7
  replace F9 := F9.keep hb7
  replace F11 := F11.keep hb7
  replace B0 := B0.trans (hb7.mono B0.size)
  clear hb7
  obtain ⟨xF27_0, xF27_1, xF27_2⟩ := F2.ce3
  go_wp2_with fail
  (with_reducible refine (h6 _).mono ?_)
  rintro r w8 ⟨rfl, hb8⟩
  clear xF27_0 xF27_1 xF27_2
  replace F2 := F2.keep hb8
  clear F3
  replace F5 := F5.keep hb8
  replace F7 := F7.keep hb8
  replace F9 := F9.keep hb8
  replace F11 := F11.keep hb8
  replace B0 := B0.trans (hb8.mono B0.size)
  clear hb8
  replace F2 := F2.allocd (.cells #[.bool false, .string { data := #[] }, .string { data := #[] }] 24)
  replace F5 := F5.allocd (.cells #[.bool false, .string { data := #[] }, .string { data := #[] }] 24)
  replace F7 := F7.allocd (.cells #[.bool false, .string { data := #[] }, .string { data := #[] }] 24)
  replace F9 := F9.allocd (.cells #[.bool false, .string { data := #[] }, .string { data := #[] }] 24)
  replace F11 := F11.allocd (.cells #[.bool false, .string { data := #[] }, .string { data := #[] }] 24)
  have F15 := Blk.put (w8) #[.bool false, .string { data := #[] }, .string { data := #[] }] 24
  replace B0 := B0.alloc B0.size (.cells #[.bool false, .string { data := #[] }, .string { data := #[] }] 24)
  replace F2 := F2.allocd (.cells #[.bool false, .string { data := #[] }, .string { data := #[] }] 24)
  replace F5 := F5.allocd (.cells #[.bool false, .string { data := #[] }, .string { data := #[] }] 24)
  replace F7 := F7.allocd (.cells #[.bool false, .string { data := #[] }, .string { data := #[] }] 24)
  replace F9 := F9.allocd (.cells #[.bool false, .string { data := #[] }, .string { data := #[] }] 24)
  replace F11 := F11.allocd (.cells #[.bool false, .string { data := #[] }, .string { data := #[] }] 24)
  replace F15 := F15.allocd (.cells #[.bool false, .string { data := #[] }, .string { data := #[] }] 24)
  have F17 := Blk.put ((w8).alloc (.cells #[.bool false, .string { data := #[] }, .string { data := #[] }] 24)) #[.bool false, .string { data := #[] }, .string { data := #[] }] 24
  rw [show ((w8).alloc (.cells #[.bool false, .string { data := #[] }, .string { data := #[] }] 24)).heap.size = w8.heap.size + 1 by simp] at F17
  replace B0 := B0.alloc B0.size (.cells #[.bool false, .string { data := #[] }, .string { data := #[] }] 24)
  obtain ⟨xF28_0, xF28_1, xF28_2⟩ := F2.ce3
  go_wp2_with fail
  (with_reducible refine (h7 _).mono ?_)
  rintro r w9 ⟨rfl, hb9⟩
  clear xF28_0 xF28_1 xF28_2
  replace F2 := F2.keep hb9
  replace F5 := F5.keep hb9
  replace F7 := F7.keep hb9
  replace F9 := F9.keep hb9
  replace F11 := F11.keep hb9
  replace F15 := F15.keep hb9
  replace F17 := F17.keep hb9
  replace B0 := B0.trans (hb9.mono B0.size)
  clear hb9
  go_wp2_with fail
  refine wp_region_any (by kernel_rfl) ?_
  obtain ⟨xF29_0, xF29_1, xF29_2⟩ := F2.ce3
  obtain ⟨xF159_0, xF159_1, xF159_2⟩ := F15.ce3
  obtain ⟨xF179_0, xF179_1, xF179_2⟩ := F17.ce3
  have hHeld : (fun w' : World => w'.cell? ⟨w.heap.size, 0, none⟩ = some (.bool xn) ∧ w'.cell? ⟨w.heap.size, 1, none⟩ = some (.string xS) ∧ w'.cell? ⟨w.heap.size, 2, none⟩ = some (.string xT) ∧ w'.cell? ⟨w8.heap.size, 0, none⟩ = some (.bool false) ∧ w'.cell? ⟨w8.heap.size, 1, none⟩ = some (.string { data := #[] }) ∧ w'.cell? ⟨w8.heap.size, 2, none⟩ = some (.string { data := #[] }) ∧ w'.cell? ⟨w8.heap.size + 1, 0, none⟩ = some (.bool false) ∧ w'.cell? ⟨w8.heap.size + 1, 1, none⟩ = some (.string { data := #[] }) ∧ w'.cell? ⟨w8.heap.size + 1, 2, none⟩ = some (.string { data := #[] })) (w9).drew := ⟨xF29_0, xF29_1, xF29_2, xF159_0, xF159_1, xF159_2, xF179_0, xF179_1, xF179_2⟩
  refine wpAny_of_held (S := fun w' : World => w'.cell? ⟨w.heap.size, 0, none⟩ = some (.bool xn) ∧ w'.cell? ⟨w.heap.size, 1, none⟩ = some (.string xS) ∧ w'.cell? ⟨w.heap.size, 2, none⟩ = some (.string xT) ∧ w'.cell? ⟨w8.heap.size, 0, none⟩ = some (.bool false) ∧ w'.cell? ⟨w8.heap.size, 1, none⟩ = some (.string { data := #[] }) ∧ w'.cell? ⟨w8.heap.size, 2, none⟩ = some (.string { data := #[] }) ∧ w'.cell? ⟨w8.heap.size + 1, 0, none⟩ = some (.bool false) ∧ w'.cell? ⟨w8.heap.size + 1, 1, none⟩ = some (.string { data := #[] }) ∧ w'.cell? ⟨w8.heap.size + 1, 2, none⟩ = some (.string { data := #[] })) _ _ _ _ ?_
  replace F2 := F2.drew
  replace F5 := F5.drew
  replace F7 := F7.drew
  replace F9 := F9.drew
  replace F11 := F11.drew
  replace F15 := F15.drew
  replace F17 := F17.drew
  replace B0 := B0.drew
  refine wpAnyH_take (i := 0) (v := _) (by first | (simp only [List.getElem?_toArray, List.getElem?_cons_zero]; rfl) | rfl) (by kernel_rfl) (by kernel_rfl) (by kernel_rfl) (by exact fun _ _ _ h => h) (Or.inl ⟨by rfl, by (intro w hSw; (try dsimp only at hSw); go_simp; try with_reducible rfl)⟩) (by assumption) ?_
  (try dsimp only [Act.put]); (try go_frame)
  refine wpAnyH_take (i := 2) (v := _) (by first | (simp only [List.getElem?_toArray, List.getElem?_cons_zero, List.getElem?_cons_succ]; rfl) | rfl) (by kernel_rfl) (by kernel_rfl) (by kernel_rfl) (by exact fun _ _ _ h => h) (Or.inl ⟨by rfl, by (intro w hSw; (try dsimp only at hSw); go_simp; try with_reducible rfl)⟩) (by assumption) ?_
  (try dsimp only [Act.put]); (try go_frame)
  refine wpAnyH_take (i := 3) (v := _) (by first | (simp only [List.getElem?_toArray, List.getElem?_cons_zero, List.getElem?_cons_succ]; rfl) | rfl) (by kernel_rfl) (by kernel_rfl) (by kernel_rfl) (by exact fun _ _ _ h => h) (Or.inl ⟨by rfl, by (intro w hSw; (try dsimp only at hSw); go_simp; try with_reducible rfl)⟩) (by assumption) ?_
  (try dsimp only [Act.put]); (try go_frame)
  refine wpAnyH_ready (rs := [1]) (by kernel_rfl) (by simp) ?_
  refine AllReadyH.cons rfl (fun K hK => ?_) AllReadyH.nil
  go_simp
  (with_reducible refine (h7 _).mono ?_)
  rintro r w10 ⟨rfl, hb10⟩
  clear xF29_0 xF29_1 xF29_2 xF159_0 xF159_1 xF159_2 xF179_0 xF179_1 xF179_2
  replace F2 := F2.keep hb10
  replace F5 := F5.keep hb10
  replace F7 := F7.keep hb10
  replace F9 := F9.keep hb10
  replace F11 := F11.keep hb10
  replace F15 := F15.keep hb10
  replace F17 := F17.keep hb10
  replace B0 := B0.trans (hb10.mono B0.size)
  clear hb10
  obtain ⟨xF211_0, xF211_1, xF211_2⟩ := F2.ce3
  obtain ⟨xF1511_0, xF1511_1, xF1511_2⟩ := F15.ce3
  obtain ⟨xF1711_0, xF1711_1, xF1711_2⟩ := F17.ce3
  refine hK.out _ _ ?_ (fun hHeld => ?_)
  · exact ⟨xF211_0, xF211_1, xF211_2, xF1511_0, xF1511_1, xF1511_2, xF1711_0, xF1711_1, xF1711_2⟩
  clear hK K
  (try dsimp only [Act.put]); (try go_frame)
  refine wpAnyH_take (i := 4) (v := _) (by first | (simp only [List.getElem?_toArray, List.getElem?_cons_zero, List.getElem?_cons_succ]; rfl) | rfl) (by kernel_rfl) (by kernel_rfl) (by kernel_rfl) (by exact fun _ _ _ h => h) (Or.inl ⟨by rfl, by (intro w hSw; (try dsimp only at hSw); go_simp; try with_reducible rfl)⟩) (by assumption) ?_
  (try dsimp only [Act.put]); (try go_frame)
  refine wpAnyH_take (i := 5) (v := _) (by first | (simp only [List.getElem?_toArray, List.getElem?_cons_zero, List.getElem?_cons_succ]; rfl) | rfl) (by kernel_rfl) (by kernel_rfl) (by kernel_rfl) (by exact fun _ _ _ h => h) (Or.inl ⟨by rfl, by (intro w hSw; (try dsimp only at hSw); go_simp; try with_reducible rfl)⟩) (by assumption) ?_
  (try dsimp only [Act.put]); (try go_frame)
  refine wpAnyH_take (i := 6) (v := _) (by first | (simp only [List.getElem?_toArray, List.getElem?_cons_zero, List.getElem?_cons_succ]; rfl) | rfl) (by kernel_rfl) (by kernel_rfl) (by kernel_rfl) (by exact fun _ _ _ h => h) (Or.inl ⟨by rfl, by (intro w hSw; (try dsimp only at hSw); go_simp; try with_reducible rfl)⟩) (by assumption) ?_
  (try dsimp only [Act.put]); (try go_frame)
  refine wpAnyH_take (i := 7) (v := _) (by first | (simp only [List.getElem?_toArray, List.getElem?_cons_zero, List.getElem?_cons_succ]; rfl) | rfl) (by kernel_rfl) (by kernel_rfl) (by kernel_rfl) (by exact fun _ _ _ h => h) (Or.inl ⟨by rfl, by (intro w hSw; (try dsimp only at hSw); go_simp; try with_reducible rfl)⟩) (by assumption) ?_
  (try dsimp only [Act.put]); (try go_frame)
  refine wpAnyH_take (i := 8) (v := _) (by first | (simp only [List.getElem?_toArray, List.getElem?_cons_zero, List.getElem?_cons_succ]; rfl) | rfl) (by kernel_rfl) (by kernel_rfl) (by kernel_rfl) (by exact fun _ _ _ h => h) (Or.inl ⟨by rfl, by (intro w hSw; (try dsimp only at hSw); go_simp; try with_reducible rfl)⟩) (by assumption) ?_
  (try dsimp only [Act.put]); (try go_frame)
  refine wpAnyH_take (i := 9) (v := undef) (by first | (simp only [List.getElem?_toArray, List.getElem?_cons_zero, List.getElem?_cons_succ]; rfl) | rfl) (by kernel_rfl) (by kernel_rfl) (by kernel_rfl) (by exact fun _ _ _ h => h) (Or.inr ⟨by rfl, by rfl⟩) (by assumption) ?_
  (try dsimp only [Act.put]); (try go_frame)
  refine wpAnyH_take (i := 10) (v := undef) (by first | (simp only [List.getElem?_toArray, List.getElem?_cons_zero, List.getElem?_cons_succ]; rfl) | rfl) (by kernel_rfl) (by kernel_rfl) (by kernel_rfl) (by exact fun _ _ _ h => h) (Or.inr ⟨by rfl, by rfl⟩) (by assumption) ?_
  (try dsimp only [Act.put]); (try go_frame)
  refine wpAnyH_take (i := 11) (v := undef) (by first | (simp only [List.getElem?_toArray, List.getElem?_cons_zero, List.getElem?_cons_succ]; rfl) | rfl) (by kernel_rfl) (by kernel_rfl) (by kernel_rfl) (by exact fun _ _ _ h => h) (Or.inr ⟨by rfl, by rfl⟩) (by assumption) ?_
  (try dsimp only [Act.put]); (try go_frame)
  refine wpAnyH_take (i := 12) (v := undef) (by first | (simp only [List.getElem?_toArray, List.getElem?_cons_zero, List.getElem?_cons_succ]; rfl) | rfl) (by kernel_rfl) (by kernel_rfl) (by kernel_rfl) (by exact fun _ _ _ h => h) (Or.inr ⟨by rfl, by rfl⟩) (by assumption) ?_
  (try dsimp only [Act.put]); (try go_frame)
  refine wpAnyH_take (i := 13) (v := _) (by first | (simp only [List.getElem?_toArray, List.getElem?_cons_zero, List.getElem?_cons_succ]; rfl) | rfl) (by kernel_rfl) (by kernel_rfl) (by kernel_rfl) (by exact fun _ _ _ h => h) (Or.inl ⟨by rfl, by (intro w hSw; (try dsimp only at hSw); go_simp; try with_reducible rfl)⟩) (by assumption) ?_
  (try dsimp only [Act.put]); (try go_frame)
  refine wpAnyH_take (i := 14) (v := _) (by first | (simp only [List.getElem?_toArray, List.getElem?_cons_zero, List.getElem?_cons_succ]; rfl) | rfl) (by kernel_rfl) (by kernel_rfl) (by kernel_rfl) (by exact fun _ _ _ h => h) (Or.inl ⟨by rfl, by (intro w hSw; (try dsimp only at hSw); go_simp; try with_reducible rfl)⟩) (by assumption) ?_
  (try dsimp only [Act.put]); (try go_frame)
  refine wpAnyH_take (i := 15) (v := _) (by first | (simp only [List.getElem?_toArray, List.getElem?_cons_zero, List.getElem?_cons_succ]; rfl) | rfl) (by kernel_rfl) (by kernel_rfl) (by kernel_rfl) (by exact fun _ _ _ h => h) (Or.inl ⟨by rfl, by (intro w hSw; (try dsimp only at hSw); go_simp; try with_reducible rfl)⟩) (by assumption) ?_
  (try dsimp only [Act.put]); (try go_frame)
  refine wpAnyH_take (i := 16) (v := _) (by first | (simp only [List.getElem?_toArray, List.getElem?_cons_zero, List.getElem?_cons_succ]; rfl) | rfl) (by kernel_rfl) (by kernel_rfl) (by kernel_rfl) (by exact fun _ _ _ h => h) (Or.inl ⟨by rfl, by (intro w hSw; (try dsimp only at hSw); go_simp; try with_reducible rfl)⟩) (by assumption) ?_
  (try dsimp only [Act.put]); (try go_frame)
  refine wpAnyH_take (i := 17) (v := _) (by first | (simp only [List.getElem?_toArray, List.getElem?_cons_zero, List.getElem?_cons_succ]; rfl) | rfl) (by kernel_rfl) (by kernel_rfl) (by kernel_rfl) (by exact fun _ _ _ h => h) (Or.inl ⟨by rfl, by (intro w hSw; (try dsimp only at hSw); go_simp; try with_reducible rfl)⟩) (by assumption) ?_
  (try dsimp only [Act.put]); (try go_frame)
  refine wpAnyH_take (i := 18) (v := _) (by first | (simp only [List.getElem?_toArray, List.getElem?_cons_zero, List.getElem?_cons_succ]; rfl) | rfl) (by kernel_rfl) (by kernel_rfl) (by kernel_rfl) (by exact fun _ _ _ h => h) (Or.inl ⟨by rfl, by (intro w hSw; (try dsimp only at hSw); go_simp; try with_reducible rfl)⟩) (by assumption) ?_
  (try dsimp only [Act.put]); (try go_frame)
  refine wpAnyH_take (i := 19) (v := _) (by first | (simp only [List.getElem?_toArray, List.getElem?_cons_zero, List.getElem?_cons_succ]; rfl) | rfl) (by kernel_rfl) (by kernel_rfl) (by kernel_rfl) (by exact fun _ _ _ h => h) (Or.inl ⟨by rfl, by (intro w hSw; (try dsimp only at hSw); go_simp; try with_reducible rfl)⟩) (by assumption) ?_
  (try dsimp only [Act.put]); (try go_frame)
  refine wpAnyH_take (i := 20) (v := _) (by first | (simp only [List.getElem?_toArray, List.getElem?_cons_zero, List.getElem?_cons_succ]; rfl) | rfl) (by kernel_rfl) (by kernel_rfl) (by kernel_rfl) (by exact fun _ _ _ h => h) (Or.inl ⟨by rfl, by (intro w hSw; (try dsimp only at hSw); go_simp; try with_reducible rfl)⟩) (by assumption) ?_
  (try dsimp only [Act.put]); (try go_frame)
  refine wpAnyH_take (i := 21) (v := _) (by first | (simp only [List.getElem?_toArray, List.getElem?_cons_zero, List.getElem?_cons_succ]; rfl) | rfl) (by kernel_rfl) (by kernel_rfl) (by kernel_rfl) (by exact fun _ _ _ h => h) (Or.inl ⟨by rfl, by (intro w hSw; (try dsimp only at hSw); go_simp; try with_reducible rfl)⟩) (by assumption) ?_
  (try dsimp only [Act.put]); (try go_frame)
  refine wpAnyH_take (i := 22) (v := _) (by first | (simp only [List.getElem?_toArray, List.getElem?_cons_zero, List.getElem?_cons_succ]; rfl) | rfl) (by kernel_rfl) (by kernel_rfl) (by kernel_rfl) (by exact fun _ _ _ h => h) (Or.inl ⟨by rfl, by (intro w hSw; (try dsimp only at hSw); go_simp; try with_reducible rfl)⟩) (by assumption) ?_
  (try dsimp only [Act.put]); (try go_frame)
  refine wpAnyH_take (i := 23) (v := _) (by first | (simp only [List.getElem?_toArray, List.getElem?_cons_zero, List.getElem?_cons_succ]; rfl) | rfl) (by kernel_rfl) (by kernel_rfl) (by kernel_rfl) (by exact fun _ _ _ h => h) (Or.inl ⟨by rfl, by (intro w hSw; (try dsimp only at hSw); go_simp; try with_reducible rfl)⟩) (by assumption) ?_
  (try dsimp only [Act.put]); (try go_frame)
  refine wpAnyH_take (i := 24) (v := _) (by first | (simp only [List.getElem?_toArray, List.getElem?_cons_zero, List.getElem?_cons_succ]; rfl) | rfl) (by kernel_rfl) (by kernel_rfl) (by kernel_rfl) (by exact fun _ _ _ h => h) (Or.inl ⟨by rfl, by (intro w hSw; (try dsimp only at hSw); go_simp; try with_reducible rfl)⟩) (by assumption) ?_
  (try dsimp only [Act.put]); (try go_frame)
  refine wpAnyH_take (i := 25) (v := _) (by first | (simp only [List.getElem?_toArray, List.getElem?_cons_zero, List.getElem?_cons_succ]; rfl) | rfl) (by kernel_rfl) (by kernel_rfl) (by kernel_rfl) (by exact fun _ _ _ h => h) (Or.inl ⟨by rfl, by (intro w hSw; (try dsimp only at hSw); go_simp; try with_reducible rfl)⟩) (by assumption) ?_
  (try dsimp only [Act.put]); (try go_frame)
  refine wpAnyH_take (i := 26) (v := _) (by first | (simp only [List.getElem?_toArray, List.getElem?_cons_zero, List.getElem?_cons_succ]; rfl) | rfl) (by kernel_rfl) (by kernel_rfl) (by kernel_rfl) (by exact fun _ _ _ h => h) (Or.inl ⟨by rfl, by (intro w hSw; (try dsimp only at hSw); go_simp; try with_reducible rfl)⟩) (by assumption) ?_
  (try dsimp only [Act.put]); (try go_frame)
  refine wpAnyH_take (i := 27) (v := _) (by first | (simp only [List.getElem?_toArray, List.getElem?_cons_zero, List.getElem?_cons_succ]; rfl) | rfl) (by kernel_rfl) (by kernel_rfl) (by kernel_rfl) (by exact fun _ _ _ h => h) (Or.inl ⟨by rfl, by (intro w hSw; (try dsimp only at hSw); go_simp; try with_reducible rfl)⟩) (by assumption) ?_
  (try dsimp only [Act.put]); (try go_frame)
  refine wpAnyH_done (by kernel_rfl) ?_ _
  try simp only [QCut]
  clear hHeld
  clear xF211_0 xF211_1 xF211_2 xF1511_0 xF1511_1 xF1511_2 xF1711_0 xF1711_1 xF1711_2
  obtain ⟨xF511_0, xF511_1, xF511_2⟩ := F5.ce3
  obtain ⟨xF1711_0, xF1711_1, xF1711_2⟩ := F17.ce3
  obtain ⟨xF711_0, xF711_1, xF711_2⟩ := F7.ce3
  obtain ⟨xF911_0, xF911_1, xF911_2⟩ := F9.ce3
  obtain ⟨xF1111_0, xF1111_1, xF1111_2⟩ := F11.ce3
  go_wp2_with fail
  (with_reducible refine (hl _).mono ?_)
  rintro r w11 ⟨rfl, hb11⟩
  clear xF511_0 xF511_1 xF511_2 xF1711_0 xF1711_1 xF1711_2 xF711_0 xF711_1 xF711_2 xF911_0 xF911_1 xF911_2 xF1111_0 xF1111_1 xF1111_2
  clear F2
  replace F5 := F5.keep hb11
  replace F7 := F7.keep hb11
  replace F9 := F9.keep hb11
  replace F11 := F11.keep hb11
  replace F15 := F15.keep hb11
  replace F17 := F17.keep hb11
  replace B0 := B0.trans (hb11.mono B0.size)
  clear hb11
  go_wp2
  go_ret
  exact ⟨rfl, B0⟩
set_option maxRecDepth 1000000 in
set_option maxHeartbeats 16000000 in
theorem sums_bad2 (xn : Bool) (xS xT : ByteArray) (yn : Bool) (yS yT : ByteArray) (mn : Bool) (mS mT : ByteArray) (w : World) (h0x : ∀ W, Calls Tryz.prog 6 #[.agg #[.bool xn, .string xS, .string xT]] W fun r w' => r = .returned (.bool true) ∧ Below W.heap.size W w')
    (h0y : ∀ W, Calls Tryz.prog 6 #[.agg #[.bool yn, .string yS, .string yT]] W fun r w' => r = .returned (.bool true) ∧ Below W.heap.size W w')
    (h1 : ∀ W, Calls Tryz.prog 8 #[.agg #[.bool xn, .string xS, .string xT], .agg #[.bool yn, .string yS, .string yT]] W fun r w' => r = .returned (.tuple #[.agg #[.bool false, .string { data := #[] }, .string { data := #[] }], .int .i64 2]) ∧ Below W.heap.size W w')
    (h2 : ∀ W, Calls Tryz.prog 9 #[.agg #[.bool xn, .string xS, .string xT], .agg #[.bool yn, .string yS, .string yT]] W fun r w' => r = .returned (.tuple #[.agg #[.bool false, .string { data := #[] }, .string { data := #[] }], .int .i64 2]) ∧ Below W.heap.size W w')
    (h3 : ∀ W, Calls Tryz.prog 10 #[.agg #[.bool xn, .string xS, .string xT], .agg #[.bool yn, .string yS, .string yT]] W fun r w' => r = .returned (.tuple #[.agg #[.bool false, .string { data := #[] }, .string { data := #[] }], .int .i64 2]) ∧ Below W.heap.size W w')
    (h4 : ∀ W, Calls Tryz.prog 11 #[.agg #[.bool xn, .string xS, .string xT], .agg #[.bool yn, .string yS, .string yT]] W fun r w' => r = .returned (.tuple #[.agg #[.bool false, .string { data := #[] }, .string { data := #[] }], .int .i64 2]) ∧ Below W.heap.size W w')
    (h5 : ∀ W, Calls Tryz.prog 12 #[.agg #[.bool xn, .string xS, .string xT], .agg #[.bool yn, .string yS, .string yT]] W fun r w' => r = .returned (.tuple #[.int .i64 0, .int .i64 2]) ∧ Below W.heap.size W w')
    (h6 : ∀ W, Calls Tryz.prog 13 #[.agg #[.bool xn, .string xS, .string xT]] W fun r w' => r = .returned (.tuple #[.agg #[.bool mn, .string mS, .string mT], .int .i64 0]) ∧ Below W.heap.size W w')
    (h7 : ∀ W, Calls Tryz.prog 14 #[.agg #[.bool xn, .string xS, .string xT]] W fun r w' => r = .returned (.bool true) ∧ Below W.heap.size W w')
    (h8 : ∀ W, Calls Tryz.prog 14 #[.agg #[.bool yn, .string yS, .string yT]] W fun r w' => r = .returned (.bool false) ∧ Below W.heap.size W w')
    (h14 : ∀ W, Calls Tryz.prog 15 #[.agg #[.bool xn, .string xS, .string xT]] W fun r w' => r = .returned (.agg #[.bool mn, .string mS, .string mT]) ∧ Below W.heap.size W w')
    (hl : ∀ W, Calls Tryz.prog 7 #[] W fun r w' => r = .returned (.bool true) ∧ Below W.heap.size W w') :
    Calls Tryz.prog 3 #[.agg #[.bool xn, .string xS, .string xT], .agg #[.bool yn, .string yS, .string yT]] w fun r w' => r = .returned (.bool true) ∧ Below w.heap.size w w' := by
  go_enter Tryz.func3, Tryz.ntmps3
  have B0 := Below.refl w.heap.size w
  have F2 := Blk.put (w) #[.bool xn, .string xS, .string xT] 24
  replace B0 := B0.alloc B0.size (.cells #[.bool xn, .string xS, .string xT] 24)
  replace F2 := F2.allocd (.cells #[.bool yn, .string yS, .string yT] 24)
  have F3 := Blk.put ((w).alloc (.cells #[.bool xn, .string xS, .string xT] 24)) #[.bool yn, .string yS, .string yT] 24
  rw [show ((w).alloc (.cells #[.bool xn, .string xS, .string xT] 24)).heap.size = w.heap.size + 1 by simp] at F3
  replace B0 := B0.alloc B0.size (.cells #[.bool yn, .string yS, .string yT] 24)
  obtain ⟨xF20_0, xF20_1, xF20_2⟩ := F2.ce3
  go_wp2_with fail
  (with_reducible refine (h0x _).mono ?_)
  rintro r w1 ⟨rfl, hb1⟩
  clear xF20_0 xF20_1 xF20_2
  replace F2 := F2.keep hb1
  replace F3 := F3.keep hb1
  replace B0 := B0.trans (hb1.mono B0.size)
  clear hb1
  obtain ⟨xF31_0, xF31_1, xF31_2⟩ := F3.ce3
  go_wp2_with fail
  (with_reducible refine (h0y _).mono ?_)
  rintro r w2 ⟨rfl, hb2⟩
  clear xF31_0 xF31_1 xF31_2
  replace F2 := F2.keep hb2
  replace F3 := F3.keep hb2
  replace B0 := B0.trans (hb2.mono B0.size)
  clear hb2
  obtain ⟨xF22_0, xF22_1, xF22_2⟩ := F2.ce3
  obtain ⟨xF32_0, xF32_1, xF32_2⟩ := F3.ce3
  go_wp2_with fail
  (with_reducible refine (h1 _).mono ?_)
  rintro r w3 ⟨rfl, hb3⟩
  clear xF22_0 xF22_1 xF22_2 xF32_0 xF32_1 xF32_2
  replace F2 := F2.keep hb3
  replace F3 := F3.keep hb3
  replace B0 := B0.trans (hb3.mono B0.size)
  clear hb3
  replace F2 := F2.allocd (.cells #[.bool false, .string { data := #[] }, .string { data := #[] }] 24)
  replace F3 := F3.allocd (.cells #[.bool false, .string { data := #[] }, .string { data := #[] }] 24)
  have F5 := Blk.put (w3) #[.bool false, .string { data := #[] }, .string { data := #[] }] 24
  replace B0 := B0.alloc B0.size (.cells #[.bool false, .string { data := #[] }, .string { data := #[] }] 24)
  obtain ⟨xF23_0, xF23_1, xF23_2⟩ := F2.ce3
  obtain ⟨xF33_0, xF33_1, xF33_2⟩ := F3.ce3
  go_wp2_with fail
  (with_reducible refine (h2 _).mono ?_)
  rintro r w4 ⟨rfl, hb4⟩
  clear xF23_0 xF23_1 xF23_2 xF33_0 xF33_1 xF33_2
  replace F2 := F2.keep hb4
  replace F3 := F3.keep hb4
  replace F5 := F5.keep hb4
  replace B0 := B0.trans (hb4.mono B0.size)
  clear hb4
  replace F2 := F2.allocd (.cells #[.bool false, .string { data := #[] }, .string { data := #[] }] 24)
  replace F3 := F3.allocd (.cells #[.bool false, .string { data := #[] }, .string { data := #[] }] 24)
  replace F5 := F5.allocd (.cells #[.bool false, .string { data := #[] }, .string { data := #[] }] 24)
  have F7 := Blk.put (w4) #[.bool false, .string { data := #[] }, .string { data := #[] }] 24
  replace B0 := B0.alloc B0.size (.cells #[.bool false, .string { data := #[] }, .string { data := #[] }] 24)
  obtain ⟨xF24_0, xF24_1, xF24_2⟩ := F2.ce3
  obtain ⟨xF34_0, xF34_1, xF34_2⟩ := F3.ce3
  go_wp2_with fail
  (with_reducible refine (h3 _).mono ?_)
  rintro r w5 ⟨rfl, hb5⟩
  clear xF24_0 xF24_1 xF24_2 xF34_0 xF34_1 xF34_2
  replace F2 := F2.keep hb5
  replace F3 := F3.keep hb5
  replace F5 := F5.keep hb5
  replace F7 := F7.keep hb5
  replace B0 := B0.trans (hb5.mono B0.size)
  clear hb5
  replace F2 := F2.allocd (.cells #[.bool false, .string { data := #[] }, .string { data := #[] }] 24)
  replace F3 := F3.allocd (.cells #[.bool false, .string { data := #[] }, .string { data := #[] }] 24)
  replace F5 := F5.allocd (.cells #[.bool false, .string { data := #[] }, .string { data := #[] }] 24)
  replace F7 := F7.allocd (.cells #[.bool false, .string { data := #[] }, .string { data := #[] }] 24)
  have F9 := Blk.put (w5) #[.bool false, .string { data := #[] }, .string { data := #[] }] 24
  replace B0 := B0.alloc B0.size (.cells #[.bool false, .string { data := #[] }, .string { data := #[] }] 24)
  obtain ⟨xF25_0, xF25_1, xF25_2⟩ := F2.ce3
  obtain ⟨xF35_0, xF35_1, xF35_2⟩ := F3.ce3
  go_wp2_with fail
  (with_reducible refine (h4 _).mono ?_)
  rintro r w6 ⟨rfl, hb6⟩
  clear xF25_0 xF25_1 xF25_2 xF35_0 xF35_1 xF35_2
  replace F2 := F2.keep hb6
  replace F3 := F3.keep hb6
  replace F5 := F5.keep hb6
  replace F7 := F7.keep hb6
  replace F9 := F9.keep hb6
  replace B0 := B0.trans (hb6.mono B0.size)
  clear hb6
  replace F2 := F2.allocd (.cells #[.bool false, .string { data := #[] }, .string { data := #[] }] 24)
  replace F3 := F3.allocd (.cells #[.bool false, .string { data := #[] }, .string { data := #[] }] 24)
  replace F5 := F5.allocd (.cells #[.bool false, .string { data := #[] }, .string { data := #[] }] 24)
  replace F7 := F7.allocd (.cells #[.bool false, .string { data := #[] }, .string { data := #[] }] 24)
  replace F9 := F9.allocd (.cells #[.bool false, .string { data := #[] }, .string { data := #[] }] 24)
  have F11 := Blk.put (w6) #[.bool false, .string { data := #[] }, .string { data := #[] }] 24
  replace B0 := B0.alloc B0.size (.cells #[.bool false, .string { data := #[] }, .string { data := #[] }] 24)
  obtain ⟨xF26_0, xF26_1, xF26_2⟩ := F2.ce3
  obtain ⟨xF36_0, xF36_1, xF36_2⟩ := F3.ce3
  go_wp2_with fail
  (with_reducible refine (h5 _).mono ?_)
  rintro r w7 ⟨rfl, hb7⟩
  clear xF26_0 xF26_1 xF26_2 xF36_0 xF36_1 xF36_2
  replace F2 := F2.keep hb7
  replace F3 := F3.keep hb7
  replace F5 := F5.keep hb7
  replace F7 := F7.keep hb7
  replace F9 := F9.keep hb7
  replace F11 := F11.keep hb7
  replace B0 := B0.trans (hb7.mono B0.size)
  clear hb7
  obtain ⟨xF27_0, xF27_1, xF27_2⟩ := F2.ce3
  go_wp2_with fail
  (with_reducible refine (h6 _).mono ?_)
  rintro r w8 ⟨rfl, hb8⟩
  clear xF27_0 xF27_1 xF27_2
  replace F2 := F2.keep hb8
  replace F3 := F3.keep hb8
  replace F5 := F5.keep hb8
  replace F7 := F7.keep hb8
  replace F9 := F9.keep hb8
  replace F11 := F11.keep hb8
  replace B0 := B0.trans (hb8.mono B0.size)
  clear hb8
  replace F2 := F2.allocd (.cells #[.bool mn, .string mS, .string mT] 24)
  replace F3 := F3.allocd (.cells #[.bool mn, .string mS, .string mT] 24)
  replace F5 := F5.allocd (.cells #[.bool mn, .string mS, .string mT] 24)
  replace F7 := F7.allocd (.cells #[.bool mn, .string mS, .string mT] 24)
  replace F9 := F9.allocd (.cells #[.bool mn, .string mS, .string mT] 24)
  replace F11 := F11.allocd (.cells #[.bool mn, .string mS, .string mT] 24)
  have F15 := Blk.put (w8) #[.bool mn, .string mS, .string mT] 24
  replace B0 := B0.alloc B0.size (.cells #[.bool mn, .string mS, .string mT] 24)
  replace F2 := F2.allocd (.cells #[.bool false, .string { data := #[] }, .string { data := #[] }] 24)
  replace F3 := F3.allocd (.cells #[.bool false, .string { data := #[] }, .string { data := #[] }] 24)
  replace F5 := F5.allocd (.cells #[.bool false, .string { data := #[] }, .string { data := #[] }] 24)
  replace F7 := F7.allocd (.cells #[.bool false, .string { data := #[] }, .string { data := #[] }] 24)
  replace F9 := F9.allocd (.cells #[.bool false, .string { data := #[] }, .string { data := #[] }] 24)
  replace F11 := F11.allocd (.cells #[.bool false, .string { data := #[] }, .string { data := #[] }] 24)
  replace F15 := F15.allocd (.cells #[.bool false, .string { data := #[] }, .string { data := #[] }] 24)
  have F17 := Blk.put ((w8).alloc (.cells #[.bool mn, .string mS, .string mT] 24)) #[.bool false, .string { data := #[] }, .string { data := #[] }] 24
  rw [show ((w8).alloc (.cells #[.bool mn, .string mS, .string mT] 24)).heap.size = w8.heap.size + 1 by simp] at F17
  replace B0 := B0.alloc B0.size (.cells #[.bool false, .string { data := #[] }, .string { data := #[] }] 24)
  obtain ⟨xF28_0, xF28_1, xF28_2⟩ := F2.ce3
  go_wp2_with fail
  (with_reducible refine (h7 _).mono ?_)
  rintro r w9 ⟨rfl, hb9⟩
  clear xF28_0 xF28_1 xF28_2
  replace F2 := F2.keep hb9
  replace F3 := F3.keep hb9
  replace F5 := F5.keep hb9
  replace F7 := F7.keep hb9
  replace F9 := F9.keep hb9
  replace F11 := F11.keep hb9
  replace F15 := F15.keep hb9
  replace F17 := F17.keep hb9
  replace B0 := B0.trans (hb9.mono B0.size)
  clear hb9
  obtain ⟨xF39_0, xF39_1, xF39_2⟩ := F3.ce3
  go_wp2_with fail
  (with_reducible refine (h8 _).mono ?_)
  rintro r w10 ⟨rfl, hb10⟩
  clear xF39_0 xF39_1 xF39_2
  replace F2 := F2.keep hb10
  replace F3 := F3.keep hb10
  replace F5 := F5.keep hb10
  replace F7 := F7.keep hb10
  replace F9 := F9.keep hb10
  replace F11 := F11.keep hb10
  replace F15 := F15.keep hb10
  replace F17 := F17.keep hb10
  replace B0 := B0.trans (hb10.mono B0.size)
  clear hb10
  go_wp2_with fail
  refine wp_region_any (by kernel_rfl) ?_
  obtain ⟨xF210_0, xF210_1, xF210_2⟩ := F2.ce3
  obtain ⟨xF1510_0, xF1510_1, xF1510_2⟩ := F15.ce3
  have hHeld : (fun w' : World => w'.cell? ⟨w.heap.size, 0, none⟩ = some (.bool xn) ∧ w'.cell? ⟨w.heap.size, 1, none⟩ = some (.string xS) ∧ w'.cell? ⟨w.heap.size, 2, none⟩ = some (.string xT) ∧ w'.cell? ⟨w8.heap.size, 0, none⟩ = some (.bool mn) ∧ w'.cell? ⟨w8.heap.size, 1, none⟩ = some (.string mS) ∧ w'.cell? ⟨w8.heap.size, 2, none⟩ = some (.string mT)) (w10).drew := ⟨xF210_0, xF210_1, xF210_2, xF1510_0, xF1510_1, xF1510_2⟩
  refine wpAny_of_held (S := fun w' : World => w'.cell? ⟨w.heap.size, 0, none⟩ = some (.bool xn) ∧ w'.cell? ⟨w.heap.size, 1, none⟩ = some (.string xS) ∧ w'.cell? ⟨w.heap.size, 2, none⟩ = some (.string xT) ∧ w'.cell? ⟨w8.heap.size, 0, none⟩ = some (.bool mn) ∧ w'.cell? ⟨w8.heap.size, 1, none⟩ = some (.string mS) ∧ w'.cell? ⟨w8.heap.size, 2, none⟩ = some (.string mT)) _ _ _ _ ?_
  replace F2 := F2.drew
  clear F3
  replace F5 := F5.drew
  replace F7 := F7.drew
  replace F9 := F9.drew
  replace F11 := F11.drew
  replace F15 := F15.drew
  replace F17 := F17.drew
  replace B0 := B0.drew
  refine wpAnyH_take (i := 0) (v := _) (by first | (simp only [List.getElem?_toArray, List.getElem?_cons_zero]; rfl) | rfl) (by kernel_rfl) (by kernel_rfl) (by kernel_rfl) (by exact fun _ _ _ h => h) (Or.inl ⟨by rfl, by (intro w hSw; (try dsimp only at hSw); go_simp; try with_reducible rfl)⟩) (by assumption) ?_
  (try dsimp only [Act.put]); (try go_frame)
  refine wpAnyH_take (i := 2) (v := _) (by first | (simp only [List.getElem?_toArray, List.getElem?_cons_zero, List.getElem?_cons_succ]; rfl) | rfl) (by kernel_rfl) (by kernel_rfl) (by kernel_rfl) (by exact fun _ _ _ h => h) (Or.inl ⟨by rfl, by (intro w hSw; (try dsimp only at hSw); go_simp; try with_reducible rfl)⟩) (by assumption) ?_
  (try dsimp only [Act.put]); (try go_frame)
  refine wpAnyH_take (i := 3) (v := _) (by first | (simp only [List.getElem?_toArray, List.getElem?_cons_zero, List.getElem?_cons_succ]; rfl) | rfl) (by kernel_rfl) (by kernel_rfl) (by kernel_rfl) (by exact fun _ _ _ h => h) (Or.inl ⟨by rfl, by (intro w hSw; (try dsimp only at hSw); go_simp; try with_reducible rfl)⟩) (by assumption) ?_
  (try dsimp only [Act.put]); (try go_frame)
  refine wpAnyH_ready (rs := [1]) (by kernel_rfl) (by simp) ?_
  refine AllReadyH.cons rfl (fun K hK => ?_) AllReadyH.nil
  go_simp
  (with_reducible refine (h7 _).mono ?_)
  rintro r w11 ⟨rfl, hb11⟩
  clear xF210_0 xF210_1 xF210_2 xF1510_0 xF1510_1 xF1510_2
  replace F2 := F2.keep hb11
  replace F5 := F5.keep hb11
  replace F7 := F7.keep hb11
  replace F9 := F9.keep hb11
  replace F11 := F11.keep hb11
  replace F15 := F15.keep hb11
  replace F17 := F17.keep hb11
  replace B0 := B0.trans (hb11.mono B0.size)
  clear hb11
  obtain ⟨xF212_0, xF212_1, xF212_2⟩ := F2.ce3
  obtain ⟨xF1512_0, xF1512_1, xF1512_2⟩ := F15.ce3
  refine hK.out _ _ ?_ (fun hHeld => ?_)
  · exact ⟨xF212_0, xF212_1, xF212_2, xF1512_0, xF1512_1, xF1512_2⟩
  clear hK K
  (try dsimp only [Act.put]); (try go_frame)
  refine wpAnyH_take (i := 4) (v := _) (by first | (simp only [List.getElem?_toArray, List.getElem?_cons_zero, List.getElem?_cons_succ]; rfl) | rfl) (by kernel_rfl) (by kernel_rfl) (by kernel_rfl) (by exact fun _ _ _ h => h) (Or.inl ⟨by rfl, by (intro w hSw; (try dsimp only at hSw); go_simp; try with_reducible rfl)⟩) (by assumption) ?_
  (try dsimp only [Act.put]); (try go_frame)
  refine wpAnyH_take (i := 5) (v := _) (by first | (simp only [List.getElem?_toArray, List.getElem?_cons_zero, List.getElem?_cons_succ]; rfl) | rfl) (by kernel_rfl) (by kernel_rfl) (by kernel_rfl) (by exact fun _ _ _ h => h) (Or.inl ⟨by rfl, by (intro w hSw; (try dsimp only at hSw); go_simp; try with_reducible rfl)⟩) (by assumption) ?_
  (try dsimp only [Act.put]); (try go_frame)
  refine wpAnyH_take (i := 6) (v := _) (by first | (simp only [List.getElem?_toArray, List.getElem?_cons_zero, List.getElem?_cons_succ]; rfl) | rfl) (by kernel_rfl) (by kernel_rfl) (by kernel_rfl) (by exact fun _ _ _ h => h) (Or.inl ⟨by rfl, by (intro w hSw; (try dsimp only at hSw); go_simp; try with_reducible rfl)⟩) (by assumption) ?_
  (try dsimp only [Act.put]); (try go_frame)
  refine wpAnyH_take (i := 7) (v := _) (by first | (simp only [List.getElem?_toArray, List.getElem?_cons_zero, List.getElem?_cons_succ]; rfl) | rfl) (by kernel_rfl) (by kernel_rfl) (by kernel_rfl) (by exact fun _ _ _ h => h) (Or.inl ⟨by rfl, by (intro w hSw; (try dsimp only at hSw); go_simp; try with_reducible rfl)⟩) (by assumption) ?_
  (try dsimp only [Act.put]); (try go_frame)
  refine wpAnyH_take (i := 8) (v := _) (by first | (simp only [List.getElem?_toArray, List.getElem?_cons_zero, List.getElem?_cons_succ]; rfl) | rfl) (by kernel_rfl) (by kernel_rfl) (by kernel_rfl) (by exact fun _ _ _ h => h) (Or.inl ⟨by rfl, by (intro w hSw; (try dsimp only at hSw); go_simp; try with_reducible rfl)⟩) (by assumption) ?_
  (try dsimp only [Act.put]); (try go_frame)
  refine wpAnyH_take (i := 9) (v := _) (by first | (simp only [List.getElem?_toArray, List.getElem?_cons_zero, List.getElem?_cons_succ]; rfl) | rfl) (by kernel_rfl) (by kernel_rfl) (by kernel_rfl) (by exact fun _ _ _ h => h) (Or.inl ⟨by rfl, by (intro w hSw; (try dsimp only at hSw); go_simp; try with_reducible rfl)⟩) (by assumption) ?_
  (try dsimp only [Act.put]); (try go_frame)
  refine wpAnyH_take (i := 10) (v := _) (by first | (simp only [List.getElem?_toArray, List.getElem?_cons_zero, List.getElem?_cons_succ]; rfl) | rfl) (by kernel_rfl) (by kernel_rfl) (by kernel_rfl) (by exact fun _ _ _ h => h) (Or.inl ⟨by rfl, by (intro w hSw; (try dsimp only at hSw); go_simp; try with_reducible rfl)⟩) (by assumption) ?_
  (try dsimp only [Act.put]); (try go_frame)
  refine wpAnyH_ready (rs := [11]) (by kernel_rfl) (by simp) ?_
  refine AllReadyH.cons rfl (fun K hK => ?_) AllReadyH.nil
  go_simp
  (with_reducible refine (h14 _).mono ?_)
  rintro r w12 ⟨rfl, hb12⟩
  clear xF212_0 xF212_1 xF212_2 xF1512_0 xF1512_1 xF1512_2
  replace F2 := F2.keep hb12
  replace F5 := F5.keep hb12
  replace F7 := F7.keep hb12
  replace F9 := F9.keep hb12
  replace F11 := F11.keep hb12
  replace F15 := F15.keep hb12
  replace F17 := F17.keep hb12
  replace B0 := B0.trans (hb12.mono B0.size)
  clear hb12
  obtain ⟨xF213_0, xF213_1, xF213_2⟩ := F2.ce3
  obtain ⟨xF1513_0, xF1513_1, xF1513_2⟩ := F15.ce3
  refine hK.out _ _ ?_ (fun hHeld => ?_)
  · exact ⟨xF213_0, xF213_1, xF213_2, xF1513_0, xF1513_1, xF1513_2⟩
  clear hK K
  (try dsimp only [Act.put]); (try go_frame)
  refine wpAnyH_take (i := 12) (v := _) (by first | (simp only [List.getElem?_toArray, List.getElem?_cons_zero, List.getElem?_cons_succ]; rfl) | rfl) (by kernel_rfl) (by kernel_rfl) (by kernel_rfl) (by exact fun _ _ _ h => h) (Or.inl ⟨by rfl, by (intro w hSw; (try dsimp only at hSw); go_simp; try with_reducible rfl)⟩) (by assumption) ?_
  (try dsimp only [Act.put]); (try go_frame)
  refine wpAnyH_take (i := 13) (v := _) (by first | (simp only [List.getElem?_toArray, List.getElem?_cons_zero, List.getElem?_cons_succ]; rfl) | rfl) (by kernel_rfl) (by kernel_rfl) (by kernel_rfl) (by exact fun _ _ _ h => h) (Or.inl ⟨by rfl, by (intro w hSw; (try dsimp only at hSw); go_simp; try with_reducible rfl)⟩) (by assumption) ?_
  (try dsimp only [Act.put]); (try go_frame)
  refine wpAnyH_take (i := 14) (v := _) (by first | (simp only [List.getElem?_toArray, List.getElem?_cons_zero, List.getElem?_cons_succ]; rfl) | rfl) (by kernel_rfl) (by kernel_rfl) (by kernel_rfl) (by exact fun _ _ _ h => h) (Or.inl ⟨by rfl, by (intro w hSw; (try dsimp only at hSw); go_simp; try with_reducible rfl)⟩) (by assumption) ?_
  (try dsimp only [Act.put]); (try go_frame)
  refine wpAnyH_take (i := 15) (v := _) (by first | (simp only [List.getElem?_toArray, List.getElem?_cons_zero, List.getElem?_cons_succ]; rfl) | rfl) (by kernel_rfl) (by kernel_rfl) (by kernel_rfl) (by exact fun _ _ _ h => h) (Or.inl ⟨by rfl, by (intro w hSw; (try dsimp only at hSw); go_simp; try with_reducible rfl)⟩) (by assumption) ?_
  (try dsimp only [Act.put]); (try go_frame)
  refine wpAnyH_take (i := 16) (v := _) (by first | (simp only [List.getElem?_toArray, List.getElem?_cons_zero, List.getElem?_cons_succ]; rfl) | rfl) (by kernel_rfl) (by kernel_rfl) (by kernel_rfl) (by exact fun _ _ _ h => h) (Or.inl ⟨by rfl, by (intro w hSw; (try dsimp only at hSw); go_simp; try with_reducible rfl)⟩) (by assumption) ?_
  (try dsimp only [Act.put]); (try go_frame)
  refine wpAnyH_take (i := 17) (v := _) (by first | (simp only [List.getElem?_toArray, List.getElem?_cons_zero, List.getElem?_cons_succ]; rfl) | rfl) (by kernel_rfl) (by kernel_rfl) (by kernel_rfl) (by exact fun _ _ _ h => h) (Or.inl ⟨by rfl, by (intro w hSw; (try dsimp only at hSw); go_simp; try with_reducible rfl)⟩) (by assumption) ?_
  (try dsimp only [Act.put]); (try go_frame)
  refine wpAnyH_take (i := 18) (v := _) (by first | (simp only [List.getElem?_toArray, List.getElem?_cons_zero, List.getElem?_cons_succ]; rfl) | rfl) (by kernel_rfl) (by kernel_rfl) (by kernel_rfl) (by exact fun _ _ _ h => h) (Or.inl ⟨by rfl, by (intro w hSw; (try dsimp only at hSw); go_simp; try with_reducible rfl)⟩) (by assumption) ?_
  (try dsimp only [Act.put]); (try go_frame)
  refine wpAnyH_take (i := 19) (v := undef) (by first | (simp only [List.getElem?_toArray, List.getElem?_cons_zero, List.getElem?_cons_succ]; rfl) | rfl) (by kernel_rfl) (by kernel_rfl) (by kernel_rfl) (by exact fun _ _ _ h => h) (Or.inr ⟨by rfl, by rfl⟩) (by assumption) ?_
  (try dsimp only [Act.put]); (try go_frame)
  refine wpAnyH_take (i := 20) (v := undef) (by first | (simp only [List.getElem?_toArray, List.getElem?_cons_zero, List.getElem?_cons_succ]; rfl) | rfl) (by kernel_rfl) (by kernel_rfl) (by kernel_rfl) (by exact fun _ _ _ h => h) (Or.inr ⟨by rfl, by rfl⟩) (by assumption) ?_
  (try dsimp only [Act.put]); (try go_frame)
  refine wpAnyH_take (i := 21) (v := undef) (by first | (simp only [List.getElem?_toArray, List.getElem?_cons_zero, List.getElem?_cons_succ]; rfl) | rfl) (by kernel_rfl) (by kernel_rfl) (by kernel_rfl) (by exact fun _ _ _ h => h) (Or.inr ⟨by rfl, by rfl⟩) (by assumption) ?_
  (try dsimp only [Act.put]); (try go_frame)
  refine wpAnyH_take (i := 22) (v := undef) (by first | (simp only [List.getElem?_toArray, List.getElem?_cons_zero, List.getElem?_cons_succ]; rfl) | rfl) (by kernel_rfl) (by kernel_rfl) (by kernel_rfl) (by exact fun _ _ _ h => h) (Or.inr ⟨by rfl, by rfl⟩) (by assumption) ?_
  (try dsimp only [Act.put]); (try go_frame)
  refine wpAnyH_take (i := 23) (v := undef) (by first | (simp only [List.getElem?_toArray, List.getElem?_cons_zero, List.getElem?_cons_succ]; rfl) | rfl) (by kernel_rfl) (by kernel_rfl) (by kernel_rfl) (by exact fun _ _ _ h => h) (Or.inr ⟨by rfl, by rfl⟩) (by assumption) ?_
  (try dsimp only [Act.put]); (try go_frame)
  refine wpAnyH_take (i := 24) (v := undef) (by first | (simp only [List.getElem?_toArray, List.getElem?_cons_zero, List.getElem?_cons_succ]; rfl) | rfl) (by kernel_rfl) (by kernel_rfl) (by kernel_rfl) (by exact fun _ _ _ h => h) (Or.inr ⟨by rfl, by rfl⟩) (by assumption) ?_
  (try dsimp only [Act.put]); (try go_frame)
  refine wpAnyH_take (i := 25) (v := undef) (by first | (simp only [List.getElem?_toArray, List.getElem?_cons_zero, List.getElem?_cons_succ]; rfl) | rfl) (by kernel_rfl) (by kernel_rfl) (by kernel_rfl) (by exact fun _ _ _ h => h) (Or.inr ⟨by rfl, by rfl⟩) (by assumption) ?_
  (try dsimp only [Act.put]); (try go_frame)
  refine wpAnyH_take (i := 26) (v := _) (by first | (simp only [List.getElem?_toArray, List.getElem?_cons_zero, List.getElem?_cons_succ]; rfl) | rfl) (by kernel_rfl) (by kernel_rfl) (by kernel_rfl) (by exact fun _ _ _ h => h) (Or.inl ⟨by rfl, by (intro w hSw; (try dsimp only at hSw); go_simp; try with_reducible rfl)⟩) (by assumption) ?_
  (try dsimp only [Act.put]); (try go_frame)
  refine wpAnyH_take (i := 27) (v := _) (by first | (simp only [List.getElem?_toArray, List.getElem?_cons_zero, List.getElem?_cons_succ]; rfl) | rfl) (by kernel_rfl) (by kernel_rfl) (by kernel_rfl) (by exact fun _ _ _ h => h) (Or.inl ⟨by rfl, by (intro w hSw; (try dsimp only at hSw); go_simp; try with_reducible rfl)⟩) (by assumption) ?_
  (try dsimp only [Act.put]); (try go_frame)
  refine wpAnyH_done (by kernel_rfl) ?_ _
  try simp only [QCut]
  clear hHeld
  clear xF213_0 xF213_1 xF213_2 xF1513_0 xF1513_1 xF1513_2
  obtain ⟨xF513_0, xF513_1, xF513_2⟩ := F5.ce3
  obtain ⟨xF1713_0, xF1713_1, xF1713_2⟩ := F17.ce3
  obtain ⟨xF713_0, xF713_1, xF713_2⟩ := F7.ce3
  obtain ⟨xF913_0, xF913_1, xF913_2⟩ := F9.ce3
  obtain ⟨xF1113_0, xF1113_1, xF1113_2⟩ := F11.ce3
  go_wp2_with fail
  (with_reducible refine (hl _).mono ?_)
  rintro r w13 ⟨rfl, hb13⟩
  clear xF513_0 xF513_1 xF513_2 xF1713_0 xF1713_1 xF1713_2 xF713_0 xF713_1 xF713_2 xF913_0 xF913_1 xF913_2 xF1113_0 xF1113_1 xF1113_2
  clear F2
  replace F5 := F5.keep hb13
  replace F7 := F7.keep hb13
  replace F9 := F9.keep hb13
  replace F11 := F11.keep hb13
  clear F15
  replace F17 := F17.keep hb13
  replace B0 := B0.trans (hb13.mono B0.size)
  clear hb13
  go_wp2
  go_ret
  exact ⟨rfl, B0⟩
set_option maxRecDepth 1000000 in
set_option maxHeartbeats 16000000 in
theorem sums_0 (xn : Bool) (xS xT : ByteArray) (yn : Bool) (yS yT : ByteArray) (sn : Bool) (sS sT : ByteArray) (dn : Bool) (dS dT : ByteArray) (pn : Bool) (pS pT : ByteArray) (mn : Bool) (mS mT : ByteArray) (on : Bool) (oS oT : ByteArray) (cc : Int) (w : World) (h0x : ∀ W, Calls Tryz.prog 6 #[.agg #[.bool xn, .string xS, .string xT]] W fun r w' => r = .returned (.bool true) ∧ Below W.heap.size W w')
    (h0y : ∀ W, Calls Tryz.prog 6 #[.agg #[.bool yn, .string yS, .string yT]] W fun r w' => r = .returned (.bool true) ∧ Below W.heap.size W w')
    (h1 : ∀ W, Calls Tryz.prog 8 #[.agg #[.bool xn, .string xS, .string xT], .agg #[.bool yn, .string yS, .string yT]] W fun r w' => r = .returned (.tuple #[.agg #[.bool sn, .string sS, .string sT], .int .i64 0]) ∧ Below W.heap.size W w')
    (h2 : ∀ W, Calls Tryz.prog 9 #[.agg #[.bool xn, .string xS, .string xT], .agg #[.bool yn, .string yS, .string yT]] W fun r w' => r = .returned (.tuple #[.agg #[.bool dn, .string dS, .string dT], .int .i64 0]) ∧ Below W.heap.size W w')
    (h3 : ∀ W, Calls Tryz.prog 10 #[.agg #[.bool xn, .string xS, .string xT], .agg #[.bool yn, .string yS, .string yT]] W fun r w' => r = .returned (.tuple #[.agg #[.bool pn, .string pS, .string pT], .int .i64 0]) ∧ Below W.heap.size W w')
    (h4 : ∀ W, Calls Tryz.prog 11 #[.agg #[.bool xn, .string xS, .string xT], .agg #[.bool yn, .string yS, .string yT]] W fun r w' => r = .returned (.tuple #[.agg #[.bool false, .string { data := #[] }, .string { data := #[] }], .int .i64 2]) ∧ Below W.heap.size W w')
    (h5 : ∀ W, Calls Tryz.prog 12 #[.agg #[.bool xn, .string xS, .string xT], .agg #[.bool yn, .string yS, .string yT]] W fun r w' => r = .returned (.tuple #[.int .i64 cc, .int .i64 0]) ∧ Below W.heap.size W w')
    (h6 : ∀ W, Calls Tryz.prog 13 #[.agg #[.bool xn, .string xS, .string xT]] W fun r w' => r = .returned (.tuple #[.agg #[.bool mn, .string mS, .string mT], .int .i64 0]) ∧ Below W.heap.size W w')
    (h7 : ∀ W, Calls Tryz.prog 14 #[.agg #[.bool xn, .string xS, .string xT]] W fun r w' => r = .returned (.bool true) ∧ Below W.heap.size W w')
    (h8 : ∀ W, Calls Tryz.prog 14 #[.agg #[.bool yn, .string yS, .string yT]] W fun r w' => r = .returned (.bool true) ∧ Below W.heap.size W w')
    (h9 : ∀ W, Calls Tryz.prog 16 #[.agg #[.bool xn, .string xS, .string xT], .agg #[.bool yn, .string yS, .string yT]] W fun r w' => r = .returned (.agg #[.bool sn, .string sS, .string sT]) ∧ Below W.heap.size W w')
    (h10 : ∀ W, Calls Tryz.prog 15 #[.agg #[.bool yn, .string yS, .string yT]] W fun r w' => r = .returned (.agg #[.bool on, .string oS, .string oT]) ∧ Below W.heap.size W w')
    (h11 : ∀ W, Calls Tryz.prog 16 #[.agg #[.bool xn, .string xS, .string xT], .agg #[.bool on, .string oS, .string oT]] W fun r w' => r = .returned (.agg #[.bool dn, .string dS, .string dT]) ∧ Below W.heap.size W w')
    (h12 : ∀ W, Calls Tryz.prog 17 #[.agg #[.bool xn, .string xS, .string xT], .agg #[.bool yn, .string yS, .string yT]] W fun r w' => r = .returned (.agg #[.bool pn, .string pS, .string pT]) ∧ Below W.heap.size W w')
    (h13 : ∀ W, Calls Tryz.prog 18 #[.agg #[.bool xn, .string xS, .string xT], .agg #[.bool yn, .string yS, .string yT]] W fun r w' => r = .returned (.int .i64 cc) ∧ Below W.heap.size W w')
    (h14 : ∀ W, Calls Tryz.prog 15 #[.agg #[.bool xn, .string xS, .string xT]] W fun r w' => r = .returned (.agg #[.bool mn, .string mS, .string mT]) ∧ Below W.heap.size W w')
    (hy : yS.toList = [])
    (hl : ∀ W, Calls Tryz.prog 7 #[] W fun r w' => r = .returned (.bool true) ∧ Below W.heap.size W w') :
    Calls Tryz.prog 3 #[.agg #[.bool xn, .string xS, .string xT], .agg #[.bool yn, .string yS, .string yT]] w fun r w' => r = .returned (.bool true) ∧ Below w.heap.size w w' := by
  go_enter Tryz.func3, Tryz.ntmps3
  have B0 := Below.refl w.heap.size w
  have F2 := Blk.put (w) #[.bool xn, .string xS, .string xT] 24
  replace B0 := B0.alloc B0.size (.cells #[.bool xn, .string xS, .string xT] 24)
  replace F2 := F2.allocd (.cells #[.bool yn, .string yS, .string yT] 24)
  have F3 := Blk.put ((w).alloc (.cells #[.bool xn, .string xS, .string xT] 24)) #[.bool yn, .string yS, .string yT] 24
  rw [show ((w).alloc (.cells #[.bool xn, .string xS, .string xT] 24)).heap.size = w.heap.size + 1 by simp] at F3
  replace B0 := B0.alloc B0.size (.cells #[.bool yn, .string yS, .string yT] 24)
  obtain ⟨xF20_0, xF20_1, xF20_2⟩ := F2.ce3
  go_wp2_with fail
  (with_reducible refine (h0x _).mono ?_)
  rintro r w1 ⟨rfl, hb1⟩
  clear xF20_0 xF20_1 xF20_2
  replace F2 := F2.keep hb1
  replace F3 := F3.keep hb1
  replace B0 := B0.trans (hb1.mono B0.size)
  clear hb1
  obtain ⟨xF31_0, xF31_1, xF31_2⟩ := F3.ce3
  go_wp2_with fail
  (with_reducible refine (h0y _).mono ?_)
  rintro r w2 ⟨rfl, hb2⟩
  clear xF31_0 xF31_1 xF31_2
  replace F2 := F2.keep hb2
  replace F3 := F3.keep hb2
  replace B0 := B0.trans (hb2.mono B0.size)
  clear hb2
  obtain ⟨xF22_0, xF22_1, xF22_2⟩ := F2.ce3
  obtain ⟨xF32_0, xF32_1, xF32_2⟩ := F3.ce3
  go_wp2_with fail
  (with_reducible refine (h1 _).mono ?_)
  rintro r w3 ⟨rfl, hb3⟩
  clear xF22_0 xF22_1 xF22_2 xF32_0 xF32_1 xF32_2
  replace F2 := F2.keep hb3
  replace F3 := F3.keep hb3
  replace B0 := B0.trans (hb3.mono B0.size)
  clear hb3
  replace F2 := F2.allocd (.cells #[.bool sn, .string sS, .string sT] 24)
  replace F3 := F3.allocd (.cells #[.bool sn, .string sS, .string sT] 24)
  have F5 := Blk.put (w3) #[.bool sn, .string sS, .string sT] 24
  replace B0 := B0.alloc B0.size (.cells #[.bool sn, .string sS, .string sT] 24)
  obtain ⟨xF23_0, xF23_1, xF23_2⟩ := F2.ce3
  obtain ⟨xF33_0, xF33_1, xF33_2⟩ := F3.ce3
  go_wp2_with fail
  (with_reducible refine (h2 _).mono ?_)
  rintro r w4 ⟨rfl, hb4⟩
  clear xF23_0 xF23_1 xF23_2 xF33_0 xF33_1 xF33_2
  replace F2 := F2.keep hb4
  replace F3 := F3.keep hb4
  replace F5 := F5.keep hb4
  replace B0 := B0.trans (hb4.mono B0.size)
  clear hb4
  replace F2 := F2.allocd (.cells #[.bool dn, .string dS, .string dT] 24)
  replace F3 := F3.allocd (.cells #[.bool dn, .string dS, .string dT] 24)
  replace F5 := F5.allocd (.cells #[.bool dn, .string dS, .string dT] 24)
  have F7 := Blk.put (w4) #[.bool dn, .string dS, .string dT] 24
  replace B0 := B0.alloc B0.size (.cells #[.bool dn, .string dS, .string dT] 24)
  obtain ⟨xF24_0, xF24_1, xF24_2⟩ := F2.ce3
  obtain ⟨xF34_0, xF34_1, xF34_2⟩ := F3.ce3
  go_wp2_with fail
  (with_reducible refine (h3 _).mono ?_)
  rintro r w5 ⟨rfl, hb5⟩
  clear xF24_0 xF24_1 xF24_2 xF34_0 xF34_1 xF34_2
  replace F2 := F2.keep hb5
  replace F3 := F3.keep hb5
  replace F5 := F5.keep hb5
  replace F7 := F7.keep hb5
  replace B0 := B0.trans (hb5.mono B0.size)
  clear hb5
  replace F2 := F2.allocd (.cells #[.bool pn, .string pS, .string pT] 24)
  replace F3 := F3.allocd (.cells #[.bool pn, .string pS, .string pT] 24)
  replace F5 := F5.allocd (.cells #[.bool pn, .string pS, .string pT] 24)
  replace F7 := F7.allocd (.cells #[.bool pn, .string pS, .string pT] 24)
  have F9 := Blk.put (w5) #[.bool pn, .string pS, .string pT] 24
  replace B0 := B0.alloc B0.size (.cells #[.bool pn, .string pS, .string pT] 24)
  obtain ⟨xF25_0, xF25_1, xF25_2⟩ := F2.ce3
  obtain ⟨xF35_0, xF35_1, xF35_2⟩ := F3.ce3
  go_wp2_with fail
  (with_reducible refine (h4 _).mono ?_)
  rintro r w6 ⟨rfl, hb6⟩
  clear xF25_0 xF25_1 xF25_2 xF35_0 xF35_1 xF35_2
  replace F2 := F2.keep hb6
  replace F3 := F3.keep hb6
  replace F5 := F5.keep hb6
  replace F7 := F7.keep hb6
  replace F9 := F9.keep hb6
  replace B0 := B0.trans (hb6.mono B0.size)
  clear hb6
  replace F2 := F2.allocd (.cells #[.bool false, .string { data := #[] }, .string { data := #[] }] 24)
  replace F3 := F3.allocd (.cells #[.bool false, .string { data := #[] }, .string { data := #[] }] 24)
  replace F5 := F5.allocd (.cells #[.bool false, .string { data := #[] }, .string { data := #[] }] 24)
  replace F7 := F7.allocd (.cells #[.bool false, .string { data := #[] }, .string { data := #[] }] 24)
  replace F9 := F9.allocd (.cells #[.bool false, .string { data := #[] }, .string { data := #[] }] 24)
  have F11 := Blk.put (w6) #[.bool false, .string { data := #[] }, .string { data := #[] }] 24
  replace B0 := B0.alloc B0.size (.cells #[.bool false, .string { data := #[] }, .string { data := #[] }] 24)
  obtain ⟨xF26_0, xF26_1, xF26_2⟩ := F2.ce3
  obtain ⟨xF36_0, xF36_1, xF36_2⟩ := F3.ce3
  go_wp2_with fail
  (with_reducible refine (h5 _).mono ?_)
  rintro r w7 ⟨rfl, hb7⟩
  clear xF26_0 xF26_1 xF26_2 xF36_0 xF36_1 xF36_2
  replace F2 := F2.keep hb7
  replace F3 := F3.keep hb7
  replace F5 := F5.keep hb7
  replace F7 := F7.keep hb7
  replace F9 := F9.keep hb7
  replace F11 := F11.keep hb7
  replace B0 := B0.trans (hb7.mono B0.size)
  clear hb7
  obtain ⟨xF27_0, xF27_1, xF27_2⟩ := F2.ce3
  go_wp2_with fail
  (with_reducible refine (h6 _).mono ?_)
  rintro r w8 ⟨rfl, hb8⟩
  clear xF27_0 xF27_1 xF27_2
  replace F2 := F2.keep hb8
  replace F3 := F3.keep hb8
  replace F5 := F5.keep hb8
  replace F7 := F7.keep hb8
  replace F9 := F9.keep hb8
  replace F11 := F11.keep hb8
  replace B0 := B0.trans (hb8.mono B0.size)
  clear hb8
  replace F2 := F2.allocd (.cells #[.bool mn, .string mS, .string mT] 24)
  replace F3 := F3.allocd (.cells #[.bool mn, .string mS, .string mT] 24)
  replace F5 := F5.allocd (.cells #[.bool mn, .string mS, .string mT] 24)
  replace F7 := F7.allocd (.cells #[.bool mn, .string mS, .string mT] 24)
  replace F9 := F9.allocd (.cells #[.bool mn, .string mS, .string mT] 24)
  replace F11 := F11.allocd (.cells #[.bool mn, .string mS, .string mT] 24)
  have F15 := Blk.put (w8) #[.bool mn, .string mS, .string mT] 24
  replace B0 := B0.alloc B0.size (.cells #[.bool mn, .string mS, .string mT] 24)
  replace F2 := F2.allocd (.cells #[.bool false, .string { data := #[] }, .string { data := #[] }] 24)
  replace F3 := F3.allocd (.cells #[.bool false, .string { data := #[] }, .string { data := #[] }] 24)
  replace F5 := F5.allocd (.cells #[.bool false, .string { data := #[] }, .string { data := #[] }] 24)
  replace F7 := F7.allocd (.cells #[.bool false, .string { data := #[] }, .string { data := #[] }] 24)
  replace F9 := F9.allocd (.cells #[.bool false, .string { data := #[] }, .string { data := #[] }] 24)
  replace F11 := F11.allocd (.cells #[.bool false, .string { data := #[] }, .string { data := #[] }] 24)
  replace F15 := F15.allocd (.cells #[.bool false, .string { data := #[] }, .string { data := #[] }] 24)
  have F17 := Blk.put ((w8).alloc (.cells #[.bool mn, .string mS, .string mT] 24)) #[.bool false, .string { data := #[] }, .string { data := #[] }] 24
  rw [show ((w8).alloc (.cells #[.bool mn, .string mS, .string mT] 24)).heap.size = w8.heap.size + 1 by simp] at F17
  replace B0 := B0.alloc B0.size (.cells #[.bool false, .string { data := #[] }, .string { data := #[] }] 24)
  obtain ⟨xF28_0, xF28_1, xF28_2⟩ := F2.ce3
  go_wp2_with fail
  (with_reducible refine (h7 _).mono ?_)
  rintro r w9 ⟨rfl, hb9⟩
  clear xF28_0 xF28_1 xF28_2
  replace F2 := F2.keep hb9
  replace F3 := F3.keep hb9
  replace F5 := F5.keep hb9
  replace F7 := F7.keep hb9
  replace F9 := F9.keep hb9
  replace F11 := F11.keep hb9
  replace F15 := F15.keep hb9
  replace F17 := F17.keep hb9
  replace B0 := B0.trans (hb9.mono B0.size)
  clear hb9
  obtain ⟨xF39_0, xF39_1, xF39_2⟩ := F3.ce3
  go_wp2_with fail
  (with_reducible refine (h8 _).mono ?_)
  rintro r w10 ⟨rfl, hb10⟩
  clear xF39_0 xF39_1 xF39_2
  replace F2 := F2.keep hb10
  replace F3 := F3.keep hb10
  replace F5 := F5.keep hb10
  replace F7 := F7.keep hb10
  replace F9 := F9.keep hb10
  replace F11 := F11.keep hb10
  replace F15 := F15.keep hb10
  replace F17 := F17.keep hb10
  replace B0 := B0.trans (hb10.mono B0.size)
  clear hb10
  go_wp2_with fail
  refine wp_region_any (by kernel_rfl) ?_
  obtain ⟨xF510_0, xF510_1, xF510_2⟩ := F5.ce3
  obtain ⟨xF210_0, xF210_1, xF210_2⟩ := F2.ce3
  obtain ⟨xF310_0, xF310_1, xF310_2⟩ := F3.ce3
  obtain ⟨xF710_0, xF710_1, xF710_2⟩ := F7.ce3
  obtain ⟨xF910_0, xF910_1, xF910_2⟩ := F9.ce3
  obtain ⟨xF1510_0, xF1510_1, xF1510_2⟩ := F15.ce3
  have hHeld : (fun w' : World => w'.cell? ⟨w3.heap.size, 0, none⟩ = some (.bool sn) ∧ w'.cell? ⟨w3.heap.size, 1, none⟩ = some (.string sS) ∧ w'.cell? ⟨w3.heap.size, 2, none⟩ = some (.string sT) ∧ w'.cell? ⟨w.heap.size, 0, none⟩ = some (.bool xn) ∧ w'.cell? ⟨w.heap.size, 1, none⟩ = some (.string xS) ∧ w'.cell? ⟨w.heap.size, 2, none⟩ = some (.string xT) ∧ w'.cell? ⟨w.heap.size + 1, 0, none⟩ = some (.bool yn) ∧ w'.cell? ⟨w.heap.size + 1, 1, none⟩ = some (.string yS) ∧ w'.cell? ⟨w.heap.size + 1, 2, none⟩ = some (.string yT) ∧ w'.cell? ⟨w4.heap.size, 0, none⟩ = some (.bool dn) ∧ w'.cell? ⟨w4.heap.size, 1, none⟩ = some (.string dS) ∧ w'.cell? ⟨w4.heap.size, 2, none⟩ = some (.string dT) ∧ w'.cell? ⟨w5.heap.size, 0, none⟩ = some (.bool pn) ∧ w'.cell? ⟨w5.heap.size, 1, none⟩ = some (.string pS) ∧ w'.cell? ⟨w5.heap.size, 2, none⟩ = some (.string pT) ∧ w'.cell? ⟨w8.heap.size, 0, none⟩ = some (.bool mn) ∧ w'.cell? ⟨w8.heap.size, 1, none⟩ = some (.string mS) ∧ w'.cell? ⟨w8.heap.size, 2, none⟩ = some (.string mT)) (w10).drew := ⟨xF510_0, xF510_1, xF510_2, xF210_0, xF210_1, xF210_2, xF310_0, xF310_1, xF310_2, xF710_0, xF710_1, xF710_2, xF910_0, xF910_1, xF910_2, xF1510_0, xF1510_1, xF1510_2⟩
  refine wpAny_of_held (S := fun w' : World => w'.cell? ⟨w3.heap.size, 0, none⟩ = some (.bool sn) ∧ w'.cell? ⟨w3.heap.size, 1, none⟩ = some (.string sS) ∧ w'.cell? ⟨w3.heap.size, 2, none⟩ = some (.string sT) ∧ w'.cell? ⟨w.heap.size, 0, none⟩ = some (.bool xn) ∧ w'.cell? ⟨w.heap.size, 1, none⟩ = some (.string xS) ∧ w'.cell? ⟨w.heap.size, 2, none⟩ = some (.string xT) ∧ w'.cell? ⟨w.heap.size + 1, 0, none⟩ = some (.bool yn) ∧ w'.cell? ⟨w.heap.size + 1, 1, none⟩ = some (.string yS) ∧ w'.cell? ⟨w.heap.size + 1, 2, none⟩ = some (.string yT) ∧ w'.cell? ⟨w4.heap.size, 0, none⟩ = some (.bool dn) ∧ w'.cell? ⟨w4.heap.size, 1, none⟩ = some (.string dS) ∧ w'.cell? ⟨w4.heap.size, 2, none⟩ = some (.string dT) ∧ w'.cell? ⟨w5.heap.size, 0, none⟩ = some (.bool pn) ∧ w'.cell? ⟨w5.heap.size, 1, none⟩ = some (.string pS) ∧ w'.cell? ⟨w5.heap.size, 2, none⟩ = some (.string pT) ∧ w'.cell? ⟨w8.heap.size, 0, none⟩ = some (.bool mn) ∧ w'.cell? ⟨w8.heap.size, 1, none⟩ = some (.string mS) ∧ w'.cell? ⟨w8.heap.size, 2, none⟩ = some (.string mT)) _ _ _ _ ?_
  replace F2 := F2.drew
  replace F3 := F3.drew
  replace F5 := F5.drew
  replace F7 := F7.drew
  replace F9 := F9.drew
  replace F11 := F11.drew
  replace F15 := F15.drew
  replace F17 := F17.drew
  replace B0 := B0.drew
  refine wpAnyH_take (i := 0) (v := _) (by first | (simp only [List.getElem?_toArray, List.getElem?_cons_zero]; rfl) | rfl) (by kernel_rfl) (by kernel_rfl) (by kernel_rfl) (by exact fun _ _ _ h => h) (Or.inl ⟨by rfl, by (intro w hSw; (try dsimp only at hSw); go_simp; try with_reducible rfl)⟩) (by assumption) ?_
  (try dsimp only [Act.put]); (try go_frame)
  refine wpAnyH_take (i := 1) (v := _) (by first | (simp only [List.getElem?_toArray, List.getElem?_cons_zero, List.getElem?_cons_succ]; rfl) | rfl) (by kernel_rfl) (by kernel_rfl) (by kernel_rfl) (by exact fun _ _ _ h => h) (Or.inl ⟨by rfl, by (intro w hSw; (try dsimp only at hSw); go_simp; try with_reducible rfl)⟩) (by assumption) ?_
  (try dsimp only [Act.put]); (try go_frame)
  refine wpAnyH_take (i := 2) (v := _) (by first | (simp only [List.getElem?_toArray, List.getElem?_cons_zero, List.getElem?_cons_succ]; rfl) | rfl) (by kernel_rfl) (by kernel_rfl) (by kernel_rfl) (by exact fun _ _ _ h => h) (Or.inl ⟨by rfl, by (intro w hSw; (try dsimp only at hSw); go_simp; try with_reducible rfl)⟩) (by assumption) ?_
  (try dsimp only [Act.put]); (try go_frame)
  refine wpAnyH_ready (rs := [3]) (by kernel_rfl) (by simp) ?_
  refine AllReadyH.cons rfl (fun K hK => ?_) AllReadyH.nil
  go_simp
  (with_reducible refine (h9 _).mono ?_)
  rintro r w11 ⟨rfl, hb11⟩
  clear xF510_0 xF510_1 xF510_2 xF210_0 xF210_1 xF210_2 xF310_0 xF310_1 xF310_2 xF710_0 xF710_1 xF710_2 xF910_0 xF910_1 xF910_2 xF1510_0 xF1510_1 xF1510_2
  replace F2 := F2.keep hb11
  replace F3 := F3.keep hb11
  replace F5 := F5.keep hb11
  replace F7 := F7.keep hb11
  replace F9 := F9.keep hb11
  replace F11 := F11.keep hb11
  replace F15 := F15.keep hb11
  replace F17 := F17.keep hb11
  replace B0 := B0.trans (hb11.mono B0.size)
  clear hb11
  obtain ⟨xF512_0, xF512_1, xF512_2⟩ := F5.ce3
  obtain ⟨xF212_0, xF212_1, xF212_2⟩ := F2.ce3
  obtain ⟨xF312_0, xF312_1, xF312_2⟩ := F3.ce3
  obtain ⟨xF712_0, xF712_1, xF712_2⟩ := F7.ce3
  obtain ⟨xF912_0, xF912_1, xF912_2⟩ := F9.ce3
  obtain ⟨xF1512_0, xF1512_1, xF1512_2⟩ := F15.ce3
  refine hK.out _ _ ?_ (fun hHeld => ?_)
  · exact ⟨xF512_0, xF512_1, xF512_2, xF212_0, xF212_1, xF212_2, xF312_0, xF312_1, xF312_2, xF712_0, xF712_1, xF712_2, xF912_0, xF912_1, xF912_2, xF1512_0, xF1512_1, xF1512_2⟩
  clear hK K
  (try dsimp only [Act.put]); (try go_frame)
  refine wpAnyH_take (i := 4) (v := _) (by first | (simp only [List.getElem?_toArray, List.getElem?_cons_zero, List.getElem?_cons_succ]; rfl) | rfl) (by kernel_rfl) (by kernel_rfl) (by kernel_rfl) (by exact fun _ _ _ h => h) (Or.inl ⟨by rfl, by (intro w hSw; (try dsimp only at hSw); go_simp; try with_reducible rfl)⟩) (by assumption) ?_
  (try dsimp only [Act.put]); (try go_frame)
  refine wpAnyH_take (i := 5) (v := _) (by first | (simp only [List.getElem?_toArray, List.getElem?_cons_zero, List.getElem?_cons_succ]; rfl) | rfl) (by kernel_rfl) (by kernel_rfl) (by kernel_rfl) (by exact fun _ _ _ h => h) (Or.inl ⟨by rfl, by (intro w hSw; (try dsimp only at hSw); go_simp; try with_reducible rfl)⟩) (by assumption) ?_
  (try dsimp only [Act.put]); (try go_frame)
  refine wpAnyH_take (i := 6) (v := _) (by first | (simp only [List.getElem?_toArray, List.getElem?_cons_zero, List.getElem?_cons_succ]; rfl) | rfl) (by kernel_rfl) (by kernel_rfl) (by kernel_rfl) (by exact fun _ _ _ h => h) (Or.inl ⟨by rfl, by (intro w hSw; (try dsimp only at hSw); go_simp; try with_reducible rfl)⟩) (by assumption) ?_
  (try dsimp only [Act.put]); (try go_frame)
  refine wpAnyH_take (i := 7) (v := _) (by first | (simp only [List.getElem?_toArray, List.getElem?_cons_zero, List.getElem?_cons_succ]; rfl) | rfl) (by kernel_rfl) (by kernel_rfl) (by kernel_rfl) (by exact fun _ _ _ h => h) (Or.inl ⟨by rfl, by (intro w hSw; (try dsimp only at hSw); go_simp; try with_reducible rfl)⟩) (by assumption) ?_
  (try dsimp only [Act.put]); (try go_frame)
  refine wpAnyH_take (i := 8) (v := _) (by first | (simp only [List.getElem?_toArray, List.getElem?_cons_zero, List.getElem?_cons_succ]; rfl) | rfl) (by kernel_rfl) (by kernel_rfl) (by kernel_rfl) (by exact fun _ _ _ h => h) (Or.inl ⟨by rfl, by (intro w hSw; (try dsimp only at hSw); go_simp; try with_reducible rfl)⟩) (by assumption) ?_
  (try dsimp only [Act.put]); (try go_frame)
  refine wpAnyH_ready (rs := [9]) (by kernel_rfl) (by simp) ?_
  refine AllReadyH.cons rfl (fun K hK => ?_) AllReadyH.nil
  go_simp
  (with_reducible refine (h10 _).mono ?_)
  rintro r w12 ⟨rfl, hb12⟩
  clear xF512_0 xF512_1 xF512_2 xF212_0 xF212_1 xF212_2 xF312_0 xF312_1 xF312_2 xF712_0 xF712_1 xF712_2 xF912_0 xF912_1 xF912_2 xF1512_0 xF1512_1 xF1512_2
  replace F2 := F2.keep hb12
  replace F3 := F3.keep hb12
  replace F5 := F5.keep hb12
  replace F7 := F7.keep hb12
  replace F9 := F9.keep hb12
  replace F11 := F11.keep hb12
  replace F15 := F15.keep hb12
  replace F17 := F17.keep hb12
  replace B0 := B0.trans (hb12.mono B0.size)
  clear hb12
  obtain ⟨xF513_0, xF513_1, xF513_2⟩ := F5.ce3
  obtain ⟨xF213_0, xF213_1, xF213_2⟩ := F2.ce3
  obtain ⟨xF313_0, xF313_1, xF313_2⟩ := F3.ce3
  obtain ⟨xF713_0, xF713_1, xF713_2⟩ := F7.ce3
  obtain ⟨xF913_0, xF913_1, xF913_2⟩ := F9.ce3
  obtain ⟨xF1513_0, xF1513_1, xF1513_2⟩ := F15.ce3
  refine hK.out _ _ ?_ (fun hHeld => ?_)
  · exact ⟨xF513_0, xF513_1, xF513_2, xF213_0, xF213_1, xF213_2, xF313_0, xF313_1, xF313_2, xF713_0, xF713_1, xF713_2, xF913_0, xF913_1, xF913_2, xF1513_0, xF1513_1, xF1513_2⟩
  clear hK K
  (try dsimp only [Act.put]); (try go_frame)
  refine wpAnyH_ready (rs := [10]) (by kernel_rfl) (by simp) ?_
  refine AllReadyH.cons rfl (fun K hK => ?_) AllReadyH.nil
  go_simp
  (with_reducible refine (h11 _).mono ?_)
  rintro r w13 ⟨rfl, hb13⟩
  clear xF513_0 xF513_1 xF513_2 xF213_0 xF213_1 xF213_2 xF313_0 xF313_1 xF313_2 xF713_0 xF713_1 xF713_2 xF913_0 xF913_1 xF913_2 xF1513_0 xF1513_1 xF1513_2
  replace F2 := F2.keep hb13
  replace F3 := F3.keep hb13
  replace F5 := F5.keep hb13
  replace F7 := F7.keep hb13
  replace F9 := F9.keep hb13
  replace F11 := F11.keep hb13
  replace F15 := F15.keep hb13
  replace F17 := F17.keep hb13
  replace B0 := B0.trans (hb13.mono B0.size)
  clear hb13
  obtain ⟨xF514_0, xF514_1, xF514_2⟩ := F5.ce3
  obtain ⟨xF214_0, xF214_1, xF214_2⟩ := F2.ce3
  obtain ⟨xF314_0, xF314_1, xF314_2⟩ := F3.ce3
  obtain ⟨xF714_0, xF714_1, xF714_2⟩ := F7.ce3
  obtain ⟨xF914_0, xF914_1, xF914_2⟩ := F9.ce3
  obtain ⟨xF1514_0, xF1514_1, xF1514_2⟩ := F15.ce3
  refine hK.out _ _ ?_ (fun hHeld => ?_)
  · exact ⟨xF514_0, xF514_1, xF514_2, xF214_0, xF214_1, xF214_2, xF314_0, xF314_1, xF314_2, xF714_0, xF714_1, xF714_2, xF914_0, xF914_1, xF914_2, xF1514_0, xF1514_1, xF1514_2⟩
  clear hK K
  (try dsimp only [Act.put]); (try go_frame)
  refine wpAnyH_take (i := 11) (v := _) (by first | (simp only [List.getElem?_toArray, List.getElem?_cons_zero, List.getElem?_cons_succ]; rfl) | rfl) (by kernel_rfl) (by kernel_rfl) (by kernel_rfl) (by exact fun _ _ _ h => h) (Or.inl ⟨by rfl, by (intro w hSw; (try dsimp only at hSw); go_simp; try with_reducible rfl)⟩) (by assumption) ?_
  (try dsimp only [Act.put]); (try go_frame)
  refine wpAnyH_take (i := 12) (v := _) (by first | (simp only [List.getElem?_toArray, List.getElem?_cons_zero, List.getElem?_cons_succ]; rfl) | rfl) (by kernel_rfl) (by kernel_rfl) (by kernel_rfl) (by exact fun _ _ _ h => h) (Or.inl ⟨by rfl, by (intro w hSw; (try dsimp only at hSw); go_simp; try with_reducible rfl)⟩) (by assumption) ?_
  (try dsimp only [Act.put]); (try go_frame)
  refine wpAnyH_take (i := 13) (v := _) (by first | (simp only [List.getElem?_toArray, List.getElem?_cons_zero, List.getElem?_cons_succ]; rfl) | rfl) (by kernel_rfl) (by kernel_rfl) (by kernel_rfl) (by exact fun _ _ _ h => h) (Or.inl ⟨by rfl, by (intro w hSw; (try dsimp only at hSw); go_simp; try with_reducible rfl)⟩) (by assumption) ?_
  (try dsimp only [Act.put]); (try go_frame)
  refine wpAnyH_take (i := 14) (v := _) (by first | (simp only [List.getElem?_toArray, List.getElem?_cons_zero, List.getElem?_cons_succ]; rfl) | rfl) (by kernel_rfl) (by kernel_rfl) (by kernel_rfl) (by exact fun _ _ _ h => h) (Or.inl ⟨by rfl, by (intro w hSw; (try dsimp only at hSw); go_simp; try with_reducible rfl)⟩) (by assumption) ?_
  (try dsimp only [Act.put]); (try go_frame)
  refine wpAnyH_take (i := 15) (v := _) (by first | (simp only [List.getElem?_toArray, List.getElem?_cons_zero, List.getElem?_cons_succ]; rfl) | rfl) (by kernel_rfl) (by kernel_rfl) (by kernel_rfl) (by exact fun _ _ _ h => h) (Or.inl ⟨by rfl, by (intro w hSw; (try dsimp only at hSw); go_simp; try with_reducible rfl)⟩) (by assumption) ?_
  (try dsimp only [Act.put]); (try go_frame)
  refine wpAnyH_take (i := 16) (v := _) (by first | (simp only [List.getElem?_toArray, List.getElem?_cons_zero, List.getElem?_cons_succ]; rfl) | rfl) (by kernel_rfl) (by kernel_rfl) (by kernel_rfl) (by exact fun _ _ _ h => h) (Or.inl ⟨by rfl, by (intro w hSw; (try dsimp only at hSw); go_simp; try with_reducible rfl)⟩) (by assumption) ?_
  (try dsimp only [Act.put]); (try go_frame)
  refine wpAnyH_ready (rs := [17]) (by kernel_rfl) (by simp) ?_
  refine AllReadyH.cons rfl (fun K hK => ?_) AllReadyH.nil
  go_simp
  (with_reducible refine (h12 _).mono ?_)
  rintro r w14 ⟨rfl, hb14⟩
  clear xF514_0 xF514_1 xF514_2 xF214_0 xF214_1 xF214_2 xF314_0 xF314_1 xF314_2 xF714_0 xF714_1 xF714_2 xF914_0 xF914_1 xF914_2 xF1514_0 xF1514_1 xF1514_2
  replace F2 := F2.keep hb14
  replace F3 := F3.keep hb14
  replace F5 := F5.keep hb14
  replace F7 := F7.keep hb14
  replace F9 := F9.keep hb14
  replace F11 := F11.keep hb14
  replace F15 := F15.keep hb14
  replace F17 := F17.keep hb14
  replace B0 := B0.trans (hb14.mono B0.size)
  clear hb14
  obtain ⟨xF515_0, xF515_1, xF515_2⟩ := F5.ce3
  obtain ⟨xF215_0, xF215_1, xF215_2⟩ := F2.ce3
  obtain ⟨xF315_0, xF315_1, xF315_2⟩ := F3.ce3
  obtain ⟨xF715_0, xF715_1, xF715_2⟩ := F7.ce3
  obtain ⟨xF915_0, xF915_1, xF915_2⟩ := F9.ce3
  obtain ⟨xF1515_0, xF1515_1, xF1515_2⟩ := F15.ce3
  refine hK.out _ _ ?_ (fun hHeld => ?_)
  · exact ⟨xF515_0, xF515_1, xF515_2, xF215_0, xF215_1, xF215_2, xF315_0, xF315_1, xF315_2, xF715_0, xF715_1, xF715_2, xF915_0, xF915_1, xF915_2, xF1515_0, xF1515_1, xF1515_2⟩
  clear hK K
  (try dsimp only [Act.put]); (try go_frame)
  refine wpAnyH_take (i := 18) (v := _) (by first | (simp only [List.getElem?_toArray, List.getElem?_cons_zero, List.getElem?_cons_succ]; rfl) | rfl) (by kernel_rfl) (by kernel_rfl) (by kernel_rfl) (by exact fun _ _ _ h => h) (Or.inl ⟨by rfl, by (intro w hSw; (try dsimp only at hSw); go_simp; try with_reducible rfl)⟩) (by assumption) ?_
  (try dsimp only [Act.put]); (try go_frame)
  refine wpAnyH_take (i := 19) (v := _) (by first | (simp only [List.getElem?_toArray, List.getElem?_cons_zero, List.getElem?_cons_succ]; rfl) | rfl) (by kernel_rfl) (by kernel_rfl) (by kernel_rfl) (by exact fun _ _ _ h => h) (Or.inl ⟨by rfl, by (intro w hSw; (try dsimp only at hSw); go_simp; try with_reducible rfl)⟩) (by assumption) ?_
  (try dsimp only [Act.put]); (try go_frame)
  refine wpAnyH_take (i := 20) (v := _) (by first | (simp only [List.getElem?_toArray, List.getElem?_cons_zero, List.getElem?_cons_succ]; rfl) | rfl) (by kernel_rfl) (by kernel_rfl) (by kernel_rfl) (by exact fun _ _ _ h => h) (Or.inl ⟨by rfl, by (intro w hSw; (try dsimp only at hSw); go_simp; try with_reducible rfl)⟩) (by assumption) ?_
  (try dsimp only [Act.put]); (try go_frame)
  refine wpAnyH_take (i := 21) (v := _) (by first | (simp only [List.getElem?_toArray, List.getElem?_cons_zero, List.getElem?_cons_succ]; rfl) | rfl) (by kernel_rfl) (by kernel_rfl) (by kernel_rfl) (by exact fun _ _ _ h => h) (Or.inl ⟨by rfl, by (intro w hSw; (try dsimp only at hSw); go_simp; try with_reducible rfl)⟩) (by assumption) ?_
  (try dsimp only [Act.put]); (try go_frame)
  refine wpAnyH_take (i := 22) (v := _) (by first | (simp only [List.getElem?_toArray, List.getElem?_cons_zero, List.getElem?_cons_succ]; rfl) | rfl) (by kernel_rfl) (by kernel_rfl) (by kernel_rfl) (by exact fun _ _ _ h => h) (Or.inl ⟨by rfl, by (intro w hSw; (try dsimp only at hSw); go_simp; try with_reducible rfl)⟩) (by assumption) ?_
  (try dsimp only [Act.put]); (try go_frame)
  refine wpAnyH_take (i := 23) (v := _) (by first | (simp only [List.getElem?_toArray, List.getElem?_cons_zero, List.getElem?_cons_succ]; rfl) | rfl) (by kernel_rfl) (by kernel_rfl) (by kernel_rfl) (by exact fun _ _ _ h => h) (Or.inl ⟨by rfl, by (intro w hSw; (try dsimp only at hSw); go_simp; try with_reducible rfl)⟩) (by assumption) ?_
  (try dsimp only [Act.put]); (try go_frame)
  refine wpAnyH_ready (rs := [24]) (by kernel_rfl) (by simp) ?_
  refine AllReadyH.cons rfl (fun K hK => ?_) AllReadyH.nil
  go_simp
  (with_reducible refine (h13 _).mono ?_)
  rintro r w15 ⟨rfl, hb15⟩
  clear xF515_0 xF515_1 xF515_2 xF215_0 xF215_1 xF215_2 xF315_0 xF315_1 xF315_2 xF715_0 xF715_1 xF715_2 xF915_0 xF915_1 xF915_2 xF1515_0 xF1515_1 xF1515_2
  replace F2 := F2.keep hb15
  replace F3 := F3.keep hb15
  replace F5 := F5.keep hb15
  replace F7 := F7.keep hb15
  replace F9 := F9.keep hb15
  replace F11 := F11.keep hb15
  replace F15 := F15.keep hb15
  replace F17 := F17.keep hb15
  replace B0 := B0.trans (hb15.mono B0.size)
  clear hb15
  obtain ⟨xF516_0, xF516_1, xF516_2⟩ := F5.ce3
  obtain ⟨xF216_0, xF216_1, xF216_2⟩ := F2.ce3
  obtain ⟨xF316_0, xF316_1, xF316_2⟩ := F3.ce3
  obtain ⟨xF716_0, xF716_1, xF716_2⟩ := F7.ce3
  obtain ⟨xF916_0, xF916_1, xF916_2⟩ := F9.ce3
  obtain ⟨xF1516_0, xF1516_1, xF1516_2⟩ := F15.ce3
  refine hK.out _ _ ?_ (fun hHeld => ?_)
  · exact ⟨xF516_0, xF516_1, xF516_2, xF216_0, xF216_1, xF216_2, xF316_0, xF316_1, xF316_2, xF716_0, xF716_1, xF716_2, xF916_0, xF916_1, xF916_2, xF1516_0, xF1516_1, xF1516_2⟩
  clear hK K
  (try dsimp only [Act.put]); (try go_frame)
  refine wpAnyH_take (i := 25) (v := _) (by first | (simp only [List.getElem?_toArray, List.getElem?_cons_zero, List.getElem?_cons_succ]; rfl) | rfl) (by kernel_rfl) (by kernel_rfl) (by kernel_rfl) (by exact fun _ _ _ h => h) (Or.inl ⟨by rfl, by (intro w hSw; (try dsimp only at hSw); go_simp; try with_reducible rfl)⟩) (by assumption) ?_
  (try dsimp only [Act.put]); (try go_frame)
  refine wpAnyH_take (i := 26) (v := _) (by first | (simp only [List.getElem?_toArray, List.getElem?_cons_zero, List.getElem?_cons_succ]; rfl) | rfl) (by kernel_rfl) (by kernel_rfl) (by kernel_rfl) (by exact fun _ _ _ h => h) (Or.inl ⟨by rfl, by (intro w hSw; (try dsimp only at hSw); go_simp; try with_reducible rfl)⟩) (by assumption) ?_
  (try dsimp only [Act.put]); (try go_frame)
  refine wpAnyH_take (i := 27) (v := _) (by first | (simp only [List.getElem?_toArray, List.getElem?_cons_zero, List.getElem?_cons_succ]; rfl) | rfl) (by kernel_rfl) (by kernel_rfl) (by kernel_rfl) (by exact fun _ _ _ h => h) (Or.inl ⟨by rfl, by (intro w hSw; (try dsimp only at hSw); go_simp; try with_reducible rfl)⟩) (by assumption) ?_
  (try dsimp only [Act.put]); (try go_frame)
  refine wpAnyH_take (i := 28) (v := _) (by first | (simp only [List.getElem?_toArray, List.getElem?_cons_zero, List.getElem?_cons_succ]; rfl) | rfl) (by kernel_rfl) (by kernel_rfl) (by kernel_rfl) (by exact fun _ _ _ h => h) (Or.inl ⟨by rfl, by (intro w hSw; (try dsimp only at hSw); go_simp; try with_reducible rfl)⟩) (by assumption) ?_
  (try dsimp only [Act.put]); (try go_frame)
  refine wpAnyH_take (i := 29) (v := _) (by first | (simp only [List.getElem?_toArray, List.getElem?_cons_zero, List.getElem?_cons_succ]; rfl) | rfl) (by kernel_rfl) (by kernel_rfl) (by kernel_rfl) (by exact fun _ _ _ h => h) (Or.inl ⟨by rfl, by (intro w hSw; (try dsimp only at hSw); go_simp; try with_reducible rfl)⟩) (by assumption) ?_
  (try dsimp only [Act.put]); (try go_frame)
  refine wpAnyH_ready (rs := [30]) (by kernel_rfl) (by simp) ?_
  refine AllReadyH.cons rfl (fun K hK => ?_) AllReadyH.nil
  go_simp
  (with_reducible refine (h14 _).mono ?_)
  rintro r w16 ⟨rfl, hb16⟩
  clear xF516_0 xF516_1 xF516_2 xF216_0 xF216_1 xF216_2 xF316_0 xF316_1 xF316_2 xF716_0 xF716_1 xF716_2 xF916_0 xF916_1 xF916_2 xF1516_0 xF1516_1 xF1516_2
  replace F2 := F2.keep hb16
  replace F3 := F3.keep hb16
  replace F5 := F5.keep hb16
  replace F7 := F7.keep hb16
  replace F9 := F9.keep hb16
  replace F11 := F11.keep hb16
  replace F15 := F15.keep hb16
  replace F17 := F17.keep hb16
  replace B0 := B0.trans (hb16.mono B0.size)
  clear hb16
  obtain ⟨xF517_0, xF517_1, xF517_2⟩ := F5.ce3
  obtain ⟨xF217_0, xF217_1, xF217_2⟩ := F2.ce3
  obtain ⟨xF317_0, xF317_1, xF317_2⟩ := F3.ce3
  obtain ⟨xF717_0, xF717_1, xF717_2⟩ := F7.ce3
  obtain ⟨xF917_0, xF917_1, xF917_2⟩ := F9.ce3
  obtain ⟨xF1517_0, xF1517_1, xF1517_2⟩ := F15.ce3
  refine hK.out _ _ ?_ (fun hHeld => ?_)
  · exact ⟨xF517_0, xF517_1, xF517_2, xF217_0, xF217_1, xF217_2, xF317_0, xF317_1, xF317_2, xF717_0, xF717_1, xF717_2, xF917_0, xF917_1, xF917_2, xF1517_0, xF1517_1, xF1517_2⟩
  clear hK K
  (try dsimp only [Act.put]); (try go_frame)
  refine wpAnyH_take (i := 31) (v := _) (by first | (simp only [List.getElem?_toArray, List.getElem?_cons_zero, List.getElem?_cons_succ]; rfl) | rfl) (by kernel_rfl) (by kernel_rfl) (by kernel_rfl) (by exact fun _ _ _ h => h) (Or.inl ⟨by rfl, by (intro w hSw; (try dsimp only at hSw); go_simp; try with_reducible rfl)⟩) (by assumption) ?_
  (try dsimp only [Act.put]); (try go_frame)
  refine wpAnyH_take (i := 32) (v := _) (by first | (simp only [List.getElem?_toArray, List.getElem?_cons_zero, List.getElem?_cons_succ]; rfl) | rfl) (by kernel_rfl) (by kernel_rfl) (by kernel_rfl) (by exact fun _ _ _ h => h) (Or.inl ⟨by rfl, by (intro w hSw; (try dsimp only at hSw); go_simp; try with_reducible rfl)⟩) (by assumption) ?_
  (try dsimp only [Act.put]); (try go_frame)
  refine wpAnyH_take (i := 33) (v := _) (by first | (simp only [List.getElem?_toArray, List.getElem?_cons_zero, List.getElem?_cons_succ]; rfl) | rfl) (by kernel_rfl) (by kernel_rfl) (by kernel_rfl) (by exact fun _ _ _ h => h) (Or.inl ⟨by rfl, by (intro w hSw; (try dsimp only at hSw); go_simp; try with_reducible rfl)⟩) (by assumption) ?_
  (try dsimp only [Act.put]); (try go_frame)
  refine wpAnyH_take (i := 34) (v := _) (by first | (simp only [List.getElem?_toArray, List.getElem?_cons_zero, List.getElem?_cons_succ]; rfl) | rfl) (by kernel_rfl) (by kernel_rfl) (by kernel_rfl) (by exact fun _ _ _ h => h) (Or.inl ⟨by rfl, by (intro w hSw; (try dsimp only at hSw); go_simp; try with_reducible rfl)⟩) (by assumption) ?_
  (try dsimp only [Act.put]); (try go_frame)
  refine wpAnyH_take (i := 35) (v := _) (by first | (simp only [List.getElem?_toArray, List.getElem?_cons_zero, List.getElem?_cons_succ]; rfl) | rfl) (by kernel_rfl) (by kernel_rfl) (by kernel_rfl) (by exact fun _ _ _ h => h) (Or.inl ⟨by rfl, by (intro w hSw; (try dsimp only at hSw); go_simp; try with_reducible rfl)⟩) (by assumption) ?_
  (try dsimp only [Act.put]); (try go_frame)
  refine wpAnyH_take (i := 36) (v := _) (by first | (simp only [List.getElem?_toArray, List.getElem?_cons_zero, List.getElem?_cons_succ]; rfl) | rfl) (by kernel_rfl) (by kernel_rfl) (by kernel_rfl) (by exact fun _ _ _ h => h) (Or.inl ⟨by rfl, by (intro w hSw; (try dsimp only at hSw); go_simp; try with_reducible rfl)⟩) (by assumption) ?_
  (try dsimp only [Act.put]); (try go_frame)
  refine wpAnyH_take (i := 37) (v := _) (by first | (simp only [List.getElem?_toArray, List.getElem?_cons_zero, List.getElem?_cons_succ]; rfl) | rfl) (by kernel_rfl) (by kernel_rfl) (by kernel_rfl) (by exact fun _ _ _ h => h) (Or.inl ⟨by rfl, by (intro w hSw; (try dsimp only at hSw); go_simp; try with_reducible rfl)⟩) (by assumption) ?_
  (try dsimp only [Act.put]); (try go_frame)
  refine wpAnyH_take (i := 38) (v := _) (by first | (simp only [List.getElem?_toArray, List.getElem?_cons_zero, List.getElem?_cons_succ]; rfl) | rfl) (by kernel_rfl) (by kernel_rfl) (by kernel_rfl) (by exact fun _ _ _ h => h) (Or.inl ⟨by rfl, by (intro w hSw; (try dsimp only at hSw); go_simp; try with_reducible rfl)⟩) (by assumption) ?_
  (try dsimp only [Act.put]); (try go_frame)
  refine wpAnyH_take (i := 39) (v := _) (by first | (simp only [List.getElem?_toArray, List.getElem?_cons_zero, List.getElem?_cons_succ]; rfl) | rfl) (by kernel_rfl) (by kernel_rfl) (by kernel_rfl) (by exact fun _ _ _ h => h) (Or.inl ⟨by rfl, by (intro w hSw; (try dsimp only at hSw); go_simp; try with_reducible rfl)⟩) (by assumption) ?_
  (try dsimp only [Act.put]); (try go_frame)
  refine wpAnyH_take (i := 40) (v := _) (by first | (simp only [List.getElem?_toArray, List.getElem?_cons_zero, List.getElem?_cons_succ]; rfl) | rfl) (by kernel_rfl) (by kernel_rfl) (by kernel_rfl) (by exact fun _ _ _ h => h) (Or.inl ⟨by rfl, by (intro w hSw; (try dsimp only at hSw); go_simp; try with_reducible rfl)⟩) (by assumption) ?_
  (try dsimp only [Act.put]); (try go_frame)
  refine wpAnyH_take (i := 41) (v := _) (by first | (simp only [List.getElem?_toArray, List.getElem?_cons_zero, List.getElem?_cons_succ]; rfl) | rfl) (by kernel_rfl) (by kernel_rfl) (by kernel_rfl) (by exact fun _ _ _ h => h) (Or.inl ⟨by rfl, by (intro w hSw; (try dsimp only at hSw); go_simp; try with_reducible rfl)⟩) (by assumption) ?_
  (try dsimp only [Act.put]); (try go_frame)
  refine wpAnyH_take (i := 42) (v := _) (by first | (simp only [List.getElem?_toArray, List.getElem?_cons_zero, List.getElem?_cons_succ]; rfl) | rfl) (by kernel_rfl) (by kernel_rfl) (by kernel_rfl) (by exact fun _ _ _ h => h) (Or.inl ⟨by rfl, by (intro w hSw; (try dsimp only at hSw); go_simp; try with_reducible rfl)⟩) (by assumption) ?_
  (try dsimp only [Act.put]); (try go_frame)
  refine wpAnyH_take (i := 43) (v := _) (by first | (simp only [List.getElem?_toArray, List.getElem?_cons_zero, List.getElem?_cons_succ]; rfl) | rfl) (by kernel_rfl) (by kernel_rfl) (by kernel_rfl) (by exact fun _ _ _ h => h) (Or.inl ⟨by rfl, by (intro w hSw; (try dsimp only at hSw); go_simp; try with_reducible rfl)⟩) (by assumption) ?_
  (try dsimp only [Act.put]); (try go_frame)
  refine wpAnyH_take (i := 44) (v := _) (by first | (simp only [List.getElem?_toArray, List.getElem?_cons_zero, List.getElem?_cons_succ]; rfl) | rfl) (by kernel_rfl) (by kernel_rfl) (by kernel_rfl) (by exact fun _ _ _ h => h) (Or.inl ⟨by rfl, by (intro w hSw; (try dsimp only at hSw); go_simp; try with_reducible rfl)⟩) (by assumption) ?_
  (try dsimp only [Act.put]); (try go_frame)
  refine wpAnyH_take (i := 45) (v := _) (by first | (simp only [List.getElem?_toArray, List.getElem?_cons_zero, List.getElem?_cons_succ]; rfl) | rfl) (by kernel_rfl) (by kernel_rfl) (by kernel_rfl) (by exact fun _ _ _ h => h) (Or.inl ⟨by rfl, by (intro w hSw; (try dsimp only at hSw); go_simp; try with_reducible rfl)⟩) (by assumption) ?_
  (try dsimp only [Act.put]); (try go_frame)
  refine wpAnyH_take (i := 46) (v := _) (by first | (simp only [List.getElem?_toArray, List.getElem?_cons_zero, List.getElem?_cons_succ]; rfl) | rfl) (by kernel_rfl) (by kernel_rfl) (by kernel_rfl) (by exact fun _ _ _ h => h) (Or.inl ⟨by rfl, by (intro w hSw; (try dsimp only at hSw); go_simp; try with_reducible rfl)⟩) (by assumption) ?_
  (try dsimp only [Act.put]); (try go_frame)
  refine wpAnyH_take (i := 47) (v := _) (by first | (simp only [List.getElem?_toArray, List.getElem?_cons_zero, List.getElem?_cons_succ]; rfl) | rfl) (by kernel_rfl) (by kernel_rfl) (by kernel_rfl) (by exact fun _ _ _ h => h) (Or.inl ⟨by rfl, by (intro w hSw; (try dsimp only at hSw); go_simp; try with_reducible rfl)⟩) (by assumption) ?_
  (try dsimp only [Act.put]); (try go_frame)
  refine wpAnyH_take (i := 48) (v := _) (by first | (simp only [List.getElem?_toArray, List.getElem?_cons_zero, List.getElem?_cons_succ]; rfl) | rfl) (by kernel_rfl) (by kernel_rfl) (by kernel_rfl) (by exact fun _ _ _ h => h) (Or.inl ⟨by rfl, by (intro w hSw; (try dsimp only at hSw); go_simp; try with_reducible rfl)⟩) (by assumption) ?_
  (try dsimp only [Act.put]); (try go_frame)
  refine wpAnyH_take (i := 49) (v := _) (by first | (simp only [List.getElem?_toArray, List.getElem?_cons_zero, List.getElem?_cons_succ]; rfl) | rfl) (by kernel_rfl) (by kernel_rfl) (by kernel_rfl) (by exact fun _ _ _ h => h) (Or.inl ⟨by rfl, by (intro w hSw; (try dsimp only at hSw); go_simp; try with_reducible rfl)⟩) (by assumption) ?_
  (try dsimp only [Act.put]); (try go_frame)
  refine wpAnyH_take (i := 50) (v := _) (by first | (simp only [List.getElem?_toArray, List.getElem?_cons_zero, List.getElem?_cons_succ]; rfl) | rfl) (by kernel_rfl) (by kernel_rfl) (by kernel_rfl) (by exact fun _ _ _ h => h) (Or.inl ⟨by rfl, by (intro w hSw; (try dsimp only at hSw); go_simp; try with_reducible rfl)⟩) (by assumption) ?_
  (try dsimp only [Act.put]); (try go_frame)
  refine wpAnyH_take (i := 51) (v := _) (by first | (simp only [List.getElem?_toArray, List.getElem?_cons_zero, List.getElem?_cons_succ]; rfl) | rfl) (by kernel_rfl) (by kernel_rfl) (by kernel_rfl) (by exact fun _ _ _ h => h) (Or.inl ⟨by rfl, by (intro w hSw; (try dsimp only at hSw); go_simp; try with_reducible rfl)⟩) (by assumption) ?_
  (try dsimp only [Act.put]); (try go_frame)
  refine wpAnyH_take (i := 52) (v := _) (by first | (simp only [List.getElem?_toArray, List.getElem?_cons_zero, List.getElem?_cons_succ]; rfl) | rfl) (by kernel_rfl) (by kernel_rfl) (by kernel_rfl) (by exact fun _ _ _ h => h) (Or.inl ⟨by rfl, by (intro w hSw; (try dsimp only at hSw); go_simp; try with_reducible rfl)⟩) (by assumption) ?_
  (try dsimp only [Act.put]); (try go_frame)
  refine wpAnyH_done (by kernel_rfl) ?_ _
  try simp only [QCut]
  clear hHeld
  clear xF517_0 xF517_1 xF517_2 xF217_0 xF217_1 xF217_2 xF317_0 xF317_1 xF317_2 xF717_0 xF717_1 xF717_2 xF917_0 xF917_1 xF917_2 xF1517_0 xF1517_1 xF1517_2
  obtain ⟨xF317_0, xF317_1, xF317_2⟩ := F3.ce3
  obtain ⟨xF1117_0, xF1117_1, xF1117_2⟩ := F11.ce3
  obtain ⟨xF1717_0, xF1717_1, xF1717_2⟩ := F17.ce3
  go_wp2_with fail
  (with_reducible refine (hl _).mono ?_)
  rintro r w17 ⟨rfl, hb17⟩
  clear xF317_0 xF317_1 xF317_2 xF1117_0 xF1117_1 xF1117_2 xF1717_0 xF1717_1 xF1717_2
  clear F2
  replace F3 := F3.keep hb17
  clear F5
  clear F7
  clear F9
  replace F11 := F11.keep hb17
  clear F15
  replace F17 := F17.keep hb17
  replace B0 := B0.trans (hb17.mono B0.size)
  clear hb17
  go_wp2
  go_ret
  exact ⟨rfl, B0⟩
end Go.Proofs.YtbfnafcpjbdbpaaGreat
