/- The reference of layer 4: Lowest, Neg, Add, Mul, Quo, Compare, by letters. -/
import Derived.Test.YtbfnafcpjbdbpaaGreatR6
namespace Go.Proofs.YtbfnafcpjbdbpaaGreat
open Go Go.RowKit Go.PlainAid Fil

set_option maxRecDepth 100000 in
set_option maxHeartbeats 8000000 in
theorem p4lowest_w (N : Bool) (P Q G U V E1 E2 : ByteArray) (w : World) (hP : P.toList.isEmpty = false) (_hP2 : P.toList ≠ []) (h1 : ∀ W, Calls Tryz.prog 49 #[.string P, .string Q] W fun r w' => r = .returned (.string G) ∧ Below W.heap.size W w') (h2 : ∀ W, Calls Tryz.prog 88 #[.string P, .string G] W fun r w' => r = .returned (.tuple #[.string U, .string E1, .int .i64 0]) ∧ Below W.heap.size W w') (h3 : ∀ W, Calls Tryz.prog 88 #[.string Q, .string G] W fun r w' => r = .returned (.tuple #[.string V, .string E2, .int .i64 0]) ∧ Below W.heap.size W w') :
    Calls Tryz.prog 52 #[.bool N, .string P, .string Q] w fun r w' => r = .returned (.agg #[.bool N, .string U, .string V]) ∧ Below w.heap.size w w' := by
  go_enter Tryz.func52, Tryz.ntmps52
  have B0 := Below.refl w.heap.size w
  have q_w_F6 : Hid (w.heap.size ≤ w.heap.size) := Lib.hid (by omega)
  have F6 := Blk.put (w) #[.bool false, .string { data := #[] }, .string { data := #[] }] 24
  replace B0 := B0.alloc B0.size (.cells #[.bool false, .string { data := #[] }, .string { data := #[] }] 24)
  go_wp2_with fail
  (with_reducible refine (h1 _).mono ?_)
  rintro r w1 ⟨rfl, hb1⟩
  replace F6 := F6.keep hb1
  replace B0 := B0.trans (hb1.mono B0.size)
  clear hb1
  go_wp2_with fail
  (with_reducible refine (h2 _).mono ?_)
  rintro r w2 ⟨rfl, hb2⟩
  replace F6 := F6.keep hb2
  replace B0 := B0.trans (hb2.mono B0.size)
  clear hb2
  go_wp2_with fail
  (with_reducible refine (h3 _).mono ?_)
  rintro r w3 ⟨rfl, hb3⟩
  replace F6 := F6.keep hb3
  replace B0 := B0.trans (hb3.mono B0.size)
  clear hb3
  obtain ⟨xF63_0, xF63_1, xF63_2⟩ := F6.ce3
  obtain ⟨xF63_0f, xF63_1f, xF63_2f⟩ := F6.fr3
  replace F6 : Blk ((((w3).setCell ⟨w.heap.size, 0, none⟩ (.bool N)).setCell ⟨w.heap.size, 1, none⟩ (.string U)).setCell ⟨w.heap.size, 2, none⟩ (.string V)) (w.heap.size) #[.bool N, .string U, .string V] 24 := (((F6.setAt 0 (.bool N)).setAt 1 (.string U)).setAt 2 (.string V))
  replace B0 := (((B0.setCell (p := ⟨w.heap.size, 0, none⟩) q_w_F6.out (.bool N)).setCell (p := ⟨w.heap.size, 1, none⟩) q_w_F6.out (.string U)).setCell (p := ⟨w.heap.size, 2, none⟩) q_w_F6.out (.string V))
  obtain ⟨xF64_0, xF64_1, xF64_2⟩ := F6.ce3
  go_wp2
  exact bodyPost_ret (v := .agg #[.bool N, .string U, .string V]) (by simp [results, Tryz.results52, go_sem, xF64_0, xF64_1, xF64_2]) rfl ⟨rfl, B0⟩
set_option maxRecDepth 100000 in
set_option maxHeartbeats 8000000 in
theorem p4lowest_0 (N : Bool) (P Q : ByteArray) (w : World) (hP : P.toList = []) :
    Calls Tryz.prog 52 #[.bool N, .string P, .string Q] w fun r w' => r = .returned (.agg #[.bool false, .string { data := #[] }, .string { data := #[1] }]) ∧ Below w.heap.size w w' := by
  have F := Blk.put w #[.bool false, .string { data := #[] }, .string { data := #[1] }] 24
  have B0 := (Below.refl w.heap.size w).alloc (Nat.le_refl _) (.cells #[.bool false, .string { data := #[] }, .string { data := #[1] }] 24)
  obtain ⟨c0, c1, c2⟩ := F.ce3
  clear F
  go_enter Tryz.func52, Tryz.ntmps52
  go_wp2
  exact bodyPost_ret (v := .agg #[.bool false, .string { data := #[] }, .string { data := #[1] }]) (by simp [results, Tryz.results52, go_sem, c0, c1, c2]) rfl ⟨rfl, B0⟩
set_option maxRecDepth 100000 in
set_option maxHeartbeats 8000000 in
theorem p4add_0 (xn : Bool) (xS xT : ByteArray) (yn : Bool) (yS yT : ByteArray) (P Q D M : ByteArray) (vn : Bool) (vS vT : ByteArray) (w : World) (h1 : ∀ W, Calls Tryz.prog 50 #[.string xS, .string yT] W fun r w' => r = .returned (.string P) ∧ Below W.heap.size W w') (h2 : ∀ W, Calls Tryz.prog 50 #[.string yS, .string xT] W fun r w' => r = .returned (.string Q) ∧ Below W.heap.size W w') (h3 : ∀ W, Calls Tryz.prog 50 #[.string xT, .string yT] W fun r w' => r = .returned (.string D) ∧ Below W.heap.size W w') (hs : (xn == yn) = true) (h4 : ∀ W, Calls Tryz.prog 51 #[.string P, .string Q] W fun r w' => r = .returned (.tuple #[.string M, .int .i64 0]) ∧ Below W.heap.size W w') (h5 : ∀ W, Calls Tryz.prog 52 #[.bool xn, .string M, .string D] W fun r w' => r = .returned (.agg #[.bool vn, .string vS, .string vT]) ∧ Below W.heap.size W w') :
    Calls Tryz.prog 16 #[.agg #[.bool xn, .string xS, .string xT], .agg #[.bool yn, .string yS, .string yT]] w fun r w' => r = .returned (.agg #[.bool vn, .string vS, .string vT]) ∧ Below w.heap.size w w' := by
  go_enter Tryz.func16, Tryz.ntmps16
  have B0 := Below.refl w.heap.size w
  have F2 := Blk.put (w) #[.bool xn, .string xS, .string xT] 24
  replace B0 := B0.alloc B0.size (.cells #[.bool xn, .string xS, .string xT] 24)
  replace F2 := F2.allocd (.cells #[.bool yn, .string yS, .string yT] 24)
  have F3 := Blk.put ((w).alloc (.cells #[.bool xn, .string xS, .string xT] 24)) #[.bool yn, .string yS, .string yT] 24
  rw [show ((w).alloc (.cells #[.bool xn, .string xS, .string xT] 24)).heap.size = w.heap.size + 1 by simp] at F3
  replace B0 := B0.alloc B0.size (.cells #[.bool yn, .string yS, .string yT] 24)
  have q_w_F4 : Hid (w.heap.size ≤ w.heap.size + 1 + 1) := Lib.hid (by omega)
  replace F2 := F2.allocd (.cells #[.bool false, .string { data := #[] }, .string { data := #[] }] 24)
  replace F3 := F3.allocd (.cells #[.bool false, .string { data := #[] }, .string { data := #[] }] 24)
  have F4 := Blk.put (((w).alloc (.cells #[.bool xn, .string xS, .string xT] 24)).alloc (.cells #[.bool yn, .string yS, .string yT] 24)) #[.bool false, .string { data := #[] }, .string { data := #[] }] 24
  rw [show (((w).alloc (.cells #[.bool xn, .string xS, .string xT] 24)).alloc (.cells #[.bool yn, .string yS, .string yT] 24)).heap.size = w.heap.size + 1 + 1 by simp] at F4
  replace B0 := B0.alloc B0.size (.cells #[.bool false, .string { data := #[] }, .string { data := #[] }] 24)
  go_wp2_with fail
  refine wp_region_cut 10 (by kernel_rfl) (by kernel_rfl) ?_
  rintro W rfl
  simp only [List.take_succ_cons, List.take_zero, List.drop_succ_cons, List.drop_zero]
  obtain ⟨xF20_0, xF20_1, xF20_2⟩ := F2.ce3
  obtain ⟨xF30_0, xF30_1, xF30_2⟩ := F3.ce3
  have hHeld : (fun w' : World => w'.cell? ⟨w.heap.size, 0, none⟩ = some (.bool xn) ∧ w'.cell? ⟨w.heap.size, 1, none⟩ = some (.string xS) ∧ w'.cell? ⟨w.heap.size, 2, none⟩ = some (.string xT) ∧ w'.cell? ⟨w.heap.size + 1, 0, none⟩ = some (.bool yn) ∧ w'.cell? ⟨w.heap.size + 1, 1, none⟩ = some (.string yS) ∧ w'.cell? ⟨w.heap.size + 1, 2, none⟩ = some (.string yT)) ((((w).alloc (.cells #[.bool xn, .string xS, .string xT] 24)).alloc (.cells #[.bool yn, .string yS, .string yT] 24)).alloc (.cells #[.bool false, .string { data := #[] }, .string { data := #[] }] 24)).drew := ⟨xF20_0, xF20_1, xF20_2, xF30_0, xF30_1, xF30_2⟩
  refine wpAny_of_held (S := fun w' : World => w'.cell? ⟨w.heap.size, 0, none⟩ = some (.bool xn) ∧ w'.cell? ⟨w.heap.size, 1, none⟩ = some (.string xS) ∧ w'.cell? ⟨w.heap.size, 2, none⟩ = some (.string xT) ∧ w'.cell? ⟨w.heap.size + 1, 0, none⟩ = some (.bool yn) ∧ w'.cell? ⟨w.heap.size + 1, 1, none⟩ = some (.string yS) ∧ w'.cell? ⟨w.heap.size + 1, 2, none⟩ = some (.string yT)) _ _ _ _ ?_
  replace F2 := F2.drew
  replace F3 := F3.drew
  replace F4 := F4.drew
  replace B0 := B0.drew
  refine wpAnyH_take (i := 0) (v := _) (by first | (simp only [List.getElem?_toArray, List.getElem?_cons_zero]; rfl) | rfl) (by kernel_rfl) (by kernel_rfl) (by kernel_rfl) (by exact fun _ _ _ h => h) (Or.inl ⟨by rfl, by (intro w hSw; (try dsimp only at hSw); go_simp; try with_reducible rfl)⟩) (by assumption) ?_
  (try dsimp only [Act.put]); (try go_frame)
  refine wpAnyH_take (i := 1) (v := _) (by first | (simp only [List.getElem?_toArray, List.getElem?_cons_zero, List.getElem?_cons_succ]; rfl) | rfl) (by kernel_rfl) (by kernel_rfl) (by kernel_rfl) (by exact fun _ _ _ h => h) (Or.inl ⟨by rfl, by (intro w hSw; (try dsimp only at hSw); go_simp; try with_reducible rfl)⟩) (by assumption) ?_
  (try dsimp only [Act.put]); (try go_frame)
  refine wpAnyH_take (i := 2) (v := _) (by first | (simp only [List.getElem?_toArray, List.getElem?_cons_zero, List.getElem?_cons_succ]; rfl) | rfl) (by kernel_rfl) (by kernel_rfl) (by kernel_rfl) (by exact fun _ _ _ h => h) (Or.inl ⟨by rfl, by (intro w hSw; (try dsimp only at hSw); go_simp; try with_reducible rfl)⟩) (by assumption) ?_
  (try dsimp only [Act.put]); (try go_frame)
  refine wpAnyH_take (i := 3) (v := _) (by first | (simp only [List.getElem?_toArray, List.getElem?_cons_zero, List.getElem?_cons_succ]; rfl) | rfl) (by kernel_rfl) (by kernel_rfl) (by kernel_rfl) (by exact fun _ _ _ h => h) (Or.inl ⟨by rfl, by (intro w hSw; (try dsimp only at hSw); go_simp; try with_reducible rfl)⟩) (by assumption) ?_
  (try dsimp only [Act.put]); (try go_frame)
  refine wpAnyH_take (i := 5) (v := _) (by first | (simp only [List.getElem?_toArray, List.getElem?_cons_zero, List.getElem?_cons_succ]; rfl) | rfl) (by kernel_rfl) (by kernel_rfl) (by kernel_rfl) (by exact fun _ _ _ h => h) (Or.inl ⟨by rfl, by (intro w hSw; (try dsimp only at hSw); go_simp; try with_reducible rfl)⟩) (by assumption) ?_
  (try dsimp only [Act.put]); (try go_frame)
  refine wpAnyH_take (i := 6) (v := _) (by first | (simp only [List.getElem?_toArray, List.getElem?_cons_zero, List.getElem?_cons_succ]; rfl) | rfl) (by kernel_rfl) (by kernel_rfl) (by kernel_rfl) (by exact fun _ _ _ h => h) (Or.inl ⟨by rfl, by (intro w hSw; (try dsimp only at hSw); go_simp; try with_reducible rfl)⟩) (by assumption) ?_
  (try dsimp only [Act.put]); (try go_frame)
  refine wpAnyH_take (i := 7) (v := _) (by first | (simp only [List.getElem?_toArray, List.getElem?_cons_zero, List.getElem?_cons_succ]; rfl) | rfl) (by kernel_rfl) (by kernel_rfl) (by kernel_rfl) (by exact fun _ _ _ h => h) (Or.inl ⟨by rfl, by (intro w hSw; (try dsimp only at hSw); go_simp; try with_reducible rfl)⟩) (by assumption) ?_
  (try dsimp only [Act.put]); (try go_frame)
  refine wpAnyH_take (i := 8) (v := _) (by first | (simp only [List.getElem?_toArray, List.getElem?_cons_zero, List.getElem?_cons_succ]; rfl) | rfl) (by kernel_rfl) (by kernel_rfl) (by kernel_rfl) (by exact fun _ _ _ h => h) (Or.inl ⟨by rfl, by (intro w hSw; (try dsimp only at hSw); go_simp; try with_reducible rfl)⟩) (by assumption) ?_
  (try dsimp only [Act.put]); (try go_frame)
  refine wpAnyH_ready (rs := [4]) (by kernel_rfl) (by simp) ?_
  refine AllReadyH.cons rfl (fun K hK => ?_) AllReadyH.nil
  go_simp
  (with_reducible refine (h1 _).mono ?_)
  rintro r w1 ⟨rfl, hb1⟩
  clear xF20_0 xF20_1 xF20_2 xF30_0 xF30_1 xF30_2
  replace F2 := F2.keep hb1
  replace F3 := F3.keep hb1
  replace F4 := F4.keep hb1
  replace B0 := B0.trans (hb1.mono B0.size)
  clear hb1
  obtain ⟨xF22_0, xF22_1, xF22_2⟩ := F2.ce3
  obtain ⟨xF32_0, xF32_1, xF32_2⟩ := F3.ce3
  refine hK.out _ _ ?_ (fun hHeld => ?_)
  · exact ⟨xF22_0, xF22_1, xF22_2, xF32_0, xF32_1, xF32_2⟩
  clear hK K
  (try dsimp only [Act.put]); (try go_frame)
  refine wpAnyH_ready (rs := [9]) (by kernel_rfl) (by simp) ?_
  refine AllReadyH.cons rfl (fun K hK => ?_) AllReadyH.nil
  go_simp
  (with_reducible refine (h2 _).mono ?_)
  rintro r w2 ⟨rfl, hb2⟩
  clear xF22_0 xF22_1 xF22_2 xF32_0 xF32_1 xF32_2
  replace F2 := F2.keep hb2
  replace F3 := F3.keep hb2
  replace F4 := F4.keep hb2
  replace B0 := B0.trans (hb2.mono B0.size)
  clear hb2
  obtain ⟨xF23_0, xF23_1, xF23_2⟩ := F2.ce3
  obtain ⟨xF33_0, xF33_1, xF33_2⟩ := F3.ce3
  refine hK.out _ _ ?_ (fun hHeld => ?_)
  · exact ⟨xF23_0, xF23_1, xF23_2, xF33_0, xF33_1, xF33_2⟩
  clear hK K
  (try dsimp only [Act.put]); (try go_frame)
  refine wpAnyH_done (by kernel_rfl) ?_ _
  try simp only [QCut]
  clear hHeld
  clear xF23_0 xF23_1 xF23_2 xF33_0 xF33_1 xF33_2
  obtain ⟨xF23_0, xF23_1, xF23_2⟩ := F2.ce3
  obtain ⟨xF33_0, xF33_1, xF33_2⟩ := F3.ce3
  go_wp2_with fail
  (with_reducible refine (h3 _).mono ?_)
  rintro r w3 ⟨rfl, hb3⟩
  clear xF23_0 xF23_1 xF23_2 xF33_0 xF33_1 xF33_2
  replace F2 := F2.keep hb3
  replace F3 := F3.keep hb3
  replace F4 := F4.keep hb3
  replace B0 := B0.trans (hb3.mono B0.size)
  clear hb3
  obtain ⟨xF24_0, xF24_1, xF24_2⟩ := F2.ce3
  obtain ⟨xF34_0, xF34_1, xF34_2⟩ := F3.ce3
  go_wp2_with fail
  (with_reducible refine (h4 _).mono ?_)
  rintro r w4 ⟨rfl, hb4⟩
  clear xF24_0 xF24_1 xF24_2 xF34_0 xF34_1 xF34_2
  replace F2 := F2.keep hb4
  replace F3 := F3.keep hb4
  replace F4 := F4.keep hb4
  replace B0 := B0.trans (hb4.mono B0.size)
  clear hb4
  obtain ⟨xF25_0, xF25_1, xF25_2⟩ := F2.ce3
  go_wp2_with fail
  (with_reducible refine (h5 _).mono ?_)
  rintro r w5 ⟨rfl, hb5⟩
  clear xF25_0 xF25_1 xF25_2
  replace F2 := F2.keep hb5
  clear F3
  replace F4 := F4.keep hb5
  replace B0 := B0.trans (hb5.mono B0.size)
  clear hb5
  obtain ⟨xF46_0, xF46_1, xF46_2⟩ := F4.ce3
  obtain ⟨xF46_0f, xF46_1f, xF46_2f⟩ := F4.fr3
  clear F2
  replace F4 : Blk ((((w5).setCell ⟨w.heap.size + 1 + 1, 0, none⟩ (.bool vn)).setCell ⟨w.heap.size + 1 + 1, 1, none⟩ (.string vS)).setCell ⟨w.heap.size + 1 + 1, 2, none⟩ (.string vT)) (w.heap.size + 1 + 1) #[.bool vn, .string vS, .string vT] 24 := (((F4.setAt 0 (.bool vn)).setAt 1 (.string vS)).setAt 2 (.string vT))
  replace B0 := (((B0.setCell (p := ⟨w.heap.size + 1 + 1, 0, none⟩) q_w_F4.out (.bool vn)).setCell (p := ⟨w.heap.size + 1 + 1, 1, none⟩) q_w_F4.out (.string vS)).setCell (p := ⟨w.heap.size + 1 + 1, 2, none⟩) q_w_F4.out (.string vT))
  obtain ⟨xF47_0, xF47_1, xF47_2⟩ := F4.ce3
  go_wp2
  exact bodyPost_ret (v := .agg #[.bool vn, .string vS, .string vT]) (by simp [results, Tryz.results16, go_sem, xF47_0, xF47_1, xF47_2]) rfl ⟨rfl, B0⟩
set_option maxRecDepth 100000 in
set_option maxHeartbeats 8000000 in
theorem p4add_1 (xn : Bool) (xS xT : ByteArray) (yn : Bool) (yS yT : ByteArray) (P Q D M : ByteArray) (vn : Bool) (vS vT : ByteArray) (w : World) (h1 : ∀ W, Calls Tryz.prog 50 #[.string xS, .string yT] W fun r w' => r = .returned (.string P) ∧ Below W.heap.size W w') (h2 : ∀ W, Calls Tryz.prog 50 #[.string yS, .string xT] W fun r w' => r = .returned (.string Q) ∧ Below W.heap.size W w') (h3 : ∀ W, Calls Tryz.prog 50 #[.string xT, .string yT] W fun r w' => r = .returned (.string D) ∧ Below W.heap.size W w') (hs : (xn == yn) = false) (cz : Int) (hz : 0 ≤ cz) (h6 : ∀ W, Calls Tryz.prog 53 #[.string P, .string Q] W fun r w' => r = .returned (.int .i64 cz) ∧ Below W.heap.size W w') (h4 : ∀ W, Calls Tryz.prog 54 #[.string P, .string Q] W fun r w' => r = .returned (.tuple #[.string M, .int .i64 0]) ∧ Below W.heap.size W w') (h5 : ∀ W, Calls Tryz.prog 52 #[.bool xn, .string M, .string D] W fun r w' => r = .returned (.agg #[.bool vn, .string vS, .string vT]) ∧ Below W.heap.size W w') :
    Calls Tryz.prog 16 #[.agg #[.bool xn, .string xS, .string xT], .agg #[.bool yn, .string yS, .string yT]] w fun r w' => r = .returned (.agg #[.bool vn, .string vS, .string vT]) ∧ Below w.heap.size w w' := by
  go_enter Tryz.func16, Tryz.ntmps16
  have B0 := Below.refl w.heap.size w
  have F2 := Blk.put (w) #[.bool xn, .string xS, .string xT] 24
  replace B0 := B0.alloc B0.size (.cells #[.bool xn, .string xS, .string xT] 24)
  replace F2 := F2.allocd (.cells #[.bool yn, .string yS, .string yT] 24)
  have F3 := Blk.put ((w).alloc (.cells #[.bool xn, .string xS, .string xT] 24)) #[.bool yn, .string yS, .string yT] 24
  rw [show ((w).alloc (.cells #[.bool xn, .string xS, .string xT] 24)).heap.size = w.heap.size + 1 by simp] at F3
  replace B0 := B0.alloc B0.size (.cells #[.bool yn, .string yS, .string yT] 24)
  have q_w_F4 : Hid (w.heap.size ≤ w.heap.size + 1 + 1) := Lib.hid (by omega)
  replace F2 := F2.allocd (.cells #[.bool false, .string { data := #[] }, .string { data := #[] }] 24)
  replace F3 := F3.allocd (.cells #[.bool false, .string { data := #[] }, .string { data := #[] }] 24)
  have F4 := Blk.put (((w).alloc (.cells #[.bool xn, .string xS, .string xT] 24)).alloc (.cells #[.bool yn, .string yS, .string yT] 24)) #[.bool false, .string { data := #[] }, .string { data := #[] }] 24
  rw [show (((w).alloc (.cells #[.bool xn, .string xS, .string xT] 24)).alloc (.cells #[.bool yn, .string yS, .string yT] 24)).heap.size = w.heap.size + 1 + 1 by simp] at F4
  replace B0 := B0.alloc B0.size (.cells #[.bool false, .string { data := #[] }, .string { data := #[] }] 24)
  go_wp2_with fail
  refine wp_region_cut 10 (by kernel_rfl) (by kernel_rfl) ?_
  rintro W rfl
  simp only [List.take_succ_cons, List.take_zero, List.drop_succ_cons, List.drop_zero]
  obtain ⟨xF20_0, xF20_1, xF20_2⟩ := F2.ce3
  obtain ⟨xF30_0, xF30_1, xF30_2⟩ := F3.ce3
  have hHeld : (fun w' : World => w'.cell? ⟨w.heap.size, 0, none⟩ = some (.bool xn) ∧ w'.cell? ⟨w.heap.size, 1, none⟩ = some (.string xS) ∧ w'.cell? ⟨w.heap.size, 2, none⟩ = some (.string xT) ∧ w'.cell? ⟨w.heap.size + 1, 0, none⟩ = some (.bool yn) ∧ w'.cell? ⟨w.heap.size + 1, 1, none⟩ = some (.string yS) ∧ w'.cell? ⟨w.heap.size + 1, 2, none⟩ = some (.string yT)) ((((w).alloc (.cells #[.bool xn, .string xS, .string xT] 24)).alloc (.cells #[.bool yn, .string yS, .string yT] 24)).alloc (.cells #[.bool false, .string { data := #[] }, .string { data := #[] }] 24)).drew := ⟨xF20_0, xF20_1, xF20_2, xF30_0, xF30_1, xF30_2⟩
  refine wpAny_of_held (S := fun w' : World => w'.cell? ⟨w.heap.size, 0, none⟩ = some (.bool xn) ∧ w'.cell? ⟨w.heap.size, 1, none⟩ = some (.string xS) ∧ w'.cell? ⟨w.heap.size, 2, none⟩ = some (.string xT) ∧ w'.cell? ⟨w.heap.size + 1, 0, none⟩ = some (.bool yn) ∧ w'.cell? ⟨w.heap.size + 1, 1, none⟩ = some (.string yS) ∧ w'.cell? ⟨w.heap.size + 1, 2, none⟩ = some (.string yT)) _ _ _ _ ?_
  replace F2 := F2.drew
  replace F3 := F3.drew
  replace F4 := F4.drew
  replace B0 := B0.drew
  refine wpAnyH_take (i := 0) (v := _) (by first | (simp only [List.getElem?_toArray, List.getElem?_cons_zero]; rfl) | rfl) (by kernel_rfl) (by kernel_rfl) (by kernel_rfl) (by exact fun _ _ _ h => h) (Or.inl ⟨by rfl, by (intro w hSw; (try dsimp only at hSw); go_simp; try with_reducible rfl)⟩) (by assumption) ?_
  (try dsimp only [Act.put]); (try go_frame)
  refine wpAnyH_take (i := 1) (v := _) (by first | (simp only [List.getElem?_toArray, List.getElem?_cons_zero, List.getElem?_cons_succ]; rfl) | rfl) (by kernel_rfl) (by kernel_rfl) (by kernel_rfl) (by exact fun _ _ _ h => h) (Or.inl ⟨by rfl, by (intro w hSw; (try dsimp only at hSw); go_simp; try with_reducible rfl)⟩) (by assumption) ?_
  (try dsimp only [Act.put]); (try go_frame)
  refine wpAnyH_take (i := 2) (v := _) (by first | (simp only [List.getElem?_toArray, List.getElem?_cons_zero, List.getElem?_cons_succ]; rfl) | rfl) (by kernel_rfl) (by kernel_rfl) (by kernel_rfl) (by exact fun _ _ _ h => h) (Or.inl ⟨by rfl, by (intro w hSw; (try dsimp only at hSw); go_simp; try with_reducible rfl)⟩) (by assumption) ?_
  (try dsimp only [Act.put]); (try go_frame)
  refine wpAnyH_take (i := 3) (v := _) (by first | (simp only [List.getElem?_toArray, List.getElem?_cons_zero, List.getElem?_cons_succ]; rfl) | rfl) (by kernel_rfl) (by kernel_rfl) (by kernel_rfl) (by exact fun _ _ _ h => h) (Or.inl ⟨by rfl, by (intro w hSw; (try dsimp only at hSw); go_simp; try with_reducible rfl)⟩) (by assumption) ?_
  (try dsimp only [Act.put]); (try go_frame)
  refine wpAnyH_take (i := 5) (v := _) (by first | (simp only [List.getElem?_toArray, List.getElem?_cons_zero, List.getElem?_cons_succ]; rfl) | rfl) (by kernel_rfl) (by kernel_rfl) (by kernel_rfl) (by exact fun _ _ _ h => h) (Or.inl ⟨by rfl, by (intro w hSw; (try dsimp only at hSw); go_simp; try with_reducible rfl)⟩) (by assumption) ?_
  (try dsimp only [Act.put]); (try go_frame)
  refine wpAnyH_take (i := 6) (v := _) (by first | (simp only [List.getElem?_toArray, List.getElem?_cons_zero, List.getElem?_cons_succ]; rfl) | rfl) (by kernel_rfl) (by kernel_rfl) (by kernel_rfl) (by exact fun _ _ _ h => h) (Or.inl ⟨by rfl, by (intro w hSw; (try dsimp only at hSw); go_simp; try with_reducible rfl)⟩) (by assumption) ?_
  (try dsimp only [Act.put]); (try go_frame)
  refine wpAnyH_take (i := 7) (v := _) (by first | (simp only [List.getElem?_toArray, List.getElem?_cons_zero, List.getElem?_cons_succ]; rfl) | rfl) (by kernel_rfl) (by kernel_rfl) (by kernel_rfl) (by exact fun _ _ _ h => h) (Or.inl ⟨by rfl, by (intro w hSw; (try dsimp only at hSw); go_simp; try with_reducible rfl)⟩) (by assumption) ?_
  (try dsimp only [Act.put]); (try go_frame)
  refine wpAnyH_take (i := 8) (v := _) (by first | (simp only [List.getElem?_toArray, List.getElem?_cons_zero, List.getElem?_cons_succ]; rfl) | rfl) (by kernel_rfl) (by kernel_rfl) (by kernel_rfl) (by exact fun _ _ _ h => h) (Or.inl ⟨by rfl, by (intro w hSw; (try dsimp only at hSw); go_simp; try with_reducible rfl)⟩) (by assumption) ?_
  (try dsimp only [Act.put]); (try go_frame)
  refine wpAnyH_ready (rs := [4]) (by kernel_rfl) (by simp) ?_
  refine AllReadyH.cons rfl (fun K hK => ?_) AllReadyH.nil
  go_simp
  (with_reducible refine (h1 _).mono ?_)
  rintro r w1 ⟨rfl, hb1⟩
  clear xF20_0 xF20_1 xF20_2 xF30_0 xF30_1 xF30_2
  replace F2 := F2.keep hb1
  replace F3 := F3.keep hb1
  replace F4 := F4.keep hb1
  replace B0 := B0.trans (hb1.mono B0.size)
  clear hb1
  obtain ⟨xF22_0, xF22_1, xF22_2⟩ := F2.ce3
  obtain ⟨xF32_0, xF32_1, xF32_2⟩ := F3.ce3
  refine hK.out _ _ ?_ (fun hHeld => ?_)
  · exact ⟨xF22_0, xF22_1, xF22_2, xF32_0, xF32_1, xF32_2⟩
  clear hK K
  (try dsimp only [Act.put]); (try go_frame)
  refine wpAnyH_ready (rs := [9]) (by kernel_rfl) (by simp) ?_
  refine AllReadyH.cons rfl (fun K hK => ?_) AllReadyH.nil
  go_simp
  (with_reducible refine (h2 _).mono ?_)
  rintro r w2 ⟨rfl, hb2⟩
  clear xF22_0 xF22_1 xF22_2 xF32_0 xF32_1 xF32_2
  replace F2 := F2.keep hb2
  replace F3 := F3.keep hb2
  replace F4 := F4.keep hb2
  replace B0 := B0.trans (hb2.mono B0.size)
  clear hb2
  obtain ⟨xF23_0, xF23_1, xF23_2⟩ := F2.ce3
  obtain ⟨xF33_0, xF33_1, xF33_2⟩ := F3.ce3
  refine hK.out _ _ ?_ (fun hHeld => ?_)
  · exact ⟨xF23_0, xF23_1, xF23_2, xF33_0, xF33_1, xF33_2⟩
  clear hK K
  (try dsimp only [Act.put]); (try go_frame)
  refine wpAnyH_done (by kernel_rfl) ?_ _
  try simp only [QCut]
  clear hHeld
  clear xF23_0 xF23_1 xF23_2 xF33_0 xF33_1 xF33_2
  obtain ⟨xF23_0, xF23_1, xF23_2⟩ := F2.ce3
  obtain ⟨xF33_0, xF33_1, xF33_2⟩ := F3.ce3
  go_wp2_with fail
  (with_reducible refine (h3 _).mono ?_)
  rintro r w3 ⟨rfl, hb3⟩
  clear xF23_0 xF23_1 xF23_2 xF33_0 xF33_1 xF33_2
  replace F2 := F2.keep hb3
  replace F3 := F3.keep hb3
  replace F4 := F4.keep hb3
  replace B0 := B0.trans (hb3.mono B0.size)
  clear hb3
  obtain ⟨xF24_0, xF24_1, xF24_2⟩ := F2.ce3
  obtain ⟨xF34_0, xF34_1, xF34_2⟩ := F3.ce3
  go_wp2_with fail
  (with_reducible refine (h6 _).mono ?_)
  rintro r w4 ⟨rfl, hb4⟩
  clear xF24_0 xF24_1 xF24_2 xF34_0 xF34_1 xF34_2
  replace F2 := F2.keep hb4
  replace F3 := F3.keep hb4
  replace F4 := F4.keep hb4
  replace B0 := B0.trans (hb4.mono B0.size)
  clear hb4
  go_wp2_with fail
  (with_reducible refine (h4 _).mono ?_)
  rintro r w5 ⟨rfl, hb5⟩
  replace F2 := F2.keep hb5
  clear F3
  replace F4 := F4.keep hb5
  replace B0 := B0.trans (hb5.mono B0.size)
  clear hb5
  obtain ⟨xF26_0, xF26_1, xF26_2⟩ := F2.ce3
  go_wp2_with fail
  (with_reducible refine (h5 _).mono ?_)
  rintro r w6 ⟨rfl, hb6⟩
  clear xF26_0 xF26_1 xF26_2
  replace F2 := F2.keep hb6
  replace F4 := F4.keep hb6
  replace B0 := B0.trans (hb6.mono B0.size)
  clear hb6
  obtain ⟨xF47_0, xF47_1, xF47_2⟩ := F4.ce3
  obtain ⟨xF47_0f, xF47_1f, xF47_2f⟩ := F4.fr3
  clear F2
  replace F4 : Blk ((((w6).setCell ⟨w.heap.size + 1 + 1, 0, none⟩ (.bool vn)).setCell ⟨w.heap.size + 1 + 1, 1, none⟩ (.string vS)).setCell ⟨w.heap.size + 1 + 1, 2, none⟩ (.string vT)) (w.heap.size + 1 + 1) #[.bool vn, .string vS, .string vT] 24 := (((F4.setAt 0 (.bool vn)).setAt 1 (.string vS)).setAt 2 (.string vT))
  replace B0 := (((B0.setCell (p := ⟨w.heap.size + 1 + 1, 0, none⟩) q_w_F4.out (.bool vn)).setCell (p := ⟨w.heap.size + 1 + 1, 1, none⟩) q_w_F4.out (.string vS)).setCell (p := ⟨w.heap.size + 1 + 1, 2, none⟩) q_w_F4.out (.string vT))
  obtain ⟨xF48_0, xF48_1, xF48_2⟩ := F4.ce3
  go_wp2
  exact bodyPost_ret (v := .agg #[.bool vn, .string vS, .string vT]) (by simp [results, Tryz.results16, go_sem, xF48_0, xF48_1, xF48_2]) rfl ⟨rfl, B0⟩
set_option maxRecDepth 100000 in
set_option maxHeartbeats 8000000 in
theorem p4add_2 (xn : Bool) (xS xT : ByteArray) (yn : Bool) (yS yT : ByteArray) (P Q D M : ByteArray) (vn : Bool) (vS vT : ByteArray) (w : World) (h1 : ∀ W, Calls Tryz.prog 50 #[.string xS, .string yT] W fun r w' => r = .returned (.string P) ∧ Below W.heap.size W w') (h2 : ∀ W, Calls Tryz.prog 50 #[.string yS, .string xT] W fun r w' => r = .returned (.string Q) ∧ Below W.heap.size W w') (h3 : ∀ W, Calls Tryz.prog 50 #[.string xT, .string yT] W fun r w' => r = .returned (.string D) ∧ Below W.heap.size W w') (hs : (xn == yn) = false) (cz : Int) (hz : ¬ 0 ≤ cz) (h6 : ∀ W, Calls Tryz.prog 53 #[.string P, .string Q] W fun r w' => r = .returned (.int .i64 cz) ∧ Below W.heap.size W w') (h4 : ∀ W, Calls Tryz.prog 54 #[.string Q, .string P] W fun r w' => r = .returned (.tuple #[.string M, .int .i64 0]) ∧ Below W.heap.size W w') (h5 : ∀ W, Calls Tryz.prog 52 #[.bool yn, .string M, .string D] W fun r w' => r = .returned (.agg #[.bool vn, .string vS, .string vT]) ∧ Below W.heap.size W w') :
    Calls Tryz.prog 16 #[.agg #[.bool xn, .string xS, .string xT], .agg #[.bool yn, .string yS, .string yT]] w fun r w' => r = .returned (.agg #[.bool vn, .string vS, .string vT]) ∧ Below w.heap.size w w' := by
  go_enter Tryz.func16, Tryz.ntmps16
  have B0 := Below.refl w.heap.size w
  have F2 := Blk.put (w) #[.bool xn, .string xS, .string xT] 24
  replace B0 := B0.alloc B0.size (.cells #[.bool xn, .string xS, .string xT] 24)
  replace F2 := F2.allocd (.cells #[.bool yn, .string yS, .string yT] 24)
  have F3 := Blk.put ((w).alloc (.cells #[.bool xn, .string xS, .string xT] 24)) #[.bool yn, .string yS, .string yT] 24
  rw [show ((w).alloc (.cells #[.bool xn, .string xS, .string xT] 24)).heap.size = w.heap.size + 1 by simp] at F3
  replace B0 := B0.alloc B0.size (.cells #[.bool yn, .string yS, .string yT] 24)
  have q_w_F4 : Hid (w.heap.size ≤ w.heap.size + 1 + 1) := Lib.hid (by omega)
  replace F2 := F2.allocd (.cells #[.bool false, .string { data := #[] }, .string { data := #[] }] 24)
  replace F3 := F3.allocd (.cells #[.bool false, .string { data := #[] }, .string { data := #[] }] 24)
  have F4 := Blk.put (((w).alloc (.cells #[.bool xn, .string xS, .string xT] 24)).alloc (.cells #[.bool yn, .string yS, .string yT] 24)) #[.bool false, .string { data := #[] }, .string { data := #[] }] 24
  rw [show (((w).alloc (.cells #[.bool xn, .string xS, .string xT] 24)).alloc (.cells #[.bool yn, .string yS, .string yT] 24)).heap.size = w.heap.size + 1 + 1 by simp] at F4
  replace B0 := B0.alloc B0.size (.cells #[.bool false, .string { data := #[] }, .string { data := #[] }] 24)
  go_wp2_with fail
  refine wp_region_cut 10 (by kernel_rfl) (by kernel_rfl) ?_
  rintro W rfl
  simp only [List.take_succ_cons, List.take_zero, List.drop_succ_cons, List.drop_zero]
  obtain ⟨xF20_0, xF20_1, xF20_2⟩ := F2.ce3
  obtain ⟨xF30_0, xF30_1, xF30_2⟩ := F3.ce3
  have hHeld : (fun w' : World => w'.cell? ⟨w.heap.size, 0, none⟩ = some (.bool xn) ∧ w'.cell? ⟨w.heap.size, 1, none⟩ = some (.string xS) ∧ w'.cell? ⟨w.heap.size, 2, none⟩ = some (.string xT) ∧ w'.cell? ⟨w.heap.size + 1, 0, none⟩ = some (.bool yn) ∧ w'.cell? ⟨w.heap.size + 1, 1, none⟩ = some (.string yS) ∧ w'.cell? ⟨w.heap.size + 1, 2, none⟩ = some (.string yT)) ((((w).alloc (.cells #[.bool xn, .string xS, .string xT] 24)).alloc (.cells #[.bool yn, .string yS, .string yT] 24)).alloc (.cells #[.bool false, .string { data := #[] }, .string { data := #[] }] 24)).drew := ⟨xF20_0, xF20_1, xF20_2, xF30_0, xF30_1, xF30_2⟩
  refine wpAny_of_held (S := fun w' : World => w'.cell? ⟨w.heap.size, 0, none⟩ = some (.bool xn) ∧ w'.cell? ⟨w.heap.size, 1, none⟩ = some (.string xS) ∧ w'.cell? ⟨w.heap.size, 2, none⟩ = some (.string xT) ∧ w'.cell? ⟨w.heap.size + 1, 0, none⟩ = some (.bool yn) ∧ w'.cell? ⟨w.heap.size + 1, 1, none⟩ = some (.string yS) ∧ w'.cell? ⟨w.heap.size + 1, 2, none⟩ = some (.string yT)) _ _ _ _ ?_
  replace F2 := F2.drew
  replace F3 := F3.drew
  replace F4 := F4.drew
  replace B0 := B0.drew
  refine wpAnyH_take (i := 0) (v := _) (by first | (simp only [List.getElem?_toArray, List.getElem?_cons_zero]; rfl) | rfl) (by kernel_rfl) (by kernel_rfl) (by kernel_rfl) (by exact fun _ _ _ h => h) (Or.inl ⟨by rfl, by (intro w hSw; (try dsimp only at hSw); go_simp; try with_reducible rfl)⟩) (by assumption) ?_
  (try dsimp only [Act.put]); (try go_frame)
  refine wpAnyH_take (i := 1) (v := _) (by first | (simp only [List.getElem?_toArray, List.getElem?_cons_zero, List.getElem?_cons_succ]; rfl) | rfl) (by kernel_rfl) (by kernel_rfl) (by kernel_rfl) (by exact fun _ _ _ h => h) (Or.inl ⟨by rfl, by (intro w hSw; (try dsimp only at hSw); go_simp; try with_reducible rfl)⟩) (by assumption) ?_
  (try dsimp only [Act.put]); (try go_frame)
  refine wpAnyH_take (i := 2) (v := _) (by first | (simp only [List.getElem?_toArray, List.getElem?_cons_zero, List.getElem?_cons_succ]; rfl) | rfl) (by kernel_rfl) (by kernel_rfl) (by kernel_rfl) (by exact fun _ _ _ h => h) (Or.inl ⟨by rfl, by (intro w hSw; (try dsimp only at hSw); go_simp; try with_reducible rfl)⟩) (by assumption) ?_
  (try dsimp only [Act.put]); (try go_frame)
  refine wpAnyH_take (i := 3) (v := _) (by first | (simp only [List.getElem?_toArray, List.getElem?_cons_zero, List.getElem?_cons_succ]; rfl) | rfl) (by kernel_rfl) (by kernel_rfl) (by kernel_rfl) (by exact fun _ _ _ h => h) (Or.inl ⟨by rfl, by (intro w hSw; (try dsimp only at hSw); go_simp; try with_reducible rfl)⟩) (by assumption) ?_
  (try dsimp only [Act.put]); (try go_frame)
  refine wpAnyH_take (i := 5) (v := _) (by first | (simp only [List.getElem?_toArray, List.getElem?_cons_zero, List.getElem?_cons_succ]; rfl) | rfl) (by kernel_rfl) (by kernel_rfl) (by kernel_rfl) (by exact fun _ _ _ h => h) (Or.inl ⟨by rfl, by (intro w hSw; (try dsimp only at hSw); go_simp; try with_reducible rfl)⟩) (by assumption) ?_
  (try dsimp only [Act.put]); (try go_frame)
  refine wpAnyH_take (i := 6) (v := _) (by first | (simp only [List.getElem?_toArray, List.getElem?_cons_zero, List.getElem?_cons_succ]; rfl) | rfl) (by kernel_rfl) (by kernel_rfl) (by kernel_rfl) (by exact fun _ _ _ h => h) (Or.inl ⟨by rfl, by (intro w hSw; (try dsimp only at hSw); go_simp; try with_reducible rfl)⟩) (by assumption) ?_
  (try dsimp only [Act.put]); (try go_frame)
  refine wpAnyH_take (i := 7) (v := _) (by first | (simp only [List.getElem?_toArray, List.getElem?_cons_zero, List.getElem?_cons_succ]; rfl) | rfl) (by kernel_rfl) (by kernel_rfl) (by kernel_rfl) (by exact fun _ _ _ h => h) (Or.inl ⟨by rfl, by (intro w hSw; (try dsimp only at hSw); go_simp; try with_reducible rfl)⟩) (by assumption) ?_
  (try dsimp only [Act.put]); (try go_frame)
  refine wpAnyH_take (i := 8) (v := _) (by first | (simp only [List.getElem?_toArray, List.getElem?_cons_zero, List.getElem?_cons_succ]; rfl) | rfl) (by kernel_rfl) (by kernel_rfl) (by kernel_rfl) (by exact fun _ _ _ h => h) (Or.inl ⟨by rfl, by (intro w hSw; (try dsimp only at hSw); go_simp; try with_reducible rfl)⟩) (by assumption) ?_
  (try dsimp only [Act.put]); (try go_frame)
  refine wpAnyH_ready (rs := [4]) (by kernel_rfl) (by simp) ?_
  refine AllReadyH.cons rfl (fun K hK => ?_) AllReadyH.nil
  go_simp
  (with_reducible refine (h1 _).mono ?_)
  rintro r w1 ⟨rfl, hb1⟩
  clear xF20_0 xF20_1 xF20_2 xF30_0 xF30_1 xF30_2
  replace F2 := F2.keep hb1
  replace F3 := F3.keep hb1
  replace F4 := F4.keep hb1
  replace B0 := B0.trans (hb1.mono B0.size)
  clear hb1
  obtain ⟨xF22_0, xF22_1, xF22_2⟩ := F2.ce3
  obtain ⟨xF32_0, xF32_1, xF32_2⟩ := F3.ce3
  refine hK.out _ _ ?_ (fun hHeld => ?_)
  · exact ⟨xF22_0, xF22_1, xF22_2, xF32_0, xF32_1, xF32_2⟩
  clear hK K
  (try dsimp only [Act.put]); (try go_frame)
  refine wpAnyH_ready (rs := [9]) (by kernel_rfl) (by simp) ?_
  refine AllReadyH.cons rfl (fun K hK => ?_) AllReadyH.nil
  go_simp
  (with_reducible refine (h2 _).mono ?_)
  rintro r w2 ⟨rfl, hb2⟩
  clear xF22_0 xF22_1 xF22_2 xF32_0 xF32_1 xF32_2
  replace F2 := F2.keep hb2
  replace F3 := F3.keep hb2
  replace F4 := F4.keep hb2
  replace B0 := B0.trans (hb2.mono B0.size)
  clear hb2
  obtain ⟨xF23_0, xF23_1, xF23_2⟩ := F2.ce3
  obtain ⟨xF33_0, xF33_1, xF33_2⟩ := F3.ce3
  refine hK.out _ _ ?_ (fun hHeld => ?_)
  · exact ⟨xF23_0, xF23_1, xF23_2, xF33_0, xF33_1, xF33_2⟩
  clear hK K
  (try dsimp only [Act.put]); (try go_frame)
  refine wpAnyH_done (by kernel_rfl) ?_ _
  try simp only [QCut]
  clear hHeld
  clear xF23_0 xF23_1 xF23_2 xF33_0 xF33_1 xF33_2
  obtain ⟨xF23_0, xF23_1, xF23_2⟩ := F2.ce3
  obtain ⟨xF33_0, xF33_1, xF33_2⟩ := F3.ce3
  go_wp2_with fail
  (with_reducible refine (h3 _).mono ?_)
  rintro r w3 ⟨rfl, hb3⟩
  clear xF23_0 xF23_1 xF23_2 xF33_0 xF33_1 xF33_2
  replace F2 := F2.keep hb3
  replace F3 := F3.keep hb3
  replace F4 := F4.keep hb3
  replace B0 := B0.trans (hb3.mono B0.size)
  clear hb3
  obtain ⟨xF24_0, xF24_1, xF24_2⟩ := F2.ce3
  obtain ⟨xF34_0, xF34_1, xF34_2⟩ := F3.ce3
  go_wp2_with fail
  (with_reducible refine (h6 _).mono ?_)
  rintro r w4 ⟨rfl, hb4⟩
  clear xF24_0 xF24_1 xF24_2 xF34_0 xF34_1 xF34_2
  replace F2 := F2.keep hb4
  replace F3 := F3.keep hb4
  replace F4 := F4.keep hb4
  replace B0 := B0.trans (hb4.mono B0.size)
  clear hb4
  go_wp2_with fail
  (with_reducible refine (h4 _).mono ?_)
  rintro r w5 ⟨rfl, hb5⟩
  clear F2
  replace F3 := F3.keep hb5
  replace F4 := F4.keep hb5
  replace B0 := B0.trans (hb5.mono B0.size)
  clear hb5
  obtain ⟨xF36_0, xF36_1, xF36_2⟩ := F3.ce3
  go_wp2_with fail
  (with_reducible refine (h5 _).mono ?_)
  rintro r w6 ⟨rfl, hb6⟩
  clear xF36_0 xF36_1 xF36_2
  replace F3 := F3.keep hb6
  replace F4 := F4.keep hb6
  replace B0 := B0.trans (hb6.mono B0.size)
  clear hb6
  obtain ⟨xF47_0, xF47_1, xF47_2⟩ := F4.ce3
  obtain ⟨xF47_0f, xF47_1f, xF47_2f⟩ := F4.fr3
  clear F3
  replace F4 : Blk ((((w6).setCell ⟨w.heap.size + 1 + 1, 0, none⟩ (.bool vn)).setCell ⟨w.heap.size + 1 + 1, 1, none⟩ (.string vS)).setCell ⟨w.heap.size + 1 + 1, 2, none⟩ (.string vT)) (w.heap.size + 1 + 1) #[.bool vn, .string vS, .string vT] 24 := (((F4.setAt 0 (.bool vn)).setAt 1 (.string vS)).setAt 2 (.string vT))
  replace B0 := (((B0.setCell (p := ⟨w.heap.size + 1 + 1, 0, none⟩) q_w_F4.out (.bool vn)).setCell (p := ⟨w.heap.size + 1 + 1, 1, none⟩) q_w_F4.out (.string vS)).setCell (p := ⟨w.heap.size + 1 + 1, 2, none⟩) q_w_F4.out (.string vT))
  obtain ⟨xF48_0, xF48_1, xF48_2⟩ := F4.ce3
  go_wp2
  exact bodyPost_ret (v := .agg #[.bool vn, .string vS, .string vT]) (by simp [results, Tryz.results16, go_sem, xF48_0, xF48_1, xF48_2]) rfl ⟨rfl, B0⟩
set_option maxRecDepth 100000 in
set_option maxHeartbeats 8000000 in
theorem p4mul_w (xn : Bool) (xS xT : ByteArray) (yn : Bool) (yS yT : ByteArray) (P D : ByteArray) (N vn : Bool) (vS vT : ByteArray) (w : World) (hN : (!(xn == yn)) = N) (h1 : ∀ W, Calls Tryz.prog 50 #[.string xS, .string yS] W fun r w' => r = .returned (.string P) ∧ Below W.heap.size W w') (h2 : ∀ W, Calls Tryz.prog 50 #[.string xT, .string yT] W fun r w' => r = .returned (.string D) ∧ Below W.heap.size W w') (h3 : ∀ W, Calls Tryz.prog 52 #[.bool N, .string P, .string D] W fun r w' => r = .returned (.agg #[.bool vn, .string vS, .string vT]) ∧ Below W.heap.size W w') :
    Calls Tryz.prog 17 #[.agg #[.bool xn, .string xS, .string xT], .agg #[.bool yn, .string yS, .string yT]] w fun r w' => r = .returned (.agg #[.bool vn, .string vS, .string vT]) ∧ Below w.heap.size w w' := by
  go_enter Tryz.func17, Tryz.ntmps17
  have B0 := Below.refl w.heap.size w
  have F2 := Blk.put (w) #[.bool xn, .string xS, .string xT] 24
  replace B0 := B0.alloc B0.size (.cells #[.bool xn, .string xS, .string xT] 24)
  replace F2 := F2.allocd (.cells #[.bool yn, .string yS, .string yT] 24)
  have F3 := Blk.put ((w).alloc (.cells #[.bool xn, .string xS, .string xT] 24)) #[.bool yn, .string yS, .string yT] 24
  rw [show ((w).alloc (.cells #[.bool xn, .string xS, .string xT] 24)).heap.size = w.heap.size + 1 by simp] at F3
  replace B0 := B0.alloc B0.size (.cells #[.bool yn, .string yS, .string yT] 24)
  have q_w_F4 : Hid (w.heap.size ≤ w.heap.size + 1 + 1) := Lib.hid (by omega)
  replace F2 := F2.allocd (.cells #[.bool false, .string { data := #[] }, .string { data := #[] }] 24)
  replace F3 := F3.allocd (.cells #[.bool false, .string { data := #[] }, .string { data := #[] }] 24)
  have F4 := Blk.put (((w).alloc (.cells #[.bool xn, .string xS, .string xT] 24)).alloc (.cells #[.bool yn, .string yS, .string yT] 24)) #[.bool false, .string { data := #[] }, .string { data := #[] }] 24
  rw [show (((w).alloc (.cells #[.bool xn, .string xS, .string xT] 24)).alloc (.cells #[.bool yn, .string yS, .string yT] 24)).heap.size = w.heap.size + 1 + 1 by simp] at F4
  replace B0 := B0.alloc B0.size (.cells #[.bool false, .string { data := #[] }, .string { data := #[] }] 24)
  go_wp2_with fail
  refine wp_region_cut 16 (by kernel_rfl) (by kernel_rfl) ?_
  rintro W rfl
  simp only [List.take_succ_cons, List.take_zero, List.drop_succ_cons, List.drop_zero]
  obtain ⟨xF20_0, xF20_1, xF20_2⟩ := F2.ce3
  obtain ⟨xF30_0, xF30_1, xF30_2⟩ := F3.ce3
  have hHeld : (fun w' : World => w'.cell? ⟨w.heap.size, 0, none⟩ = some (.bool xn) ∧ w'.cell? ⟨w.heap.size, 1, none⟩ = some (.string xS) ∧ w'.cell? ⟨w.heap.size, 2, none⟩ = some (.string xT) ∧ w'.cell? ⟨w.heap.size + 1, 0, none⟩ = some (.bool yn) ∧ w'.cell? ⟨w.heap.size + 1, 1, none⟩ = some (.string yS) ∧ w'.cell? ⟨w.heap.size + 1, 2, none⟩ = some (.string yT)) ((((w).alloc (.cells #[.bool xn, .string xS, .string xT] 24)).alloc (.cells #[.bool yn, .string yS, .string yT] 24)).alloc (.cells #[.bool false, .string { data := #[] }, .string { data := #[] }] 24)).drew := ⟨xF20_0, xF20_1, xF20_2, xF30_0, xF30_1, xF30_2⟩
  refine wpAny_of_held (S := fun w' : World => w'.cell? ⟨w.heap.size, 0, none⟩ = some (.bool xn) ∧ w'.cell? ⟨w.heap.size, 1, none⟩ = some (.string xS) ∧ w'.cell? ⟨w.heap.size, 2, none⟩ = some (.string xT) ∧ w'.cell? ⟨w.heap.size + 1, 0, none⟩ = some (.bool yn) ∧ w'.cell? ⟨w.heap.size + 1, 1, none⟩ = some (.string yS) ∧ w'.cell? ⟨w.heap.size + 1, 2, none⟩ = some (.string yT)) _ _ _ _ ?_
  replace F2 := F2.drew
  replace F3 := F3.drew
  replace F4 := F4.drew
  replace B0 := B0.drew
  refine wpAnyH_take (i := 0) (v := _) (by first | (simp only [List.getElem?_toArray, List.getElem?_cons_zero]; rfl) | rfl) (by kernel_rfl) (by kernel_rfl) (by kernel_rfl) (by exact fun _ _ _ h => h) (Or.inl ⟨by rfl, by (intro w hSw; (try dsimp only at hSw); go_simp; try with_reducible rfl)⟩) (by assumption) ?_
  (try dsimp only [Act.put]); (try go_frame)
  refine wpAnyH_take (i := 1) (v := _) (by first | (simp only [List.getElem?_toArray, List.getElem?_cons_zero, List.getElem?_cons_succ]; rfl) | rfl) (by kernel_rfl) (by kernel_rfl) (by kernel_rfl) (by exact fun _ _ _ h => h) (Or.inl ⟨by rfl, by (intro w hSw; (try dsimp only at hSw); go_simp; try with_reducible rfl)⟩) (by assumption) ?_
  (try dsimp only [Act.put]); (try go_frame)
  refine wpAnyH_take (i := 2) (v := _) (by first | (simp only [List.getElem?_toArray, List.getElem?_cons_zero, List.getElem?_cons_succ]; rfl) | rfl) (by kernel_rfl) (by kernel_rfl) (by kernel_rfl) (by exact fun _ _ _ h => h) (Or.inl ⟨by rfl, by (intro w hSw; (try dsimp only at hSw); go_simp; try with_reducible rfl)⟩) (by assumption) ?_
  (try dsimp only [Act.put]); (try go_frame)
  refine wpAnyH_take (i := 3) (v := _) (by first | (simp only [List.getElem?_toArray, List.getElem?_cons_zero, List.getElem?_cons_succ]; rfl) | rfl) (by kernel_rfl) (by kernel_rfl) (by kernel_rfl) (by exact fun _ _ _ h => h) (Or.inl ⟨by rfl, by (intro w hSw; (try dsimp only at hSw); go_simp; try with_reducible rfl)⟩) (by assumption) ?_
  (try dsimp only [Act.put]); (try go_frame)
  refine wpAnyH_take (i := 4) (v := _) (by first | (simp only [List.getElem?_toArray, List.getElem?_cons_zero, List.getElem?_cons_succ]; rfl) | rfl) (by kernel_rfl) (by kernel_rfl) (by kernel_rfl) (by exact fun _ _ _ h => h) (Or.inl ⟨by rfl, by (intro w hSw; (try dsimp only at hSw); go_simp; try with_reducible rfl)⟩) (by assumption) ?_
  (try dsimp only [Act.put]); (try go_frame)
  refine wpAnyH_take (i := 5) (v := _) (by first | (simp only [List.getElem?_toArray, List.getElem?_cons_zero, List.getElem?_cons_succ]; rfl) | rfl) (by kernel_rfl) (by kernel_rfl) (by kernel_rfl) (by exact fun _ _ _ h => h) (Or.inl ⟨by rfl, by (intro w hSw; (try dsimp only at hSw); go_simp; try with_reducible rfl)⟩) (by assumption) ?_
  (try dsimp only [Act.put]); (try go_frame)
  refine wpAnyH_take (i := 6) (v := _) (by first | (simp only [List.getElem?_toArray, List.getElem?_cons_zero, List.getElem?_cons_succ]; rfl) | rfl) (by kernel_rfl) (by kernel_rfl) (by kernel_rfl) (by exact fun _ _ _ h => h) (Or.inl ⟨by rfl, by (intro w hSw; (try dsimp only at hSw); go_simp; try with_reducible rfl)⟩) (by assumption) ?_
  (try dsimp only [Act.put]); (try go_frame)
  refine wpAnyH_take (i := 7) (v := _) (by first | (simp only [List.getElem?_toArray, List.getElem?_cons_zero, List.getElem?_cons_succ]; rfl) | rfl) (by kernel_rfl) (by kernel_rfl) (by kernel_rfl) (by exact fun _ _ _ h => h) (Or.inl ⟨by rfl, by (intro w hSw; (try dsimp only at hSw); go_simp; try with_reducible rfl)⟩) (by assumption) ?_
  (try dsimp only [Act.put]); (try go_frame)
  refine wpAnyH_take (i := 8) (v := _) (by first | (simp only [List.getElem?_toArray, List.getElem?_cons_zero, List.getElem?_cons_succ]; rfl) | rfl) (by kernel_rfl) (by kernel_rfl) (by kernel_rfl) (by exact fun _ _ _ h => h) (Or.inl ⟨by rfl, by (intro w hSw; (try dsimp only at hSw); go_simp; try with_reducible rfl)⟩) (by assumption) ?_
  (try dsimp only [Act.put]); (try go_frame)
  refine wpAnyH_take (i := 10) (v := _) (by first | (simp only [List.getElem?_toArray, List.getElem?_cons_zero, List.getElem?_cons_succ]; rfl) | rfl) (by kernel_rfl) (by kernel_rfl) (by kernel_rfl) (by exact fun _ _ _ h => h) (Or.inl ⟨by rfl, by (intro w hSw; (try dsimp only at hSw); go_simp; try with_reducible rfl)⟩) (by assumption) ?_
  (try dsimp only [Act.put]); (try go_frame)
  refine wpAnyH_take (i := 11) (v := _) (by first | (simp only [List.getElem?_toArray, List.getElem?_cons_zero, List.getElem?_cons_succ]; rfl) | rfl) (by kernel_rfl) (by kernel_rfl) (by kernel_rfl) (by exact fun _ _ _ h => h) (Or.inl ⟨by rfl, by (intro w hSw; (try dsimp only at hSw); go_simp; try with_reducible rfl)⟩) (by assumption) ?_
  (try dsimp only [Act.put]); (try go_frame)
  refine wpAnyH_take (i := 12) (v := _) (by first | (simp only [List.getElem?_toArray, List.getElem?_cons_zero, List.getElem?_cons_succ]; rfl) | rfl) (by kernel_rfl) (by kernel_rfl) (by kernel_rfl) (by exact fun _ _ _ h => h) (Or.inl ⟨by rfl, by (intro w hSw; (try dsimp only at hSw); go_simp; try with_reducible rfl)⟩) (by assumption) ?_
  (try dsimp only [Act.put]); (try go_frame)
  refine wpAnyH_take (i := 13) (v := _) (by first | (simp only [List.getElem?_toArray, List.getElem?_cons_zero, List.getElem?_cons_succ]; rfl) | rfl) (by kernel_rfl) (by kernel_rfl) (by kernel_rfl) (by exact fun _ _ _ h => h) (Or.inl ⟨by rfl, by (intro w hSw; (try dsimp only at hSw); go_simp; try with_reducible rfl)⟩) (by assumption) ?_
  (try dsimp only [Act.put]); (try go_frame)
  refine wpAnyH_ready (rs := [9]) (by kernel_rfl) (by simp) ?_
  refine AllReadyH.cons rfl (fun K hK => ?_) AllReadyH.nil
  go_simp
  (with_reducible refine (h1 _).mono ?_)
  rintro r w1 ⟨rfl, hb1⟩
  clear xF20_0 xF20_1 xF20_2 xF30_0 xF30_1 xF30_2
  replace F2 := F2.keep hb1
  replace F3 := F3.keep hb1
  replace F4 := F4.keep hb1
  replace B0 := B0.trans (hb1.mono B0.size)
  clear hb1
  obtain ⟨xF22_0, xF22_1, xF22_2⟩ := F2.ce3
  obtain ⟨xF32_0, xF32_1, xF32_2⟩ := F3.ce3
  refine hK.out _ _ ?_ (fun hHeld => ?_)
  · exact ⟨xF22_0, xF22_1, xF22_2, xF32_0, xF32_1, xF32_2⟩
  clear hK K
  (try dsimp only [Act.put]); (try go_frame)
  refine wpAnyH_ready (rs := [14]) (by kernel_rfl) (by simp) ?_
  refine AllReadyH.cons rfl (fun K hK => ?_) AllReadyH.nil
  go_simp
  (with_reducible refine (h2 _).mono ?_)
  rintro r w2 ⟨rfl, hb2⟩
  clear xF22_0 xF22_1 xF22_2 xF32_0 xF32_1 xF32_2
  replace F2 := F2.keep hb2
  replace F3 := F3.keep hb2
  replace F4 := F4.keep hb2
  replace B0 := B0.trans (hb2.mono B0.size)
  clear hb2
  obtain ⟨xF23_0, xF23_1, xF23_2⟩ := F2.ce3
  obtain ⟨xF33_0, xF33_1, xF33_2⟩ := F3.ce3
  refine hK.out _ _ ?_ (fun hHeld => ?_)
  · exact ⟨xF23_0, xF23_1, xF23_2, xF33_0, xF33_1, xF33_2⟩
  clear hK K
  (try dsimp only [Act.put]); (try go_frame)
  refine wpAnyH_ready (rs := [15]) (by kernel_rfl) (by simp) ?_
  refine AllReadyH.cons rfl (fun K hK => ?_) AllReadyH.nil
  go_simp
  (with_reducible refine (h3 _).mono ?_)
  rintro r w3 ⟨rfl, hb3⟩
  clear xF23_0 xF23_1 xF23_2 xF33_0 xF33_1 xF33_2
  replace F2 := F2.keep hb3
  replace F3 := F3.keep hb3
  replace F4 := F4.keep hb3
  replace B0 := B0.trans (hb3.mono B0.size)
  clear hb3
  obtain ⟨xF24_0, xF24_1, xF24_2⟩ := F2.ce3
  obtain ⟨xF34_0, xF34_1, xF34_2⟩ := F3.ce3
  refine hK.out _ _ ?_ (fun hHeld => ?_)
  · exact ⟨xF24_0, xF24_1, xF24_2, xF34_0, xF34_1, xF34_2⟩
  clear hK K
  (try dsimp only [Act.put]); (try go_frame)
  refine wpAnyH_done (by kernel_rfl) ?_ _
  try simp only [QCut]
  clear hHeld
  clear xF24_0 xF24_1 xF24_2 xF34_0 xF34_1 xF34_2
  obtain ⟨xF44_0, xF44_1, xF44_2⟩ := F4.ce3
  obtain ⟨xF44_0f, xF44_1f, xF44_2f⟩ := F4.fr3
  clear F2
  clear F3
  replace F4 : Blk ((((w3).setCell ⟨w.heap.size + 1 + 1, 0, none⟩ (.bool vn)).setCell ⟨w.heap.size + 1 + 1, 1, none⟩ (.string vS)).setCell ⟨w.heap.size + 1 + 1, 2, none⟩ (.string vT)) (w.heap.size + 1 + 1) #[.bool vn, .string vS, .string vT] 24 := (((F4.setAt 0 (.bool vn)).setAt 1 (.string vS)).setAt 2 (.string vT))
  replace B0 := (((B0.setCell (p := ⟨w.heap.size + 1 + 1, 0, none⟩) q_w_F4.out (.bool vn)).setCell (p := ⟨w.heap.size + 1 + 1, 1, none⟩) q_w_F4.out (.string vS)).setCell (p := ⟨w.heap.size + 1 + 1, 2, none⟩) q_w_F4.out (.string vT))
  obtain ⟨xF45_0, xF45_1, xF45_2⟩ := F4.ce3
  go_wp2
  exact bodyPost_ret (v := .agg #[.bool vn, .string vS, .string vT]) (by simp [results, Tryz.results17, go_sem, xF45_0, xF45_1, xF45_2]) rfl ⟨rfl, B0⟩
set_option maxRecDepth 100000 in
set_option maxHeartbeats 8000000 in
theorem p4quo_w (xn : Bool) (xS xT : ByteArray) (yn : Bool) (yS yT : ByteArray) (vn : Bool) (vS vT : ByteArray) (w : World) (h1 : ∀ W, Calls Tryz.prog 17 #[.agg #[.bool xn, .string xS, .string xT], .agg #[.bool yn, .string yT, .string yS]] W fun r w' => r = .returned (.agg #[.bool vn, .string vS, .string vT]) ∧ Below W.heap.size W w') :
    Calls Tryz.prog 19 #[.agg #[.bool xn, .string xS, .string xT], .agg #[.bool yn, .string yS, .string yT]] w fun r w' => r = .returned (.agg #[.bool vn, .string vS, .string vT]) ∧ Below w.heap.size w w' := by
  go_enter Tryz.func19, Tryz.ntmps19
  have B0 := Below.refl w.heap.size w
  have F2 := Blk.put (w) #[.bool xn, .string xS, .string xT] 24
  replace B0 := B0.alloc B0.size (.cells #[.bool xn, .string xS, .string xT] 24)
  replace F2 := F2.allocd (.cells #[.bool yn, .string yS, .string yT] 24)
  have F3 := Blk.put ((w).alloc (.cells #[.bool xn, .string xS, .string xT] 24)) #[.bool yn, .string yS, .string yT] 24
  rw [show ((w).alloc (.cells #[.bool xn, .string xS, .string xT] 24)).heap.size = w.heap.size + 1 by simp] at F3
  replace B0 := B0.alloc B0.size (.cells #[.bool yn, .string yS, .string yT] 24)
  have q_w_F4 : Hid (w.heap.size ≤ w.heap.size + 1 + 1) := Lib.hid (by omega)
  replace F2 := F2.allocd (.cells #[.bool false, .string { data := #[] }, .string { data := #[] }] 24)
  replace F3 := F3.allocd (.cells #[.bool false, .string { data := #[] }, .string { data := #[] }] 24)
  have F4 := Blk.put (((w).alloc (.cells #[.bool xn, .string xS, .string xT] 24)).alloc (.cells #[.bool yn, .string yS, .string yT] 24)) #[.bool false, .string { data := #[] }, .string { data := #[] }] 24
  rw [show (((w).alloc (.cells #[.bool xn, .string xS, .string xT] 24)).alloc (.cells #[.bool yn, .string yS, .string yT] 24)).heap.size = w.heap.size + 1 + 1 by simp] at F4
  replace B0 := B0.alloc B0.size (.cells #[.bool false, .string { data := #[] }, .string { data := #[] }] 24)
  obtain ⟨xF20_0, xF20_1, xF20_2⟩ := F2.ce3
  obtain ⟨xF30_0, xF30_1, xF30_2⟩ := F3.ce3
  go_wp2_with fail
  (with_reducible refine (h1 _).mono ?_)
  rintro r w1 ⟨rfl, hb1⟩
  clear xF20_0 xF20_1 xF20_2 xF30_0 xF30_1 xF30_2
  replace F2 := F2.keep hb1
  replace F3 := F3.keep hb1
  replace F4 := F4.keep hb1
  replace B0 := B0.trans (hb1.mono B0.size)
  clear hb1
  obtain ⟨xF41_0, xF41_1, xF41_2⟩ := F4.ce3
  obtain ⟨xF41_0f, xF41_1f, xF41_2f⟩ := F4.fr3
  clear F2
  clear F3
  replace F4 : Blk ((((w1).setCell ⟨w.heap.size + 1 + 1, 0, none⟩ (.bool vn)).setCell ⟨w.heap.size + 1 + 1, 1, none⟩ (.string vS)).setCell ⟨w.heap.size + 1 + 1, 2, none⟩ (.string vT)) (w.heap.size + 1 + 1) #[.bool vn, .string vS, .string vT] 24 := (((F4.setAt 0 (.bool vn)).setAt 1 (.string vS)).setAt 2 (.string vT))
  replace B0 := (((B0.setCell (p := ⟨w.heap.size + 1 + 1, 0, none⟩) q_w_F4.out (.bool vn)).setCell (p := ⟨w.heap.size + 1 + 1, 1, none⟩) q_w_F4.out (.string vS)).setCell (p := ⟨w.heap.size + 1 + 1, 2, none⟩) q_w_F4.out (.string vT))
  obtain ⟨xF42_0, xF42_1, xF42_2⟩ := F4.ce3
  go_wp2
  exact bodyPost_ret (v := .agg #[.bool vn, .string vS, .string vT]) (by simp [results, Tryz.results19, go_sem, xF42_0, xF42_1, xF42_2]) rfl ⟨rfl, B0⟩
set_option maxRecDepth 100000 in
set_option maxHeartbeats 8000000 in
theorem p4cmp_0 (xS xT yS yT : ByteArray) (w : World)  :
    Calls Tryz.prog 18 #[.agg #[.bool true, .string xS, .string xT], .agg #[.bool false, .string yS, .string yT]] w fun r w' => r = .returned (.int .i64 (-1)) ∧ Below w.heap.size w w' := by
  go_enter Tryz.func18, Tryz.ntmps18
  have B0 := Below.refl w.heap.size w
  have F2 := Blk.put (w) #[.bool true, .string xS, .string xT] 24
  replace B0 := B0.alloc B0.size (.cells #[.bool true, .string xS, .string xT] 24)
  replace F2 := F2.allocd (.cells #[.bool false, .string yS, .string yT] 24)
  have F3 := Blk.put ((w).alloc (.cells #[.bool true, .string xS, .string xT] 24)) #[.bool false, .string yS, .string yT] 24
  rw [show ((w).alloc (.cells #[.bool true, .string xS, .string xT] 24)).heap.size = w.heap.size + 1 by simp] at F3
  replace B0 := B0.alloc B0.size (.cells #[.bool false, .string yS, .string yT] 24)
  obtain ⟨xF20_0, xF20_1, xF20_2⟩ := F2.ce3
  obtain ⟨xF30_0, xF30_1, xF30_2⟩ := F3.ce3
  go_wp2
  go_ret
  exact ⟨rfl, B0⟩
set_option maxRecDepth 100000 in
set_option maxHeartbeats 8000000 in
theorem p4cmp_1 (xS xT yS yT : ByteArray) (w : World)  :
    Calls Tryz.prog 18 #[.agg #[.bool false, .string xS, .string xT], .agg #[.bool true, .string yS, .string yT]] w fun r w' => r = .returned (.int .i64 1) ∧ Below w.heap.size w w' := by
  go_enter Tryz.func18, Tryz.ntmps18
  have B0 := Below.refl w.heap.size w
  have F2 := Blk.put (w) #[.bool false, .string xS, .string xT] 24
  replace B0 := B0.alloc B0.size (.cells #[.bool false, .string xS, .string xT] 24)
  replace F2 := F2.allocd (.cells #[.bool true, .string yS, .string yT] 24)
  have F3 := Blk.put ((w).alloc (.cells #[.bool false, .string xS, .string xT] 24)) #[.bool true, .string yS, .string yT] 24
  rw [show ((w).alloc (.cells #[.bool false, .string xS, .string xT] 24)).heap.size = w.heap.size + 1 by simp] at F3
  replace B0 := B0.alloc B0.size (.cells #[.bool true, .string yS, .string yT] 24)
  obtain ⟨xF20_0, xF20_1, xF20_2⟩ := F2.ce3
  obtain ⟨xF30_0, xF30_1, xF30_2⟩ := F3.ce3
  go_wp2
  go_ret
  exact ⟨rfl, B0⟩
set_option maxRecDepth 100000 in
set_option maxHeartbeats 8000000 in
theorem p4cmp_2 (xS xT yS yT : ByteArray) (P Q : ByteArray) (w : World) (cz : Int) (h1 : ∀ W, Calls Tryz.prog 50 #[.string xS, .string yT] W fun r w' => r = .returned (.string P) ∧ Below W.heap.size W w') (h2 : ∀ W, Calls Tryz.prog 50 #[.string yS, .string xT] W fun r w' => r = .returned (.string Q) ∧ Below W.heap.size W w') (h3 : ∀ W, Calls Tryz.prog 53 #[.string P, .string Q] W fun r w' => r = .returned (.int .i64 cz) ∧ Below W.heap.size W w') (hc1 : -1 ≤ cz) (hc2 : cz ≤ 1) :
    Calls Tryz.prog 18 #[.agg #[.bool true, .string xS, .string xT], .agg #[.bool true, .string yS, .string yT]] w fun r w' => r = .returned (.int .i64 (-cz)) ∧ Below w.heap.size w w' := by
  go_enter Tryz.func18, Tryz.ntmps18
  have B0 := Below.refl w.heap.size w
  have F2 := Blk.put (w) #[.bool true, .string xS, .string xT] 24
  replace B0 := B0.alloc B0.size (.cells #[.bool true, .string xS, .string xT] 24)
  replace F2 := F2.allocd (.cells #[.bool true, .string yS, .string yT] 24)
  have F3 := Blk.put ((w).alloc (.cells #[.bool true, .string xS, .string xT] 24)) #[.bool true, .string yS, .string yT] 24
  rw [show ((w).alloc (.cells #[.bool true, .string xS, .string xT] 24)).heap.size = w.heap.size + 1 by simp] at F3
  replace B0 := B0.alloc B0.size (.cells #[.bool true, .string yS, .string yT] 24)
  obtain ⟨xF20_0, xF20_1, xF20_2⟩ := F2.ce3
  obtain ⟨xF30_0, xF30_1, xF30_2⟩ := F3.ce3
  go_wp2_with fail
  refine wp_region_cut 11 (by kernel_rfl) (by kernel_rfl) ?_
  rintro W rfl
  simp only [List.take_succ_cons, List.take_zero, List.drop_succ_cons, List.drop_zero]
  have hHeld : (fun w' : World => w'.cell? ⟨w.heap.size, 0, none⟩ = some (.bool true) ∧ w'.cell? ⟨w.heap.size, 1, none⟩ = some (.string xS) ∧ w'.cell? ⟨w.heap.size, 2, none⟩ = some (.string xT) ∧ w'.cell? ⟨w.heap.size + 1, 0, none⟩ = some (.bool true) ∧ w'.cell? ⟨w.heap.size + 1, 1, none⟩ = some (.string yS) ∧ w'.cell? ⟨w.heap.size + 1, 2, none⟩ = some (.string yT)) (((w).alloc (.cells #[.bool true, .string xS, .string xT] 24)).alloc (.cells #[.bool true, .string yS, .string yT] 24)).drew := ⟨xF20_0, xF20_1, xF20_2, xF30_0, xF30_1, xF30_2⟩
  refine wpAny_of_held (S := fun w' : World => w'.cell? ⟨w.heap.size, 0, none⟩ = some (.bool true) ∧ w'.cell? ⟨w.heap.size, 1, none⟩ = some (.string xS) ∧ w'.cell? ⟨w.heap.size, 2, none⟩ = some (.string xT) ∧ w'.cell? ⟨w.heap.size + 1, 0, none⟩ = some (.bool true) ∧ w'.cell? ⟨w.heap.size + 1, 1, none⟩ = some (.string yS) ∧ w'.cell? ⟨w.heap.size + 1, 2, none⟩ = some (.string yT)) _ _ _ _ ?_
  replace F2 := F2.drew
  replace F3 := F3.drew
  replace B0 := B0.drew
  refine wpAnyH_take (i := 0) (v := _) (by first | (simp only [List.getElem?_toArray, List.getElem?_cons_zero]; rfl) | rfl) (by kernel_rfl) (by kernel_rfl) (by kernel_rfl) (by exact fun _ _ _ h => h) (Or.inl ⟨by rfl, by (intro w hSw; (try dsimp only at hSw); go_simp; try with_reducible rfl)⟩) (by assumption) ?_
  (try dsimp only [Act.put]); (try go_frame)
  refine wpAnyH_take (i := 1) (v := _) (by first | (simp only [List.getElem?_toArray, List.getElem?_cons_zero, List.getElem?_cons_succ]; rfl) | rfl) (by kernel_rfl) (by kernel_rfl) (by kernel_rfl) (by exact fun _ _ _ h => h) (Or.inl ⟨by rfl, by (intro w hSw; (try dsimp only at hSw); go_simp; try with_reducible rfl)⟩) (by assumption) ?_
  (try dsimp only [Act.put]); (try go_frame)
  refine wpAnyH_take (i := 2) (v := _) (by first | (simp only [List.getElem?_toArray, List.getElem?_cons_zero, List.getElem?_cons_succ]; rfl) | rfl) (by kernel_rfl) (by kernel_rfl) (by kernel_rfl) (by exact fun _ _ _ h => h) (Or.inl ⟨by rfl, by (intro w hSw; (try dsimp only at hSw); go_simp; try with_reducible rfl)⟩) (by assumption) ?_
  (try dsimp only [Act.put]); (try go_frame)
  refine wpAnyH_take (i := 3) (v := _) (by first | (simp only [List.getElem?_toArray, List.getElem?_cons_zero, List.getElem?_cons_succ]; rfl) | rfl) (by kernel_rfl) (by kernel_rfl) (by kernel_rfl) (by exact fun _ _ _ h => h) (Or.inl ⟨by rfl, by (intro w hSw; (try dsimp only at hSw); go_simp; try with_reducible rfl)⟩) (by assumption) ?_
  (try dsimp only [Act.put]); (try go_frame)
  refine wpAnyH_take (i := 5) (v := _) (by first | (simp only [List.getElem?_toArray, List.getElem?_cons_zero, List.getElem?_cons_succ]; rfl) | rfl) (by kernel_rfl) (by kernel_rfl) (by kernel_rfl) (by exact fun _ _ _ h => h) (Or.inl ⟨by rfl, by (intro w hSw; (try dsimp only at hSw); go_simp; try with_reducible rfl)⟩) (by assumption) ?_
  (try dsimp only [Act.put]); (try go_frame)
  refine wpAnyH_take (i := 6) (v := _) (by first | (simp only [List.getElem?_toArray, List.getElem?_cons_zero, List.getElem?_cons_succ]; rfl) | rfl) (by kernel_rfl) (by kernel_rfl) (by kernel_rfl) (by exact fun _ _ _ h => h) (Or.inl ⟨by rfl, by (intro w hSw; (try dsimp only at hSw); go_simp; try with_reducible rfl)⟩) (by assumption) ?_
  (try dsimp only [Act.put]); (try go_frame)
  refine wpAnyH_take (i := 7) (v := _) (by first | (simp only [List.getElem?_toArray, List.getElem?_cons_zero, List.getElem?_cons_succ]; rfl) | rfl) (by kernel_rfl) (by kernel_rfl) (by kernel_rfl) (by exact fun _ _ _ h => h) (Or.inl ⟨by rfl, by (intro w hSw; (try dsimp only at hSw); go_simp; try with_reducible rfl)⟩) (by assumption) ?_
  (try dsimp only [Act.put]); (try go_frame)
  refine wpAnyH_take (i := 8) (v := _) (by first | (simp only [List.getElem?_toArray, List.getElem?_cons_zero, List.getElem?_cons_succ]; rfl) | rfl) (by kernel_rfl) (by kernel_rfl) (by kernel_rfl) (by exact fun _ _ _ h => h) (Or.inl ⟨by rfl, by (intro w hSw; (try dsimp only at hSw); go_simp; try with_reducible rfl)⟩) (by assumption) ?_
  (try dsimp only [Act.put]); (try go_frame)
  refine wpAnyH_ready (rs := [4]) (by kernel_rfl) (by simp) ?_
  refine AllReadyH.cons rfl (fun K hK => ?_) AllReadyH.nil
  go_simp
  (with_reducible refine (h1 _).mono ?_)
  rintro r w1 ⟨rfl, hb1⟩
  clear xF20_0 xF20_1 xF20_2 xF30_0 xF30_1 xF30_2
  replace F2 := F2.keep hb1
  replace F3 := F3.keep hb1
  replace B0 := B0.trans (hb1.mono B0.size)
  clear hb1
  obtain ⟨xF22_0, xF22_1, xF22_2⟩ := F2.ce3
  obtain ⟨xF32_0, xF32_1, xF32_2⟩ := F3.ce3
  refine hK.out _ _ ?_ (fun hHeld => ?_)
  · exact ⟨xF22_0, xF22_1, xF22_2, xF32_0, xF32_1, xF32_2⟩
  clear hK K
  (try dsimp only [Act.put]); (try go_frame)
  refine wpAnyH_ready (rs := [9]) (by kernel_rfl) (by simp) ?_
  refine AllReadyH.cons rfl (fun K hK => ?_) AllReadyH.nil
  go_simp
  (with_reducible refine (h2 _).mono ?_)
  rintro r w2 ⟨rfl, hb2⟩
  clear xF22_0 xF22_1 xF22_2 xF32_0 xF32_1 xF32_2
  replace F2 := F2.keep hb2
  replace F3 := F3.keep hb2
  replace B0 := B0.trans (hb2.mono B0.size)
  clear hb2
  obtain ⟨xF23_0, xF23_1, xF23_2⟩ := F2.ce3
  obtain ⟨xF33_0, xF33_1, xF33_2⟩ := F3.ce3
  refine hK.out _ _ ?_ (fun hHeld => ?_)
  · exact ⟨xF23_0, xF23_1, xF23_2, xF33_0, xF33_1, xF33_2⟩
  clear hK K
  (try dsimp only [Act.put]); (try go_frame)
  refine wpAnyH_ready (rs := [10]) (by kernel_rfl) (by simp) ?_
  refine AllReadyH.cons rfl (fun K hK => ?_) AllReadyH.nil
  go_simp
  (with_reducible refine (h3 _).mono ?_)
  rintro r w3 ⟨rfl, hb3⟩
  clear xF23_0 xF23_1 xF23_2 xF33_0 xF33_1 xF33_2
  replace F2 := F2.keep hb3
  replace F3 := F3.keep hb3
  replace B0 := B0.trans (hb3.mono B0.size)
  clear hb3
  obtain ⟨xF24_0, xF24_1, xF24_2⟩ := F2.ce3
  obtain ⟨xF34_0, xF34_1, xF34_2⟩ := F3.ce3
  refine hK.out _ _ ?_ (fun hHeld => ?_)
  · exact ⟨xF24_0, xF24_1, xF24_2, xF34_0, xF34_1, xF34_2⟩
  clear hK K
  (try dsimp only [Act.put]); (try go_frame)
  refine wpAnyH_done (by kernel_rfl) ?_ _
  try simp only [QCut]
  clear hHeld
  clear xF24_0 xF24_1 xF24_2 xF34_0 xF34_1 xF34_2
  obtain ⟨xF24_0, xF24_1, xF24_2⟩ := F2.ce3
  go_wp2
  go_ret
  exact ⟨rfl, B0⟩
set_option maxRecDepth 100000 in
set_option maxHeartbeats 8000000 in
theorem p4cmp_3 (xS xT yS yT : ByteArray) (P Q : ByteArray) (w : World) (cz : Int) (h1 : ∀ W, Calls Tryz.prog 50 #[.string xS, .string yT] W fun r w' => r = .returned (.string P) ∧ Below W.heap.size W w') (h2 : ∀ W, Calls Tryz.prog 50 #[.string yS, .string xT] W fun r w' => r = .returned (.string Q) ∧ Below W.heap.size W w') (h3 : ∀ W, Calls Tryz.prog 53 #[.string P, .string Q] W fun r w' => r = .returned (.int .i64 cz) ∧ Below W.heap.size W w') :
    Calls Tryz.prog 18 #[.agg #[.bool false, .string xS, .string xT], .agg #[.bool false, .string yS, .string yT]] w fun r w' => r = .returned (.int .i64 cz) ∧ Below w.heap.size w w' := by
  go_enter Tryz.func18, Tryz.ntmps18
  have B0 := Below.refl w.heap.size w
  have F2 := Blk.put (w) #[.bool false, .string xS, .string xT] 24
  replace B0 := B0.alloc B0.size (.cells #[.bool false, .string xS, .string xT] 24)
  replace F2 := F2.allocd (.cells #[.bool false, .string yS, .string yT] 24)
  have F3 := Blk.put ((w).alloc (.cells #[.bool false, .string xS, .string xT] 24)) #[.bool false, .string yS, .string yT] 24
  rw [show ((w).alloc (.cells #[.bool false, .string xS, .string xT] 24)).heap.size = w.heap.size + 1 by simp] at F3
  replace B0 := B0.alloc B0.size (.cells #[.bool false, .string yS, .string yT] 24)
  obtain ⟨xF20_0, xF20_1, xF20_2⟩ := F2.ce3
  obtain ⟨xF30_0, xF30_1, xF30_2⟩ := F3.ce3
  go_wp2_with fail
  refine wp_region_cut 11 (by kernel_rfl) (by kernel_rfl) ?_
  rintro W rfl
  simp only [List.take_succ_cons, List.take_zero, List.drop_succ_cons, List.drop_zero]
  have hHeld : (fun w' : World => w'.cell? ⟨w.heap.size, 0, none⟩ = some (.bool false) ∧ w'.cell? ⟨w.heap.size, 1, none⟩ = some (.string xS) ∧ w'.cell? ⟨w.heap.size, 2, none⟩ = some (.string xT) ∧ w'.cell? ⟨w.heap.size + 1, 0, none⟩ = some (.bool false) ∧ w'.cell? ⟨w.heap.size + 1, 1, none⟩ = some (.string yS) ∧ w'.cell? ⟨w.heap.size + 1, 2, none⟩ = some (.string yT)) (((w).alloc (.cells #[.bool false, .string xS, .string xT] 24)).alloc (.cells #[.bool false, .string yS, .string yT] 24)).drew := ⟨xF20_0, xF20_1, xF20_2, xF30_0, xF30_1, xF30_2⟩
  refine wpAny_of_held (S := fun w' : World => w'.cell? ⟨w.heap.size, 0, none⟩ = some (.bool false) ∧ w'.cell? ⟨w.heap.size, 1, none⟩ = some (.string xS) ∧ w'.cell? ⟨w.heap.size, 2, none⟩ = some (.string xT) ∧ w'.cell? ⟨w.heap.size + 1, 0, none⟩ = some (.bool false) ∧ w'.cell? ⟨w.heap.size + 1, 1, none⟩ = some (.string yS) ∧ w'.cell? ⟨w.heap.size + 1, 2, none⟩ = some (.string yT)) _ _ _ _ ?_
  replace F2 := F2.drew
  replace F3 := F3.drew
  replace B0 := B0.drew
  refine wpAnyH_take (i := 0) (v := _) (by first | (simp only [List.getElem?_toArray, List.getElem?_cons_zero]; rfl) | rfl) (by kernel_rfl) (by kernel_rfl) (by kernel_rfl) (by exact fun _ _ _ h => h) (Or.inl ⟨by rfl, by (intro w hSw; (try dsimp only at hSw); go_simp; try with_reducible rfl)⟩) (by assumption) ?_
  (try dsimp only [Act.put]); (try go_frame)
  refine wpAnyH_take (i := 1) (v := _) (by first | (simp only [List.getElem?_toArray, List.getElem?_cons_zero, List.getElem?_cons_succ]; rfl) | rfl) (by kernel_rfl) (by kernel_rfl) (by kernel_rfl) (by exact fun _ _ _ h => h) (Or.inl ⟨by rfl, by (intro w hSw; (try dsimp only at hSw); go_simp; try with_reducible rfl)⟩) (by assumption) ?_
  (try dsimp only [Act.put]); (try go_frame)
  refine wpAnyH_take (i := 2) (v := _) (by first | (simp only [List.getElem?_toArray, List.getElem?_cons_zero, List.getElem?_cons_succ]; rfl) | rfl) (by kernel_rfl) (by kernel_rfl) (by kernel_rfl) (by exact fun _ _ _ h => h) (Or.inl ⟨by rfl, by (intro w hSw; (try dsimp only at hSw); go_simp; try with_reducible rfl)⟩) (by assumption) ?_
  (try dsimp only [Act.put]); (try go_frame)
  refine wpAnyH_take (i := 3) (v := _) (by first | (simp only [List.getElem?_toArray, List.getElem?_cons_zero, List.getElem?_cons_succ]; rfl) | rfl) (by kernel_rfl) (by kernel_rfl) (by kernel_rfl) (by exact fun _ _ _ h => h) (Or.inl ⟨by rfl, by (intro w hSw; (try dsimp only at hSw); go_simp; try with_reducible rfl)⟩) (by assumption) ?_
  (try dsimp only [Act.put]); (try go_frame)
  refine wpAnyH_take (i := 5) (v := _) (by first | (simp only [List.getElem?_toArray, List.getElem?_cons_zero, List.getElem?_cons_succ]; rfl) | rfl) (by kernel_rfl) (by kernel_rfl) (by kernel_rfl) (by exact fun _ _ _ h => h) (Or.inl ⟨by rfl, by (intro w hSw; (try dsimp only at hSw); go_simp; try with_reducible rfl)⟩) (by assumption) ?_
  (try dsimp only [Act.put]); (try go_frame)
  refine wpAnyH_take (i := 6) (v := _) (by first | (simp only [List.getElem?_toArray, List.getElem?_cons_zero, List.getElem?_cons_succ]; rfl) | rfl) (by kernel_rfl) (by kernel_rfl) (by kernel_rfl) (by exact fun _ _ _ h => h) (Or.inl ⟨by rfl, by (intro w hSw; (try dsimp only at hSw); go_simp; try with_reducible rfl)⟩) (by assumption) ?_
  (try dsimp only [Act.put]); (try go_frame)
  refine wpAnyH_take (i := 7) (v := _) (by first | (simp only [List.getElem?_toArray, List.getElem?_cons_zero, List.getElem?_cons_succ]; rfl) | rfl) (by kernel_rfl) (by kernel_rfl) (by kernel_rfl) (by exact fun _ _ _ h => h) (Or.inl ⟨by rfl, by (intro w hSw; (try dsimp only at hSw); go_simp; try with_reducible rfl)⟩) (by assumption) ?_
  (try dsimp only [Act.put]); (try go_frame)
  refine wpAnyH_take (i := 8) (v := _) (by first | (simp only [List.getElem?_toArray, List.getElem?_cons_zero, List.getElem?_cons_succ]; rfl) | rfl) (by kernel_rfl) (by kernel_rfl) (by kernel_rfl) (by exact fun _ _ _ h => h) (Or.inl ⟨by rfl, by (intro w hSw; (try dsimp only at hSw); go_simp; try with_reducible rfl)⟩) (by assumption) ?_
  (try dsimp only [Act.put]); (try go_frame)
  refine wpAnyH_ready (rs := [4]) (by kernel_rfl) (by simp) ?_
  refine AllReadyH.cons rfl (fun K hK => ?_) AllReadyH.nil
  go_simp
  (with_reducible refine (h1 _).mono ?_)
  rintro r w1 ⟨rfl, hb1⟩
  clear xF20_0 xF20_1 xF20_2 xF30_0 xF30_1 xF30_2
  replace F2 := F2.keep hb1
  replace F3 := F3.keep hb1
  replace B0 := B0.trans (hb1.mono B0.size)
  clear hb1
  obtain ⟨xF22_0, xF22_1, xF22_2⟩ := F2.ce3
  obtain ⟨xF32_0, xF32_1, xF32_2⟩ := F3.ce3
  refine hK.out _ _ ?_ (fun hHeld => ?_)
  · exact ⟨xF22_0, xF22_1, xF22_2, xF32_0, xF32_1, xF32_2⟩
  clear hK K
  (try dsimp only [Act.put]); (try go_frame)
  refine wpAnyH_ready (rs := [9]) (by kernel_rfl) (by simp) ?_
  refine AllReadyH.cons rfl (fun K hK => ?_) AllReadyH.nil
  go_simp
  (with_reducible refine (h2 _).mono ?_)
  rintro r w2 ⟨rfl, hb2⟩
  clear xF22_0 xF22_1 xF22_2 xF32_0 xF32_1 xF32_2
  replace F2 := F2.keep hb2
  replace F3 := F3.keep hb2
  replace B0 := B0.trans (hb2.mono B0.size)
  clear hb2
  obtain ⟨xF23_0, xF23_1, xF23_2⟩ := F2.ce3
  obtain ⟨xF33_0, xF33_1, xF33_2⟩ := F3.ce3
  refine hK.out _ _ ?_ (fun hHeld => ?_)
  · exact ⟨xF23_0, xF23_1, xF23_2, xF33_0, xF33_1, xF33_2⟩
  clear hK K
  (try dsimp only [Act.put]); (try go_frame)
  refine wpAnyH_ready (rs := [10]) (by kernel_rfl) (by simp) ?_
  refine AllReadyH.cons rfl (fun K hK => ?_) AllReadyH.nil
  go_simp
  (with_reducible refine (h3 _).mono ?_)
  rintro r w3 ⟨rfl, hb3⟩
  clear xF23_0 xF23_1 xF23_2 xF33_0 xF33_1 xF33_2
  replace F2 := F2.keep hb3
  replace F3 := F3.keep hb3
  replace B0 := B0.trans (hb3.mono B0.size)
  clear hb3
  obtain ⟨xF24_0, xF24_1, xF24_2⟩ := F2.ce3
  obtain ⟨xF34_0, xF34_1, xF34_2⟩ := F3.ce3
  refine hK.out _ _ ?_ (fun hHeld => ?_)
  · exact ⟨xF24_0, xF24_1, xF24_2, xF34_0, xF34_1, xF34_2⟩
  clear hK K
  (try dsimp only [Act.put]); (try go_frame)
  refine wpAnyH_done (by kernel_rfl) ?_ _
  try simp only [QCut]
  clear hHeld
  clear xF24_0 xF24_1 xF24_2 xF34_0 xF34_1 xF34_2
  obtain ⟨xF24_0, xF24_1, xF24_2⟩ := F2.ce3
  go_wp2
  go_ret
  exact ⟨rfl, B0⟩
set_option maxRecDepth 100000 in
set_option maxHeartbeats 8000000 in
theorem p4neg_0 (xn : Bool) (xS xT : ByteArray) (w : World) (hP : xS.toList = []) :
    Calls Tryz.prog 15 #[.agg #[.bool xn, .string xS, .string xT]] w fun r w' => r = .returned (.agg #[.bool xn, .string xS, .string xT]) ∧ Below w.heap.size w w' := by
  have F3 := (Blk.put w #[.bool xn, .string xS, .string xT] 24).allocd (.cells #[.bool xn, .string xS, .string xT] 24)
  have G0 := Blk.put (w.alloc (.cells #[.bool xn, .string xS, .string xT] 24)) #[.bool xn, .string xS, .string xT] 24
  rw [show (w.alloc (.cells #[.bool xn, .string xS, .string xT] 24)).heap.size = w.heap.size + 1 by simp] at G0
  have B0 := ((Below.refl w.heap.size w).alloc (Nat.le_refl _) (.cells #[.bool xn, .string xS, .string xT] 24)).alloc (by simp) (.cells #[.bool xn, .string xS, .string xT] 24)
  have F4 := (Blk.put w #[.bool xn, .string xS, .string xT] 24).allocd (.cells #[.bool false, .string { data := #[] }, .string { data := #[] }] 24)
  obtain ⟨c0, c1, c2⟩ := G0.ce3
  obtain ⟨x0, x1, x2⟩ := F3.ce3
  obtain ⟨y0, y1, y2⟩ := F4.ce3
  clear G0 F3 F4
  go_enter Tryz.func15, Tryz.ntmps15
  go_wp2
  exact bodyPost_ret (v := .agg #[.bool xn, .string xS, .string xT]) (by simp [results, Tryz.results15, go_sem, c0, c1, c2]) rfl ⟨rfl, B0⟩
set_option maxRecDepth 100000 in
set_option maxHeartbeats 8000000 in
theorem p4neg_w (xn m : Bool) (xS xT : ByteArray) (w : World) (hm : (!xn) = m) (hP : xS.toList.isEmpty = false) (_hP2 : xS.toList ≠ []) :
    Calls Tryz.prog 15 #[.agg #[.bool xn, .string xS, .string xT]] w fun r w' => r = .returned (.agg #[.bool m, .string xS, .string xT]) ∧ Below w.heap.size w w' := by
  have F3 := (Blk.put w #[.bool m, .string xS, .string xT] 24).allocd (.cells #[.bool m, .string xS, .string xT] 24)
  have G0 := Blk.put (w.alloc (.cells #[.bool m, .string xS, .string xT] 24)) #[.bool m, .string xS, .string xT] 24
  rw [show (w.alloc (.cells #[.bool m, .string xS, .string xT] 24)).heap.size = w.heap.size + 1 by simp] at G0
  have B0 := ((Below.refl w.heap.size w).alloc (Nat.le_refl _) (.cells #[.bool m, .string xS, .string xT] 24)).alloc (by simp) (.cells #[.bool m, .string xS, .string xT] 24)
  have F4 := (Blk.put w #[.bool xn, .string xS, .string xT] 24).allocd (.cells #[.bool false, .string { data := #[] }, .string { data := #[] }] 24)
  have F5 := (Blk.put w #[.bool m, .string xS, .string xT] 24).allocd (.cells #[.bool false, .string { data := #[] }, .string { data := #[] }] 24)
  obtain ⟨c0, c1, c2⟩ := G0.ce3
  obtain ⟨x0, x1, x2⟩ := F3.ce3
  obtain ⟨y0, y1, y2⟩ := F4.ce3
  obtain ⟨z0, z1, z2⟩ := F5.ce3
  clear G0 F3 F4 F5
  go_enter Tryz.func15, Tryz.ntmps15
  go_wp2
  exact bodyPost_ret (v := .agg #[.bool m, .string xS, .string xT]) (by simp [results, Tryz.results15, go_sem, c0, c1, c2]) rfl ⟨rfl, B0⟩
end Go.Proofs.YtbfnafcpjbdbpaaGreat
