/- The reference of layer 3: Show; dyad.Show: their ways, by letters. -/
import Derived.Test.YtjldfclncipbgaaGreatDoorMN
import Derived.Test.YtjldfclncipbgaaGreatDoorKf
import Derived.Test.YtjldfclncipbgaaGreatDoorB4
namespace Go.Proofs.YtjldfclncipbgaaGreatDoor
open Go Go.RowKit Go.PlainAid Fil

set_option maxRecDepth 1000000 in
set_option maxHeartbeats 16000000 in
theorem r3show_nil (n : Bool) (e : Int) (w : World)  :
    Calls Tryz.prog 12 #[.agg #[.bool n, .string { data := #[] }, .int .i64 e]] w fun r w' => r = .returned (.string { data := #[48] }) ∧ Below w.heap.size w w' := by
  go_enter Tryz.func12, Tryz.ntmps12
  have B0 := Below.refl w.heap.size w
  have F1 := Blk.put (w) #[.bool n, .string { data := #[] }, .int .i64 e] 24
  replace B0 := B0.alloc B0.size (.cells #[.bool n, .string { data := #[] }, .int .i64 e] 24)
  obtain ⟨xF10_0, xF10_1, xF10_2⟩ := F1.ce3
  go_wp2
  go_ret
  exact ⟨rfl, B0⟩
set_option maxRecDepth 1000000 in
set_option maxHeartbeats 16000000 in
theorem r3show_pos (xS tS dS : ByteArray) (e : Int) (w : World) (hT : ∀ W, Calls Tryz.prog 36 #[.string xS] W fun r w' => r = .returned (.string tS) ∧ Below W.heap.size W w')
    (hD : ∀ W, Calls Tryz.prog 37 #[.int .i64 e] W fun r w' => r = .returned (.string dS) ∧ Below W.heap.size W w')
    (h0 : xS.toList.isEmpty = false)
    (hts : tS.size ≤ 1000000) (hds : dS.size ≤ 1000) :
    Calls Tryz.prog 12 #[.agg #[.bool false, .string xS, .int .i64 e]] w fun r w' => r = .returned (.string ((tS ++ ⟨#[112]⟩) ++ dS)) ∧ Below w.heap.size w w' := by
  have h02 : ¬ xS.toList = [] := fun h => by rw [h] at h0; exact Bool.noConfusion h0
  have h03 : (xS.toList == []) = false := by simpa using h02
  go_enter Tryz.func12, Tryz.ntmps12
  have B0 := Below.refl w.heap.size w
  have F1 := Blk.put (w) #[.bool false, .string xS, .int .i64 e] 24
  replace B0 := B0.alloc B0.size (.cells #[.bool false, .string xS, .int .i64 e] 24)
  obtain ⟨xF10_0, xF10_1, xF10_2⟩ := F1.ce3
  go_wp2_with fail
  refine wp_region_cut 8 (by kernel_rfl) (by kernel_rfl) ?_
  rintro W rfl
  simp only [List.take_succ_cons, List.take_zero, List.drop_succ_cons, List.drop_zero]
  have hHeld : (fun w' : World => w'.cell? ⟨w.heap.size, 0, none⟩ = some (.bool false) ∧ w'.cell? ⟨w.heap.size, 1, none⟩ = some (.string xS) ∧ w'.cell? ⟨w.heap.size, 2, none⟩ = some (.int .i64 e)) ((w).alloc (.cells #[.bool false, .string xS, .int .i64 e] 24)).drew := ⟨xF10_0, xF10_1, xF10_2⟩
  refine wpAny_of_held (S := fun w' : World => w'.cell? ⟨w.heap.size, 0, none⟩ = some (.bool false) ∧ w'.cell? ⟨w.heap.size, 1, none⟩ = some (.string xS) ∧ w'.cell? ⟨w.heap.size, 2, none⟩ = some (.int .i64 e)) _ _ _ _ ?_
  replace F1 := F1.drew
  replace B0 := B0.drew
  refine wpAnyH_take (i := 0) (v := _) (by first | (simp only [List.getElem?_toArray, List.getElem?_cons_zero]; rfl) | rfl) (by kernel_rfl) (by kernel_rfl) (by kernel_rfl) (by exact fun _ _ _ h => h) (Or.inl ⟨by rfl, by (intro w hSw; (try dsimp only at hSw); go_simp; (try with_reducible rfl); (try (refine (if_neg ?_).trans rfl; omega)))⟩) (by assumption) ?_
  (try dsimp only [Act.put]); (try go_frame)
  refine wpAnyH_take (i := 1) (v := _) (by first | (simp only [List.getElem?_toArray, List.getElem?_cons_zero, List.getElem?_cons_succ]; rfl) | rfl) (by kernel_rfl) (by kernel_rfl) (by kernel_rfl) (by exact fun _ _ _ h => h) (Or.inl ⟨by rfl, by (intro w hSw; (try dsimp only at hSw); go_simp; (try with_reducible rfl); (try (refine (if_neg ?_).trans rfl; omega)))⟩) (by assumption) ?_
  (try dsimp only [Act.put]); (try go_frame)
  refine wpAnyH_take (i := 4) (v := _) (by first | (simp only [List.getElem?_toArray, List.getElem?_cons_zero, List.getElem?_cons_succ]; rfl) | rfl) (by kernel_rfl) (by kernel_rfl) (by kernel_rfl) (by exact fun _ _ _ h => h) (Or.inl ⟨by rfl, by (intro w hSw; (try dsimp only at hSw); go_simp; (try with_reducible rfl); (try (refine (if_neg ?_).trans rfl; omega)))⟩) (by assumption) ?_
  (try dsimp only [Act.put]); (try go_frame)
  refine wpAnyH_take (i := 5) (v := _) (by first | (simp only [List.getElem?_toArray, List.getElem?_cons_zero, List.getElem?_cons_succ]; rfl) | rfl) (by kernel_rfl) (by kernel_rfl) (by kernel_rfl) (by exact fun _ _ _ h => h) (Or.inl ⟨by rfl, by (intro w hSw; (try dsimp only at hSw); go_simp; (try with_reducible rfl); (try (refine (if_neg ?_).trans rfl; omega)))⟩) (by assumption) ?_
  (try dsimp only [Act.put]); (try go_frame)
  refine wpAnyH_ready (rs := [2]) (by kernel_rfl) (by simp) ?_
  refine AllReadyH.cons rfl (fun K hK => ?_) AllReadyH.nil
  go_simp
  (with_reducible refine (hT _).mono ?_)
  rintro r w1 ⟨rfl, hb1⟩
  clear xF10_0 xF10_1 xF10_2
  replace F1 := F1.keep hb1
  replace B0 := B0.trans (hb1.mono B0.size)
  clear hb1
  obtain ⟨xF12_0, xF12_1, xF12_2⟩ := F1.ce3
  refine hK.out _ _ ?_ (fun hHeld => ?_)
  · exact ⟨xF12_0, xF12_1, xF12_2⟩
  clear hK K
  (try dsimp only [Act.put]); (try go_frame)
  refine wpAnyH_take (i := 3) (v := _) (by first | (simp only [List.getElem?_toArray, List.getElem?_cons_zero, List.getElem?_cons_succ]; rfl) | rfl) (by kernel_rfl) (by kernel_rfl) (by kernel_rfl) (by exact fun _ _ _ h => h) (Or.inl ⟨by rfl, by (intro w hSw; (try dsimp only at hSw); go_simp; (try with_reducible rfl); (try (refine (if_neg ?_).trans rfl; omega)))⟩) (by assumption) ?_
  (try dsimp only [Act.put]); (try go_frame)
  refine wpAnyH_ready (rs := [6]) (by kernel_rfl) (by simp) ?_
  refine AllReadyH.cons rfl (fun K hK => ?_) AllReadyH.nil
  go_simp
  (with_reducible refine (hD _).mono ?_)
  rintro r w2 ⟨rfl, hb2⟩
  clear xF12_0 xF12_1 xF12_2
  replace F1 := F1.keep hb2
  replace B0 := B0.trans (hb2.mono B0.size)
  clear hb2
  obtain ⟨xF13_0, xF13_1, xF13_2⟩ := F1.ce3
  refine hK.out _ _ ?_ (fun hHeld => ?_)
  · exact ⟨xF13_0, xF13_1, xF13_2⟩
  clear hK K
  (try dsimp only [Act.put]); (try go_frame)
  refine wpAnyH_take (i := 7) (v := _) (by first | (simp only [List.getElem?_toArray, List.getElem?_cons_zero, List.getElem?_cons_succ]; rfl) | rfl) (by kernel_rfl) (by kernel_rfl) (by kernel_rfl) (by exact fun _ _ _ h => h) (Or.inl ⟨by rfl, by (intro w hSw; (try dsimp only at hSw); go_simp; (try with_reducible rfl); (try (refine (if_neg ?_).trans rfl; omega)))⟩) (by assumption) ?_
  (try dsimp only [Act.put]); (try go_frame)
  refine wpAnyH_done (by kernel_rfl) ?_ _
  try simp only [QCut]
  clear hHeld
  clear xF13_0 xF13_1 xF13_2
  obtain ⟨xF13_0, xF13_1, xF13_2⟩ := F1.ce3
  go_wp2
  go_ret
  exact ⟨rfl, B0⟩
set_option maxRecDepth 1000000 in
set_option maxHeartbeats 16000000 in
theorem r3show_neg (xS tS dS : ByteArray) (e : Int) (w : World) (hT : ∀ W, Calls Tryz.prog 36 #[.string xS] W fun r w' => r = .returned (.string tS) ∧ Below W.heap.size W w')
    (hD : ∀ W, Calls Tryz.prog 37 #[.int .i64 e] W fun r w' => r = .returned (.string dS) ∧ Below W.heap.size W w')
    (h0 : xS.toList.isEmpty = false)
    (hts : tS.size ≤ 1000000) (hds : dS.size ≤ 1000) :
    Calls Tryz.prog 12 #[.agg #[.bool true, .string xS, .int .i64 e]] w fun r w' => r = .returned (.string (⟨#[45]⟩ ++ ((tS ++ ⟨#[112]⟩) ++ dS))) ∧ Below w.heap.size w w' := by
  have h02 : ¬ xS.toList = [] := fun h => by rw [h] at h0; exact Bool.noConfusion h0
  have h03 : (xS.toList == []) = false := by simpa using h02
  go_enter Tryz.func12, Tryz.ntmps12
  have B0 := Below.refl w.heap.size w
  have F1 := Blk.put (w) #[.bool true, .string xS, .int .i64 e] 24
  replace B0 := B0.alloc B0.size (.cells #[.bool true, .string xS, .int .i64 e] 24)
  obtain ⟨xF10_0, xF10_1, xF10_2⟩ := F1.ce3
  go_wp2_with fail
  refine wp_region_cut 8 (by kernel_rfl) (by kernel_rfl) ?_
  rintro W rfl
  simp only [List.take_succ_cons, List.take_zero, List.drop_succ_cons, List.drop_zero]
  have hHeld : (fun w' : World => w'.cell? ⟨w.heap.size, 0, none⟩ = some (.bool true) ∧ w'.cell? ⟨w.heap.size, 1, none⟩ = some (.string xS) ∧ w'.cell? ⟨w.heap.size, 2, none⟩ = some (.int .i64 e)) ((w).alloc (.cells #[.bool true, .string xS, .int .i64 e] 24)).drew := ⟨xF10_0, xF10_1, xF10_2⟩
  refine wpAny_of_held (S := fun w' : World => w'.cell? ⟨w.heap.size, 0, none⟩ = some (.bool true) ∧ w'.cell? ⟨w.heap.size, 1, none⟩ = some (.string xS) ∧ w'.cell? ⟨w.heap.size, 2, none⟩ = some (.int .i64 e)) _ _ _ _ ?_
  replace F1 := F1.drew
  replace B0 := B0.drew
  refine wpAnyH_take (i := 0) (v := _) (by first | (simp only [List.getElem?_toArray, List.getElem?_cons_zero]; rfl) | rfl) (by kernel_rfl) (by kernel_rfl) (by kernel_rfl) (by exact fun _ _ _ h => h) (Or.inl ⟨by rfl, by (intro w hSw; (try dsimp only at hSw); go_simp; (try with_reducible rfl); (try (refine (if_neg ?_).trans rfl; omega)))⟩) (by assumption) ?_
  (try dsimp only [Act.put]); (try go_frame)
  refine wpAnyH_take (i := 1) (v := _) (by first | (simp only [List.getElem?_toArray, List.getElem?_cons_zero, List.getElem?_cons_succ]; rfl) | rfl) (by kernel_rfl) (by kernel_rfl) (by kernel_rfl) (by exact fun _ _ _ h => h) (Or.inl ⟨by rfl, by (intro w hSw; (try dsimp only at hSw); go_simp; (try with_reducible rfl); (try (refine (if_neg ?_).trans rfl; omega)))⟩) (by assumption) ?_
  (try dsimp only [Act.put]); (try go_frame)
  refine wpAnyH_take (i := 4) (v := _) (by first | (simp only [List.getElem?_toArray, List.getElem?_cons_zero, List.getElem?_cons_succ]; rfl) | rfl) (by kernel_rfl) (by kernel_rfl) (by kernel_rfl) (by exact fun _ _ _ h => h) (Or.inl ⟨by rfl, by (intro w hSw; (try dsimp only at hSw); go_simp; (try with_reducible rfl); (try (refine (if_neg ?_).trans rfl; omega)))⟩) (by assumption) ?_
  (try dsimp only [Act.put]); (try go_frame)
  refine wpAnyH_take (i := 5) (v := _) (by first | (simp only [List.getElem?_toArray, List.getElem?_cons_zero, List.getElem?_cons_succ]; rfl) | rfl) (by kernel_rfl) (by kernel_rfl) (by kernel_rfl) (by exact fun _ _ _ h => h) (Or.inl ⟨by rfl, by (intro w hSw; (try dsimp only at hSw); go_simp; (try with_reducible rfl); (try (refine (if_neg ?_).trans rfl; omega)))⟩) (by assumption) ?_
  (try dsimp only [Act.put]); (try go_frame)
  refine wpAnyH_ready (rs := [2]) (by kernel_rfl) (by simp) ?_
  refine AllReadyH.cons rfl (fun K hK => ?_) AllReadyH.nil
  go_simp
  (with_reducible refine (hT _).mono ?_)
  rintro r w1 ⟨rfl, hb1⟩
  clear xF10_0 xF10_1 xF10_2
  replace F1 := F1.keep hb1
  replace B0 := B0.trans (hb1.mono B0.size)
  clear hb1
  obtain ⟨xF12_0, xF12_1, xF12_2⟩ := F1.ce3
  refine hK.out _ _ ?_ (fun hHeld => ?_)
  · exact ⟨xF12_0, xF12_1, xF12_2⟩
  clear hK K
  (try dsimp only [Act.put]); (try go_frame)
  refine wpAnyH_take (i := 3) (v := _) (by first | (simp only [List.getElem?_toArray, List.getElem?_cons_zero, List.getElem?_cons_succ]; rfl) | rfl) (by kernel_rfl) (by kernel_rfl) (by kernel_rfl) (by exact fun _ _ _ h => h) (Or.inl ⟨by rfl, by (intro w hSw; (try dsimp only at hSw); go_simp; (try with_reducible rfl); (try (refine (if_neg ?_).trans rfl; omega)))⟩) (by assumption) ?_
  (try dsimp only [Act.put]); (try go_frame)
  refine wpAnyH_ready (rs := [6]) (by kernel_rfl) (by simp) ?_
  refine AllReadyH.cons rfl (fun K hK => ?_) AllReadyH.nil
  go_simp
  (with_reducible refine (hD _).mono ?_)
  rintro r w2 ⟨rfl, hb2⟩
  clear xF12_0 xF12_1 xF12_2
  replace F1 := F1.keep hb2
  replace B0 := B0.trans (hb2.mono B0.size)
  clear hb2
  obtain ⟨xF13_0, xF13_1, xF13_2⟩ := F1.ce3
  refine hK.out _ _ ?_ (fun hHeld => ?_)
  · exact ⟨xF13_0, xF13_1, xF13_2⟩
  clear hK K
  (try dsimp only [Act.put]); (try go_frame)
  refine wpAnyH_take (i := 7) (v := _) (by first | (simp only [List.getElem?_toArray, List.getElem?_cons_zero, List.getElem?_cons_succ]; rfl) | rfl) (by kernel_rfl) (by kernel_rfl) (by kernel_rfl) (by exact fun _ _ _ h => h) (Or.inl ⟨by rfl, by (intro w hSw; (try dsimp only at hSw); go_simp; (try with_reducible rfl); (try (refine (if_neg ?_).trans rfl; omega)))⟩) (by assumption) ?_
  (try dsimp only [Act.put]); (try go_frame)
  refine wpAnyH_done (by kernel_rfl) ?_ _
  try simp only [QCut]
  clear hHeld
  clear xF13_0 xF13_1 xF13_2
  obtain ⟨xF13_0, xF13_1, xF13_2⟩ := F1.ce3
  go_wp2
  go_ret
  exact ⟨rfl, B0⟩
set_option maxRecDepth 1000000 in
set_option maxHeartbeats 16000000 in
theorem dshow_bad (xS : ByteArray) (n : Bool) (e : Int) (b : Int) (w : World) (hC : ∀ W, Calls Tryz.prog 13 #[.agg #[.bool n, .string xS, .int .i64 e]] W fun r w' => r = .returned (.int .i64 b) ∧ Below W.heap.size W w')
    (hb : (b != 0) = true) :
    Calls Tryz.prog 7 #[.agg #[.bool n, .string xS, .int .i64 e]] w fun r w' => r = .returned (.tuple #[.string { data := #[] }, .int .i64 2]) ∧ Below w.heap.size w w' := by
  go_enter Tryz.func7, Tryz.ntmps7
  have B0 := Below.refl w.heap.size w
  have F1 := Blk.put (w) #[.bool n, .string xS, .int .i64 e] 24
  replace B0 := B0.alloc B0.size (.cells #[.bool n, .string xS, .int .i64 e] 24)
  obtain ⟨xF10_0, xF10_1, xF10_2⟩ := F1.ce3
  go_wp2_with fail
  (with_reducible refine (hC _).mono ?_)
  rintro r w1 ⟨rfl, hb1⟩
  clear xF10_0 xF10_1 xF10_2
  replace F1 := F1.keep hb1
  replace B0 := B0.trans (hb1.mono B0.size)
  clear hb1
  go_wp2
  go_ret2
  exact ⟨rfl, B0⟩
set_option maxRecDepth 1000000 in
set_option maxHeartbeats 16000000 in
theorem dshow_nil (xS : ByteArray) (n : Bool) (e : Int) (w : World) (hC : ∀ W, Calls Tryz.prog 13 #[.agg #[.bool n, .string xS, .int .i64 e]] W fun r w' => r = .returned (.int .i64 0) ∧ Below W.heap.size W w')
    (hS : ∀ W, Calls Tryz.prog 23 #[.agg #[.bool n, .string xS, .int .i64 e]] W fun r w' => r = .returned (.int .i64 0) ∧ Below W.heap.size W w') :
    Calls Tryz.prog 7 #[.agg #[.bool n, .string xS, .int .i64 e]] w fun r w' => r = .returned (.tuple #[.string { data := #[48] }, .int .i64 0]) ∧ Below w.heap.size w w' := by
  go_enter Tryz.func7, Tryz.ntmps7
  have B0 := Below.refl w.heap.size w
  have F1 := Blk.put (w) #[.bool n, .string xS, .int .i64 e] 24
  replace B0 := B0.alloc B0.size (.cells #[.bool n, .string xS, .int .i64 e] 24)
  obtain ⟨xF10_0, xF10_1, xF10_2⟩ := F1.ce3
  go_wp2_with fail
  (with_reducible refine (hC _).mono ?_)
  rintro r w1 ⟨rfl, hb1⟩
  clear xF10_0 xF10_1 xF10_2
  replace F1 := F1.keep hb1
  replace B0 := B0.trans (hb1.mono B0.size)
  clear hb1
  obtain ⟨xF11_0, xF11_1, xF11_2⟩ := F1.ce3
  go_wp2_with fail
  (with_reducible refine (hS _).mono ?_)
  rintro r w2 ⟨rfl, hb2⟩
  clear xF11_0 xF11_1 xF11_2
  replace F1 := F1.keep hb2
  replace B0 := B0.trans (hb2.mono B0.size)
  clear hb2
  go_wp2
  go_ret2
  exact ⟨rfl, B0⟩
set_option maxRecDepth 1000000 in
set_option maxHeartbeats 16000000 in
theorem dshow_ok (xS tS dS : ByteArray) (n : Bool) (e g z : Int) (w : World) (hC : ∀ W, Calls Tryz.prog 13 #[.agg #[.bool n, .string xS, .int .i64 e]] W fun r w' => r = .returned (.int .i64 0) ∧ Below W.heap.size W w')
    (hS : ∀ W, Calls Tryz.prog 23 #[.agg #[.bool n, .string xS, .int .i64 e]] W fun r w' => r = .returned (.int .i64 g) ∧ Below W.heap.size W w')
    (hg : (g == 0) = false)
    (hW : ∀ W, Calls Tryz.prog 24 #[.agg #[.bool n, .string xS, .int .i64 e]] W fun r w' => (∃ b o, r = .returned (.pointer (some ⟨b, o, none⟩)) ∧ IntAt w' b o z) ∧ Below W.heap.size W w')
    (hT : ∀ W b o, IntAt W b o z → Calls Tryz.prog 25 #[.pointer (some ⟨b, o, none⟩)] W fun r w' => r = .returned (.string tS) ∧ Below W.heap.size W w')
    (hD : ∀ W, Below w.heap.size w W → Calls Tryz.prog 26 #[.int .i64 e] W fun r w' => r = .returned (.string dS) ∧ Below W.heap.size W w')
    (hts : tS.size ≤ 1000000) (hds : dS.size ≤ 1000) :
    Calls Tryz.prog 7 #[.agg #[.bool n, .string xS, .int .i64 e]] w fun r w' => r = .returned (.tuple #[.string ((tS ++ ⟨#[112]⟩) ++ dS), .int .i64 0]) ∧ Below w.heap.size w w' := by
  go_enter Tryz.func7, Tryz.ntmps7
  have B0 := Below.refl w.heap.size w
  have F1 := Blk.put (w) #[.bool n, .string xS, .int .i64 e] 24
  replace B0 := B0.alloc B0.size (.cells #[.bool n, .string xS, .int .i64 e] 24)
  obtain ⟨xF10_0, xF10_1, xF10_2⟩ := F1.ce3
  go_wp2_with fail
  (with_reducible refine (hC _).mono ?_)
  rintro r w1 ⟨rfl, hb1⟩
  clear xF10_0 xF10_1 xF10_2
  replace F1 := F1.keep hb1
  replace B0 := B0.trans (hb1.mono B0.size)
  clear hb1
  obtain ⟨xF11_0, xF11_1, xF11_2⟩ := F1.ce3
  go_wp2_with fail
  (with_reducible refine (hS _).mono ?_)
  rintro r w2 ⟨rfl, hb2⟩
  clear xF11_0 xF11_1 xF11_2
  replace F1 := F1.keep hb2
  replace B0 := B0.trans (hb2.mono B0.size)
  clear hb2
  go_wp2_with fail
  refine wp_region_cut 8 (by kernel_rfl) (by kernel_rfl) ?_
  rintro W rfl
  simp only [List.take_succ_cons, List.take_zero, List.drop_succ_cons, List.drop_zero]
  obtain ⟨xF12_0, xF12_1, xF12_2⟩ := F1.ce3
  have hHeld : (fun w' : World => w'.cell? ⟨w.heap.size, 0, none⟩ = some (.bool n) ∧ w'.cell? ⟨w.heap.size, 1, none⟩ = some (.string xS) ∧ w'.cell? ⟨w.heap.size, 2, none⟩ = some (.int .i64 e)) (w2).drew := ⟨xF12_0, xF12_1, xF12_2⟩
  refine wpAny_of_held (S := fun w' : World => w'.cell? ⟨w.heap.size, 0, none⟩ = some (.bool n) ∧ w'.cell? ⟨w.heap.size, 1, none⟩ = some (.string xS) ∧ w'.cell? ⟨w.heap.size, 2, none⟩ = some (.int .i64 e)) _ _ _ _ ?_
  replace F1 := F1.drew
  replace B0 := B0.drew
  refine wpAnyH_take (i := 0) (v := _) (by first | (simp only [List.getElem?_toArray, List.getElem?_cons_zero]; rfl) | rfl) (by kernel_rfl) (by kernel_rfl) (by kernel_rfl) (by exact fun _ _ _ h => h) (Or.inl ⟨by rfl, by (intro w hSw; (try dsimp only at hSw); go_simp; (try with_reducible rfl); (try (refine (if_neg ?_).trans rfl; omega)))⟩) (by assumption) ?_
  (try dsimp only [Act.put]); (try go_frame)
  refine wpAnyH_take (i := 4) (v := _) (by first | (simp only [List.getElem?_toArray, List.getElem?_cons_zero, List.getElem?_cons_succ]; rfl) | rfl) (by kernel_rfl) (by kernel_rfl) (by kernel_rfl) (by exact fun _ _ _ h => h) (Or.inl ⟨by rfl, by (intro w hSw; (try dsimp only at hSw); go_simp; (try with_reducible rfl); (try (refine (if_neg ?_).trans rfl; omega)))⟩) (by assumption) ?_
  (try dsimp only [Act.put]); (try go_frame)
  refine wpAnyH_take (i := 5) (v := _) (by first | (simp only [List.getElem?_toArray, List.getElem?_cons_zero, List.getElem?_cons_succ]; rfl) | rfl) (by kernel_rfl) (by kernel_rfl) (by kernel_rfl) (by exact fun _ _ _ h => h) (Or.inl ⟨by rfl, by (intro w hSw; (try dsimp only at hSw); go_simp; (try with_reducible rfl); (try (refine (if_neg ?_).trans rfl; omega)))⟩) (by assumption) ?_
  (try dsimp only [Act.put]); (try go_frame)
  refine wpAnyH_ready (rs := [1]) (by kernel_rfl) (by simp) ?_
  refine AllReadyH.cons rfl (fun K hK => ?_) AllReadyH.nil
  go_simp
  (with_reducible refine (hW _).mono ?_)
  rintro r w3 ⟨⟨zb, zo, rfl, hz⟩, hb3⟩
  clear xF12_0 xF12_1 xF12_2
  replace F1 := F1.keep hb3
  replace B0 := B0.trans (hb3.mono B0.size)
  clear hb3
  obtain ⟨xF14_0, xF14_1, xF14_2⟩ := F1.ce3
  refine hK.out _ _ ?_ (fun hHeld => ?_)
  · exact ⟨xF14_0, xF14_1, xF14_2⟩
  clear hK K
  (try dsimp only [Act.put]); (try go_frame)
  refine wpAnyH_ready (rs := [2]) (by kernel_rfl) (by simp) ?_
  refine AllReadyH.cons rfl (fun K hK => ?_) AllReadyH.nil
  go_simp
  (with_reducible refine (hT _ _ _ hz).mono ?_)
  rintro r w4 ⟨rfl, hb4⟩
  clear xF14_0 xF14_1 xF14_2
  replace F1 := F1.keep hb4
  replace B0 := B0.trans (hb4.mono B0.size)
  clear hb4
  obtain ⟨xF15_0, xF15_1, xF15_2⟩ := F1.ce3
  refine hK.out _ _ ?_ (fun hHeld => ?_)
  · exact ⟨xF15_0, xF15_1, xF15_2⟩
  clear hK K
  (try dsimp only [Act.put]); (try go_frame)
  refine wpAnyH_take (i := 3) (v := _) (by first | (simp only [List.getElem?_toArray, List.getElem?_cons_zero, List.getElem?_cons_succ]; rfl) | rfl) (by kernel_rfl) (by kernel_rfl) (by kernel_rfl) (by exact fun _ _ _ h => h) (Or.inl ⟨by rfl, by (intro w hSw; (try dsimp only at hSw); go_simp; (try with_reducible rfl); (try (refine (if_neg ?_).trans rfl; omega)))⟩) (by assumption) ?_
  (try dsimp only [Act.put]); (try go_frame)
  refine wpAnyH_ready (rs := [6]) (by kernel_rfl) (by simp) ?_
  refine AllReadyH.cons rfl (fun K hK => ?_) AllReadyH.nil
  go_simp
  (with_reducible refine (hD _ B0).mono ?_)
  rintro r w5 ⟨rfl, hb5⟩
  clear xF15_0 xF15_1 xF15_2
  replace F1 := F1.keep hb5
  replace B0 := B0.trans (hb5.mono B0.size)
  clear hb5
  obtain ⟨xF16_0, xF16_1, xF16_2⟩ := F1.ce3
  refine hK.out _ _ ?_ (fun hHeld => ?_)
  · exact ⟨xF16_0, xF16_1, xF16_2⟩
  clear hK K
  (try dsimp only [Act.put]); (try go_frame)
  refine wpAnyH_take (i := 7) (v := _) (by first | (simp only [List.getElem?_toArray, List.getElem?_cons_zero, List.getElem?_cons_succ]; rfl) | rfl) (by kernel_rfl) (by kernel_rfl) (by kernel_rfl) (by exact fun _ _ _ h => h) (Or.inl ⟨by rfl, by (intro w hSw; (try dsimp only at hSw); go_simp; (try with_reducible rfl); (try (refine (if_neg ?_).trans rfl; omega)))⟩) (by assumption) ?_
  (try dsimp only [Act.put]); (try go_frame)
  refine wpAnyH_done (by kernel_rfl) ?_ _
  try simp only [QCut]
  clear hHeld
  clear xF16_0 xF16_1 xF16_2
  go_wp2
  go_ret2
  exact ⟨rfl, B0⟩
end Go.Proofs.YtjldfclncipbgaaGreatDoor
