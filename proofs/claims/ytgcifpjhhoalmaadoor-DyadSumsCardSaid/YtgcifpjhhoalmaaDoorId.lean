/- The walks over wide's Int, third part: Add. -/
import Derived.Test.YtgcifpjhhoalmaaDoorIc
namespace Go.Proofs.YtgcifpjhhoalmaaDoor
open Go Go.RowKit Fil

theorem add_same {x y : Int} (h : (sg x == sg y) = true) : sz (sg x) (x.natAbs + y.natAbs) = x + y := by
  unfold sz sg at *
  by_cases h1 : x < 0 <;> by_cases h2 : y < 0 <;> simp [h1, h2] at h ⊢ <;> omega
theorem add_lt {x y : Int} (h : (sg x == sg y) = false) (hc : x.natAbs < y.natAbs) : sz (sg y) (y.natAbs - x.natAbs) = x + y := by
  unfold sz sg at *
  by_cases h1 : x < 0 <;> by_cases h2 : y < 0 <;> simp [h1, h2] at h ⊢ <;> omega
theorem add_ge {x y : Int} (h : (sg x == sg y) = false) (hc : y.natAbs ≤ x.natAbs) : sz (sg x) (x.natAbs - y.natAbs) = x + y := by
  unfold sz sg at *
  by_cases h1 : x < 0 <;> by_cases h2 : y < 0 <;> simp [h1, h2] at h ⊢ <;> omega

set_option maxHeartbeats 4000000 in
theorem add_any (b o b1 o1 b2 o2 : Nat) (x y : Int) (w : World) (hr : Room w b o) (h1 : IntAt w b1 o1 x) (h2 : IntAt w b2 o2 y) (hx : dn 32 x.natAbs ≤ 1099511627775) (hy : dn 32 y.natAbs ≤ 1099511627775) :
    Calls Tryd.prog 123 #[.pointer (some ⟨b, o, none⟩), .pointer (some ⟨b1, o1, none⟩), .pointer (some ⟨b2, o2, none⟩)] w fun e w' => e = .returned (.pointer (some ⟨b, o, none⟩)) ∧ IntAt w' b o (x + y) ∧ But w w' b o := by
  obtain ⟨A1, n1, c1, hn1, hd1, hD1⟩ := h1.cells
  obtain ⟨A2, n2, c2, hn2, hd2, hD2⟩ := h2.cells
  have l1 := h1.lt
  have l2 := h2.lt
  have hx0 := lt_dn (k := 32) (by omega) x.natAbs
  have hy0 := lt_dn (k := 32) (by omega) y.natAbs
  rw [← hD1.1] at hx hx0
  rw [← hD2.1] at hy hy0
  have Hx0 := Lib.hid hx0
  have Hy0 := Lib.hid hy0
  clear h1 h2 hx0 hy0
  cases hsame : (sg x == sg y)
  · by_cases hlt : x.natAbs < y.natAbs
    · have t1 : decide (cmpZ x.natAbs y.natAbs < 0) = true := by rw [cmpZ_lt hlt]; rfl
      have HS := Lib.hid (add_lt hsame hlt)
      have Hle := Lib.hid (Nat.le_of_lt hlt)
      have hn := dn_mono (k := 32) (by omega) (Nat.sub_le y.natAbs x.natAbs)
      rw [← hD2.1] at hn
      have Hn : Hid (dn 32 (y.natAbs - x.natAbs) ≤ 4398046511104) := Lib.hid (by omega)
      clear hlt hn
      go_enter Tryd.func123, Tryd.ntmps123
      go_wp2
      go_quiet ((go_at_call 164; exact Calls.quiet_of (cmp_any A1 A2 n1 c1 x.natAbs n2 c2 y.natAbs _ hD1.1 hD2.1 (by omega) (by omega) (by exact hD1.2.2) (by exact hD2.2.2))))
      go_wp2
      go_quiet (fail)
      go_wp2
      refine wp_region_cut 14 (by kernel_rfl) (by kernel_rfl) ?_
      rintro W rfl
      simp only [List.take_succ_cons, List.take_zero, List.drop_succ_cons, List.drop_zero]
      have hHeld : (fun w' : World => w'.cell? ⟨b2, o2, none⟩ = some (.bool (sg y)) ∧ w'.cell? ⟨b2, o2 + 1, none⟩ = some (.slice A2 n2 c2) ∧ w'.cell? ⟨b1, o1 + 1, none⟩ = some (.slice A1 n1 c1)) w.drew := ⟨hn2, hd2, hd1⟩
      refine wpAny_of_held (S := fun w' : World => w'.cell? ⟨b2, o2, none⟩ = some (.bool (sg y)) ∧ w'.cell? ⟨b2, o2 + 1, none⟩ = some (.slice A2 n2 c2) ∧ w'.cell? ⟨b1, o1 + 1, none⟩ = some (.slice A1 n1 c1)) _ _ _ _ ?_
      refine wpAnyH_take (i := 0) (v := _) (by first | (simp only [List.getElem?_toArray, List.getElem?_cons_zero]; rfl) | rfl) (by kernel_rfl) (by kernel_rfl) (by kernel_rfl) (by exact fun _ _ _ h => h) (Or.inl ⟨by rfl, by (intro w hSw; (try dsimp only at hSw); go_simp; try with_reducible rfl)⟩) (by assumption) ?_
      (try dsimp only [Act.put]); (try go_frame)
      refine wpAnyH_take (i := 1) (v := _) (by first | (simp only [List.getElem?_toArray, List.getElem?_cons_zero, List.getElem?_cons_succ]; rfl) | rfl) (by kernel_rfl) (by kernel_rfl) (by kernel_rfl) (by exact fun _ _ _ h => h) (Or.inl ⟨by rfl, by (intro w hSw; (try dsimp only at hSw); go_simp; try with_reducible rfl)⟩) (by assumption) ?_
      (try dsimp only [Act.put]); (try go_frame)
      refine wpAnyH_take (i := 2) (v := _) (by first | (simp only [List.getElem?_toArray, List.getElem?_cons_zero, List.getElem?_cons_succ]; rfl) | rfl) (by kernel_rfl) (by kernel_rfl) (by kernel_rfl) (by exact fun _ _ _ h => h) (Or.inl ⟨by rfl, by (intro w hSw; (try dsimp only at hSw); go_simp; try with_reducible rfl)⟩) (by assumption) ?_
      (try dsimp only [Act.put]); (try go_frame)
      refine wpAnyH_take (i := 3) (v := _) (by first | (simp only [List.getElem?_toArray, List.getElem?_cons_zero, List.getElem?_cons_succ]; rfl) | rfl) (by kernel_rfl) (by kernel_rfl) (by kernel_rfl) (by exact fun _ _ _ h => h) (Or.inl ⟨by rfl, by (intro w hSw; (try dsimp only at hSw); go_simp; try with_reducible rfl)⟩) (by assumption) ?_
      (try dsimp only [Act.put]); (try go_frame)
      refine wpAnyH_take (i := 4) (v := _) (by first | (simp only [List.getElem?_toArray, List.getElem?_cons_zero, List.getElem?_cons_succ]; rfl) | rfl) (by kernel_rfl) (by kernel_rfl) (by kernel_rfl) (by exact fun _ _ _ h => h) (Or.inl ⟨by rfl, by (intro w hSw; (try dsimp only at hSw); go_simp; try with_reducible rfl)⟩) (by assumption) ?_
      (try dsimp only [Act.put]); (try go_frame)
      refine wpAnyH_take (i := 5) (v := _) (by first | (simp only [List.getElem?_toArray, List.getElem?_cons_zero, List.getElem?_cons_succ]; rfl) | rfl) (by kernel_rfl) (by kernel_rfl) (by kernel_rfl) (by exact fun _ _ _ h => h) (Or.inl ⟨by rfl, by (intro w hSw; (try dsimp only at hSw); go_simp; try with_reducible rfl)⟩) (by assumption) ?_
      (try dsimp only [Act.put]); (try go_frame)
      refine wpAnyH_take (i := 6) (v := _) (by first | (simp only [List.getElem?_toArray, List.getElem?_cons_zero, List.getElem?_cons_succ]; rfl) | rfl) (by kernel_rfl) (by kernel_rfl) (by kernel_rfl) (by exact fun _ _ _ h => h) (Or.inl ⟨by rfl, by (intro w hSw; (try dsimp only at hSw); go_simp; try with_reducible rfl)⟩) (by assumption) ?_
      (try dsimp only [Act.put]); (try go_frame)
      refine wpAnyH_take (i := 7) (v := _) (by first | (simp only [List.getElem?_toArray, List.getElem?_cons_zero, List.getElem?_cons_succ]; rfl) | rfl) (by kernel_rfl) (by kernel_rfl) (by kernel_rfl) (by exact fun _ _ _ h => h) (Or.inl ⟨by rfl, by (intro w hSw; (try dsimp only at hSw); go_simp; try with_reducible rfl)⟩) (by assumption) ?_
      (try dsimp only [Act.put]); (try go_frame)
      refine wpAnyH_take (i := 8) (v := _) (by first | (simp only [List.getElem?_toArray, List.getElem?_cons_zero, List.getElem?_cons_succ]; rfl) | rfl) (by kernel_rfl) (by kernel_rfl) (by kernel_rfl) (by exact fun _ _ _ h => h) (Or.inl ⟨by rfl, by (intro w hSw; (try dsimp only at hSw); go_simp; try with_reducible rfl)⟩) (by assumption) ?_
      (try dsimp only [Act.put]); (try go_frame)
      refine wpAnyH_take (i := 9) (v := _) (by first | (simp only [List.getElem?_toArray, List.getElem?_cons_zero, List.getElem?_cons_succ]; rfl) | rfl) (by kernel_rfl) (by kernel_rfl) (by kernel_rfl) (by exact fun _ _ _ h => h) (Or.inl ⟨by rfl, by (intro w hSw; (try dsimp only at hSw); go_simp; try with_reducible rfl)⟩) (by assumption) ?_
      (try dsimp only [Act.put]); (try go_frame)
      refine wpAnyH_take (i := 10) (v := _) (by first | (simp only [List.getElem?_toArray, List.getElem?_cons_zero, List.getElem?_cons_succ]; rfl) | rfl) (by kernel_rfl) (by kernel_rfl) (by kernel_rfl) (by exact fun _ _ _ h => h) (Or.inl ⟨by rfl, by (intro w hSw; (try dsimp only at hSw); go_simp; try with_reducible rfl)⟩) (by assumption) ?_
      (try dsimp only [Act.put]); (try go_frame)
      refine wpAnyH_take (i := 11) (v := _) (by first | (simp only [List.getElem?_toArray, List.getElem?_cons_zero, List.getElem?_cons_succ]; rfl) | rfl) (by kernel_rfl) (by kernel_rfl) (by kernel_rfl) (by exact fun _ _ _ h => h) (Or.inl ⟨by rfl, by (intro w hSw; (try dsimp only at hSw); go_simp; try with_reducible rfl)⟩) (by assumption) ?_
      (try dsimp only [Act.put]); (try go_frame)
      refine wpAnyH_take (i := 12) (v := _) (by first | (simp only [List.getElem?_toArray, List.getElem?_cons_zero, List.getElem?_cons_succ]; rfl) | rfl) (by kernel_rfl) (by kernel_rfl) (by kernel_rfl) (by exact fun _ _ _ h => h) (Or.inl ⟨by rfl, by (intro w hSw; (try dsimp only at hSw); go_simp; try with_reducible rfl)⟩) (by assumption) ?_
      (try dsimp only [Act.put]); (try go_frame)
      refine wpAnyH_ready (rs := [13]) (by kernel_rfl) (by simp) ?_
      refine AllReadyH.cons rfl (fun K hK => ?_) AllReadyH.nil
      go_simp
      refine (less_any A2 A1 n2 c2 y.natAbs n1 c1 x.natAbs _ hD2.1 hD1.1 Hle.out hD2.2.1 (by omega) (by exact hD2.2.2) (by exact hD1.2.2)).mono ?_
      rintro e w1 ⟨A3, c3, rfl, hc3, hs3, hb3⟩
      have hb4 : Below w.heap.size w w1 := ⟨hb3.os, hb3.tape, hb3.output, hb3.size, hb3.block⟩
      have hr1 := hr.below hb4
      have hD3 : Dig w1 A3 _ c3 _ := ⟨rfl, hc3, hs3⟩
      refine hK.out _ _ ?_ (fun hHeld => ?_)
      · exact ⟨(hb4.cell l2).trans hn2, (hb4.cell l2).trans hd2, (hb4.cell l1).trans hd1⟩
      clear hK K
      (try dsimp only [Act.put]); (try go_frame)
      refine wpAnyH_done (by kernel_rfl) ?_ _
      try simp only [QCut]
      go_wp2_with (go_at_call 157; go_must (refine (laid_int b o _ _ _ _ (y.natAbs - x.natAbs) _ hr1 Hn.out hD3).mono ?_); rintro e w' ⟨rfl, hI, hB⟩)
      go_ret
      rw [HS.out] at hI
      exact ⟨rfl, hI, But.after hb4 hB hr⟩
    · have t1 : decide (cmpZ x.natAbs y.natAbs < 0) = false := by unfold cmpZ; rw [if_neg hlt]; split <;> rfl
      have HS := Lib.hid (add_ge hsame (Nat.le_of_not_lt hlt))
      have Hle := Lib.hid (Nat.le_of_not_lt hlt)
      have hn := dn_mono (k := 32) (by omega) (Nat.sub_le x.natAbs y.natAbs)
      rw [← hD1.1] at hn
      have Hn : Hid (dn 32 (x.natAbs - y.natAbs) ≤ 4398046511104) := Lib.hid (by omega)
      clear hlt hn
      go_enter Tryd.func123, Tryd.ntmps123
      go_wp2
      go_quiet ((go_at_call 164; exact Calls.quiet_of (cmp_any A1 A2 n1 c1 x.natAbs n2 c2 y.natAbs _ hD1.1 hD2.1 (by omega) (by omega) (by exact hD1.2.2) (by exact hD2.2.2))))
      go_wp2
      go_quiet (fail)
      go_wp2
      refine wp_region_cut 14 (by kernel_rfl) (by kernel_rfl) ?_
      rintro W rfl
      simp only [List.take_succ_cons, List.take_zero, List.drop_succ_cons, List.drop_zero]
      have hHeld : (fun w' : World => w'.cell? ⟨b1, o1, none⟩ = some (.bool (sg x)) ∧ w'.cell? ⟨b1, o1 + 1, none⟩ = some (.slice A1 n1 c1) ∧ w'.cell? ⟨b2, o2 + 1, none⟩ = some (.slice A2 n2 c2)) w.drew := ⟨hn1, hd1, hd2⟩
      refine wpAny_of_held (S := fun w' : World => w'.cell? ⟨b1, o1, none⟩ = some (.bool (sg x)) ∧ w'.cell? ⟨b1, o1 + 1, none⟩ = some (.slice A1 n1 c1) ∧ w'.cell? ⟨b2, o2 + 1, none⟩ = some (.slice A2 n2 c2)) _ _ _ _ ?_
      refine wpAnyH_take (i := 0) (v := _) (by first | (simp only [List.getElem?_toArray, List.getElem?_cons_zero]; rfl) | rfl) (by kernel_rfl) (by kernel_rfl) (by kernel_rfl) (by exact fun _ _ _ h => h) (Or.inl ⟨by rfl, by (intro w hSw; (try dsimp only at hSw); go_simp; try with_reducible rfl)⟩) (by assumption) ?_
      (try dsimp only [Act.put]); (try go_frame)
      refine wpAnyH_take (i := 1) (v := _) (by first | (simp only [List.getElem?_toArray, List.getElem?_cons_zero, List.getElem?_cons_succ]; rfl) | rfl) (by kernel_rfl) (by kernel_rfl) (by kernel_rfl) (by exact fun _ _ _ h => h) (Or.inl ⟨by rfl, by (intro w hSw; (try dsimp only at hSw); go_simp; try with_reducible rfl)⟩) (by assumption) ?_
      (try dsimp only [Act.put]); (try go_frame)
      refine wpAnyH_take (i := 2) (v := _) (by first | (simp only [List.getElem?_toArray, List.getElem?_cons_zero, List.getElem?_cons_succ]; rfl) | rfl) (by kernel_rfl) (by kernel_rfl) (by kernel_rfl) (by exact fun _ _ _ h => h) (Or.inl ⟨by rfl, by (intro w hSw; (try dsimp only at hSw); go_simp; try with_reducible rfl)⟩) (by assumption) ?_
      (try dsimp only [Act.put]); (try go_frame)
      refine wpAnyH_take (i := 3) (v := _) (by first | (simp only [List.getElem?_toArray, List.getElem?_cons_zero, List.getElem?_cons_succ]; rfl) | rfl) (by kernel_rfl) (by kernel_rfl) (by kernel_rfl) (by exact fun _ _ _ h => h) (Or.inl ⟨by rfl, by (intro w hSw; (try dsimp only at hSw); go_simp; try with_reducible rfl)⟩) (by assumption) ?_
      (try dsimp only [Act.put]); (try go_frame)
      refine wpAnyH_take (i := 4) (v := _) (by first | (simp only [List.getElem?_toArray, List.getElem?_cons_zero, List.getElem?_cons_succ]; rfl) | rfl) (by kernel_rfl) (by kernel_rfl) (by kernel_rfl) (by exact fun _ _ _ h => h) (Or.inl ⟨by rfl, by (intro w hSw; (try dsimp only at hSw); go_simp; try with_reducible rfl)⟩) (by assumption) ?_
      (try dsimp only [Act.put]); (try go_frame)
      refine wpAnyH_take (i := 5) (v := _) (by first | (simp only [List.getElem?_toArray, List.getElem?_cons_zero, List.getElem?_cons_succ]; rfl) | rfl) (by kernel_rfl) (by kernel_rfl) (by kernel_rfl) (by exact fun _ _ _ h => h) (Or.inl ⟨by rfl, by (intro w hSw; (try dsimp only at hSw); go_simp; try with_reducible rfl)⟩) (by assumption) ?_
      (try dsimp only [Act.put]); (try go_frame)
      refine wpAnyH_take (i := 6) (v := _) (by first | (simp only [List.getElem?_toArray, List.getElem?_cons_zero, List.getElem?_cons_succ]; rfl) | rfl) (by kernel_rfl) (by kernel_rfl) (by kernel_rfl) (by exact fun _ _ _ h => h) (Or.inl ⟨by rfl, by (intro w hSw; (try dsimp only at hSw); go_simp; try with_reducible rfl)⟩) (by assumption) ?_
      (try dsimp only [Act.put]); (try go_frame)
      refine wpAnyH_take (i := 7) (v := _) (by first | (simp only [List.getElem?_toArray, List.getElem?_cons_zero, List.getElem?_cons_succ]; rfl) | rfl) (by kernel_rfl) (by kernel_rfl) (by kernel_rfl) (by exact fun _ _ _ h => h) (Or.inl ⟨by rfl, by (intro w hSw; (try dsimp only at hSw); go_simp; try with_reducible rfl)⟩) (by assumption) ?_
      (try dsimp only [Act.put]); (try go_frame)
      refine wpAnyH_take (i := 8) (v := _) (by first | (simp only [List.getElem?_toArray, List.getElem?_cons_zero, List.getElem?_cons_succ]; rfl) | rfl) (by kernel_rfl) (by kernel_rfl) (by kernel_rfl) (by exact fun _ _ _ h => h) (Or.inl ⟨by rfl, by (intro w hSw; (try dsimp only at hSw); go_simp; try with_reducible rfl)⟩) (by assumption) ?_
      (try dsimp only [Act.put]); (try go_frame)
      refine wpAnyH_take (i := 9) (v := _) (by first | (simp only [List.getElem?_toArray, List.getElem?_cons_zero, List.getElem?_cons_succ]; rfl) | rfl) (by kernel_rfl) (by kernel_rfl) (by kernel_rfl) (by exact fun _ _ _ h => h) (Or.inl ⟨by rfl, by (intro w hSw; (try dsimp only at hSw); go_simp; try with_reducible rfl)⟩) (by assumption) ?_
      (try dsimp only [Act.put]); (try go_frame)
      refine wpAnyH_take (i := 10) (v := _) (by first | (simp only [List.getElem?_toArray, List.getElem?_cons_zero, List.getElem?_cons_succ]; rfl) | rfl) (by kernel_rfl) (by kernel_rfl) (by kernel_rfl) (by exact fun _ _ _ h => h) (Or.inl ⟨by rfl, by (intro w hSw; (try dsimp only at hSw); go_simp; try with_reducible rfl)⟩) (by assumption) ?_
      (try dsimp only [Act.put]); (try go_frame)
      refine wpAnyH_take (i := 11) (v := _) (by first | (simp only [List.getElem?_toArray, List.getElem?_cons_zero, List.getElem?_cons_succ]; rfl) | rfl) (by kernel_rfl) (by kernel_rfl) (by kernel_rfl) (by exact fun _ _ _ h => h) (Or.inl ⟨by rfl, by (intro w hSw; (try dsimp only at hSw); go_simp; try with_reducible rfl)⟩) (by assumption) ?_
      (try dsimp only [Act.put]); (try go_frame)
      refine wpAnyH_take (i := 12) (v := _) (by first | (simp only [List.getElem?_toArray, List.getElem?_cons_zero, List.getElem?_cons_succ]; rfl) | rfl) (by kernel_rfl) (by kernel_rfl) (by kernel_rfl) (by exact fun _ _ _ h => h) (Or.inl ⟨by rfl, by (intro w hSw; (try dsimp only at hSw); go_simp; try with_reducible rfl)⟩) (by assumption) ?_
      (try dsimp only [Act.put]); (try go_frame)
      refine wpAnyH_ready (rs := [13]) (by kernel_rfl) (by simp) ?_
      refine AllReadyH.cons rfl (fun K hK => ?_) AllReadyH.nil
      go_simp
      refine (less_any A1 A2 n1 c1 x.natAbs n2 c2 y.natAbs _ hD1.1 hD2.1 Hle.out hD1.2.1 (by omega) (by exact hD1.2.2) (by exact hD2.2.2)).mono ?_
      rintro e w1 ⟨A3, c3, rfl, hc3, hs3, hb3⟩
      have hb4 : Below w.heap.size w w1 := ⟨hb3.os, hb3.tape, hb3.output, hb3.size, hb3.block⟩
      have hr1 := hr.below hb4
      have hD3 : Dig w1 A3 _ c3 _ := ⟨rfl, hc3, hs3⟩
      refine hK.out _ _ ?_ (fun hHeld => ?_)
      · exact ⟨(hb4.cell l1).trans hn1, (hb4.cell l1).trans hd1, (hb4.cell l2).trans hd2⟩
      clear hK K
      (try dsimp only [Act.put]); (try go_frame)
      refine wpAnyH_done (by kernel_rfl) ?_ _
      try simp only [QCut]
      go_wp2_with (go_at_call 157; go_must (refine (laid_int b o _ _ _ _ (x.natAbs - y.natAbs) _ hr1 Hn.out hD3).mono ?_); rintro e w' ⟨rfl, hI, hB⟩)
      go_ret
      rw [HS.out] at hI
      exact ⟨rfl, hI, But.after hb4 hB hr⟩
  · have HS := Lib.hid (add_same hsame)
    have hn : dn 32 (x.natAbs + y.natAbs) ≤ max n1 n2 + 1 := dn_le (by omega) (add_lt_succ (by omega) (Nat.lt_of_lt_of_le Hx0.out (pmono (Nat.mul_le_mul_left 32 (Nat.le_max_left n1 n2)))) (Nat.lt_of_lt_of_le Hy0.out (pmono (Nat.mul_le_mul_left 32 (Nat.le_max_right n1 n2)))))
    have Hn : Hid (dn 32 (x.natAbs + y.natAbs) ≤ 4398046511104) := Lib.hid (by omega)
    clear hn
    go_enter Tryd.func123, Tryd.ntmps123
    go_wp2
    go_quiet ((go_at_call 164; exact Calls.quiet_of (cmp_any A1 A2 n1 c1 x.natAbs n2 c2 y.natAbs _ hD1.1 hD2.1 (by omega) (by omega) (by exact hD1.2.2) (by exact hD2.2.2))))
    go_wp2
    go_quiet (fail)
    go_wp2
    refine wp_region_cut 14 (by kernel_rfl) (by kernel_rfl) ?_
    rintro W rfl
    simp only [List.take_succ_cons, List.take_zero, List.drop_succ_cons, List.drop_zero]
    have hHeld : (fun w' : World => w'.cell? ⟨b1, o1, none⟩ = some (.bool (sg x)) ∧ w'.cell? ⟨b1, o1 + 1, none⟩ = some (.slice A1 n1 c1) ∧ w'.cell? ⟨b2, o2 + 1, none⟩ = some (.slice A2 n2 c2)) w.drew := ⟨hn1, hd1, hd2⟩
    refine wpAny_of_held (S := fun w' : World => w'.cell? ⟨b1, o1, none⟩ = some (.bool (sg x)) ∧ w'.cell? ⟨b1, o1 + 1, none⟩ = some (.slice A1 n1 c1) ∧ w'.cell? ⟨b2, o2 + 1, none⟩ = some (.slice A2 n2 c2)) _ _ _ _ ?_
    refine wpAnyH_take (i := 0) (v := _) (by first | (simp only [List.getElem?_toArray, List.getElem?_cons_zero]; rfl) | rfl) (by kernel_rfl) (by kernel_rfl) (by kernel_rfl) (by exact fun _ _ _ h => h) (Or.inl ⟨by rfl, by (intro w hSw; (try dsimp only at hSw); go_simp; try with_reducible rfl)⟩) (by assumption) ?_
    (try dsimp only [Act.put]); (try go_frame)
    refine wpAnyH_take (i := 1) (v := _) (by first | (simp only [List.getElem?_toArray, List.getElem?_cons_zero, List.getElem?_cons_succ]; rfl) | rfl) (by kernel_rfl) (by kernel_rfl) (by kernel_rfl) (by exact fun _ _ _ h => h) (Or.inl ⟨by rfl, by (intro w hSw; (try dsimp only at hSw); go_simp; try with_reducible rfl)⟩) (by assumption) ?_
    (try dsimp only [Act.put]); (try go_frame)
    refine wpAnyH_take (i := 2) (v := _) (by first | (simp only [List.getElem?_toArray, List.getElem?_cons_zero, List.getElem?_cons_succ]; rfl) | rfl) (by kernel_rfl) (by kernel_rfl) (by kernel_rfl) (by exact fun _ _ _ h => h) (Or.inl ⟨by rfl, by (intro w hSw; (try dsimp only at hSw); go_simp; try with_reducible rfl)⟩) (by assumption) ?_
    (try dsimp only [Act.put]); (try go_frame)
    refine wpAnyH_take (i := 3) (v := _) (by first | (simp only [List.getElem?_toArray, List.getElem?_cons_zero, List.getElem?_cons_succ]; rfl) | rfl) (by kernel_rfl) (by kernel_rfl) (by kernel_rfl) (by exact fun _ _ _ h => h) (Or.inl ⟨by rfl, by (intro w hSw; (try dsimp only at hSw); go_simp; try with_reducible rfl)⟩) (by assumption) ?_
    (try dsimp only [Act.put]); (try go_frame)
    refine wpAnyH_take (i := 4) (v := _) (by first | (simp only [List.getElem?_toArray, List.getElem?_cons_zero, List.getElem?_cons_succ]; rfl) | rfl) (by kernel_rfl) (by kernel_rfl) (by kernel_rfl) (by exact fun _ _ _ h => h) (Or.inl ⟨by rfl, by (intro w hSw; (try dsimp only at hSw); go_simp; try with_reducible rfl)⟩) (by assumption) ?_
    (try dsimp only [Act.put]); (try go_frame)
    refine wpAnyH_take (i := 5) (v := _) (by first | (simp only [List.getElem?_toArray, List.getElem?_cons_zero, List.getElem?_cons_succ]; rfl) | rfl) (by kernel_rfl) (by kernel_rfl) (by kernel_rfl) (by exact fun _ _ _ h => h) (Or.inl ⟨by rfl, by (intro w hSw; (try dsimp only at hSw); go_simp; try with_reducible rfl)⟩) (by assumption) ?_
    (try dsimp only [Act.put]); (try go_frame)
    refine wpAnyH_take (i := 6) (v := _) (by first | (simp only [List.getElem?_toArray, List.getElem?_cons_zero, List.getElem?_cons_succ]; rfl) | rfl) (by kernel_rfl) (by kernel_rfl) (by kernel_rfl) (by exact fun _ _ _ h => h) (Or.inl ⟨by rfl, by (intro w hSw; (try dsimp only at hSw); go_simp; try with_reducible rfl)⟩) (by assumption) ?_
    (try dsimp only [Act.put]); (try go_frame)
    refine wpAnyH_take (i := 7) (v := _) (by first | (simp only [List.getElem?_toArray, List.getElem?_cons_zero, List.getElem?_cons_succ]; rfl) | rfl) (by kernel_rfl) (by kernel_rfl) (by kernel_rfl) (by exact fun _ _ _ h => h) (Or.inl ⟨by rfl, by (intro w hSw; (try dsimp only at hSw); go_simp; try with_reducible rfl)⟩) (by assumption) ?_
    (try dsimp only [Act.put]); (try go_frame)
    refine wpAnyH_take (i := 8) (v := _) (by first | (simp only [List.getElem?_toArray, List.getElem?_cons_zero, List.getElem?_cons_succ]; rfl) | rfl) (by kernel_rfl) (by kernel_rfl) (by kernel_rfl) (by exact fun _ _ _ h => h) (Or.inl ⟨by rfl, by (intro w hSw; (try dsimp only at hSw); go_simp; try with_reducible rfl)⟩) (by assumption) ?_
    (try dsimp only [Act.put]); (try go_frame)
    refine wpAnyH_take (i := 9) (v := _) (by first | (simp only [List.getElem?_toArray, List.getElem?_cons_zero, List.getElem?_cons_succ]; rfl) | rfl) (by kernel_rfl) (by kernel_rfl) (by kernel_rfl) (by exact fun _ _ _ h => h) (Or.inl ⟨by rfl, by (intro w hSw; (try dsimp only at hSw); go_simp; try with_reducible rfl)⟩) (by assumption) ?_
    (try dsimp only [Act.put]); (try go_frame)
    refine wpAnyH_take (i := 10) (v := _) (by first | (simp only [List.getElem?_toArray, List.getElem?_cons_zero, List.getElem?_cons_succ]; rfl) | rfl) (by kernel_rfl) (by kernel_rfl) (by kernel_rfl) (by exact fun _ _ _ h => h) (Or.inl ⟨by rfl, by (intro w hSw; (try dsimp only at hSw); go_simp; try with_reducible rfl)⟩) (by assumption) ?_
    (try dsimp only [Act.put]); (try go_frame)
    refine wpAnyH_take (i := 11) (v := _) (by first | (simp only [List.getElem?_toArray, List.getElem?_cons_zero, List.getElem?_cons_succ]; rfl) | rfl) (by kernel_rfl) (by kernel_rfl) (by kernel_rfl) (by exact fun _ _ _ h => h) (Or.inl ⟨by rfl, by (intro w hSw; (try dsimp only at hSw); go_simp; try with_reducible rfl)⟩) (by assumption) ?_
    (try dsimp only [Act.put]); (try go_frame)
    refine wpAnyH_take (i := 12) (v := _) (by first | (simp only [List.getElem?_toArray, List.getElem?_cons_zero, List.getElem?_cons_succ]; rfl) | rfl) (by kernel_rfl) (by kernel_rfl) (by kernel_rfl) (by exact fun _ _ _ h => h) (Or.inl ⟨by rfl, by (intro w hSw; (try dsimp only at hSw); go_simp; try with_reducible rfl)⟩) (by assumption) ?_
    (try dsimp only [Act.put]); (try go_frame)
    refine wpAnyH_ready (rs := [13]) (by kernel_rfl) (by simp) ?_
    refine AllReadyH.cons rfl (fun K hK => ?_) AllReadyH.nil
    go_simp
    refine (plus_any A1 A2 n1 c1 x.natAbs n2 c2 y.natAbs _ hD1.1 hD2.1 hD1.2.1 hD2.2.1 (by omega) (by omega) (by exact hD1.2.2) (by exact hD2.2.2)).mono ?_
    rintro e w1 ⟨A3, c3, rfl, hc3, hs3, hb3⟩
    have hb4 : Below w.heap.size w w1 := ⟨hb3.os, hb3.tape, hb3.output, hb3.size, hb3.block⟩
    have hr1 := hr.below hb4
    have hD3 : Dig w1 A3 _ c3 _ := ⟨rfl, hc3, hs3⟩
    refine hK.out _ _ ?_ (fun hHeld => ?_)
    · exact ⟨(hb4.cell l1).trans hn1, (hb4.cell l1).trans hd1, (hb4.cell l2).trans hd2⟩
    clear hK K
    (try dsimp only [Act.put]); (try go_frame)
    refine wpAnyH_done (by kernel_rfl) ?_ _
    try simp only [QCut]
    go_wp2_with (go_at_call 157; go_must (refine (laid_int b o _ _ _ _ (x.natAbs + y.natAbs) _ hr1 Hn.out hD3).mono ?_); rintro e w' ⟨rfl, hI, hB⟩)
    go_ret
    rw [HS.out] at hI
    exact ⟨rfl, hI, But.after hb4 hB hr⟩
end Go.Proofs.YtgcifpjhhoalmaaDoor
