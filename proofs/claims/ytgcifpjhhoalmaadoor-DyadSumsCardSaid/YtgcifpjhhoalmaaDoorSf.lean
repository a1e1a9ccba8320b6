/- The walks over the reference's Sub, Mul. -/
import Derived.Test.YtgcifpjhhoalmaaDoorSe
namespace Go.Proofs.YtgcifpjhhoalmaaDoor
open Go Go.RowKit Go.PlainAid Fil

theorem sz_mul (a b : Bool) (x y : Nat) : sz (a != b) (x * y) = sz a x * sz b y := by
  unfold sz; cases a <;> cases b <;> simp [Int.mul_neg, Int.neg_mul]
theorem dn8_mul {a b : Nat} (ha : Fil.dn 8 a ≤ 16384) (hb : Fil.dn 8 b ≤ 16384) : Fil.dn 8 (a * b) ≤ 32768 := (dn32_mul ha hb).2
set_option maxHeartbeats 2000000 in
theorem rmul_nil (na : Bool) (xa : Nat) (ea : Int) (nb : Bool) (xb : Nat) (eb : Int) (w : World) (h : xa = 0 ∨ xb = 0) :
    Calls Tryd.prog 71 #[.agg #[.bool na, .string (bstr xa), .int .i64 ea], .agg #[.bool nb, .string (bstr xb), .int .i64 eb]] w fun r w' => r = .returned (mkV (sz na xa * sz nb xb) (ea + eb)) ∧ Below w.heap.size w w' := by
  have hv : Hid (mkV (sz na xa * sz nb xb) (ea + eb) = dyR false 0 0 0) := Lib.hid (by
    rcases h with rfl | rfl
    · rw [sz_zero, Int.zero_mul, mkV_zero]
    · rw [sz_zero, Int.mul_zero, mkV_zero])
  have h1 := bstr_nil
  by_cases hxa : xa = 0
  · subst hxa
    clear h
    go_enter Tryd.func71, Tryd.ntmps71
    go_wp2
    go_returns
    exact ⟨by rw [hv.out]; exact dyR_none ⟨rfl, rfl, rfl, rfl⟩, (((Below.refl _ _).alloc (Nat.le_refl _) _).alloc (by first | (simp; done) | (simp; omega)) _).alloc (by first | (simp; done) | (simp; omega)) _⟩
  · obtain rfl : xb = 0 := by omega
    obtain ⟨p1, p2⟩ := bstr_ne hxa
    clear h
    go_enter Tryd.func71, Tryd.ntmps71
    go_wp2
    go_returns
    exact ⟨by rw [hv.out]; exact dyR_none ⟨rfl, rfl, rfl, rfl⟩, (((Below.refl _ _).alloc (Nat.le_refl _) _).alloc (by first | (simp; done) | (simp; omega)) _).alloc (by first | (simp; done) | (simp; omega)) _⟩

set_option maxRecDepth 100000 in
set_option maxHeartbeats 4000000 in
theorem rmul_ne (na : Bool) (xa : Nat) (ea : Int) (nb : Bool) (xb : Nat) (eb : Int) (w : World) (ha : okD na xa ea) (hb : okD nb xb eb) (hxa : xa ≠ 0) (hxb : xb ≠ 0) :
    Calls Tryd.prog 71 #[.agg #[.bool na, .string (bstr xa), .int .i64 ea], .agg #[.bool nb, .string (bstr xb), .int .i64 eb]] w fun r w' => r = .returned (mkV (sz na xa * sz nb xb) (ea + eb)) ∧ Below w.heap.size w w' := by
  obtain ⟨p1, p2⟩ := bstr_ne hxa
  obtain ⟨q1, q2⟩ := bstr_ne hxb
  have ia1 := ha.e1
  have ia2 := ha.e2
  have ib1 := hb.e1
  have ib2 := hb.e2
  have hra := fun W => rof_any xa W (by have := ha.dn; omega)
  have hrb := fun W => rof_any xb W (by have := hb.dn; omega)
  have hna := ha.dn
  have hnb := hb.dn
  have HY := Lib.hid (Nat.le_trans (dn8_mul hna hnb) (show 32768 ≤ 393216 by omega))
  obtain ⟨Z, hZ⟩ : ∃ Z, Z = sz na xa * sz nb xb := ⟨_, rfl⟩
  rw [← hZ]
  rw [← sz_mul, show (na != nb) = !(na == nb) from rfl] at hZ
  have HZ := Lib.hid hZ
  obtain ⟨E, hE⟩ : ∃ E, E = ea + eb := ⟨_, rfl⟩
  rw [← hE]
  have hE' := hE.symm
  have W1 : IntKind.i64.wrap E = E := IntWalk.i64_in _ (by omega)
  have HE : -9223372036854775808 ≤ E ∧ E ≤ 9223372036854775807 := by omega
  clear hE
  generalize bstr xa = sa at *
  generalize bstr xb = sb at *
  clear ha hb hxa hxb hZ
  have hk : Below (w.heap.size + 1 + 1 + 1) (((w.alloc (.cells #[.bool na, .string sa, .int .i64 ea] 24)).alloc (.cells #[.bool nb, .string sb, .int .i64 eb] 24)).alloc (.cells #[.bool false, .string { data := #[] }, .int .i64 0] 24)) (((w.alloc (.cells #[.bool na, .string sa, .int .i64 ea] 24)).alloc (.cells #[.bool nb, .string sb, .int .i64 eb] 24)).alloc (.cells #[.bool false, .string { data := #[] }, .int .i64 0] 24)) := Below.refl _ _
  obtain ⟨⟨a0, a1, a2, -, -, -⟩, ⟨b0, b1, b2, -, -, -⟩, -, hB, hs⟩ := dy_three w na sa ea nb sb eb hk
  go_enter Tryd.func71, Tryd.ntmps71
  go_wp2_with fail
  refine wp_region_cut 20 (by kernel_rfl) (by kernel_rfl) ?_
  rintro W rfl
  simp only [List.take_succ_cons, List.take_zero, List.drop_succ_cons, List.drop_zero]
  have hHeld : (fun w' : World => w'.cell? ⟨w.heap.size, 0, none⟩ = some (.bool na) ∧ w'.cell? ⟨w.heap.size, 1, none⟩ = some (.string sa) ∧ w'.cell? ⟨w.heap.size, 2, none⟩ = some (.int .i64 ea) ∧ w'.cell? ⟨w.heap.size + 1, 0, none⟩ = some (.bool nb) ∧ w'.cell? ⟨w.heap.size + 1, 1, none⟩ = some (.string sb) ∧ w'.cell? ⟨w.heap.size + 1, 2, none⟩ = some (.int .i64 eb)) (((w.alloc (.cells #[.bool na, .string sa, .int .i64 ea] 24)).alloc (.cells #[.bool nb, .string sb, .int .i64 eb] 24)).alloc (.cells #[.bool false, .string { data := #[] }, .int .i64 0] 24)).drew := ⟨a0, a1, a2, b0, b1, b2⟩
  refine wpAny_of_held (S := fun w' : World => w'.cell? ⟨w.heap.size, 0, none⟩ = some (.bool na) ∧ w'.cell? ⟨w.heap.size, 1, none⟩ = some (.string sa) ∧ w'.cell? ⟨w.heap.size, 2, none⟩ = some (.int .i64 ea) ∧ w'.cell? ⟨w.heap.size + 1, 0, none⟩ = some (.bool nb) ∧ w'.cell? ⟨w.heap.size + 1, 1, none⟩ = some (.string sb) ∧ w'.cell? ⟨w.heap.size + 1, 2, none⟩ = some (.int .i64 eb)) _ _ _ _ ?_
  refine wpAnyH_take (i := 0) (v := _) (by first | (simp only [List.getElem?_toArray, List.getElem?_cons_zero]; rfl) | rfl) (by kernel_rfl) (by kernel_rfl) (by kernel_rfl) (by exact fun _ _ _ h => h) (Or.inl ⟨by rfl, by (intro w hSw; (try dsimp only at hSw); go_simp; try with_reducible rfl)⟩) (by assumption) ?_
  (try dsimp only [Act.put]); (try go_frame)
  refine wpAnyH_take (i := 1) (v := _) (by first | (simp only [List.getElem?_toArray, List.getElem?_cons_zero, List.getElem?_cons_succ]; rfl) | rfl) (by kernel_rfl) (by kernel_rfl) (by kernel_rfl) (by exact fun _ _ _ h => h) (Or.inl ⟨by rfl, by (intro w hSw; (try dsimp only at hSw); go_simp; try with_reducible rfl)⟩) (by assumption) ?_
  (try dsimp only [Act.put]); (try go_frame)
  refine wpAnyH_take (i := 2) (v := _) (by first | (simp only [List.getElem?_toArray, List.getElem?_cons_zero, List.getElem?_cons_succ]; rfl) | rfl) (by kernel_rfl) (by kernel_rfl) (by kernel_rfl) (by exact fun _ _ _ h => h) (Or.inl ⟨by rfl, by (intro w hSw; (try dsimp only at hSw); go_simp; try with_reducible rfl)⟩) (by assumption) ?_
  (try dsimp only [Act.put]); (try go_frame)
  refine wpAnyH_take (i := 3) (v := _) (by first | (simp only [List.getElem?_toArray, List.getElem?_cons_zero, List.getElem?_cons_succ]; rfl) | rfl) (by kernel_rfl) (by kernel_rfl) (by kernel_rfl) (by exact fun _ _ _ h => h) (Or.inl ⟨by rfl, by (intro w hSw; (try dsimp only at hSw); go_simp; try with_reducible rfl)⟩) (by assumption) ?_
  (try dsimp only [Act.put]); (try go_frame)
  refine wpAnyH_take (i := 4) (v := _) (by first | (simp only [List.getElem?_toArray, List.getElem?_cons_zero, List.getElem?_cons_succ]; rfl) | rfl) (by kernel_rfl) (by kernel_rfl) (by kernel_rfl) (by exact fun _ _ _ h => h) (Or.inl ⟨by rfl, by (intro w hSw; (try dsimp only at hSw); go_simp; try with_reducible rfl)⟩) (by assumption) ?_
  (try dsimp only [Act.put]); (try go_frame)
  refine wpAnyH_take (i := 5) (v := _) (by first | (simp only [List.getElem?_toArray, List.getElem?_cons_zero, List.getElem?_cons_succ]; rfl) | rfl) (by kernel_rfl) (by kernel_rfl) (by kernel_rfl) (by exact fun _ _ _ h => h) (Or.inl ⟨by rfl, by (intro w hSw; (try dsimp only at hSw); go_simp; try with_reducible rfl)⟩) (by assumption) ?_
  (try dsimp only [Act.put]); (try go_frame)
  refine wpAnyH_take (i := 6) (v := _) (by first | (simp only [List.getElem?_toArray, List.getElem?_cons_zero, List.getElem?_cons_succ]; rfl) | rfl) (by kernel_rfl) (by kernel_rfl) (by kernel_rfl) (by exact fun _ _ _ h => h) (Or.inl ⟨by rfl, by (intro w hSw; (try dsimp only at hSw); go_simp; try with_reducible rfl)⟩) (by assumption) ?_
  (try dsimp only [Act.put]); (try go_frame)
  refine wpAnyH_take (i := 8) (v := _) (by first | (simp only [List.getElem?_toArray, List.getElem?_cons_zero, List.getElem?_cons_succ]; rfl) | rfl) (by kernel_rfl) (by kernel_rfl) (by kernel_rfl) (by exact fun _ _ _ h => h) (Or.inl ⟨by rfl, by (intro w hSw; (try dsimp only at hSw); go_simp; try with_reducible rfl)⟩) (by assumption) ?_
  (try dsimp only [Act.put]); (try go_frame)
  refine wpAnyH_take (i := 9) (v := _) (by first | (simp only [List.getElem?_toArray, List.getElem?_cons_zero, List.getElem?_cons_succ]; rfl) | rfl) (by kernel_rfl) (by kernel_rfl) (by kernel_rfl) (by exact fun _ _ _ h => h) (Or.inl ⟨by rfl, by (intro w hSw; (try dsimp only at hSw); go_simp; try with_reducible rfl)⟩) (by assumption) ?_
  (try dsimp only [Act.put]); (try go_frame)
  refine wpAnyH_take (i := 12) (v := _) (by first | (simp only [List.getElem?_toArray, List.getElem?_cons_zero, List.getElem?_cons_succ]; rfl) | rfl) (by kernel_rfl) (by kernel_rfl) (by kernel_rfl) (by exact fun _ _ _ h => h) (Or.inl ⟨by rfl, by (intro w hSw; (try dsimp only at hSw); go_simp; try with_reducible rfl)⟩) (by assumption) ?_
  (try dsimp only [Act.put]); (try go_frame)
  refine wpAnyH_take (i := 13) (v := _) (by first | (simp only [List.getElem?_toArray, List.getElem?_cons_zero, List.getElem?_cons_succ]; rfl) | rfl) (by kernel_rfl) (by kernel_rfl) (by kernel_rfl) (by exact fun _ _ _ h => h) (Or.inl ⟨by rfl, by (intro w hSw; (try dsimp only at hSw); go_simp; try with_reducible rfl)⟩) (by assumption) ?_
  (try dsimp only [Act.put]); (try go_frame)
  refine wpAnyH_take (i := 14) (v := _) (by first | (simp only [List.getElem?_toArray, List.getElem?_cons_zero, List.getElem?_cons_succ]; rfl) | rfl) (by kernel_rfl) (by kernel_rfl) (by kernel_rfl) (by exact fun _ _ _ h => h) (Or.inl ⟨by rfl, by (intro w hSw; (try dsimp only at hSw); go_simp; try with_reducible rfl)⟩) (by assumption) ?_
  (try dsimp only [Act.put]); (try go_frame)
  refine wpAnyH_take (i := 15) (v := _) (by first | (simp only [List.getElem?_toArray, List.getElem?_cons_zero, List.getElem?_cons_succ]; rfl) | rfl) (by kernel_rfl) (by kernel_rfl) (by kernel_rfl) (by exact fun _ _ _ h => h) (Or.inl ⟨by rfl, by (intro w hSw; (try dsimp only at hSw); go_simp; try with_reducible rfl)⟩) (by assumption) ?_
  (try dsimp only [Act.put]); (try go_frame)
  refine wpAnyH_take (i := 16) (v := _) (by first | (simp only [List.getElem?_toArray, List.getElem?_cons_zero, List.getElem?_cons_succ]; rfl) | rfl) (by kernel_rfl) (by kernel_rfl) (by kernel_rfl) (by exact fun _ _ _ h => h) (Or.inl ⟨by rfl, by (intro w hSw; (try dsimp only at hSw); go_simp; try with_reducible rfl)⟩) (by assumption) ?_
  (try dsimp only [Act.put]); (try go_frame)
  refine wpAnyH_ready (rs := [7]) (by kernel_rfl) (by simp) ?_
  refine AllReadyH.cons rfl (fun K hK => ?_) AllReadyH.nil
  go_simp
  (with_reducible refine (hra _).mono ?_)
  rintro r w0 ⟨v, rfl, hown, hb0⟩
  obtain ⟨A, c, rfl, hnc, hsl⟩ := Own.slc hown
  have hs0 : Slc w0 3 A (Fil.dn 8 xa) (i8 xa) := hsl
  clear hown hsl
  clear a0 a1 a2 b0 b1 b2
  replace hk := hk.drew.trans (hb0.mono hs)
  clear hB hs
  obtain ⟨⟨a0, a1, a2, -, -, -⟩, ⟨b0, b1, b2, -, -, -⟩, -, hB, hs⟩ := dy_three w na sa ea nb sb eb hk
  refine hK.out _ _ ?_ (fun hHeld => ?_)
  · exact ⟨a0, a1, a2, b0, b1, b2⟩
  clear hK K
  (try dsimp only [Act.put]); (try go_frame)
  refine wpAnyH_ready (rs := [10]) (by kernel_rfl) (by simp) ?_
  refine AllReadyH.cons rfl (fun K hK => ?_) AllReadyH.nil
  go_simp
  (with_reducible refine (hrb _).mono ?_)
  rintro r w1 ⟨v, rfl, hown, hb1⟩
  obtain ⟨A1, c1, rfl, hnc1, hsl⟩ := Own.slc hown
  have hs1 : Slc w1 3 A1 (Fil.dn 8 xb) (i8 xb) := hsl
  replace hs0 := hs0.below hb1
  clear hown hsl hrb hra
  clear a0 a1 a2 b0 b1 b2
  replace hk := hk.trans (hb1.mono hs)
  clear hB hs
  obtain ⟨⟨a0, a1, a2, -, -, -⟩, ⟨b0, b1, b2, -, -, -⟩, -, hB, hs⟩ := dy_three w na sa ea nb sb eb hk
  refine hK.out _ _ ?_ (fun hHeld => ?_)
  · exact ⟨a0, a1, a2, b0, b1, b2⟩
  clear hK K
  (try dsimp only [Act.put]); (try go_frame)
  refine wpAnyH_ready (rs := [11]) (by kernel_rfl) (by simp) ?_
  refine AllReadyH.cons rfl (fun K hK => ?_) AllReadyH.nil
  go_simp
  (with_reducible refine (rtimes_any A A1 (Fil.dn 8 xa) c xa (Fil.dn 8 xb) c1 xb _ rfl rfl (by omega) (by omega) hs0 hs1).mono ?_)
  rintro r w2 ⟨A2, c2, rfl, hc2, hs2, hb2⟩
  clear hs0 hs1
  clear a0 a1 a2 b0 b1 b2
  replace hk := hk.trans (hb2.mono hs)
  clear hB hs
  obtain ⟨⟨a0, a1, a2, -, -, -⟩, ⟨b0, b1, b2, -, -, -⟩, -, hB, hs⟩ := dy_three w na sa ea nb sb eb hk
  refine hK.out _ _ ?_ (fun hHeld => ?_)
  · exact ⟨a0, a1, a2, b0, b1, b2⟩
  clear hK K
  (try dsimp only [Act.put]); (try go_frame)
  have hfit := rfit_any (!(na == nb)) A2 _ c2 _ E w2 rfl hc2 HY.out HE.1 HE.2 hs2
  rw [← HZ.out] at hfit
  refine wpAnyH_ready (rs := [17]) (by kernel_rfl) (by simp) ?_
  refine AllReadyH.cons rfl (fun K hK => ?_) AllReadyH.nil
  go_simp
  (with_reducible refine hfit.mono ?_)
  rintro r w3 ⟨rfl, hb3⟩
  clear a0 a1 a2 b0 b1 b2
  replace hk := hk.trans (hb3.mono hs)
  clear hB hs
  obtain ⟨⟨a0, a1, a2, -, -, -⟩, ⟨b0, b1, b2, -, -, -⟩, -, hB, hs⟩ := dy_three w na sa ea nb sb eb hk
  refine hK.out _ _ ?_ (fun hHeld => ?_)
  · exact ⟨a0, a1, a2, b0, b1, b2⟩
  clear hK K
  (try dsimp only [Act.put]); (try go_frame)
  obtain ⟨-, -, ⟨c0, c1, c2, f0, f1, f2⟩, hB', -⟩ := dy_three w na sa ea nb sb eb hk
  have hbZ := dy_put3 (.bool (mkN (Z) E)) (.string (bstr (mkX (Z) E))) (.int .i64 (mkE (Z) E)) hB'
  clear a0 a1 a2 b0 b1 b2 hk hB hs hB'
  clear hfit hb0 hb1 hb2 hb3 hs2
  unfold mkV dyR
  refine wpAnyH_take (i := 18) (v := _) (by first | (simp only [List.getElem?_toArray, List.getElem?_cons_zero, List.getElem?_cons_succ]; rfl) | rfl) (by kernel_rfl) (by kernel_rfl) (by kernel_rfl) (by exact fun _ _ _ h => h) (Or.inl ⟨by rfl, by (intro w hSw; (try dsimp only at hSw); go_simp; try with_reducible rfl)⟩) (by assumption) ?_
  (try dsimp only [Act.put]); (try go_frame)
  refine wpAnyH_take (i := 19) (v := _) (by first | (simp only [List.getElem?_toArray, List.getElem?_cons_zero, List.getElem?_cons_succ]; rfl) | rfl) (by kernel_rfl) (by kernel_rfl) (by kernel_rfl) (by exact fun _ _ _ h => h) (Or.inl ⟨by rfl, by (intro w hSw; (try dsimp only at hSw); go_simp; try with_reducible rfl)⟩) (by assumption) ?_
  (try dsimp only [Act.put]); (try go_frame)
  refine wpAnyH_done (by kernel_rfl) ?_ _
  try simp only [QCut]
  go_wp2
  exact bodyPost_ret (v := .tuple #[.agg #[.bool (mkN (Z) E), .string (bstr (mkX (Z) E)), .int .i64 (mkE (Z) E)], .int .i64 (mkR (Z) E)]) (by simp [results, Tryd.results71, go_sem, c0, c1, c2]) rfl ⟨rfl, hbZ⟩
theorem rmul_any (na : Bool) (xa : Nat) (ea : Int) (nb : Bool) (xb : Nat) (eb : Int) (w : World) (ha : okD na xa ea) (hb : okD nb xb eb) :
    Calls Tryd.prog 71 #[.agg #[.bool na, .string (bstr xa), .int .i64 ea], .agg #[.bool nb, .string (bstr xb), .int .i64 eb]] w fun r w' => r = .returned (mkV (sz na xa * sz nb xb) (ea + eb)) ∧ Below w.heap.size w w' := by
  by_cases hxa : xa = 0
  · exact rmul_nil na xa ea nb xb eb w (.inl hxa)
  · by_cases hxb : xb = 0
    · exact rmul_nil na xa ea nb xb eb w (.inr hxb)
    · exact rmul_ne na xa ea nb xb eb w ha hb hxa hxb

set_option maxHeartbeats 4000000 in
theorem rsub_any (na : Bool) (xa : Nat) (ea : Int) (nb : Bool) (xb : Nat) (eb : Int) (w : World) (ha : okD na xa ea) (hb : okD nb xb eb) :
    Calls Tryd.prog 70 #[.agg #[.bool na, .string (bstr xa), .int .i64 ea], .agg #[.bool nb, .string (bstr xb), .int .i64 eb]] w fun r w' => r = .returned (mkV (addZ (sz na xa) ea (-sz nb xb) eb) (min ea eb)) ∧ Below w.heap.size w w' := by
  have hng := fun W => rneg_ok nb xb eb W hb
  unfold dyN at hng
  have had := fun W => radd_any na xa ea (!nb && decide (xb ≠ 0)) xb eb W ha hb.neg
  rw [sz_neg] at had
  generalize (!nb && decide (xb ≠ 0)) = nn at *
  generalize addZ (sz na xa) ea (-sz nb xb) eb = Z at *
  generalize min ea eb = lo at *
  generalize bstr xa = sa at *
  generalize bstr xb = sb at *
  clear ha hb
  have hk : Below (w.heap.size + 1 + 1 + 1) (((w.alloc (.cells #[.bool na, .string sa, .int .i64 ea] 24)).alloc (.cells #[.bool nb, .string sb, .int .i64 eb] 24)).alloc (.cells #[.bool false, .string { data := #[] }, .int .i64 0] 24)) (((w.alloc (.cells #[.bool na, .string sa, .int .i64 ea] 24)).alloc (.cells #[.bool nb, .string sb, .int .i64 eb] 24)).alloc (.cells #[.bool false, .string { data := #[] }, .int .i64 0] 24)) := Below.refl _ _
  obtain ⟨⟨a0, a1, a2, -, -, -⟩, ⟨b0, b1, b2, -, -, -⟩, -, hB, hs⟩ := dy_three w na sa ea nb sb eb hk
  go_enter Tryd.func70, Tryd.ntmps70
  go_wp2_with fail
  refine wp_region_cut 6 (by kernel_rfl) (by kernel_rfl) ?_
  rintro W rfl
  simp only [List.take_succ_cons, List.take_zero, List.drop_succ_cons, List.drop_zero]
  have hHeld : (fun w' : World => w'.cell? ⟨w.heap.size, 0, none⟩ = some (.bool na) ∧ w'.cell? ⟨w.heap.size, 1, none⟩ = some (.string sa) ∧ w'.cell? ⟨w.heap.size, 2, none⟩ = some (.int .i64 ea) ∧ w'.cell? ⟨w.heap.size + 1, 0, none⟩ = some (.bool nb) ∧ w'.cell? ⟨w.heap.size + 1, 1, none⟩ = some (.string sb) ∧ w'.cell? ⟨w.heap.size + 1, 2, none⟩ = some (.int .i64 eb)) (((w.alloc (.cells #[.bool na, .string sa, .int .i64 ea] 24)).alloc (.cells #[.bool nb, .string sb, .int .i64 eb] 24)).alloc (.cells #[.bool false, .string { data := #[] }, .int .i64 0] 24)).drew := ⟨a0, a1, a2, b0, b1, b2⟩
  refine wpAny_of_held (S := fun w' : World => w'.cell? ⟨w.heap.size, 0, none⟩ = some (.bool na) ∧ w'.cell? ⟨w.heap.size, 1, none⟩ = some (.string sa) ∧ w'.cell? ⟨w.heap.size, 2, none⟩ = some (.int .i64 ea) ∧ w'.cell? ⟨w.heap.size + 1, 0, none⟩ = some (.bool nb) ∧ w'.cell? ⟨w.heap.size + 1, 1, none⟩ = some (.string sb) ∧ w'.cell? ⟨w.heap.size + 1, 2, none⟩ = some (.int .i64 eb)) _ _ _ _ ?_
  refine wpAnyH_take (i := 0) (v := _) (by first | (simp only [List.getElem?_toArray, List.getElem?_cons_zero]; rfl) | rfl) (by kernel_rfl) (by kernel_rfl) (by kernel_rfl) (by exact fun _ _ _ h => h) (Or.inl ⟨by rfl, by (intro w hSw; (try dsimp only at hSw); go_simp; try with_reducible rfl)⟩) (by assumption) ?_
  (try dsimp only [Act.put]); (try go_frame)
  refine wpAnyH_take (i := 1) (v := _) (by first | (simp only [List.getElem?_toArray, List.getElem?_cons_zero, List.getElem?_cons_succ]; rfl) | rfl) (by kernel_rfl) (by kernel_rfl) (by kernel_rfl) (by exact fun _ _ _ h => h) (Or.inl ⟨by rfl, by (intro w hSw; (try dsimp only at hSw); go_simp; try with_reducible rfl)⟩) (by assumption) ?_
  (try dsimp only [Act.put]); (try go_frame)
  refine wpAnyH_ready (rs := [2]) (by kernel_rfl) (by simp) ?_
  refine AllReadyH.cons rfl (fun K hK => ?_) AllReadyH.nil
  go_simp
  (with_reducible refine (hng _).mono ?_)
  rintro r w2 ⟨rfl, hb2⟩
  clear a0 a1 a2 b0 b1 b2
  replace hk := hk.drew.trans (hb2.mono hs)
  clear hB hs
  obtain ⟨⟨a0, a1, a2, -, -, -⟩, ⟨b0, b1, b2, -, -, -⟩, -, hB, hs⟩ := dy_three w na sa ea nb sb eb hk
  refine hK.out _ _ ?_ (fun hHeld => ?_)
  · exact ⟨a0, a1, a2, b0, b1, b2⟩
  clear hK K
  (try dsimp only [Act.put]); (try go_frame)
  refine wpAnyH_ready (rs := [3]) (by kernel_rfl) (by simp) ?_
  refine AllReadyH.cons rfl (fun K hK => ?_) AllReadyH.nil
  go_simp
  (with_reducible refine (had _).mono ?_)
  rintro r w3 ⟨rfl, hb3⟩
  clear a0 a1 a2 b0 b1 b2
  replace hk := hk.trans (hb3.mono hs)
  clear hB hs
  obtain ⟨⟨a0, a1, a2, -, -, -⟩, ⟨b0, b1, b2, -, -, -⟩, -, hB, hs⟩ := dy_three w na sa ea nb sb eb hk
  refine hK.out _ _ ?_ (fun hHeld => ?_)
  · exact ⟨a0, a1, a2, b0, b1, b2⟩
  clear hK K
  (try dsimp only [Act.put]); (try go_frame)
  obtain ⟨-, -, ⟨c0, c1, c2, f0, f1, f2⟩, hB', -⟩ := dy_three w na sa ea nb sb eb hk
  have hbZ := dy_put3 (.bool (mkN (Z) lo)) (.string (bstr (mkX (Z) lo))) (.int .i64 (mkE (Z) lo)) hB'
  clear a0 a1 a2 b0 b1 b2 hk hB hs hB'
  clear hng had hb2 hb3
  unfold mkV dyR
  refine wpAnyH_take (i := 4) (v := _) (by first | (simp only [List.getElem?_toArray, List.getElem?_cons_zero, List.getElem?_cons_succ]; rfl) | rfl) (by kernel_rfl) (by kernel_rfl) (by kernel_rfl) (by exact fun _ _ _ h => h) (Or.inl ⟨by rfl, by (intro w hSw; (try dsimp only at hSw); go_simp; try with_reducible rfl)⟩) (by assumption) ?_
  (try dsimp only [Act.put]); (try go_frame)
  refine wpAnyH_take (i := 5) (v := _) (by first | (simp only [List.getElem?_toArray, List.getElem?_cons_zero, List.getElem?_cons_succ]; rfl) | rfl) (by kernel_rfl) (by kernel_rfl) (by kernel_rfl) (by exact fun _ _ _ h => h) (Or.inl ⟨by rfl, by (intro w hSw; (try dsimp only at hSw); go_simp; try with_reducible rfl)⟩) (by assumption) ?_
  (try dsimp only [Act.put]); (try go_frame)
  refine wpAnyH_done (by kernel_rfl) ?_ _
  try simp only [QCut]
  go_wp2
  exact bodyPost_ret (v := .tuple #[.agg #[.bool (mkN (Z) lo), .string (bstr (mkX (Z) lo)), .int .i64 (mkE (Z) lo)], .int .i64 (mkR (Z) lo)]) (by simp [results, Tryd.results70, go_sem, c0, c1, c2]) rfl ⟨rfl, hbZ⟩
end Go.Proofs.YtgcifpjhhoalmaaDoor
