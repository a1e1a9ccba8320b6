/- Walks of the layer of Gausses, by a program (walk.py): part H5. -/
import Derived.Test.YtgcifpjhhoalmaaDoorG5
namespace Go.Proofs.YtgcifpjhhoalmaaDoor
open Go Go.RowKit Go.PlainAid Fil

set_option maxRecDepth 10000 in
set_option maxHeartbeats 4000000 in
theorem gscale_w (a : GY) (d : DY) (p : DY × Int) (q : DY × Int) (R : GY × Int) (E_p : kr 0 (yMul a.re d) = p) (E_q : kr p.2 (yMul a.im d) = q) (E_R : kn q.2 p.1 q.1 = R) (w : World) (ok_a : a.ok) (ok_d : d.ok)  (hT : Tab w) :
    Calls Tryd.prog 60 #[.agg #[.bool a.re.n, .string (bstr a.re.x), .int .i64 a.re.e, .bool a.im.n, .string (bstr a.im.x), .int .i64 a.im.e], .agg #[.bool d.n, .string (bstr d.x), .int .i64 d.e]] w fun r w' => r = .returned (.tuple #[.agg #[.bool R.1.re.n, .string (bstr R.1.re.x), .int .i64 R.1.re.e, .bool R.1.im.n, .string (bstr R.1.im.x), .int .i64 R.1.im.e], .int .i64 R.2]) ∧ Below w.heap.size w w' := by
  have hall := fun Bk W h => gall1_ok a Bk W h ok_a
  have hcd := fun W => ccheck d W ok_d
  have h1 := fun K c W hW hK ho hc => kmul a.re d 0 K c W ok_a.1 ok_d hW hK ho hc
  rw [E_p] at h1
  have h2 := fun K c W hW hK ho hc => kmul a.im d p.2 K c W ok_a.2 ok_d hW hK ho hc
  rw [E_q] at h2
  have h3 := fun K W hK => knum q.2 p.1 q.1 K W hK
  rw [E_R] at h3
  clear E_p E_q E_R ok_a ok_d
  obtain ⟨⟨an, aX, ae⟩, ⟨am, aY, af⟩⟩ := a
  obtain ⟨dn, dX, de⟩ := d
  obtain ⟨⟨pn, pX, pe⟩, pr⟩ := p
  obtain ⟨⟨qn, qX, qe⟩, qr⟩ := q
  obtain ⟨⟨⟨Rn, RX, Re⟩, ⟨Rm, RY, Rf⟩⟩, Rr⟩ := R
  dsimp only at *
  generalize bstr aX = aS at *
  generalize bstr aY = aT at *
  generalize bstr dX = dS at *
  generalize bstr pX = pS at *
  generalize bstr qX = qS at *
  generalize bstr RX = RS at *
  generalize bstr RY = RT at *
  go_enter Tryd.func60, Tryd.ntmps60
  have B0 := Below.refl w.heap.size w
  have F2 := Blk.put (w) #[.bool an, .string aS, .int .i64 ae, .bool am, .string aT, .int .i64 af] 49
  replace B0 := B0.alloc B0.size (.cells #[.bool an, .string aS, .int .i64 ae, .bool am, .string aT, .int .i64 af] 49)
  replace F2 := F2.allocd (.cells #[.bool dn, .string dS, .int .i64 de] 24)
  have F3 := Blk.put ((w).alloc (.cells #[.bool an, .string aS, .int .i64 ae, .bool am, .string aT, .int .i64 af] 49)) #[.bool dn, .string dS, .int .i64 de] 24
  rw [show ((w).alloc (.cells #[.bool an, .string aS, .int .i64 ae, .bool am, .string aT, .int .i64 af] 49)).heap.size = w.heap.size + 1 by simp] at F3
  replace B0 := B0.alloc B0.size (.cells #[.bool dn, .string dS, .int .i64 de] 24)
  have q_w_F4 : Hid (w.heap.size ≤ w.heap.size + 1 + 1) := Lib.hid (by omega)
  replace F2 := F2.allocd (.cells #[.bool false, .string { data := #[] }, .int .i64 0, .bool false, .string { data := #[] }, .int .i64 0] 49)
  replace F3 := F3.allocd (.cells #[.bool false, .string { data := #[] }, .int .i64 0, .bool false, .string { data := #[] }, .int .i64 0] 49)
  have F4 := Blk.put (((w).alloc (.cells #[.bool an, .string aS, .int .i64 ae, .bool am, .string aT, .int .i64 af] 49)).alloc (.cells #[.bool dn, .string dS, .int .i64 de] 24)) #[.bool false, .string { data := #[] }, .int .i64 0, .bool false, .string { data := #[] }, .int .i64 0] 49
  rw [show (((w).alloc (.cells #[.bool an, .string aS, .int .i64 ae, .bool am, .string aT, .int .i64 af] 49)).alloc (.cells #[.bool dn, .string dS, .int .i64 de] 24)).heap.size = w.heap.size + 1 + 1 by simp] at F4
  replace B0 := B0.alloc B0.size (.cells #[.bool false, .string { data := #[] }, .int .i64 0, .bool false, .string { data := #[] }, .int .i64 0] 49)
  obtain ⟨xF20_0, xF20_1, xF20_2, xF20_3, xF20_4, xF20_5⟩ := F2.ce6
  go_wp2_with fail
  (with_reducible refine (hall _ _ (by simp)).mono ?_)
  rintro r w1 ⟨rfl, hb1⟩
  clear xF20_0 xF20_1 xF20_2 xF20_3 xF20_4 xF20_5
  replace F2 := F2.keep hb1
  replace F3 := F3.keep hb1
  replace F4 := F4.keep hb1
  replace B0 := B0.trans (hb1.mono B0.size)
  clear hb1
  obtain ⟨xF31_0, xF31_1, xF31_2⟩ := F3.ce3
  go_wp2_with fail
  (with_reducible refine (hcd _).mono ?_)
  rintro r w2 ⟨rfl, hb2⟩
  clear xF31_0 xF31_1 xF31_2
  replace F2 := F2.keep hb2
  replace F3 := F3.keep hb2
  replace F4 := F4.keep hb2
  replace B0 := B0.trans (hb2.mono B0.size)
  clear hb2
  have q_F2_F19 : Hid (w.heap.size < w2.heap.size) := Lib.hid (by have := F2.lt; first | exact this | simpa using this | omega)
  have q_F3_F19 : Hid (w.heap.size + 1 < w2.heap.size) := Lib.hid (by have := F3.lt; first | exact this | simpa using this | omega)
  have q_F4_F19 : Hid (w.heap.size + 1 + 1 < w2.heap.size) := Lib.hid (by have := F4.lt; first | exact this | simpa using this | omega)
  have q_w_F19 : Hid (w.heap.size ≤ w2.heap.size) := Lib.hid (by have := B0.size; first | exact this | simpa using this | omega)
  replace F2 := F2.allocd (.cells #[.int .i64 0] 134)
  replace F3 := F3.allocd (.cells #[.int .i64 0] 134)
  replace F4 := F4.allocd (.cells #[.int .i64 0] 134)
  have F19 := Blk.put (w2) #[.int .i64 0] 134
  replace B0 := B0.alloc B0.size (.cells #[.int .i64 0] 134)
  go_wp2_with fail
  (with_reducible refine (kept_make _ _ _).mono ?_)
  rintro r w3 ⟨⟨bO1, eO1, rfl, O1⟩, hb3⟩
  have q_F19_O1 : Hid (w2.heap.size < bO1) := Lib.hid (by have := F19.lt; rw [eO1]; first | exact this | simpa using this)
  replace F2 := F2.keep hb3
  replace F3 := F3.keep hb3
  replace F4 := F4.keep hb3
  replace F19 := F19.keep hb3
  replace B0 := B0.trans (hb3.mono B0.size)
  clear hb3
  clear eO1
  go_wp2_with fail
  refine wp_region_cut 14 (by kernel_rfl) (by kernel_rfl) ?_
  rintro W rfl
  simp only [List.take_succ_cons, List.take_zero, List.drop_succ_cons, List.drop_zero]
  obtain ⟨xF23_0, xF23_1, xF23_2, xF23_3, xF23_4, xF23_5⟩ := F2.ce6
  obtain ⟨xF33_0, xF33_1, xF33_2⟩ := F3.ce3
  have hHeld : (fun w' : World => w'.cell? ⟨w.heap.size, 0, none⟩ = some (.bool an) ∧ w'.cell? ⟨w.heap.size, 1, none⟩ = some (.string aS) ∧ w'.cell? ⟨w.heap.size, 2, none⟩ = some (.int .i64 ae) ∧ w'.cell? ⟨w.heap.size, 3, none⟩ = some (.bool am) ∧ w'.cell? ⟨w.heap.size, 4, none⟩ = some (.string aT) ∧ w'.cell? ⟨w.heap.size, 5, none⟩ = some (.int .i64 af) ∧ w'.cell? ⟨w.heap.size + 1, 0, none⟩ = some (.bool dn) ∧ w'.cell? ⟨w.heap.size + 1, 1, none⟩ = some (.string dS) ∧ w'.cell? ⟨w.heap.size + 1, 2, none⟩ = some (.int .i64 de)) (w3).drew := ⟨xF23_0, xF23_1, xF23_2, xF23_3, xF23_4, xF23_5, xF33_0, xF33_1, xF33_2⟩
  refine wpAny_of_held (S := fun w' : World => w'.cell? ⟨w.heap.size, 0, none⟩ = some (.bool an) ∧ w'.cell? ⟨w.heap.size, 1, none⟩ = some (.string aS) ∧ w'.cell? ⟨w.heap.size, 2, none⟩ = some (.int .i64 ae) ∧ w'.cell? ⟨w.heap.size, 3, none⟩ = some (.bool am) ∧ w'.cell? ⟨w.heap.size, 4, none⟩ = some (.string aT) ∧ w'.cell? ⟨w.heap.size, 5, none⟩ = some (.int .i64 af) ∧ w'.cell? ⟨w.heap.size + 1, 0, none⟩ = some (.bool dn) ∧ w'.cell? ⟨w.heap.size + 1, 1, none⟩ = some (.string dS) ∧ w'.cell? ⟨w.heap.size + 1, 2, none⟩ = some (.int .i64 de)) _ _ _ _ ?_
  replace F2 := F2.drew
  replace F3 := F3.drew
  replace F4 := F4.drew
  replace F19 := F19.drew
  replace O1 := O1.drew
  replace B0 := B0.drew
  refine wpAnyH_take (i := 0) (v := _) (by first | (simp only [List.getElem?_toArray, List.getElem?_cons_zero]; rfl) | rfl) (by kernel_rfl) (by kernel_rfl) (by kernel_rfl) (by exact fun _ _ _ h => h) (Or.inl ⟨by rfl, by (intro w hSw; (try dsimp only at hSw); go_simp; try with_reducible rfl)⟩) (by assumption) ?_
  (try dsimp only [Act.put]); (try go_frame)
  refine wpAnyH_take (i := 1) (v := _) (by first | (simp only [List.getElem?_toArray, List.getElem?_cons_zero, List.getElem?_cons_succ]; rfl) | rfl) (by kernel_rfl) (by kernel_rfl) (by kernel_rfl) (by exact fun _ _ _ h => h) (Or.inl ⟨by rfl, by (intro w hSw; (try dsimp only at hSw); go_simp; try with_reducible rfl)⟩) (by assumption) ?_
  (try dsimp only [Act.put]); (try go_frame)
  refine wpAnyH_take (i := 2) (v := _) (by first | (simp only [List.getElem?_toArray, List.getElem?_cons_zero, List.getElem?_cons_succ]; rfl) | rfl) (by kernel_rfl) (by kernel_rfl) (by kernel_rfl) (by exact fun _ _ _ h => h) (Or.inl ⟨by rfl, by (intro w hSw; (try dsimp only at hSw); go_simp; try with_reducible rfl)⟩) (by assumption) ?_
  (try dsimp only [Act.put]); (try go_frame)
  refine wpAnyH_take (i := 3) (v := _) (by first | (simp only [List.getElem?_toArray, List.getElem?_cons_zero, List.getElem?_cons_succ]; rfl) | rfl) (by kernel_rfl) (by kernel_rfl) (by kernel_rfl) (by exact fun _ _ _ h => h) (Or.inl ⟨by rfl, by (intro w hSw; (try dsimp only at hSw); go_simp; try with_reducible rfl)⟩) (by assumption) ?_
  (try dsimp only [Act.put]); (try go_frame)
  refine wpAnyH_take (i := 4) (v := _) (by first | (simp only [List.getElem?_toArray, List.getElem?_cons_zero, List.getElem?_cons_succ]; rfl) | rfl) (by kernel_rfl) (by kernel_rfl) (by kernel_rfl) (by exact fun _ _ _ h => h) (Or.inl ⟨by rfl, by (intro w hSw; (try dsimp only at hSw); go_simp; try with_reducible rfl)⟩) (by assumption) ?_
  (try dsimp only [Act.put]); (try go_frame)
  refine wpAnyH_take (i := 6) (v := _) (by first | (simp only [List.getElem?_toArray, List.getElem?_cons_zero, List.getElem?_cons_succ]; rfl) | rfl) (by kernel_rfl) (by kernel_rfl) (by kernel_rfl) (by exact fun _ _ _ h => h) (Or.inl ⟨by rfl, by (intro w hSw; (try dsimp only at hSw); go_simp; try with_reducible rfl)⟩) (by assumption) ?_
  (try dsimp only [Act.put]); (try go_frame)
  refine wpAnyH_take (i := 7) (v := _) (by first | (simp only [List.getElem?_toArray, List.getElem?_cons_zero, List.getElem?_cons_succ]; rfl) | rfl) (by kernel_rfl) (by kernel_rfl) (by kernel_rfl) (by exact fun _ _ _ h => h) (Or.inl ⟨by rfl, by (intro w hSw; (try dsimp only at hSw); go_simp; try with_reducible rfl)⟩) (by assumption) ?_
  (try dsimp only [Act.put]); (try go_frame)
  refine wpAnyH_take (i := 8) (v := _) (by first | (simp only [List.getElem?_toArray, List.getElem?_cons_zero, List.getElem?_cons_succ]; rfl) | rfl) (by kernel_rfl) (by kernel_rfl) (by kernel_rfl) (by exact fun _ _ _ h => h) (Or.inl ⟨by rfl, by (intro w hSw; (try dsimp only at hSw); go_simp; try with_reducible rfl)⟩) (by assumption) ?_
  (try dsimp only [Act.put]); (try go_frame)
  refine wpAnyH_take (i := 9) (v := _) (by first | (simp only [List.getElem?_toArray, List.getElem?_cons_zero, List.getElem?_cons_succ]; rfl) | rfl) (by kernel_rfl) (by kernel_rfl) (by kernel_rfl) (by exact fun _ _ _ h => h) (Or.inl ⟨by rfl, by (intro w hSw; (try dsimp only at hSw); go_simp; try with_reducible rfl)⟩) (by assumption) ?_
  (try dsimp only [Act.put]); (try go_frame)
  refine wpAnyH_ready (rs := [5]) (by kernel_rfl) (by simp) ?_
  refine AllReadyH.cons rfl (fun K hK => ?_) AllReadyH.nil
  go_simp
  (with_reducible refine (h1 _ _ _ (hT.below B0) F19 O1 q_F19_O1.out).mono ?_)
  rintro r w4 ⟨rfl, hk4, hb4⟩
  clear xF23_0 xF23_1 xF23_2 xF23_3 xF23_4 xF23_5 xF33_0 xF33_1 xF33_2
  replace F2 := F2.kb hb4 (Nat.ne_of_lt q_F2_F19.out)
  replace F3 := F3.kb hb4 (Nat.ne_of_lt q_F3_F19.out)
  replace F4 := F4.kb hb4 (Nat.ne_of_lt q_F4_F19.out)
  replace O1 := O1.kb hb4 q_F19_O1.out
  clear F19
  have F19 := hk4
  clear hk4
  replace B0 := below_kb B0 hb4 q_w_F19.out
  clear hb4
  obtain ⟨xF25_0, xF25_1, xF25_2, xF25_3, xF25_4, xF25_5⟩ := F2.ce6
  obtain ⟨xF35_0, xF35_1, xF35_2⟩ := F3.ce3
  refine hK.out _ _ ?_ (fun hHeld => ?_)
  · exact ⟨xF25_0, xF25_1, xF25_2, xF25_3, xF25_4, xF25_5, xF35_0, xF35_1, xF35_2⟩
  clear hK K
  (try dsimp only [Act.put]); (try go_frame)
  refine wpAnyH_ready (rs := [10]) (by kernel_rfl) (by simp) ?_
  refine AllReadyH.cons rfl (fun K hK => ?_) AllReadyH.nil
  go_simp
  (with_reducible refine (h2 _ _ _ (hT.below B0) F19 O1 q_F19_O1.out).mono ?_)
  rintro r w5 ⟨rfl, hk5, hb5⟩
  clear xF25_0 xF25_1 xF25_2 xF25_3 xF25_4 xF25_5 xF35_0 xF35_1 xF35_2
  replace F2 := F2.kb hb5 (Nat.ne_of_lt q_F2_F19.out)
  replace F3 := F3.kb hb5 (Nat.ne_of_lt q_F3_F19.out)
  replace F4 := F4.kb hb5 (Nat.ne_of_lt q_F4_F19.out)
  replace O1 := O1.kb hb5 q_F19_O1.out
  clear F19
  have F19 := hk5
  clear hk5
  replace B0 := below_kb B0 hb5 q_w_F19.out
  clear hb5
  obtain ⟨xF26_0, xF26_1, xF26_2, xF26_3, xF26_4, xF26_5⟩ := F2.ce6
  obtain ⟨xF36_0, xF36_1, xF36_2⟩ := F3.ce3
  refine hK.out _ _ ?_ (fun hHeld => ?_)
  · exact ⟨xF26_0, xF26_1, xF26_2, xF26_3, xF26_4, xF26_5, xF36_0, xF36_1, xF36_2⟩
  clear hK K
  (try dsimp only [Act.put]); (try go_frame)
  refine wpAnyH_ready (rs := [11]) (by kernel_rfl) (by simp) ?_
  refine AllReadyH.cons rfl (fun K hK => ?_) AllReadyH.nil
  go_simp
  (with_reducible refine (h3 _ _ F19).mono ?_)
  rintro r w6 ⟨rfl, hb6⟩
  clear xF26_0 xF26_1 xF26_2 xF26_3 xF26_4 xF26_5 xF36_0 xF36_1 xF36_2
  replace F2 := F2.keep hb6
  replace F3 := F3.keep hb6
  replace F4 := F4.keep hb6
  replace F19 := F19.keep hb6
  clear O1
  replace B0 := B0.trans (hb6.mono B0.size)
  clear hb6
  obtain ⟨xF27_0, xF27_1, xF27_2, xF27_3, xF27_4, xF27_5⟩ := F2.ce6
  obtain ⟨xF37_0, xF37_1, xF37_2⟩ := F3.ce3
  refine hK.out _ _ ?_ (fun hHeld => ?_)
  · exact ⟨xF27_0, xF27_1, xF27_2, xF27_3, xF27_4, xF27_5, xF37_0, xF37_1, xF37_2⟩
  clear hK K
  (try dsimp only [Act.put]); (try go_frame)
  refine wpAnyH_take (i := 12) (v := _) (by first | (simp only [List.getElem?_toArray, List.getElem?_cons_zero, List.getElem?_cons_succ]; rfl) | rfl) (by kernel_rfl) (by kernel_rfl) (by kernel_rfl) (by exact fun _ _ _ h => h) (Or.inl ⟨by rfl, by (intro w hSw; (try dsimp only at hSw); go_simp; try with_reducible rfl)⟩) (by assumption) ?_
  (try dsimp only [Act.put]); (try go_frame)
  refine wpAnyH_take (i := 13) (v := _) (by first | (simp only [List.getElem?_toArray, List.getElem?_cons_zero, List.getElem?_cons_succ]; rfl) | rfl) (by kernel_rfl) (by kernel_rfl) (by kernel_rfl) (by exact fun _ _ _ h => h) (Or.inl ⟨by rfl, by (intro w hSw; (try dsimp only at hSw); go_simp; try with_reducible rfl)⟩) (by assumption) ?_
  (try dsimp only [Act.put]); (try go_frame)
  refine wpAnyH_done (by kernel_rfl) ?_ _
  try simp only [QCut]
  clear hHeld
  clear xF27_0 xF27_1 xF27_2 xF27_3 xF27_4 xF27_5 xF37_0 xF37_1 xF37_2
  obtain ⟨xF47_0, xF47_1, xF47_2, xF47_3, xF47_4, xF47_5⟩ := F4.ce6
  obtain ⟨xF47_0f, xF47_1f, xF47_2f, xF47_3f, xF47_4f, xF47_5f⟩ := F4.fr6
  clear F2
  clear F3
  clear F19
  replace F4 : Blk (((((((w6).setCell ⟨w.heap.size + 1 + 1, 0, none⟩ (.bool Rn)).setCell ⟨w.heap.size + 1 + 1, 1, none⟩ (.string RS)).setCell ⟨w.heap.size + 1 + 1, 2, none⟩ (.int .i64 Re)).setCell ⟨w.heap.size + 1 + 1, 3, none⟩ (.bool Rm)).setCell ⟨w.heap.size + 1 + 1, 4, none⟩ (.string RT)).setCell ⟨w.heap.size + 1 + 1, 5, none⟩ (.int .i64 Rf)) (w.heap.size + 1 + 1) #[.bool Rn, .string RS, .int .i64 Re, .bool Rm, .string RT, .int .i64 Rf] 49 := ((((((F4.setAt 0 (.bool Rn)).setAt 1 (.string RS)).setAt 2 (.int .i64 Re)).setAt 3 (.bool Rm)).setAt 4 (.string RT)).setAt 5 (.int .i64 Rf))
  replace B0 := ((((((B0.setCell (p := ⟨w.heap.size + 1 + 1, 0, none⟩) q_w_F4.out (.bool Rn)).setCell (p := ⟨w.heap.size + 1 + 1, 1, none⟩) q_w_F4.out (.string RS)).setCell (p := ⟨w.heap.size + 1 + 1, 2, none⟩) q_w_F4.out (.int .i64 Re)).setCell (p := ⟨w.heap.size + 1 + 1, 3, none⟩) q_w_F4.out (.bool Rm)).setCell (p := ⟨w.heap.size + 1 + 1, 4, none⟩) q_w_F4.out (.string RT)).setCell (p := ⟨w.heap.size + 1 + 1, 5, none⟩) q_w_F4.out (.int .i64 Rf))
  obtain ⟨xF48_0, xF48_1, xF48_2, xF48_3, xF48_4, xF48_5⟩ := F4.ce6
  go_wp2
  exact bodyPost_ret (v := .tuple #[.agg #[.bool Rn, .string RS, .int .i64 Re, .bool Rm, .string RT, .int .i64 Rf], .int .i64 Rr]) (by simp [results, Tryd.results60, go_sem, xF48_0, xF48_1, xF48_2, xF48_3, xF48_4, xF48_5]) rfl ⟨rfl, B0⟩

theorem gscale (a : GY) (d : DY) (w : World) (ha : a.ok) (hd : d.ok) (hT : Tab w) :
    Calls Tryd.prog 60 #[.agg #[.bool a.re.n, .string (bstr a.re.x), .int .i64 a.re.e, .bool a.im.n, .string (bstr a.im.x), .int .i64 a.im.e], .agg #[.bool d.n, .string (bstr d.x), .int .i64 d.e]] w fun r w' => r = .returned (.tuple #[.agg #[.bool (gScale a d).1.re.n, .string (bstr (gScale a d).1.re.x), .int .i64 (gScale a d).1.re.e, .bool (gScale a d).1.im.n, .string (bstr (gScale a d).1.im.x), .int .i64 (gScale a d).1.im.e], .int .i64 (gScale a d).2]) ∧ Below w.heap.size w w' := gscale_w a d _ _ _ rfl rfl (gScale_row a d) w ha hd hT

end Go.Proofs.YtgcifpjhhoalmaaDoor
