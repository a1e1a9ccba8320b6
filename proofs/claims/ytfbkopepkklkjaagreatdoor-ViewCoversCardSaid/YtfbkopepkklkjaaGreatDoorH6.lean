/- Walks of the layer of Gausses, by a program (walk.py): part H6. -/
import Derived.Test.YtfbkopepkklkjaaGreatDoorG5
namespace Go.Proofs.YtfbkopepkklkjaaGreatDoor
open Go Go.RowKit Go.PlainAid Fil

set_option maxRecDepth 10000 in
set_option maxHeartbeats 4000000 in
theorem gdot_w (a : GY) (b : GY) (p : DY × Int) (q : DY × Int) (s : DY × Int) (R : DY × Int) (E_p : kr 0 (yMul a.re b.re) = p) (E_q : kr p.2 (yMul a.im b.im) = q) (E_s : kr q.2 (yAdd p.1 q.1) = s) (E_R : kp s.2 s.1 = R) (w : World) (ok_a : a.ok) (ok_b : b.ok)  (hT : Tab w) :
  Calls Tryz.prog 81 #[.agg #[.bool a.re.n, .string (bstr a.re.x), .int .i64 a.re.e, .bool a.im.n, .string (bstr a.im.x), .int .i64 a.im.e], .agg #[.bool b.re.n, .string (bstr b.re.x), .int .i64 b.re.e, .bool b.im.n, .string (bstr b.im.x), .int .i64 b.im.e]] w fun r w' => r = .returned (.tuple #[.agg #[.bool R.1.n, .string (bstr R.1.x), .int .i64 R.1.e], .int .i64 R.2]) ∧ Below w.heap.size w w' := by
 have ok_p : p.1.ok := E_p ▸ kr_ok (yMul_ok _ _)
 have ok_q : q.1.ok := E_q ▸ kr_ok (yMul_ok _ _)
 have hall := fun Bk W h => gall2_ok a b Bk W h ok_a ok_b
 have h1 := fun K c W hW hK ho hc => kmul a.re b.re 0 K c W ok_a.1 ok_b.1 hW hK ho hc
 rw [E_p] at h1
 have h2 := fun K c W hW hK ho hc => kmul a.im b.im p.2 K c W ok_a.2 ok_b.2 hW hK ho hc
 rw [E_q] at h2
 have h3 := fun K c W hW hK ho hc => kadd p.1 q.1 q.2 K c W ok_p ok_q hW hK ho hc
 rw [E_s] at h3
 have h4 := fun K W hK => kpart s.2 s.1 K W hK
 rw [E_R] at h4
 clear E_p E_q E_s E_R ok_p ok_q ok_a ok_b
 obtain ⟨⟨an, aX, ae⟩, ⟨am, aY, af⟩⟩ := a
 obtain ⟨⟨bn, bX, be⟩, ⟨bm, bY, bf⟩⟩ := b
 obtain ⟨⟨pn, pX, pe⟩, pr⟩ := p
 obtain ⟨⟨qn, qX, qe⟩, qr⟩ := q
 obtain ⟨⟨sn, sX, se⟩, sr⟩ := s
 obtain ⟨⟨Rn, RX, Re⟩, Rr⟩ := R
 dsimp only at *
 generalize bstr aX = aS at *
 generalize bstr aY = aT at *
 generalize bstr bX = bS at *
 generalize bstr bY = bT at *
 generalize bstr pX = pS at *
 generalize bstr qX = qS at *
 generalize bstr sX = sS at *
 generalize bstr RX = RS at *
 go_enter Tryz.func81, Tryz.ntmps81
 have B0 := Below.refl w.heap.size w
 have F2 := Blk.put (w) #[.bool an, .string aS, .int .i64 ae, .bool am, .string aT, .int .i64 af] 28
 replace B0 := B0.alloc B0.size (.cells #[.bool an, .string aS, .int .i64 ae, .bool am, .string aT, .int .i64 af] 28)
 replace F2 := F2.allocd (.cells #[.bool bn, .string bS, .int .i64 be, .bool bm, .string bT, .int .i64 bf] 28)
 have F3 := Blk.put ((w).alloc (.cells #[.bool an, .string aS, .int .i64 ae, .bool am, .string aT, .int .i64 af] 28)) #[.bool bn, .string bS, .int .i64 be, .bool bm, .string bT, .int .i64 bf] 28
 rw [show ((w).alloc (.cells #[.bool an, .string aS, .int .i64 ae, .bool am, .string aT, .int .i64 af] 28)).heap.size = w.heap.size + 1 by simp] at F3
 replace B0 := B0.alloc B0.size (.cells #[.bool bn, .string bS, .int .i64 be, .bool bm, .string bT, .int .i64 bf] 28)
 have q_w_F4 : Hid (w.heap.size ≤ w.heap.size + 1 + 1) := Lib.hid (by omega)
 replace F2 := F2.allocd (.cells #[.bool false, .string { data := #[] }, .int .i64 0] 24)
 replace F3 := F3.allocd (.cells #[.bool false, .string { data := #[] }, .int .i64 0] 24)
 have F4 := Blk.put (((w).alloc (.cells #[.bool an, .string aS, .int .i64 ae, .bool am, .string aT, .int .i64 af] 28)).alloc (.cells #[.bool bn, .string bS, .int .i64 be, .bool bm, .string bT, .int .i64 bf] 28)) #[.bool false, .string { data := #[] }, .int .i64 0] 24
 rw [show (((w).alloc (.cells #[.bool an, .string aS, .int .i64 ae, .bool am, .string aT, .int .i64 af] 28)).alloc (.cells #[.bool bn, .string bS, .int .i64 be, .bool bm, .string bT, .int .i64 bf] 28)).heap.size = w.heap.size + 1 + 1 by simp] at F4
 replace B0 := B0.alloc B0.size (.cells #[.bool false, .string { data := #[] }, .int .i64 0] 24)
 obtain ⟨xF20_0, xF20_1, xF20_2, xF20_3, xF20_4, xF20_5⟩ := F2.ce6
 obtain ⟨xF30_0, xF30_1, xF30_2, xF30_3, xF30_4, xF30_5⟩ := F3.ce6
 go_wp2_with fail
 (with_reducible refine (hall _ _ (by simp)).mono ?_)
 rintro r w1 ⟨rfl, hb1⟩
 clear xF20_0 xF20_1 xF20_2 xF20_3 xF20_4 xF20_5 xF30_0 xF30_1 xF30_2 xF30_3 xF30_4 xF30_5
 replace F2 := F2.keep hb1
 replace F3 := F3.keep hb1
 replace F4 := F4.keep hb1
 replace B0 := B0.trans (hb1.mono B0.size)
 clear hb1
 have q_F2_F16 : Hid (w.heap.size < w1.heap.size) := Lib.hid (by have := F2.lt; first | exact this | simpa using this | omega)
 have q_F3_F16 : Hid (w.heap.size + 1 < w1.heap.size) := Lib.hid (by have := F3.lt; first | exact this | simpa using this | omega)
 have q_F4_F16 : Hid (w.heap.size + 1 + 1 < w1.heap.size) := Lib.hid (by have := F4.lt; first | exact this | simpa using this | omega)
 have q_w_F16 : Hid (w.heap.size ≤ w1.heap.size) := Lib.hid (by have := B0.size; first | exact this | simpa using this | omega)
 replace F2 := F2.allocd (.cells #[.int .i64 0] 136)
 replace F3 := F3.allocd (.cells #[.int .i64 0] 136)
 replace F4 := F4.allocd (.cells #[.int .i64 0] 136)
 have F16 := Blk.put (w1) #[.int .i64 0] 136
 replace B0 := B0.alloc B0.size (.cells #[.int .i64 0] 136)
 go_wp2_with fail
 (with_reducible refine (kept_make _ _ _).mono ?_)
 rintro r w2 ⟨⟨bO1, eO1, rfl, O1⟩, hb2⟩
 have q_F16_O1 : Hid (w1.heap.size < bO1) := Lib.hid (by have := F16.lt; rw [eO1]; first | exact this | simpa using this)
 replace F2 := F2.keep hb2
 replace F3 := F3.keep hb2
 replace F4 := F4.keep hb2
 replace F16 := F16.keep hb2
 replace B0 := B0.trans (hb2.mono B0.size)
 clear hb2
 clear eO1
 go_wp2_with fail
 (with_reducible refine (kept_make _ _ _).mono ?_)
 rintro r w3 ⟨⟨bO2, eO2, rfl, O2⟩, hb3⟩
 have q_F16_O2 : Hid (w1.heap.size < bO2) := Lib.hid (by have := F16.lt; rw [eO2]; first | exact this | simpa using this)
 replace F2 := F2.keep hb3
 replace F3 := F3.keep hb3
 replace F4 := F4.keep hb3
 replace F16 := F16.keep hb3
 replace O1 := O1.keep hb3
 replace B0 := B0.trans (hb3.mono B0.size)
 clear hb3
 clear eO2
 go_wp2_with fail
 refine wp_region_cut 18 (by kernel_rfl) (by kernel_rfl) ?_
 rintro W rfl
 simp only [List.take_succ_cons, List.take_zero, List.drop_succ_cons, List.drop_zero]
 obtain ⟨xF23_0, xF23_1, xF23_2, xF23_3, xF23_4, xF23_5⟩ := F2.ce6
 obtain ⟨xF33_0, xF33_1, xF33_2, xF33_3, xF33_4, xF33_5⟩ := F3.ce6
 have hHeld : (fun w' : World => w'.cell? ⟨w.heap.size, 0, none⟩ = some (.bool an) ∧ w'.cell? ⟨w.heap.size, 1, none⟩ = some (.string aS) ∧ w'.cell? ⟨w.heap.size, 2, none⟩ = some (.int .i64 ae) ∧ w'.cell? ⟨w.heap.size, 3, none⟩ = some (.bool am) ∧ w'.cell? ⟨w.heap.size, 4, none⟩ = some (.string aT) ∧ w'.cell? ⟨w.heap.size, 5, none⟩ = some (.int .i64 af) ∧ w'.cell? ⟨w.heap.size + 1, 0, none⟩ = some (.bool bn) ∧ w'.cell? ⟨w.heap.size + 1, 1, none⟩ = some (.string bS) ∧ w'.cell? ⟨w.heap.size + 1, 2, none⟩ = some (.int .i64 be) ∧ w'.cell? ⟨w.heap.size + 1, 3, none⟩ = some (.bool bm) ∧ w'.cell? ⟨w.heap.size + 1, 4, none⟩ = some (.string bT) ∧ w'.cell? ⟨w.heap.size + 1, 5, none⟩ = some (.int .i64 bf)) (w3).drew := ⟨xF23_0, xF23_1, xF23_2, xF23_3, xF23_4, xF23_5, xF33_0, xF33_1, xF33_2, xF33_3, xF33_4, xF33_5⟩
 refine wpAny_of_held (S := fun w' : World => w'.cell? ⟨w.heap.size, 0, none⟩ = some (.bool an) ∧ w'.cell? ⟨w.heap.size, 1, none⟩ = some (.string aS) ∧ w'.cell? ⟨w.heap.size, 2, none⟩ = some (.int .i64 ae) ∧ w'.cell? ⟨w.heap.size, 3, none⟩ = some (.bool am) ∧ w'.cell? ⟨w.heap.size, 4, none⟩ = some (.string aT) ∧ w'.cell? ⟨w.heap.size, 5, none⟩ = some (.int .i64 af) ∧ w'.cell? ⟨w.heap.size + 1, 0, none⟩ = some (.bool bn) ∧ w'.cell? ⟨w.heap.size + 1, 1, none⟩ = some (.string bS) ∧ w'.cell? ⟨w.heap.size + 1, 2, none⟩ = some (.int .i64 be) ∧ w'.cell? ⟨w.heap.size + 1, 3, none⟩ = some (.bool bm) ∧ w'.cell? ⟨w.heap.size + 1, 4, none⟩ = some (.string bT) ∧ w'.cell? ⟨w.heap.size + 1, 5, none⟩ = some (.int .i64 bf)) _ _ _ _ ?_
 replace F2 := F2.drew
 replace F3 := F3.drew
 replace F4 := F4.drew
 replace F16 := F16.drew
 replace O1 := O1.drew
 replace O2 := O2.drew
 replace B0 := B0.drew
 refine tkA 0 ?_
 (try dsimp only [Act.put]); (try go_frame)
 refine tkA 1 ?_
 (try dsimp only [Act.put]); (try go_frame)
 refine tkA 2 ?_
 (try dsimp only [Act.put]); (try go_frame)
 refine tkA 3 ?_
 (try dsimp only [Act.put]); (try go_frame)
 refine tkA 4 ?_
 (try dsimp only [Act.put]); (try go_frame)
 refine tkA 5 ?_
 (try dsimp only [Act.put]); (try go_frame)
 refine tkA 6 ?_
 (try dsimp only [Act.put]); (try go_frame)
 refine tkA 8 ?_
 (try dsimp only [Act.put]); (try go_frame)
 refine tkA 9 ?_
 (try dsimp only [Act.put]); (try go_frame)
 refine tkA 10 ?_
 (try dsimp only [Act.put]); (try go_frame)
 refine tkA 11 ?_
 (try dsimp only [Act.put]); (try go_frame)
 refine tkA 12 ?_
 (try dsimp only [Act.put]); (try go_frame)
 refine wpAnyH_ready (rs := [7]) (by kernel_rfl) (by simp) ?_
 refine AllReadyH.cons rfl (fun K hK => ?_) AllReadyH.nil
 go_simp
 (with_reducible refine (h1 _ _ _ (hT.below B0) F16 O2 q_F16_O2.out).mono ?_)
 rintro r w4 ⟨rfl, hk4, hb4⟩
 clear xF23_0 xF23_1 xF23_2 xF23_3 xF23_4 xF23_5 xF33_0 xF33_1 xF33_2 xF33_3 xF33_4 xF33_5
 replace F2 := F2.kb hb4 (Nat.ne_of_lt q_F2_F16.out)
 replace F3 := F3.kb hb4 (Nat.ne_of_lt q_F3_F16.out)
 replace F4 := F4.kb hb4 (Nat.ne_of_lt q_F4_F16.out)
 replace O1 := O1.kb hb4 q_F16_O1.out
 replace O2 := O2.kb hb4 q_F16_O2.out
 clear F16
 have F16 := hk4
 clear hk4
 replace B0 := below_kb B0 hb4 q_w_F16.out
 clear hb4
 obtain ⟨xF25_0, xF25_1, xF25_2, xF25_3, xF25_4, xF25_5⟩ := F2.ce6
 obtain ⟨xF35_0, xF35_1, xF35_2, xF35_3, xF35_4, xF35_5⟩ := F3.ce6
 refine hK.out _ _ ?_ (fun hHeld => ?_)
 ·exact ⟨xF25_0, xF25_1, xF25_2, xF25_3, xF25_4, xF25_5, xF35_0, xF35_1, xF35_2, xF35_3, xF35_4, xF35_5⟩
 clear hK K
 (try dsimp only [Act.put]); (try go_frame)
 refine wpAnyH_ready (rs := [13]) (by kernel_rfl) (by simp) ?_
 refine AllReadyH.cons rfl (fun K hK => ?_) AllReadyH.nil
 go_simp
 (with_reducible refine (h2 _ _ _ (hT.below B0) F16 O2 q_F16_O2.out).mono ?_)
 rintro r w5 ⟨rfl, hk5, hb5⟩
 clear xF25_0 xF25_1 xF25_2 xF25_3 xF25_4 xF25_5 xF35_0 xF35_1 xF35_2 xF35_3 xF35_4 xF35_5
 replace F2 := F2.kb hb5 (Nat.ne_of_lt q_F2_F16.out)
 replace F3 := F3.kb hb5 (Nat.ne_of_lt q_F3_F16.out)
 replace F4 := F4.kb hb5 (Nat.ne_of_lt q_F4_F16.out)
 replace O1 := O1.kb hb5 q_F16_O1.out
 replace O2 := O2.kb hb5 q_F16_O2.out
 clear F16
 have F16 := hk5
 clear hk5
 replace B0 := below_kb B0 hb5 q_w_F16.out
 clear hb5
 obtain ⟨xF26_0, xF26_1, xF26_2, xF26_3, xF26_4, xF26_5⟩ := F2.ce6
 obtain ⟨xF36_0, xF36_1, xF36_2, xF36_3, xF36_4, xF36_5⟩ := F3.ce6
 refine hK.out _ _ ?_ (fun hHeld => ?_)
 ·exact ⟨xF26_0, xF26_1, xF26_2, xF26_3, xF26_4, xF26_5, xF36_0, xF36_1, xF36_2, xF36_3, xF36_4, xF36_5⟩
 clear hK K
 (try dsimp only [Act.put]); (try go_frame)
 refine wpAnyH_ready (rs := [14]) (by kernel_rfl) (by simp) ?_
 refine AllReadyH.cons rfl (fun K hK => ?_) AllReadyH.nil
 go_simp
 (with_reducible refine (h3 _ _ _ (hT.below B0) F16 O1 q_F16_O1.out).mono ?_)
 rintro r w6 ⟨rfl, hk6, hb6⟩
 clear xF26_0 xF26_1 xF26_2 xF26_3 xF26_4 xF26_5 xF36_0 xF36_1 xF36_2 xF36_3 xF36_4 xF36_5
 replace F2 := F2.kb hb6 (Nat.ne_of_lt q_F2_F16.out)
 replace F3 := F3.kb hb6 (Nat.ne_of_lt q_F3_F16.out)
 replace F4 := F4.kb hb6 (Nat.ne_of_lt q_F4_F16.out)
 replace O1 := O1.kb hb6 q_F16_O1.out
 clear O2
 clear F16
 have F16 := hk6
 clear hk6
 replace B0 := below_kb B0 hb6 q_w_F16.out
 clear hb6
 obtain ⟨xF27_0, xF27_1, xF27_2, xF27_3, xF27_4, xF27_5⟩ := F2.ce6
 obtain ⟨xF37_0, xF37_1, xF37_2, xF37_3, xF37_4, xF37_5⟩ := F3.ce6
 refine hK.out _ _ ?_ (fun hHeld => ?_)
 ·exact ⟨xF27_0, xF27_1, xF27_2, xF27_3, xF27_4, xF27_5, xF37_0, xF37_1, xF37_2, xF37_3, xF37_4, xF37_5⟩
 clear hK K
 (try dsimp only [Act.put]); (try go_frame)
 refine wpAnyH_ready (rs := [15]) (by kernel_rfl) (by simp) ?_
 refine AllReadyH.cons rfl (fun K hK => ?_) AllReadyH.nil
 go_simp
 (with_reducible refine (h4 _ _ F16).mono ?_)
 rintro r w7 ⟨rfl, hb7⟩
 clear xF27_0 xF27_1 xF27_2 xF27_3 xF27_4 xF27_5 xF37_0 xF37_1 xF37_2 xF37_3 xF37_4 xF37_5
 replace F2 := F2.keep hb7
 replace F3 := F3.keep hb7
 replace F4 := F4.keep hb7
 replace F16 := F16.keep hb7
 clear O1
 replace B0 := B0.trans (hb7.mono B0.size)
 clear hb7
 obtain ⟨xF28_0, xF28_1, xF28_2, xF28_3, xF28_4, xF28_5⟩ := F2.ce6
 obtain ⟨xF38_0, xF38_1, xF38_2, xF38_3, xF38_4, xF38_5⟩ := F3.ce6
 refine hK.out _ _ ?_ (fun hHeld => ?_)
 ·exact ⟨xF28_0, xF28_1, xF28_2, xF28_3, xF28_4, xF28_5, xF38_0, xF38_1, xF38_2, xF38_3, xF38_4, xF38_5⟩
 clear hK K
 (try dsimp only [Act.put]); (try go_frame)
 refine tkA 16 ?_
 (try dsimp only [Act.put]); (try go_frame)
 refine tkA 17 ?_
 (try dsimp only [Act.put]); (try go_frame)
 refine wpAnyH_done (by kernel_rfl) ?_ _
 try simp only [QCut]
 clear hHeld
 clear xF28_0 xF28_1 xF28_2 xF28_3 xF28_4 xF28_5 xF38_0 xF38_1 xF38_2 xF38_3 xF38_4 xF38_5
 obtain ⟨xF48_0, xF48_1, xF48_2⟩ := F4.ce3
 obtain ⟨xF48_0f, xF48_1f, xF48_2f⟩ := F4.fr3
 clear F2
 clear F3
 clear F16
 replace F4 : Blk ((((w7).setCell ⟨w.heap.size + 1 + 1, 0, none⟩ (.bool Rn)).setCell ⟨w.heap.size + 1 + 1, 1, none⟩ (.string RS)).setCell ⟨w.heap.size + 1 + 1, 2, none⟩ (.int .i64 Re)) (w.heap.size + 1 + 1) #[.bool Rn, .string RS, .int .i64 Re] 24 := (((F4.setAt 0 (.bool Rn)).setAt 1 (.string RS)).setAt 2 (.int .i64 Re))
 replace B0 := (((B0.setCell (p := ⟨w.heap.size + 1 + 1, 0, none⟩) q_w_F4.out (.bool Rn)).setCell (p := ⟨w.heap.size + 1 + 1, 1, none⟩) q_w_F4.out (.string RS)).setCell (p := ⟨w.heap.size + 1 + 1, 2, none⟩) q_w_F4.out (.int .i64 Re))
 obtain ⟨xF49_0, xF49_1, xF49_2⟩ := F4.ce3
 go_wp2
 exact bodyPost_ret (v := .tuple #[.agg #[.bool Rn, .string RS, .int .i64 Re], .int .i64 Rr]) (by simp [results, Tryz.results81, go_sem, xF49_0, xF49_1, xF49_2]) rfl ⟨rfl, B0⟩

theorem gDot_row (a b : GY) : kp (kr (kr (kr 0 (yMul a.re b.re)).2 (yMul a.im b.im)).2 (yAdd (kr 0 (yMul a.re b.re)).1 (kr (kr 0 (yMul a.re b.re)).2 (yMul a.im b.im)).1)).2 (kr (kr (kr 0 (yMul a.re b.re)).2 (yMul a.im b.im)).2 (yAdd (kr 0 (yMul a.re b.re)).1 (kr (kr 0 (yMul a.re b.re)).2 (yMul a.im b.im)).1)).1 = gDot a b := by
 have h : kr (kr (kr 0 (yMul a.re b.re)).2 (yMul a.im b.im)).2 (yAdd (kr 0 (yMul a.re b.re)).1 (kr (kr 0 (yMul a.re b.re)).2 (yMul a.im b.im)).1) = gDot a b := (kr_two 0 (.inl rfl) a.re b.re a.im b.im false).trans (kr_go _)
 rw [h]
 exact kp_row _ (yTwo_e _ _ _ _ _)

theorem gdot (a : GY) (b : GY) (w : World) (ha : a.ok) (hb : b.ok) (hT : Tab w) :
  Calls Tryz.prog 81 #[.agg #[.bool a.re.n, .string (bstr a.re.x), .int .i64 a.re.e, .bool a.im.n, .string (bstr a.im.x), .int .i64 a.im.e], .agg #[.bool b.re.n, .string (bstr b.re.x), .int .i64 b.re.e, .bool b.im.n, .string (bstr b.im.x), .int .i64 b.im.e]] w fun r w' => r = .returned (.tuple #[.agg #[.bool (gDot a b).1.n, .string (bstr (gDot a b).1.x), .int .i64 (gDot a b).1.e], .int .i64 (gDot a b).2]) ∧ Below w.heap.size w w' := gdot_w a b _ _ _ _ rfl rfl rfl (gDot_row a b) w ha hb hT

end Go.Proofs.YtfbkopepkklkjaaGreatDoor
