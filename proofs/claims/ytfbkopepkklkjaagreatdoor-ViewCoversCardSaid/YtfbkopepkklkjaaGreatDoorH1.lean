/- Walks of the layer of Gausses, by a program (walk.py): part H1. -/
import Derived.Test.YtfbkopepkklkjaaGreatDoorG3
namespace Go.Proofs.YtfbkopepkklkjaaGreatDoor
open Go Go.RowKit Go.PlainAid Fil

set_option maxRecDepth 10000 in
set_option maxHeartbeats 4000000 in
theorem qneg_w (a : GY) (p : DY) (q : DY) (E_p : yNeg a.re = p) (E_q : yNeg a.im = q) (w : World) (ok_a : a.ok)  :
  Calls Tryz.prog 88 #[.agg #[.bool a.re.n, .string (bstr a.re.x), .int .i64 a.re.e, .bool a.im.n, .string (bstr a.im.x), .int .i64 a.im.e]] w fun r w' => r = .returned (.agg #[.bool p.n, .string (bstr p.x), .int .i64 p.e, .bool q.n, .string (bstr q.x), .int .i64 q.e]) ∧ Below w.heap.size w w' := by
 have h1 := fun W => rcneg a.re W ok_a.1
 rw [E_p] at h1
 have h2 := fun W => rcneg a.im W ok_a.2
 rw [E_q] at h2
 clear E_p E_q ok_a
 obtain ⟨⟨an, aX, ae⟩, ⟨am, aY, af⟩⟩ := a
 obtain ⟨pn, pX, pe⟩ := p
 obtain ⟨qn, qX, qe⟩ := q
 dsimp only at *
 generalize bstr aX = aS at *
 generalize bstr aY = aT at *
 generalize bstr pX = pS at *
 generalize bstr qX = qS at *
 go_enter Tryz.func88, Tryz.ntmps88
 have B0 := Below.refl w.heap.size w
 have F1 := Blk.put (w) #[.bool an, .string aS, .int .i64 ae, .bool am, .string aT, .int .i64 af] 28
 replace B0 := B0.alloc B0.size (.cells #[.bool an, .string aS, .int .i64 ae, .bool am, .string aT, .int .i64 af] 28)
 have q_w_F2 : Hid (w.heap.size ≤ w.heap.size + 1) := Lib.hid (by omega)
 replace F1 := F1.allocd (.cells #[.bool false, .string { data := #[] }, .int .i64 0, .bool false, .string { data := #[] }, .int .i64 0] 28)
 have F2 := Blk.put ((w).alloc (.cells #[.bool an, .string aS, .int .i64 ae, .bool am, .string aT, .int .i64 af] 28)) #[.bool false, .string { data := #[] }, .int .i64 0, .bool false, .string { data := #[] }, .int .i64 0] 28
 rw [show ((w).alloc (.cells #[.bool an, .string aS, .int .i64 ae, .bool am, .string aT, .int .i64 af] 28)).heap.size = w.heap.size + 1 by simp] at F2
 replace B0 := B0.alloc B0.size (.cells #[.bool false, .string { data := #[] }, .int .i64 0, .bool false, .string { data := #[] }, .int .i64 0] 28)
 go_wp2_with fail
 refine wp_region_cut 7 (by kernel_rfl) (by kernel_rfl) ?_
 rintro W rfl
 simp only [List.take_succ_cons, List.take_zero, List.drop_succ_cons, List.drop_zero]
 obtain ⟨xF10_0, xF10_1, xF10_2, xF10_3, xF10_4, xF10_5⟩ := F1.ce6
 have hHeld : (fun w' : World => w'.cell? ⟨w.heap.size, 0, none⟩ = some (.bool an) ∧ w'.cell? ⟨w.heap.size, 1, none⟩ = some (.string aS) ∧ w'.cell? ⟨w.heap.size, 2, none⟩ = some (.int .i64 ae) ∧ w'.cell? ⟨w.heap.size, 3, none⟩ = some (.bool am) ∧ w'.cell? ⟨w.heap.size, 4, none⟩ = some (.string aT) ∧ w'.cell? ⟨w.heap.size, 5, none⟩ = some (.int .i64 af)) (((w).alloc (.cells #[.bool an, .string aS, .int .i64 ae, .bool am, .string aT, .int .i64 af] 28)).alloc (.cells #[.bool false, .string { data := #[] }, .int .i64 0, .bool false, .string { data := #[] }, .int .i64 0] 28)).drew := ⟨xF10_0, xF10_1, xF10_2, xF10_3, xF10_4, xF10_5⟩
 refine wpAny_of_held (S := fun w' : World => w'.cell? ⟨w.heap.size, 0, none⟩ = some (.bool an) ∧ w'.cell? ⟨w.heap.size, 1, none⟩ = some (.string aS) ∧ w'.cell? ⟨w.heap.size, 2, none⟩ = some (.int .i64 ae) ∧ w'.cell? ⟨w.heap.size, 3, none⟩ = some (.bool am) ∧ w'.cell? ⟨w.heap.size, 4, none⟩ = some (.string aT) ∧ w'.cell? ⟨w.heap.size, 5, none⟩ = some (.int .i64 af)) _ _ _ _ ?_
 replace F1 := F1.drew
 replace F2 := F2.drew
 replace B0 := B0.drew
 refine tkA 0 ?_
 (try dsimp only [Act.put]); (try go_frame)
 refine tkA 1 ?_
 (try dsimp only [Act.put]); (try go_frame)
 refine tkA 3 ?_
 (try dsimp only [Act.put]); (try go_frame)
 refine tkA 4 ?_
 (try dsimp only [Act.put]); (try go_frame)
 refine wpAnyH_ready (rs := [2]) (by kernel_rfl) (by simp) ?_
 refine AllReadyH.cons rfl (fun K hK => ?_) AllReadyH.nil
 go_simp
 (with_reducible refine (h1 _).mono ?_)
 rintro r w1 ⟨rfl, hb1⟩
 clear xF10_0 xF10_1 xF10_2 xF10_3 xF10_4 xF10_5
 replace F1 := F1.keep hb1
 replace F2 := F2.keep hb1
 replace B0 := B0.trans (hb1.mono B0.size)
 clear hb1
 obtain ⟨xF12_0, xF12_1, xF12_2, xF12_3, xF12_4, xF12_5⟩ := F1.ce6
 refine hK.out _ _ ?_ (fun hHeld => ?_)
 ·exact ⟨xF12_0, xF12_1, xF12_2, xF12_3, xF12_4, xF12_5⟩
 clear hK K
 (try dsimp only [Act.put]); (try go_frame)
 refine wpAnyH_ready (rs := [5]) (by kernel_rfl) (by simp) ?_
 refine AllReadyH.cons rfl (fun K hK => ?_) AllReadyH.nil
 go_simp
 (with_reducible refine (h2 _).mono ?_)
 rintro r w2 ⟨rfl, hb2⟩
 clear xF12_0 xF12_1 xF12_2 xF12_3 xF12_4 xF12_5
 replace F1 := F1.keep hb2
 replace F2 := F2.keep hb2
 replace B0 := B0.trans (hb2.mono B0.size)
 clear hb2
 obtain ⟨xF13_0, xF13_1, xF13_2, xF13_3, xF13_4, xF13_5⟩ := F1.ce6
 refine hK.out _ _ ?_ (fun hHeld => ?_)
 ·exact ⟨xF13_0, xF13_1, xF13_2, xF13_3, xF13_4, xF13_5⟩
 clear hK K
 (try dsimp only [Act.put]); (try go_frame)
 refine tkA 6 ?_
 (try dsimp only [Act.put]); (try go_frame)
 refine wpAnyH_done (by kernel_rfl) ?_ _
 try simp only [QCut]
 clear hHeld
 clear xF13_0 xF13_1 xF13_2 xF13_3 xF13_4 xF13_5
 obtain ⟨xF23_0, xF23_1, xF23_2, xF23_3, xF23_4, xF23_5⟩ := F2.ce6
 obtain ⟨xF23_0f, xF23_1f, xF23_2f, xF23_3f, xF23_4f, xF23_5f⟩ := F2.fr6
 clear F1
 replace F2 : Blk (((((((w2).setCell ⟨w.heap.size + 1, 0, none⟩ (.bool pn)).setCell ⟨w.heap.size + 1, 1, none⟩ (.string pS)).setCell ⟨w.heap.size + 1, 2, none⟩ (.int .i64 pe)).setCell ⟨w.heap.size + 1, 3, none⟩ (.bool qn)).setCell ⟨w.heap.size + 1, 4, none⟩ (.string qS)).setCell ⟨w.heap.size + 1, 5, none⟩ (.int .i64 qe)) (w.heap.size + 1) #[.bool pn, .string pS, .int .i64 pe, .bool qn, .string qS, .int .i64 qe] 28 := ((((((F2.setAt 0 (.bool pn)).setAt 1 (.string pS)).setAt 2 (.int .i64 pe)).setAt 3 (.bool qn)).setAt 4 (.string qS)).setAt 5 (.int .i64 qe))
 replace B0 := ((((((B0.setCell (p := ⟨w.heap.size + 1, 0, none⟩) q_w_F2.out (.bool pn)).setCell (p := ⟨w.heap.size + 1, 1, none⟩) q_w_F2.out (.string pS)).setCell (p := ⟨w.heap.size + 1, 2, none⟩) q_w_F2.out (.int .i64 pe)).setCell (p := ⟨w.heap.size + 1, 3, none⟩) q_w_F2.out (.bool qn)).setCell (p := ⟨w.heap.size + 1, 4, none⟩) q_w_F2.out (.string qS)).setCell (p := ⟨w.heap.size + 1, 5, none⟩) q_w_F2.out (.int .i64 qe))
 obtain ⟨xF24_0, xF24_1, xF24_2, xF24_3, xF24_4, xF24_5⟩ := F2.ce6
 go_wp2
 exact bodyPost_ret (v := .agg #[.bool pn, .string pS, .int .i64 pe, .bool qn, .string qS, .int .i64 qe]) (by simp [results, Tryz.results88, go_sem, xF24_0, xF24_1, xF24_2, xF24_3, xF24_4, xF24_5]) rfl ⟨rfl, B0⟩

theorem qneg (a : GY) (w : World) (ha : a.ok) :
  Calls Tryz.prog 88 #[.agg #[.bool a.re.n, .string (bstr a.re.x), .int .i64 a.re.e, .bool a.im.n, .string (bstr a.im.x), .int .i64 a.im.e]] w fun r w' => r = .returned (.agg #[.bool (gNeg a).re.n, .string (bstr (gNeg a).re.x), .int .i64 (gNeg a).re.e, .bool (gNeg a).im.n, .string (bstr (gNeg a).im.x), .int .i64 (gNeg a).im.e]) ∧ Below w.heap.size w w' := qneg_w a _ _ rfl rfl w ha

set_option maxRecDepth 10000 in
set_option maxHeartbeats 4000000 in
theorem qadd_w (a : GY) (b : GY) (p : DY × Int) (q : DY × Int) (R : GY × Int) (E_p : yAdd a.re b.re = p) (E_q : yAdd a.im b.im = q) (E_R : gB p q = R) (w : World) (ok_a : a.ok) (ok_b : b.ok)  :
  Calls Tryz.prog 87 #[.agg #[.bool a.re.n, .string (bstr a.re.x), .int .i64 a.re.e, .bool a.im.n, .string (bstr a.im.x), .int .i64 a.im.e], .agg #[.bool b.re.n, .string (bstr b.re.x), .int .i64 b.re.e, .bool b.im.n, .string (bstr b.im.x), .int .i64 b.im.e]] w fun r w' => r = .returned (.tuple #[.agg #[.bool R.1.re.n, .string (bstr R.1.re.x), .int .i64 R.1.re.e, .bool R.1.im.n, .string (bstr R.1.im.x), .int .i64 R.1.im.e], .int .i64 R.2]) ∧ Below w.heap.size w w' := by
 have h1 := fun W => rcadd a.re b.re W ok_a.1 ok_b.1
 rw [E_p] at h1
 have h2 := fun W => rcadd a.im b.im W ok_a.2 ok_b.2
 rw [E_q] at h2
 have h3 := fun W => qboth_any p q W
 rw [E_R] at h3
 clear E_p E_q E_R ok_a ok_b
 obtain ⟨⟨an, aX, ae⟩, ⟨am, aY, af⟩⟩ := a
 obtain ⟨⟨bn, bX, be⟩, ⟨bm, bY, bf⟩⟩ := b
 obtain ⟨⟨pn, pX, pe⟩, pr⟩ := p
 obtain ⟨⟨qn, qX, qe⟩, qr⟩ := q
 obtain ⟨⟨⟨Rn, RX, Re⟩, ⟨Rm, RY, Rf⟩⟩, Rr⟩ := R
 dsimp only at *
 generalize bstr aX = aS at *
 generalize bstr aY = aT at *
 generalize bstr bX = bS at *
 generalize bstr bY = bT at *
 generalize bstr pX = pS at *
 generalize bstr qX = qS at *
 generalize bstr RX = RS at *
 generalize bstr RY = RT at *
 go_enter Tryz.func87, Tryz.ntmps87
 have B0 := Below.refl w.heap.size w
 have F2 := Blk.put (w) #[.bool an, .string aS, .int .i64 ae, .bool am, .string aT, .int .i64 af] 28
 replace B0 := B0.alloc B0.size (.cells #[.bool an, .string aS, .int .i64 ae, .bool am, .string aT, .int .i64 af] 28)
 replace F2 := F2.allocd (.cells #[.bool bn, .string bS, .int .i64 be, .bool bm, .string bT, .int .i64 bf] 28)
 have F3 := Blk.put ((w).alloc (.cells #[.bool an, .string aS, .int .i64 ae, .bool am, .string aT, .int .i64 af] 28)) #[.bool bn, .string bS, .int .i64 be, .bool bm, .string bT, .int .i64 bf] 28
 rw [show ((w).alloc (.cells #[.bool an, .string aS, .int .i64 ae, .bool am, .string aT, .int .i64 af] 28)).heap.size = w.heap.size + 1 by simp] at F3
 replace B0 := B0.alloc B0.size (.cells #[.bool bn, .string bS, .int .i64 be, .bool bm, .string bT, .int .i64 bf] 28)
 have q_w_F4 : Hid (w.heap.size ≤ w.heap.size + 1 + 1) := Lib.hid (by omega)
 replace F2 := F2.allocd (.cells #[.bool false, .string { data := #[] }, .int .i64 0, .bool false, .string { data := #[] }, .int .i64 0] 28)
 replace F3 := F3.allocd (.cells #[.bool false, .string { data := #[] }, .int .i64 0, .bool false, .string { data := #[] }, .int .i64 0] 28)
 have F4 := Blk.put (((w).alloc (.cells #[.bool an, .string aS, .int .i64 ae, .bool am, .string aT, .int .i64 af] 28)).alloc (.cells #[.bool bn, .string bS, .int .i64 be, .bool bm, .string bT, .int .i64 bf] 28)) #[.bool false, .string { data := #[] }, .int .i64 0, .bool false, .string { data := #[] }, .int .i64 0] 28
 rw [show (((w).alloc (.cells #[.bool an, .string aS, .int .i64 ae, .bool am, .string aT, .int .i64 af] 28)).alloc (.cells #[.bool bn, .string bS, .int .i64 be, .bool bm, .string bT, .int .i64 bf] 28)).heap.size = w.heap.size + 1 + 1 by simp] at F4
 replace B0 := B0.alloc B0.size (.cells #[.bool false, .string { data := #[] }, .int .i64 0, .bool false, .string { data := #[] }, .int .i64 0] 28)
 obtain ⟨xF20_0, xF20_1, xF20_2, xF20_3, xF20_4, xF20_5⟩ := F2.ce6
 obtain ⟨xF30_0, xF30_1, xF30_2, xF30_3, xF30_4, xF30_5⟩ := F3.ce6
 go_wp2_with fail
 (with_reducible refine (h1 _).mono ?_)
 rintro r w1 ⟨rfl, hb1⟩
 clear xF20_0 xF20_1 xF20_2 xF20_3 xF20_4 xF20_5 xF30_0 xF30_1 xF30_2 xF30_3 xF30_4 xF30_5
 replace F2 := F2.keep hb1
 replace F3 := F3.keep hb1
 replace F4 := F4.keep hb1
 replace B0 := B0.trans (hb1.mono B0.size)
 clear hb1
 replace F2 := F2.allocd (.cells #[.bool pn, .string pS, .int .i64 pe] 24)
 replace F3 := F3.allocd (.cells #[.bool pn, .string pS, .int .i64 pe] 24)
 replace F4 := F4.allocd (.cells #[.bool pn, .string pS, .int .i64 pe] 24)
 have F6 := Blk.put (w1) #[.bool pn, .string pS, .int .i64 pe] 24
 replace B0 := B0.alloc B0.size (.cells #[.bool pn, .string pS, .int .i64 pe] 24)
 obtain ⟨xF21_0, xF21_1, xF21_2, xF21_3, xF21_4, xF21_5⟩ := F2.ce6
 obtain ⟨xF31_0, xF31_1, xF31_2, xF31_3, xF31_4, xF31_5⟩ := F3.ce6
 go_wp2_with fail
 (with_reducible refine (h2 _).mono ?_)
 rintro r w2 ⟨rfl, hb2⟩
 clear xF21_0 xF21_1 xF21_2 xF21_3 xF21_4 xF21_5 xF31_0 xF31_1 xF31_2 xF31_3 xF31_4 xF31_5
 replace F2 := F2.keep hb2
 replace F3 := F3.keep hb2
 replace F4 := F4.keep hb2
 replace F6 := F6.keep hb2
 replace B0 := B0.trans (hb2.mono B0.size)
 clear hb2
 clear F2
 clear F3
 replace F4 := F4.allocd (.cells #[.bool qn, .string qS, .int .i64 qe] 24)
 replace F6 := F6.allocd (.cells #[.bool qn, .string qS, .int .i64 qe] 24)
 have F8 := Blk.put (w2) #[.bool qn, .string qS, .int .i64 qe] 24
 replace B0 := B0.alloc B0.size (.cells #[.bool qn, .string qS, .int .i64 qe] 24)
 obtain ⟨xF62_0, xF62_1, xF62_2⟩ := F6.ce3
 obtain ⟨xF82_0, xF82_1, xF82_2⟩ := F8.ce3
 go_wp2_with fail
 (with_reducible refine (h3 _).mono ?_)
 rintro r w3 ⟨rfl, hb3⟩
 clear xF62_0 xF62_1 xF62_2 xF82_0 xF82_1 xF82_2
 replace F4 := F4.keep hb3
 replace F6 := F6.keep hb3
 replace F8 := F8.keep hb3
 replace B0 := B0.trans (hb3.mono B0.size)
 clear hb3
 obtain ⟨xF43_0, xF43_1, xF43_2, xF43_3, xF43_4, xF43_5⟩ := F4.ce6
 obtain ⟨xF43_0f, xF43_1f, xF43_2f, xF43_3f, xF43_4f, xF43_5f⟩ := F4.fr6
 clear F6
 clear F8
 replace F4 : Blk (((((((w3).setCell ⟨w.heap.size + 1 + 1, 0, none⟩ (.bool Rn)).setCell ⟨w.heap.size + 1 + 1, 1, none⟩ (.string RS)).setCell ⟨w.heap.size + 1 + 1, 2, none⟩ (.int .i64 Re)).setCell ⟨w.heap.size + 1 + 1, 3, none⟩ (.bool Rm)).setCell ⟨w.heap.size + 1 + 1, 4, none⟩ (.string RT)).setCell ⟨w.heap.size + 1 + 1, 5, none⟩ (.int .i64 Rf)) (w.heap.size + 1 + 1) #[.bool Rn, .string RS, .int .i64 Re, .bool Rm, .string RT, .int .i64 Rf] 28 := ((((((F4.setAt 0 (.bool Rn)).setAt 1 (.string RS)).setAt 2 (.int .i64 Re)).setAt 3 (.bool Rm)).setAt 4 (.string RT)).setAt 5 (.int .i64 Rf))
 replace B0 := ((((((B0.setCell (p := ⟨w.heap.size + 1 + 1, 0, none⟩) q_w_F4.out (.bool Rn)).setCell (p := ⟨w.heap.size + 1 + 1, 1, none⟩) q_w_F4.out (.string RS)).setCell (p := ⟨w.heap.size + 1 + 1, 2, none⟩) q_w_F4.out (.int .i64 Re)).setCell (p := ⟨w.heap.size + 1 + 1, 3, none⟩) q_w_F4.out (.bool Rm)).setCell (p := ⟨w.heap.size + 1 + 1, 4, none⟩) q_w_F4.out (.string RT)).setCell (p := ⟨w.heap.size + 1 + 1, 5, none⟩) q_w_F4.out (.int .i64 Rf))
 obtain ⟨xF44_0, xF44_1, xF44_2, xF44_3, xF44_4, xF44_5⟩ := F4.ce6
 go_wp2
 exact bodyPost_ret (v := .tuple #[.agg #[.bool Rn, .string RS, .int .i64 Re, .bool Rm, .string RT, .int .i64 Rf], .int .i64 Rr]) (by simp [results, Tryz.results87, go_sem, xF44_0, xF44_1, xF44_2, xF44_3, xF44_4, xF44_5]) rfl ⟨rfl, B0⟩

theorem qadd (a : GY) (b : GY) (w : World) (ha : a.ok) (hb : b.ok) :
  Calls Tryz.prog 87 #[.agg #[.bool a.re.n, .string (bstr a.re.x), .int .i64 a.re.e, .bool a.im.n, .string (bstr a.im.x), .int .i64 a.im.e], .agg #[.bool b.re.n, .string (bstr b.re.x), .int .i64 b.re.e, .bool b.im.n, .string (bstr b.im.x), .int .i64 b.im.e]] w fun r w' => r = .returned (.tuple #[.agg #[.bool (gAdd a b).1.re.n, .string (bstr (gAdd a b).1.re.x), .int .i64 (gAdd a b).1.re.e, .bool (gAdd a b).1.im.n, .string (bstr (gAdd a b).1.im.x), .int .i64 (gAdd a b).1.im.e], .int .i64 (gAdd a b).2]) ∧ Below w.heap.size w w' := qadd_w a b _ _ _ rfl rfl rfl w ha hb

set_option maxRecDepth 10000 in
set_option maxHeartbeats 4000000 in
theorem qsub_w (a : GY) (b : GY) (p : GY) (R : GY × Int) (E_p : gNeg b = p) (E_R : gAdd a p = R) (w : World) (ok_a : a.ok) (ok_b : b.ok)  :
  Calls Tryz.prog 45 #[.agg #[.bool a.re.n, .string (bstr a.re.x), .int .i64 a.re.e, .bool a.im.n, .string (bstr a.im.x), .int .i64 a.im.e], .agg #[.bool b.re.n, .string (bstr b.re.x), .int .i64 b.re.e, .bool b.im.n, .string (bstr b.im.x), .int .i64 b.im.e]] w fun r w' => r = .returned (.tuple #[.agg #[.bool R.1.re.n, .string (bstr R.1.re.x), .int .i64 R.1.re.e, .bool R.1.im.n, .string (bstr R.1.im.x), .int .i64 R.1.im.e], .int .i64 R.2]) ∧ Below w.heap.size w w' := by
 have ok_p : p.ok := E_p ▸ gNeg_ok ok_b
 have h1 := fun W => qneg b W ok_b
 rw [E_p] at h1
 have h3 := fun W => qadd a p W ok_a ok_p
 rw [E_R] at h3
 clear E_p E_R ok_p ok_a ok_b
 obtain ⟨⟨an, aX, ae⟩, ⟨am, aY, af⟩⟩ := a
 obtain ⟨⟨bn, bX, be⟩, ⟨bm, bY, bf⟩⟩ := b
 obtain ⟨⟨pn, pX, pe⟩, ⟨pm, pY, pf⟩⟩ := p
 obtain ⟨⟨⟨Rn, RX, Re⟩, ⟨Rm, RY, Rf⟩⟩, Rr⟩ := R
 dsimp only at *
 generalize bstr aX = aS at *
 generalize bstr aY = aT at *
 generalize bstr bX = bS at *
 generalize bstr bY = bT at *
 generalize bstr pX = pS at *
 generalize bstr pY = pT at *
 generalize bstr RX = RS at *
 generalize bstr RY = RT at *
 go_enter Tryz.func45, Tryz.ntmps45
 have B0 := Below.refl w.heap.size w
 have F2 := Blk.put (w) #[.bool an, .string aS, .int .i64 ae, .bool am, .string aT, .int .i64 af] 28
 replace B0 := B0.alloc B0.size (.cells #[.bool an, .string aS, .int .i64 ae, .bool am, .string aT, .int .i64 af] 28)
 replace F2 := F2.allocd (.cells #[.bool bn, .string bS, .int .i64 be, .bool bm, .string bT, .int .i64 bf] 28)
 have F3 := Blk.put ((w).alloc (.cells #[.bool an, .string aS, .int .i64 ae, .bool am, .string aT, .int .i64 af] 28)) #[.bool bn, .string bS, .int .i64 be, .bool bm, .string bT, .int .i64 bf] 28
 rw [show ((w).alloc (.cells #[.bool an, .string aS, .int .i64 ae, .bool am, .string aT, .int .i64 af] 28)).heap.size = w.heap.size + 1 by simp] at F3
 replace B0 := B0.alloc B0.size (.cells #[.bool bn, .string bS, .int .i64 be, .bool bm, .string bT, .int .i64 bf] 28)
 have q_w_F4 : Hid (w.heap.size ≤ w.heap.size + 1 + 1) := Lib.hid (by omega)
 replace F2 := F2.allocd (.cells #[.bool false, .string { data := #[] }, .int .i64 0, .bool false, .string { data := #[] }, .int .i64 0] 28)
 replace F3 := F3.allocd (.cells #[.bool false, .string { data := #[] }, .int .i64 0, .bool false, .string { data := #[] }, .int .i64 0] 28)
 have F4 := Blk.put (((w).alloc (.cells #[.bool an, .string aS, .int .i64 ae, .bool am, .string aT, .int .i64 af] 28)).alloc (.cells #[.bool bn, .string bS, .int .i64 be, .bool bm, .string bT, .int .i64 bf] 28)) #[.bool false, .string { data := #[] }, .int .i64 0, .bool false, .string { data := #[] }, .int .i64 0] 28
 rw [show (((w).alloc (.cells #[.bool an, .string aS, .int .i64 ae, .bool am, .string aT, .int .i64 af] 28)).alloc (.cells #[.bool bn, .string bS, .int .i64 be, .bool bm, .string bT, .int .i64 bf] 28)).heap.size = w.heap.size + 1 + 1 by simp] at F4
 replace B0 := B0.alloc B0.size (.cells #[.bool false, .string { data := #[] }, .int .i64 0, .bool false, .string { data := #[] }, .int .i64 0] 28)
 go_wp2_with fail
 refine wp_region_cut 6 (by kernel_rfl) (by kernel_rfl) ?_
 rintro W rfl
 simp only [List.take_succ_cons, List.take_zero, List.drop_succ_cons, List.drop_zero]
 obtain ⟨xF20_0, xF20_1, xF20_2, xF20_3, xF20_4, xF20_5⟩ := F2.ce6
 obtain ⟨xF30_0, xF30_1, xF30_2, xF30_3, xF30_4, xF30_5⟩ := F3.ce6
 have hHeld : (fun w' : World => w'.cell? ⟨w.heap.size, 0, none⟩ = some (.bool an) ∧ w'.cell? ⟨w.heap.size, 1, none⟩ = some (.string aS) ∧ w'.cell? ⟨w.heap.size, 2, none⟩ = some (.int .i64 ae) ∧ w'.cell? ⟨w.heap.size, 3, none⟩ = some (.bool am) ∧ w'.cell? ⟨w.heap.size, 4, none⟩ = some (.string aT) ∧ w'.cell? ⟨w.heap.size, 5, none⟩ = some (.int .i64 af) ∧ w'.cell? ⟨w.heap.size + 1, 0, none⟩ = some (.bool bn) ∧ w'.cell? ⟨w.heap.size + 1, 1, none⟩ = some (.string bS) ∧ w'.cell? ⟨w.heap.size + 1, 2, none⟩ = some (.int .i64 be) ∧ w'.cell? ⟨w.heap.size + 1, 3, none⟩ = some (.bool bm) ∧ w'.cell? ⟨w.heap.size + 1, 4, none⟩ = some (.string bT) ∧ w'.cell? ⟨w.heap.size + 1, 5, none⟩ = some (.int .i64 bf)) ((((w).alloc (.cells #[.bool an, .string aS, .int .i64 ae, .bool am, .string aT, .int .i64 af] 28)).alloc (.cells #[.bool bn, .string bS, .int .i64 be, .bool bm, .string bT, .int .i64 bf] 28)).alloc (.cells #[.bool false, .string { data := #[] }, .int .i64 0, .bool false, .string { data := #[] }, .int .i64 0] 28)).drew := ⟨xF20_0, xF20_1, xF20_2, xF20_3, xF20_4, xF20_5, xF30_0, xF30_1, xF30_2, xF30_3, xF30_4, xF30_5⟩
 refine wpAny_of_held (S := fun w' : World => w'.cell? ⟨w.heap.size, 0, none⟩ = some (.bool an) ∧ w'.cell? ⟨w.heap.size, 1, none⟩ = some (.string aS) ∧ w'.cell? ⟨w.heap.size, 2, none⟩ = some (.int .i64 ae) ∧ w'.cell? ⟨w.heap.size, 3, none⟩ = some (.bool am) ∧ w'.cell? ⟨w.heap.size, 4, none⟩ = some (.string aT) ∧ w'.cell? ⟨w.heap.size, 5, none⟩ = some (.int .i64 af) ∧ w'.cell? ⟨w.heap.size + 1, 0, none⟩ = some (.bool bn) ∧ w'.cell? ⟨w.heap.size + 1, 1, none⟩ = some (.string bS) ∧ w'.cell? ⟨w.heap.size + 1, 2, none⟩ = some (.int .i64 be) ∧ w'.cell? ⟨w.heap.size + 1, 3, none⟩ = some (.bool bm) ∧ w'.cell? ⟨w.heap.size + 1, 4, none⟩ = some (.string bT) ∧ w'.cell? ⟨w.heap.size + 1, 5, none⟩ = some (.int .i64 bf)) _ _ _ _ ?_
 replace F2 := F2.drew
 replace F3 := F3.drew
 replace F4 := F4.drew
 replace B0 := B0.drew
 refine tkA 0 ?_
 (try dsimp only [Act.put]); (try go_frame)
 refine tkA 1 ?_
 (try dsimp only [Act.put]); (try go_frame)
 refine wpAnyH_ready (rs := [2]) (by kernel_rfl) (by simp) ?_
 refine AllReadyH.cons rfl (fun K hK => ?_) AllReadyH.nil
 go_simp
 (with_reducible refine (h1 _).mono ?_)
 rintro r w1 ⟨rfl, hb1⟩
 clear xF20_0 xF20_1 xF20_2 xF20_3 xF20_4 xF20_5 xF30_0 xF30_1 xF30_2 xF30_3 xF30_4 xF30_5
 replace F2 := F2.keep hb1
 replace F3 := F3.keep hb1
 replace F4 := F4.keep hb1
 replace B0 := B0.trans (hb1.mono B0.size)
 clear hb1
 obtain ⟨xF22_0, xF22_1, xF22_2, xF22_3, xF22_4, xF22_5⟩ := F2.ce6
 obtain ⟨xF32_0, xF32_1, xF32_2, xF32_3, xF32_4, xF32_5⟩ := F3.ce6
 refine hK.out _ _ ?_ (fun hHeld => ?_)
 ·exact ⟨xF22_0, xF22_1, xF22_2, xF22_3, xF22_4, xF22_5, xF32_0, xF32_1, xF32_2, xF32_3, xF32_4, xF32_5⟩
 clear hK K
 (try dsimp only [Act.put]); (try go_frame)
 refine wpAnyH_ready (rs := [3]) (by kernel_rfl) (by simp) ?_
 refine AllReadyH.cons rfl (fun K hK => ?_) AllReadyH.nil
 go_simp
 (with_reducible refine (h3 _).mono ?_)
 rintro r w2 ⟨rfl, hb2⟩
 clear xF22_0 xF22_1 xF22_2 xF22_3 xF22_4 xF22_5 xF32_0 xF32_1 xF32_2 xF32_3 xF32_4 xF32_5
 replace F2 := F2.keep hb2
 replace F3 := F3.keep hb2
 replace F4 := F4.keep hb2
 replace B0 := B0.trans (hb2.mono B0.size)
 clear hb2
 obtain ⟨xF23_0, xF23_1, xF23_2, xF23_3, xF23_4, xF23_5⟩ := F2.ce6
 obtain ⟨xF33_0, xF33_1, xF33_2, xF33_3, xF33_4, xF33_5⟩ := F3.ce6
 refine hK.out _ _ ?_ (fun hHeld => ?_)
 ·exact ⟨xF23_0, xF23_1, xF23_2, xF23_3, xF23_4, xF23_5, xF33_0, xF33_1, xF33_2, xF33_3, xF33_4, xF33_5⟩
 clear hK K
 (try dsimp only [Act.put]); (try go_frame)
 refine tkA 4 ?_
 (try dsimp only [Act.put]); (try go_frame)
 refine tkA 5 ?_
 (try dsimp only [Act.put]); (try go_frame)
 refine wpAnyH_done (by kernel_rfl) ?_ _
 try simp only [QCut]
 clear hHeld
 clear xF23_0 xF23_1 xF23_2 xF23_3 xF23_4 xF23_5 xF33_0 xF33_1 xF33_2 xF33_3 xF33_4 xF33_5
 obtain ⟨xF43_0, xF43_1, xF43_2, xF43_3, xF43_4, xF43_5⟩ := F4.ce6
 obtain ⟨xF43_0f, xF43_1f, xF43_2f, xF43_3f, xF43_4f, xF43_5f⟩ := F4.fr6
 clear F2
 clear F3
 replace F4 : Blk (((((((w2).setCell ⟨w.heap.size + 1 + 1, 0, none⟩ (.bool Rn)).setCell ⟨w.heap.size + 1 + 1, 1, none⟩ (.string RS)).setCell ⟨w.heap.size + 1 + 1, 2, none⟩ (.int .i64 Re)).setCell ⟨w.heap.size + 1 + 1, 3, none⟩ (.bool Rm)).setCell ⟨w.heap.size + 1 + 1, 4, none⟩ (.string RT)).setCell ⟨w.heap.size + 1 + 1, 5, none⟩ (.int .i64 Rf)) (w.heap.size + 1 + 1) #[.bool Rn, .string RS, .int .i64 Re, .bool Rm, .string RT, .int .i64 Rf] 28 := ((((((F4.setAt 0 (.bool Rn)).setAt 1 (.string RS)).setAt 2 (.int .i64 Re)).setAt 3 (.bool Rm)).setAt 4 (.string RT)).setAt 5 (.int .i64 Rf))
 replace B0 := ((((((B0.setCell (p := ⟨w.heap.size + 1 + 1, 0, none⟩) q_w_F4.out (.bool Rn)).setCell (p := ⟨w.heap.size + 1 + 1, 1, none⟩) q_w_F4.out (.string RS)).setCell (p := ⟨w.heap.size + 1 + 1, 2, none⟩) q_w_F4.out (.int .i64 Re)).setCell (p := ⟨w.heap.size + 1 + 1, 3, none⟩) q_w_F4.out (.bool Rm)).setCell (p := ⟨w.heap.size + 1 + 1, 4, none⟩) q_w_F4.out (.string RT)).setCell (p := ⟨w.heap.size + 1 + 1, 5, none⟩) q_w_F4.out (.int .i64 Rf))
 obtain ⟨xF44_0, xF44_1, xF44_2, xF44_3, xF44_4, xF44_5⟩ := F4.ce6
 go_wp2
 exact bodyPost_ret (v := .tuple #[.agg #[.bool Rn, .string RS, .int .i64 Re, .bool Rm, .string RT, .int .i64 Rf], .int .i64 Rr]) (by simp [results, Tryz.results45, go_sem, xF44_0, xF44_1, xF44_2, xF44_3, xF44_4, xF44_5]) rfl ⟨rfl, B0⟩

theorem qsub (a : GY) (b : GY) (w : World) (ha : a.ok) (hb : b.ok) :
  Calls Tryz.prog 45 #[.agg #[.bool a.re.n, .string (bstr a.re.x), .int .i64 a.re.e, .bool a.im.n, .string (bstr a.im.x), .int .i64 a.im.e], .agg #[.bool b.re.n, .string (bstr b.re.x), .int .i64 b.re.e, .bool b.im.n, .string (bstr b.im.x), .int .i64 b.im.e]] w fun r w' => r = .returned (.tuple #[.agg #[.bool (gSub a b).1.re.n, .string (bstr (gSub a b).1.re.x), .int .i64 (gSub a b).1.re.e, .bool (gSub a b).1.im.n, .string (bstr (gSub a b).1.im.x), .int .i64 (gSub a b).1.im.e], .int .i64 (gSub a b).2]) ∧ Below w.heap.size w w' := qsub_w a b _ _ rfl rfl w ha hb

end Go.Proofs.YtfbkopepkklkjaaGreatDoor
