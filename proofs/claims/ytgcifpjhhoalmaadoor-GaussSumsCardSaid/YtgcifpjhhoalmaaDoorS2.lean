/- Walks of the layer of Gausses, by a program (walk.py): part S2. -/
import Derived.Test.YtgcifpjhhoalmaaDoorS1
namespace Go.Proofs.YtgcifpjhhoalmaaDoor
open Go Go.RowKit Go.PlainAid Fil

set_option maxRecDepth 10000 in
set_option maxHeartbeats 4000000 in
theorem sums_ssn (a : GY) (b : GY) (d : DRw) (p : GY × Int) (q : GY × Int) (s : GY × Int) (E_p : gAdd a b = p) (E_q : gSub a b = q) (E_s : gMul a b = s) (w : World) (ok_a : a.ok) (ok_b : b.ok) (ok_d : d.fit) (h_d : d.may = false) (hT : Tab w) :
    Calls Tryd.prog 9 #[.agg #[.bool a.re.n, .string (bstr a.re.x), .int .i64 a.re.e, .bool a.im.n, .string (bstr a.im.x), .int .i64 a.im.e], .agg #[.bool b.re.n, .string (bstr b.re.x), .int .i64 b.re.e, .bool b.im.n, .string (bstr b.im.x), .int .i64 b.im.e], .agg #[.bool d.n, .string d.s, .int .i64 d.e]] w fun r w' => r = .returned (.bool true) ∧ Below w.heap.size w w' := by
  have h1 := fun W hW => gadd a b W ok_a ok_b hW
  rw [E_p] at h1
  have h2 := fun W hW => gsub a b W ok_a ok_b hW
  rw [E_q] at h2
  have h3 := fun W hW => gmul a b W ok_a ok_b hW
  rw [E_s] at h3
  have h4 := fun W => gscale_bad2 a.raw d W (GY.raw_fit ok_a) ok_d (GY.raw_may ok_a) h_d
  have m1 := fun W => qmay_g a.raw W (GY.raw_fit ok_a)
  rw [GY.raw_may ok_a] at m1
  have m2 := fun W => qmay_g b.raw W (GY.raw_fit ok_b)
  rw [GY.raw_may ok_b] at m2
  have m3 := fun W => rmay_g d W ok_d
  rw [h_d] at m3
  have hn := fun W => l6none_yes W
  have hw := fun W hW => l6awake_any W hW
  have r0 := fun W => qadd a b W ok_a ok_b
  rw [E_p] at r0
  have e0 := fun W => l6same_yes p.1.re.n (bstr p.1.re.x) p.1.re.e p.1.im.n (bstr p.1.im.x) p.1.im.e p.2 W
  have r1 := fun W => qsub a b W ok_a ok_b
  rw [E_q] at r1
  have e1 := fun W => l6same_yes q.1.re.n (bstr q.1.re.x) q.1.re.e q.1.im.n (bstr q.1.im.x) q.1.im.e q.2 W
  have r2 := fun W => qmul a b W ok_a ok_b
  rw [E_s] at r2
  have e2 := fun W => l6same_yes s.1.re.n (bstr s.1.re.x) s.1.re.e s.1.im.n (bstr s.1.im.x) s.1.im.e s.2 W
  clear h_d
  clear E_p E_q E_s ok_a ok_b ok_d
  obtain ⟨⟨an, aX, ae⟩, ⟨am, aY, af⟩⟩ := a
  obtain ⟨⟨bn, bX, be⟩, ⟨bm, bY, bf⟩⟩ := b
  obtain ⟨dn, dS, de⟩ := d
  obtain ⟨⟨⟨pn, pX, pe⟩, ⟨pm, pY, pf⟩⟩, pr⟩ := p
  obtain ⟨⟨⟨qn, qX, qe⟩, ⟨qm, qY, qf⟩⟩, qr⟩ := q
  obtain ⟨⟨⟨sn, sX, se⟩, ⟨sm, sY, sf⟩⟩, sr⟩ := s
  dsimp only at *
  try dsimp only [GY.raw, DY.raw] at *
  generalize bstr aX = aS at *
  generalize bstr aY = aT at *
  generalize bstr bX = bS at *
  generalize bstr bY = bT at *
  generalize bstr pX = pS at *
  generalize bstr pY = pT at *
  generalize bstr qX = qS at *
  generalize bstr qY = qT at *
  generalize bstr sX = sS at *
  generalize bstr sY = sT at *
  go_enter Tryd.func9, Tryd.ntmps9
  have B0 := Below.refl w.heap.size w
  have F3 := Blk.put (w) #[.bool an, .string aS, .int .i64 ae, .bool am, .string aT, .int .i64 af] 49
  replace B0 := B0.alloc B0.size (.cells #[.bool an, .string aS, .int .i64 ae, .bool am, .string aT, .int .i64 af] 49)
  replace F3 := F3.allocd (.cells #[.bool bn, .string bS, .int .i64 be, .bool bm, .string bT, .int .i64 bf] 49)
  have F4 := Blk.put ((w).alloc (.cells #[.bool an, .string aS, .int .i64 ae, .bool am, .string aT, .int .i64 af] 49)) #[.bool bn, .string bS, .int .i64 be, .bool bm, .string bT, .int .i64 bf] 49
  rw [show ((w).alloc (.cells #[.bool an, .string aS, .int .i64 ae, .bool am, .string aT, .int .i64 af] 49)).heap.size = w.heap.size + 1 by simp] at F4
  replace B0 := B0.alloc B0.size (.cells #[.bool bn, .string bS, .int .i64 be, .bool bm, .string bT, .int .i64 bf] 49)
  replace F3 := F3.allocd (.cells #[.bool dn, .string dS, .int .i64 de] 24)
  replace F4 := F4.allocd (.cells #[.bool dn, .string dS, .int .i64 de] 24)
  have F5 := Blk.put (((w).alloc (.cells #[.bool an, .string aS, .int .i64 ae, .bool am, .string aT, .int .i64 af] 49)).alloc (.cells #[.bool bn, .string bS, .int .i64 be, .bool bm, .string bT, .int .i64 bf] 49)) #[.bool dn, .string dS, .int .i64 de] 24
  rw [show (((w).alloc (.cells #[.bool an, .string aS, .int .i64 ae, .bool am, .string aT, .int .i64 af] 49)).alloc (.cells #[.bool bn, .string bS, .int .i64 be, .bool bm, .string bT, .int .i64 bf] 49)).heap.size = w.heap.size + 1 + 1 by simp] at F5
  replace B0 := B0.alloc B0.size (.cells #[.bool dn, .string dS, .int .i64 de] 24)
  obtain ⟨xF30_0, xF30_1, xF30_2, xF30_3, xF30_4, xF30_5⟩ := F3.ce6
  obtain ⟨xF40_0, xF40_1, xF40_2, xF40_3, xF40_4, xF40_5⟩ := F4.ce6
  go_wp2_with fail
  (with_reducible refine (h1 _ (hT.below B0)).mono ?_)
  rintro r w1 ⟨rfl, hb1⟩
  clear xF30_0 xF30_1 xF30_2 xF30_3 xF30_4 xF30_5 xF40_0 xF40_1 xF40_2 xF40_3 xF40_4 xF40_5
  replace F3 := F3.keep hb1
  replace F4 := F4.keep hb1
  replace F5 := F5.keep hb1
  replace B0 := B0.trans (hb1.mono B0.size)
  clear hb1
  replace F3 := F3.allocd (.cells #[.bool pn, .string pS, .int .i64 pe, .bool pm, .string pT, .int .i64 pf] 49)
  replace F4 := F4.allocd (.cells #[.bool pn, .string pS, .int .i64 pe, .bool pm, .string pT, .int .i64 pf] 49)
  replace F5 := F5.allocd (.cells #[.bool pn, .string pS, .int .i64 pe, .bool pm, .string pT, .int .i64 pf] 49)
  have F7 := Blk.put (w1) #[.bool pn, .string pS, .int .i64 pe, .bool pm, .string pT, .int .i64 pf] 49
  replace B0 := B0.alloc B0.size (.cells #[.bool pn, .string pS, .int .i64 pe, .bool pm, .string pT, .int .i64 pf] 49)
  obtain ⟨xF31_0, xF31_1, xF31_2, xF31_3, xF31_4, xF31_5⟩ := F3.ce6
  obtain ⟨xF41_0, xF41_1, xF41_2, xF41_3, xF41_4, xF41_5⟩ := F4.ce6
  go_wp2_with fail
  (with_reducible refine (h2 _ (hT.below B0)).mono ?_)
  rintro r w2 ⟨rfl, hb2⟩
  clear xF31_0 xF31_1 xF31_2 xF31_3 xF31_4 xF31_5 xF41_0 xF41_1 xF41_2 xF41_3 xF41_4 xF41_5
  replace F3 := F3.keep hb2
  replace F4 := F4.keep hb2
  replace F5 := F5.keep hb2
  replace F7 := F7.keep hb2
  replace B0 := B0.trans (hb2.mono B0.size)
  clear hb2
  replace F3 := F3.allocd (.cells #[.bool qn, .string qS, .int .i64 qe, .bool qm, .string qT, .int .i64 qf] 49)
  replace F4 := F4.allocd (.cells #[.bool qn, .string qS, .int .i64 qe, .bool qm, .string qT, .int .i64 qf] 49)
  replace F5 := F5.allocd (.cells #[.bool qn, .string qS, .int .i64 qe, .bool qm, .string qT, .int .i64 qf] 49)
  replace F7 := F7.allocd (.cells #[.bool qn, .string qS, .int .i64 qe, .bool qm, .string qT, .int .i64 qf] 49)
  have F9 := Blk.put (w2) #[.bool qn, .string qS, .int .i64 qe, .bool qm, .string qT, .int .i64 qf] 49
  replace B0 := B0.alloc B0.size (.cells #[.bool qn, .string qS, .int .i64 qe, .bool qm, .string qT, .int .i64 qf] 49)
  obtain ⟨xF32_0, xF32_1, xF32_2, xF32_3, xF32_4, xF32_5⟩ := F3.ce6
  obtain ⟨xF42_0, xF42_1, xF42_2, xF42_3, xF42_4, xF42_5⟩ := F4.ce6
  go_wp2_with fail
  (with_reducible refine (h3 _ (hT.below B0)).mono ?_)
  rintro r w3 ⟨rfl, hb3⟩
  clear xF32_0 xF32_1 xF32_2 xF32_3 xF32_4 xF32_5 xF42_0 xF42_1 xF42_2 xF42_3 xF42_4 xF42_5
  replace F3 := F3.keep hb3
  replace F4 := F4.keep hb3
  replace F5 := F5.keep hb3
  replace F7 := F7.keep hb3
  replace F9 := F9.keep hb3
  replace B0 := B0.trans (hb3.mono B0.size)
  clear hb3
  replace F3 := F3.allocd (.cells #[.bool sn, .string sS, .int .i64 se, .bool sm, .string sT, .int .i64 sf] 49)
  replace F4 := F4.allocd (.cells #[.bool sn, .string sS, .int .i64 se, .bool sm, .string sT, .int .i64 sf] 49)
  replace F5 := F5.allocd (.cells #[.bool sn, .string sS, .int .i64 se, .bool sm, .string sT, .int .i64 sf] 49)
  replace F7 := F7.allocd (.cells #[.bool sn, .string sS, .int .i64 se, .bool sm, .string sT, .int .i64 sf] 49)
  replace F9 := F9.allocd (.cells #[.bool sn, .string sS, .int .i64 se, .bool sm, .string sT, .int .i64 sf] 49)
  have F11 := Blk.put (w3) #[.bool sn, .string sS, .int .i64 se, .bool sm, .string sT, .int .i64 sf] 49
  replace B0 := B0.alloc B0.size (.cells #[.bool sn, .string sS, .int .i64 se, .bool sm, .string sT, .int .i64 sf] 49)
  obtain ⟨xF33_0, xF33_1, xF33_2, xF33_3, xF33_4, xF33_5⟩ := F3.ce6
  obtain ⟨xF53_0, xF53_1, xF53_2⟩ := F5.ce3
  go_wp2_with fail
  (with_reducible refine (h4 _).mono ?_)
  rintro r w4 ⟨rfl, hb4⟩
  clear xF33_0 xF33_1 xF33_2 xF33_3 xF33_4 xF33_5 xF53_0 xF53_1 xF53_2
  replace F3 := F3.keep hb4
  replace F4 := F4.keep hb4
  replace F5 := F5.keep hb4
  replace F7 := F7.keep hb4
  replace F9 := F9.keep hb4
  replace F11 := F11.keep hb4
  replace B0 := B0.trans (hb4.mono B0.size)
  clear hb4
  replace F3 := F3.allocd (.cells #[.bool false, .string { data := #[] }, .int .i64 0, .bool false, .string { data := #[] }, .int .i64 0] 49)
  replace F4 := F4.allocd (.cells #[.bool false, .string { data := #[] }, .int .i64 0, .bool false, .string { data := #[] }, .int .i64 0] 49)
  replace F5 := F5.allocd (.cells #[.bool false, .string { data := #[] }, .int .i64 0, .bool false, .string { data := #[] }, .int .i64 0] 49)
  replace F7 := F7.allocd (.cells #[.bool false, .string { data := #[] }, .int .i64 0, .bool false, .string { data := #[] }, .int .i64 0] 49)
  replace F9 := F9.allocd (.cells #[.bool false, .string { data := #[] }, .int .i64 0, .bool false, .string { data := #[] }, .int .i64 0] 49)
  replace F11 := F11.allocd (.cells #[.bool false, .string { data := #[] }, .int .i64 0, .bool false, .string { data := #[] }, .int .i64 0] 49)
  have F13 := Blk.put (w4) #[.bool false, .string { data := #[] }, .int .i64 0, .bool false, .string { data := #[] }, .int .i64 0] 49
  replace B0 := B0.alloc B0.size (.cells #[.bool false, .string { data := #[] }, .int .i64 0, .bool false, .string { data := #[] }, .int .i64 0] 49)
  obtain ⟨xF34_0, xF34_1, xF34_2, xF34_3, xF34_4, xF34_5⟩ := F3.ce6
  go_wp2_with fail
  (with_reducible refine (m1 _).mono ?_)
  rintro r w5 ⟨rfl, hb5⟩
  clear xF34_0 xF34_1 xF34_2 xF34_3 xF34_4 xF34_5
  replace F3 := F3.keep hb5
  replace F4 := F4.keep hb5
  replace F5 := F5.keep hb5
  replace F7 := F7.keep hb5
  replace F9 := F9.keep hb5
  replace F11 := F11.keep hb5
  replace F13 := F13.keep hb5
  replace B0 := B0.trans (hb5.mono B0.size)
  clear hb5
  obtain ⟨xF55_0, xF55_1, xF55_2⟩ := F5.ce3
  go_wp2_with fail
  (with_reducible refine (m3 _).mono ?_)
  rintro r w6 ⟨rfl, hb6⟩
  clear xF55_0 xF55_1 xF55_2
  replace F3 := F3.keep hb6
  replace F4 := F4.keep hb6
  replace F5 := F5.keep hb6
  replace F7 := F7.keep hb6
  replace F9 := F9.keep hb6
  replace F11 := F11.keep hb6
  replace F13 := F13.keep hb6
  replace B0 := B0.trans (hb6.mono B0.size)
  clear hb6
  obtain ⟨xF136_0, xF136_1, xF136_2, xF136_3, xF136_4, xF136_5⟩ := F13.ce6
  go_wp2_with fail
  (with_reducible refine (hn _).mono ?_)
  rintro r w7 ⟨rfl, hb7⟩
  clear xF136_0 xF136_1 xF136_2 xF136_3 xF136_4 xF136_5
  replace F3 := F3.keep hb7
  replace F4 := F4.keep hb7
  clear F5
  replace F7 := F7.keep hb7
  replace F9 := F9.keep hb7
  replace F11 := F11.keep hb7
  replace F13 := F13.keep hb7
  replace B0 := B0.trans (hb7.mono B0.size)
  clear hb7
  obtain ⟨xF37_0, xF37_1, xF37_2, xF37_3, xF37_4, xF37_5⟩ := F3.ce6
  go_wp2_with fail
  (with_reducible refine (m1 _).mono ?_)
  rintro r w8 ⟨rfl, hb8⟩
  clear xF37_0 xF37_1 xF37_2 xF37_3 xF37_4 xF37_5
  replace F3 := F3.keep hb8
  replace F4 := F4.keep hb8
  replace F7 := F7.keep hb8
  replace F9 := F9.keep hb8
  replace F11 := F11.keep hb8
  clear F13
  replace B0 := B0.trans (hb8.mono B0.size)
  clear hb8
  obtain ⟨xF48_0, xF48_1, xF48_2, xF48_3, xF48_4, xF48_5⟩ := F4.ce6
  go_wp2_with fail
  (with_reducible refine (m2 _).mono ?_)
  rintro r w9 ⟨rfl, hb9⟩
  clear xF48_0 xF48_1 xF48_2 xF48_3 xF48_4 xF48_5
  replace F3 := F3.keep hb9
  replace F4 := F4.keep hb9
  replace F7 := F7.keep hb9
  replace F9 := F9.keep hb9
  replace F11 := F11.keep hb9
  replace B0 := B0.trans (hb9.mono B0.size)
  clear hb9
  obtain ⟨xF39_0, xF39_1, xF39_2, xF39_3, xF39_4, xF39_5⟩ := F3.ce6
  obtain ⟨xF49_0, xF49_1, xF49_2, xF49_3, xF49_4, xF49_5⟩ := F4.ce6
  go_wp2_with fail
  (with_reducible refine (r0 _).mono ?_)
  rintro r w10 ⟨rfl, hb10⟩
  clear xF39_0 xF39_1 xF39_2 xF39_3 xF39_4 xF39_5 xF49_0 xF49_1 xF49_2 xF49_3 xF49_4 xF49_5
  replace F3 := F3.keep hb10
  replace F4 := F4.keep hb10
  replace F7 := F7.keep hb10
  replace F9 := F9.keep hb10
  replace F11 := F11.keep hb10
  replace B0 := B0.trans (hb10.mono B0.size)
  clear hb10
  replace F3 := F3.allocd (.cells #[.bool pn, .string pS, .int .i64 pe, .bool pm, .string pT, .int .i64 pf] 49)
  replace F4 := F4.allocd (.cells #[.bool pn, .string pS, .int .i64 pe, .bool pm, .string pT, .int .i64 pf] 49)
  replace F7 := F7.allocd (.cells #[.bool pn, .string pS, .int .i64 pe, .bool pm, .string pT, .int .i64 pf] 49)
  replace F9 := F9.allocd (.cells #[.bool pn, .string pS, .int .i64 pe, .bool pm, .string pT, .int .i64 pf] 49)
  replace F11 := F11.allocd (.cells #[.bool pn, .string pS, .int .i64 pe, .bool pm, .string pT, .int .i64 pf] 49)
  have F17 := Blk.put (w10) #[.bool pn, .string pS, .int .i64 pe, .bool pm, .string pT, .int .i64 pf] 49
  replace B0 := B0.alloc B0.size (.cells #[.bool pn, .string pS, .int .i64 pe, .bool pm, .string pT, .int .i64 pf] 49)
  obtain ⟨xF310_0, xF310_1, xF310_2, xF310_3, xF310_4, xF310_5⟩ := F3.ce6
  obtain ⟨xF410_0, xF410_1, xF410_2, xF410_3, xF410_4, xF410_5⟩ := F4.ce6
  go_wp2_with fail
  (with_reducible refine (r1 _).mono ?_)
  rintro r w11 ⟨rfl, hb11⟩
  clear xF310_0 xF310_1 xF310_2 xF310_3 xF310_4 xF310_5 xF410_0 xF410_1 xF410_2 xF410_3 xF410_4 xF410_5
  replace F3 := F3.keep hb11
  replace F4 := F4.keep hb11
  replace F7 := F7.keep hb11
  replace F9 := F9.keep hb11
  replace F11 := F11.keep hb11
  replace F17 := F17.keep hb11
  replace B0 := B0.trans (hb11.mono B0.size)
  clear hb11
  replace F3 := F3.allocd (.cells #[.bool qn, .string qS, .int .i64 qe, .bool qm, .string qT, .int .i64 qf] 49)
  replace F4 := F4.allocd (.cells #[.bool qn, .string qS, .int .i64 qe, .bool qm, .string qT, .int .i64 qf] 49)
  replace F7 := F7.allocd (.cells #[.bool qn, .string qS, .int .i64 qe, .bool qm, .string qT, .int .i64 qf] 49)
  replace F9 := F9.allocd (.cells #[.bool qn, .string qS, .int .i64 qe, .bool qm, .string qT, .int .i64 qf] 49)
  replace F11 := F11.allocd (.cells #[.bool qn, .string qS, .int .i64 qe, .bool qm, .string qT, .int .i64 qf] 49)
  replace F17 := F17.allocd (.cells #[.bool qn, .string qS, .int .i64 qe, .bool qm, .string qT, .int .i64 qf] 49)
  have F19 := Blk.put (w11) #[.bool qn, .string qS, .int .i64 qe, .bool qm, .string qT, .int .i64 qf] 49
  replace B0 := B0.alloc B0.size (.cells #[.bool qn, .string qS, .int .i64 qe, .bool qm, .string qT, .int .i64 qf] 49)
  obtain ⟨xF311_0, xF311_1, xF311_2, xF311_3, xF311_4, xF311_5⟩ := F3.ce6
  obtain ⟨xF411_0, xF411_1, xF411_2, xF411_3, xF411_4, xF411_5⟩ := F4.ce6
  go_wp2_with fail
  (with_reducible refine (r2 _).mono ?_)
  rintro r w12 ⟨rfl, hb12⟩
  clear xF311_0 xF311_1 xF311_2 xF311_3 xF311_4 xF311_5 xF411_0 xF411_1 xF411_2 xF411_3 xF411_4 xF411_5
  replace F3 := F3.keep hb12
  replace F4 := F4.keep hb12
  replace F7 := F7.keep hb12
  replace F9 := F9.keep hb12
  replace F11 := F11.keep hb12
  replace F17 := F17.keep hb12
  replace F19 := F19.keep hb12
  replace B0 := B0.trans (hb12.mono B0.size)
  clear hb12
  clear F3
  clear F4
  replace F7 := F7.allocd (.cells #[.bool sn, .string sS, .int .i64 se, .bool sm, .string sT, .int .i64 sf] 49)
  replace F9 := F9.allocd (.cells #[.bool sn, .string sS, .int .i64 se, .bool sm, .string sT, .int .i64 sf] 49)
  replace F11 := F11.allocd (.cells #[.bool sn, .string sS, .int .i64 se, .bool sm, .string sT, .int .i64 sf] 49)
  replace F17 := F17.allocd (.cells #[.bool sn, .string sS, .int .i64 se, .bool sm, .string sT, .int .i64 sf] 49)
  replace F19 := F19.allocd (.cells #[.bool sn, .string sS, .int .i64 se, .bool sm, .string sT, .int .i64 sf] 49)
  have F21 := Blk.put (w12) #[.bool sn, .string sS, .int .i64 se, .bool sm, .string sT, .int .i64 sf] 49
  replace B0 := B0.alloc B0.size (.cells #[.bool sn, .string sS, .int .i64 se, .bool sm, .string sT, .int .i64 sf] 49)
  obtain ⟨xF712_0, xF712_1, xF712_2, xF712_3, xF712_4, xF712_5⟩ := F7.ce6
  obtain ⟨xF1712_0, xF1712_1, xF1712_2, xF1712_3, xF1712_4, xF1712_5⟩ := F17.ce6
  go_wp2_with fail
  (with_reducible refine (e0 _).mono ?_)
  rintro r w13 ⟨rfl, hb13⟩
  clear xF712_0 xF712_1 xF712_2 xF712_3 xF712_4 xF712_5 xF1712_0 xF1712_1 xF1712_2 xF1712_3 xF1712_4 xF1712_5
  replace F7 := F7.keep hb13
  replace F9 := F9.keep hb13
  replace F11 := F11.keep hb13
  replace F17 := F17.keep hb13
  replace F19 := F19.keep hb13
  replace F21 := F21.keep hb13
  replace B0 := B0.trans (hb13.mono B0.size)
  clear hb13
  obtain ⟨xF913_0, xF913_1, xF913_2, xF913_3, xF913_4, xF913_5⟩ := F9.ce6
  obtain ⟨xF1913_0, xF1913_1, xF1913_2, xF1913_3, xF1913_4, xF1913_5⟩ := F19.ce6
  go_wp2_with fail
  (with_reducible refine (e1 _).mono ?_)
  rintro r w14 ⟨rfl, hb14⟩
  clear xF913_0 xF913_1 xF913_2 xF913_3 xF913_4 xF913_5 xF1913_0 xF1913_1 xF1913_2 xF1913_3 xF1913_4 xF1913_5
  clear F7
  replace F9 := F9.keep hb14
  replace F11 := F11.keep hb14
  clear F17
  replace F19 := F19.keep hb14
  replace F21 := F21.keep hb14
  replace B0 := B0.trans (hb14.mono B0.size)
  clear hb14
  obtain ⟨xF1114_0, xF1114_1, xF1114_2, xF1114_3, xF1114_4, xF1114_5⟩ := F11.ce6
  obtain ⟨xF2114_0, xF2114_1, xF2114_2, xF2114_3, xF2114_4, xF2114_5⟩ := F21.ce6
  go_wp2_with fail
  (with_reducible refine (e2 _).mono ?_)
  rintro r w15 ⟨rfl, hb15⟩
  clear xF1114_0 xF1114_1 xF1114_2 xF1114_3 xF1114_4 xF1114_5 xF2114_0 xF2114_1 xF2114_2 xF2114_3 xF2114_4 xF2114_5
  clear F9
  replace F11 := F11.keep hb15
  clear F19
  replace F21 := F21.keep hb15
  replace B0 := B0.trans (hb15.mono B0.size)
  clear hb15
  go_wp2_with fail
  (with_reducible refine (hw _ (hT.below B0)).mono ?_)
  rintro r w16 ⟨rfl, hb16⟩
  clear F11
  clear F21
  replace B0 := B0.trans (hb16.mono B0.size)
  clear hb16
  go_wp2
  go_ret
  exact ⟨rfl, B0⟩

set_option maxRecDepth 10000 in
set_option maxHeartbeats 4000000 in
theorem sums_snn (a : GY) (b : GR) (d : DRw) (w : World) (ok_a : a.ok) (ok_b : b.fit) (ok_d : d.fit) (h_b : b.may = false) (h_d : d.may = false) (hT : Tab w) :
    Calls Tryd.prog 9 #[.agg #[.bool a.re.n, .string (bstr a.re.x), .int .i64 a.re.e, .bool a.im.n, .string (bstr a.im.x), .int .i64 a.im.e], .agg #[.bool b.n, .string b.s, .int .i64 b.e, .bool b.m, .string b.t, .int .i64 b.f], .agg #[.bool d.n, .string d.s, .int .i64 d.e]] w fun r w' => r = .returned (.bool true) ∧ Below w.heap.size w w' := by
  have h1 := fun W => gadd_bad a.raw b W (GY.raw_fit ok_a) ok_b (by rw [GY.raw_may ok_a, h_b]; rfl)
  have h2 := fun W => gsub_bad a.raw b W (GY.raw_fit ok_a) ok_b (by rw [GY.raw_may ok_a, h_b]; rfl)
  have h3 := fun W => gmul_bad a.raw b W (GY.raw_fit ok_a) ok_b (by rw [GY.raw_may ok_a, h_b]; rfl)
  have h4 := fun W => gscale_bad2 a.raw d W (GY.raw_fit ok_a) ok_d (GY.raw_may ok_a) h_d
  have m1 := fun W => qmay_g a.raw W (GY.raw_fit ok_a)
  rw [GY.raw_may ok_a] at m1
  have m2 := fun W => qmay_g b W ok_b
  rw [h_b] at m2
  have m3 := fun W => rmay_g d W ok_d
  rw [h_d] at m3
  have hn := fun W => l6none_yes W
  have hw := fun W hW => l6awake_any W hW
  clear h_b h_d
  clear ok_a ok_b ok_d
  obtain ⟨⟨an, aX, ae⟩, ⟨am, aY, af⟩⟩ := a
  obtain ⟨bn, bS, be, bm, bT, bf⟩ := b
  obtain ⟨dn, dS, de⟩ := d
  dsimp only at *
  try dsimp only [GY.raw, DY.raw] at *
  generalize bstr aX = aS at *
  generalize bstr aY = aT at *
  go_enter Tryd.func9, Tryd.ntmps9
  have B0 := Below.refl w.heap.size w
  have F3 := Blk.put (w) #[.bool an, .string aS, .int .i64 ae, .bool am, .string aT, .int .i64 af] 49
  replace B0 := B0.alloc B0.size (.cells #[.bool an, .string aS, .int .i64 ae, .bool am, .string aT, .int .i64 af] 49)
  replace F3 := F3.allocd (.cells #[.bool bn, .string bS, .int .i64 be, .bool bm, .string bT, .int .i64 bf] 49)
  have F4 := Blk.put ((w).alloc (.cells #[.bool an, .string aS, .int .i64 ae, .bool am, .string aT, .int .i64 af] 49)) #[.bool bn, .string bS, .int .i64 be, .bool bm, .string bT, .int .i64 bf] 49
  rw [show ((w).alloc (.cells #[.bool an, .string aS, .int .i64 ae, .bool am, .string aT, .int .i64 af] 49)).heap.size = w.heap.size + 1 by simp] at F4
  replace B0 := B0.alloc B0.size (.cells #[.bool bn, .string bS, .int .i64 be, .bool bm, .string bT, .int .i64 bf] 49)
  replace F3 := F3.allocd (.cells #[.bool dn, .string dS, .int .i64 de] 24)
  replace F4 := F4.allocd (.cells #[.bool dn, .string dS, .int .i64 de] 24)
  have F5 := Blk.put (((w).alloc (.cells #[.bool an, .string aS, .int .i64 ae, .bool am, .string aT, .int .i64 af] 49)).alloc (.cells #[.bool bn, .string bS, .int .i64 be, .bool bm, .string bT, .int .i64 bf] 49)) #[.bool dn, .string dS, .int .i64 de] 24
  rw [show (((w).alloc (.cells #[.bool an, .string aS, .int .i64 ae, .bool am, .string aT, .int .i64 af] 49)).alloc (.cells #[.bool bn, .string bS, .int .i64 be, .bool bm, .string bT, .int .i64 bf] 49)).heap.size = w.heap.size + 1 + 1 by simp] at F5
  replace B0 := B0.alloc B0.size (.cells #[.bool dn, .string dS, .int .i64 de] 24)
  obtain ⟨xF30_0, xF30_1, xF30_2, xF30_3, xF30_4, xF30_5⟩ := F3.ce6
  obtain ⟨xF40_0, xF40_1, xF40_2, xF40_3, xF40_4, xF40_5⟩ := F4.ce6
  go_wp2_with fail
  (with_reducible refine (h1 _).mono ?_)
  rintro r w1 ⟨rfl, hb1⟩
  clear xF30_0 xF30_1 xF30_2 xF30_3 xF30_4 xF30_5 xF40_0 xF40_1 xF40_2 xF40_3 xF40_4 xF40_5
  replace F3 := F3.keep hb1
  replace F4 := F4.keep hb1
  replace F5 := F5.keep hb1
  replace B0 := B0.trans (hb1.mono B0.size)
  clear hb1
  replace F3 := F3.allocd (.cells #[.bool false, .string { data := #[] }, .int .i64 0, .bool false, .string { data := #[] }, .int .i64 0] 49)
  replace F4 := F4.allocd (.cells #[.bool false, .string { data := #[] }, .int .i64 0, .bool false, .string { data := #[] }, .int .i64 0] 49)
  replace F5 := F5.allocd (.cells #[.bool false, .string { data := #[] }, .int .i64 0, .bool false, .string { data := #[] }, .int .i64 0] 49)
  have F7 := Blk.put (w1) #[.bool false, .string { data := #[] }, .int .i64 0, .bool false, .string { data := #[] }, .int .i64 0] 49
  replace B0 := B0.alloc B0.size (.cells #[.bool false, .string { data := #[] }, .int .i64 0, .bool false, .string { data := #[] }, .int .i64 0] 49)
  obtain ⟨xF31_0, xF31_1, xF31_2, xF31_3, xF31_4, xF31_5⟩ := F3.ce6
  obtain ⟨xF41_0, xF41_1, xF41_2, xF41_3, xF41_4, xF41_5⟩ := F4.ce6
  go_wp2_with fail
  (with_reducible refine (h2 _).mono ?_)
  rintro r w2 ⟨rfl, hb2⟩
  clear xF31_0 xF31_1 xF31_2 xF31_3 xF31_4 xF31_5 xF41_0 xF41_1 xF41_2 xF41_3 xF41_4 xF41_5
  replace F3 := F3.keep hb2
  replace F4 := F4.keep hb2
  replace F5 := F5.keep hb2
  replace F7 := F7.keep hb2
  replace B0 := B0.trans (hb2.mono B0.size)
  clear hb2
  replace F3 := F3.allocd (.cells #[.bool false, .string { data := #[] }, .int .i64 0, .bool false, .string { data := #[] }, .int .i64 0] 49)
  replace F4 := F4.allocd (.cells #[.bool false, .string { data := #[] }, .int .i64 0, .bool false, .string { data := #[] }, .int .i64 0] 49)
  replace F5 := F5.allocd (.cells #[.bool false, .string { data := #[] }, .int .i64 0, .bool false, .string { data := #[] }, .int .i64 0] 49)
  replace F7 := F7.allocd (.cells #[.bool false, .string { data := #[] }, .int .i64 0, .bool false, .string { data := #[] }, .int .i64 0] 49)
  have F9 := Blk.put (w2) #[.bool false, .string { data := #[] }, .int .i64 0, .bool false, .string { data := #[] }, .int .i64 0] 49
  replace B0 := B0.alloc B0.size (.cells #[.bool false, .string { data := #[] }, .int .i64 0, .bool false, .string { data := #[] }, .int .i64 0] 49)
  obtain ⟨xF32_0, xF32_1, xF32_2, xF32_3, xF32_4, xF32_5⟩ := F3.ce6
  obtain ⟨xF42_0, xF42_1, xF42_2, xF42_3, xF42_4, xF42_5⟩ := F4.ce6
  go_wp2_with fail
  (with_reducible refine (h3 _).mono ?_)
  rintro r w3 ⟨rfl, hb3⟩
  clear xF32_0 xF32_1 xF32_2 xF32_3 xF32_4 xF32_5 xF42_0 xF42_1 xF42_2 xF42_3 xF42_4 xF42_5
  replace F3 := F3.keep hb3
  replace F4 := F4.keep hb3
  replace F5 := F5.keep hb3
  replace F7 := F7.keep hb3
  replace F9 := F9.keep hb3
  replace B0 := B0.trans (hb3.mono B0.size)
  clear hb3
  replace F3 := F3.allocd (.cells #[.bool false, .string { data := #[] }, .int .i64 0, .bool false, .string { data := #[] }, .int .i64 0] 49)
  replace F4 := F4.allocd (.cells #[.bool false, .string { data := #[] }, .int .i64 0, .bool false, .string { data := #[] }, .int .i64 0] 49)
  replace F5 := F5.allocd (.cells #[.bool false, .string { data := #[] }, .int .i64 0, .bool false, .string { data := #[] }, .int .i64 0] 49)
  replace F7 := F7.allocd (.cells #[.bool false, .string { data := #[] }, .int .i64 0, .bool false, .string { data := #[] }, .int .i64 0] 49)
  replace F9 := F9.allocd (.cells #[.bool false, .string { data := #[] }, .int .i64 0, .bool false, .string { data := #[] }, .int .i64 0] 49)
  have F11 := Blk.put (w3) #[.bool false, .string { data := #[] }, .int .i64 0, .bool false, .string { data := #[] }, .int .i64 0] 49
  replace B0 := B0.alloc B0.size (.cells #[.bool false, .string { data := #[] }, .int .i64 0, .bool false, .string { data := #[] }, .int .i64 0] 49)
  obtain ⟨xF33_0, xF33_1, xF33_2, xF33_3, xF33_4, xF33_5⟩ := F3.ce6
  obtain ⟨xF53_0, xF53_1, xF53_2⟩ := F5.ce3
  go_wp2_with fail
  (with_reducible refine (h4 _).mono ?_)
  rintro r w4 ⟨rfl, hb4⟩
  clear xF33_0 xF33_1 xF33_2 xF33_3 xF33_4 xF33_5 xF53_0 xF53_1 xF53_2
  replace F3 := F3.keep hb4
  replace F4 := F4.keep hb4
  replace F5 := F5.keep hb4
  replace F7 := F7.keep hb4
  replace F9 := F9.keep hb4
  replace F11 := F11.keep hb4
  replace B0 := B0.trans (hb4.mono B0.size)
  clear hb4
  replace F3 := F3.allocd (.cells #[.bool false, .string { data := #[] }, .int .i64 0, .bool false, .string { data := #[] }, .int .i64 0] 49)
  replace F4 := F4.allocd (.cells #[.bool false, .string { data := #[] }, .int .i64 0, .bool false, .string { data := #[] }, .int .i64 0] 49)
  replace F5 := F5.allocd (.cells #[.bool false, .string { data := #[] }, .int .i64 0, .bool false, .string { data := #[] }, .int .i64 0] 49)
  replace F7 := F7.allocd (.cells #[.bool false, .string { data := #[] }, .int .i64 0, .bool false, .string { data := #[] }, .int .i64 0] 49)
  replace F9 := F9.allocd (.cells #[.bool false, .string { data := #[] }, .int .i64 0, .bool false, .string { data := #[] }, .int .i64 0] 49)
  replace F11 := F11.allocd (.cells #[.bool false, .string { data := #[] }, .int .i64 0, .bool false, .string { data := #[] }, .int .i64 0] 49)
  have F13 := Blk.put (w4) #[.bool false, .string { data := #[] }, .int .i64 0, .bool false, .string { data := #[] }, .int .i64 0] 49
  replace B0 := B0.alloc B0.size (.cells #[.bool false, .string { data := #[] }, .int .i64 0, .bool false, .string { data := #[] }, .int .i64 0] 49)
  obtain ⟨xF34_0, xF34_1, xF34_2, xF34_3, xF34_4, xF34_5⟩ := F3.ce6
  go_wp2_with fail
  (with_reducible refine (m1 _).mono ?_)
  rintro r w5 ⟨rfl, hb5⟩
  clear xF34_0 xF34_1 xF34_2 xF34_3 xF34_4 xF34_5
  replace F3 := F3.keep hb5
  replace F4 := F4.keep hb5
  replace F5 := F5.keep hb5
  replace F7 := F7.keep hb5
  replace F9 := F9.keep hb5
  replace F11 := F11.keep hb5
  replace F13 := F13.keep hb5
  replace B0 := B0.trans (hb5.mono B0.size)
  clear hb5
  obtain ⟨xF55_0, xF55_1, xF55_2⟩ := F5.ce3
  go_wp2_with fail
  (with_reducible refine (m3 _).mono ?_)
  rintro r w6 ⟨rfl, hb6⟩
  clear xF55_0 xF55_1 xF55_2
  replace F3 := F3.keep hb6
  replace F4 := F4.keep hb6
  replace F5 := F5.keep hb6
  replace F7 := F7.keep hb6
  replace F9 := F9.keep hb6
  replace F11 := F11.keep hb6
  replace F13 := F13.keep hb6
  replace B0 := B0.trans (hb6.mono B0.size)
  clear hb6
  obtain ⟨xF136_0, xF136_1, xF136_2, xF136_3, xF136_4, xF136_5⟩ := F13.ce6
  go_wp2_with fail
  (with_reducible refine (hn _).mono ?_)
  rintro r w7 ⟨rfl, hb7⟩
  clear xF136_0 xF136_1 xF136_2 xF136_3 xF136_4 xF136_5
  replace F3 := F3.keep hb7
  replace F4 := F4.keep hb7
  clear F5
  replace F7 := F7.keep hb7
  replace F9 := F9.keep hb7
  replace F11 := F11.keep hb7
  replace F13 := F13.keep hb7
  replace B0 := B0.trans (hb7.mono B0.size)
  clear hb7
  obtain ⟨xF37_0, xF37_1, xF37_2, xF37_3, xF37_4, xF37_5⟩ := F3.ce6
  go_wp2_with fail
  (with_reducible refine (m1 _).mono ?_)
  rintro r w8 ⟨rfl, hb8⟩
  clear xF37_0 xF37_1 xF37_2 xF37_3 xF37_4 xF37_5
  replace F3 := F3.keep hb8
  replace F4 := F4.keep hb8
  replace F7 := F7.keep hb8
  replace F9 := F9.keep hb8
  replace F11 := F11.keep hb8
  clear F13
  replace B0 := B0.trans (hb8.mono B0.size)
  clear hb8
  obtain ⟨xF48_0, xF48_1, xF48_2, xF48_3, xF48_4, xF48_5⟩ := F4.ce6
  go_wp2_with fail
  (with_reducible refine (m2 _).mono ?_)
  rintro r w9 ⟨rfl, hb9⟩
  clear xF48_0 xF48_1 xF48_2 xF48_3 xF48_4 xF48_5
  clear F3
  replace F4 := F4.keep hb9
  replace F7 := F7.keep hb9
  replace F9 := F9.keep hb9
  replace F11 := F11.keep hb9
  replace B0 := B0.trans (hb9.mono B0.size)
  clear hb9
  obtain ⟨xF79_0, xF79_1, xF79_2, xF79_3, xF79_4, xF79_5⟩ := F7.ce6
  go_wp2_with fail
  (with_reducible refine (hn _).mono ?_)
  rintro r w10 ⟨rfl, hb10⟩
  clear xF79_0 xF79_1 xF79_2 xF79_3 xF79_4 xF79_5
  clear F4
  replace F7 := F7.keep hb10
  replace F9 := F9.keep hb10
  replace F11 := F11.keep hb10
  replace B0 := B0.trans (hb10.mono B0.size)
  clear hb10
  obtain ⟨xF910_0, xF910_1, xF910_2, xF910_3, xF910_4, xF910_5⟩ := F9.ce6
  go_wp2_with fail
  (with_reducible refine (hn _).mono ?_)
  rintro r w11 ⟨rfl, hb11⟩
  clear xF910_0 xF910_1 xF910_2 xF910_3 xF910_4 xF910_5
  clear F7
  replace F9 := F9.keep hb11
  replace F11 := F11.keep hb11
  replace B0 := B0.trans (hb11.mono B0.size)
  clear hb11
  obtain ⟨xF1111_0, xF1111_1, xF1111_2, xF1111_3, xF1111_4, xF1111_5⟩ := F11.ce6
  go_wp2_with fail
  (with_reducible refine (hn _).mono ?_)
  rintro r w12 ⟨rfl, hb12⟩
  clear xF1111_0 xF1111_1 xF1111_2 xF1111_3 xF1111_4 xF1111_5
  clear F9
  replace F11 := F11.keep hb12
  replace B0 := B0.trans (hb12.mono B0.size)
  clear hb12
  go_wp2_with fail
  (with_reducible refine (hw _ (hT.below B0)).mono ?_)
  rintro r w13 ⟨rfl, hb13⟩
  clear F11
  replace B0 := B0.trans (hb13.mono B0.size)
  clear hb13
  go_wp2
  go_ret
  exact ⟨rfl, B0⟩

end Go.Proofs.YtgcifpjhhoalmaaDoor
