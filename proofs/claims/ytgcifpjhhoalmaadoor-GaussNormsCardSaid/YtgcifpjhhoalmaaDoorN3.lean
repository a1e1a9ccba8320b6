/- Walks of the layer of Gausses, by a program (walk.py): part N3. -/
import Derived.Test.YtgcifpjhhoalmaaDoorH4
import Derived.Test.YtgcifpjhhoalmaaDoorN1
namespace Go.Proofs.YtgcifpjhhoalmaaDoor
open Go Go.RowKit Go.PlainAid Fil

set_option maxRecDepth 10000 in
set_option maxHeartbeats 4000000 in
theorem norms_4 (a : GY) (b : GY) (c : GY) (n : DY × Int) (d : DY × Int) (x : DY × Int) (M : Int × Int) (S : Int × Int) (E_n : gNorm a = n) (E_d : gDot a b = d) (E_x : gCross a b = x) (E_M : gCmp a b = M) (E_S : gSide a b c = S) (w : World) (ok_a : a.ok) (ok_b : b.ok) (ok_c : c.ok)  (hT : Tab w) :
    Calls Tryd.prog 12 #[.agg #[.bool a.re.n, .string (bstr a.re.x), .int .i64 a.re.e, .bool a.im.n, .string (bstr a.im.x), .int .i64 a.im.e], .agg #[.bool b.re.n, .string (bstr b.re.x), .int .i64 b.re.e, .bool b.im.n, .string (bstr b.im.x), .int .i64 b.im.e], .agg #[.bool c.re.n, .string (bstr c.re.x), .int .i64 c.re.e, .bool c.im.n, .string (bstr c.im.x), .int .i64 c.im.e]] w fun r w' => r = .returned (.bool true) ∧ Below w.heap.size w w' := by
  have h0 := fun W hW => gnorm a W ok_a hW
  rw [E_n] at h0
  have h1 := fun W hW => gdot a b W ok_a ok_b hW
  rw [E_d] at h1
  have h2 := fun W hW => gcross a b W ok_a ok_b hW
  rw [E_x] at h2
  have h3 := fun W hW => gcmp a b W ok_a ok_b hW
  rw [E_M] at h3
  have h4 := fun W hW => gside a b c W ok_a ok_b ok_c hW
  rw [E_S] at h4
  have hw := fun W hW => l6awake_any W hW
  have m1 := fun W => qmay_g a.raw W (GY.raw_fit ok_a)
  rw [GY.raw_may ok_a] at m1
  have r0 := fun W => qnorm a W ok_a
  rw [E_n] at r0
  have m2 := fun W => qmay_g b.raw W (GY.raw_fit ok_b)
  rw [GY.raw_may ok_b] at m2
  have r1 := fun W => qdot a b W ok_a ok_b
  rw [E_d] at r1
  have r2 := fun W => qcross a b W ok_a ok_b
  rw [E_x] at r2
  have r3 := fun W => qcmp a b W ok_a ok_b
  rw [E_M] at r3
  have m3 := fun W => qmay_g c.raw W (GY.raw_fit ok_c)
  rw [GY.raw_may ok_c] at m3
  have r4 := fun W => qside a b c W ok_a ok_b ok_c
  rw [E_S] at r4
  clear E_n E_d E_x E_M E_S ok_a ok_b ok_c
  obtain ⟨⟨an, aX, ae⟩, ⟨am, aY, af⟩⟩ := a
  obtain ⟨⟨bn, bX, be⟩, ⟨bm, bY, bf⟩⟩ := b
  obtain ⟨⟨cn, cX, ce⟩, ⟨cm, cY, cf⟩⟩ := c
  obtain ⟨⟨nn, nX, ne⟩, nr⟩ := n
  obtain ⟨⟨dn, dX, de⟩, dr⟩ := d
  obtain ⟨⟨xn, xX, xe⟩, xr⟩ := x
  obtain ⟨Mn, Mr⟩ := M
  obtain ⟨Sn, Sr⟩ := S
  dsimp only at *
  try dsimp only [GY.raw, DY.raw] at *
  generalize bstr aX = aS at *
  generalize bstr aY = aT at *
  generalize bstr bX = bS at *
  generalize bstr bY = bT at *
  generalize bstr cX = cS at *
  generalize bstr cY = cT at *
  generalize bstr nX = nS at *
  generalize bstr dX = dS at *
  generalize bstr xX = xS at *
  go_enter Tryd.func12, Tryd.ntmps12
  have B0 := Below.refl w.heap.size w
  have F3 := Blk.put (w) #[.bool an, .string aS, .int .i64 ae, .bool am, .string aT, .int .i64 af] 49
  replace B0 := B0.alloc B0.size (.cells #[.bool an, .string aS, .int .i64 ae, .bool am, .string aT, .int .i64 af] 49)
  replace F3 := F3.allocd (.cells #[.bool bn, .string bS, .int .i64 be, .bool bm, .string bT, .int .i64 bf] 49)
  have F4 := Blk.put ((w).alloc (.cells #[.bool an, .string aS, .int .i64 ae, .bool am, .string aT, .int .i64 af] 49)) #[.bool bn, .string bS, .int .i64 be, .bool bm, .string bT, .int .i64 bf] 49
  rw [show ((w).alloc (.cells #[.bool an, .string aS, .int .i64 ae, .bool am, .string aT, .int .i64 af] 49)).heap.size = w.heap.size + 1 by simp] at F4
  replace B0 := B0.alloc B0.size (.cells #[.bool bn, .string bS, .int .i64 be, .bool bm, .string bT, .int .i64 bf] 49)
  replace F3 := F3.allocd (.cells #[.bool cn, .string cS, .int .i64 ce, .bool cm, .string cT, .int .i64 cf] 49)
  replace F4 := F4.allocd (.cells #[.bool cn, .string cS, .int .i64 ce, .bool cm, .string cT, .int .i64 cf] 49)
  have F5 := Blk.put (((w).alloc (.cells #[.bool an, .string aS, .int .i64 ae, .bool am, .string aT, .int .i64 af] 49)).alloc (.cells #[.bool bn, .string bS, .int .i64 be, .bool bm, .string bT, .int .i64 bf] 49)) #[.bool cn, .string cS, .int .i64 ce, .bool cm, .string cT, .int .i64 cf] 49
  rw [show (((w).alloc (.cells #[.bool an, .string aS, .int .i64 ae, .bool am, .string aT, .int .i64 af] 49)).alloc (.cells #[.bool bn, .string bS, .int .i64 be, .bool bm, .string bT, .int .i64 bf] 49)).heap.size = w.heap.size + 1 + 1 by simp] at F5
  replace B0 := B0.alloc B0.size (.cells #[.bool cn, .string cS, .int .i64 ce, .bool cm, .string cT, .int .i64 cf] 49)
  obtain ⟨xF30_0, xF30_1, xF30_2, xF30_3, xF30_4, xF30_5⟩ := F3.ce6
  go_wp2_with fail
  (with_reducible refine (h0 _ (hT.below B0)).mono ?_)
  rintro r w1 ⟨rfl, hb1⟩
  clear xF30_0 xF30_1 xF30_2 xF30_3 xF30_4 xF30_5
  replace F3 := F3.keep hb1
  replace F4 := F4.keep hb1
  replace F5 := F5.keep hb1
  replace B0 := B0.trans (hb1.mono B0.size)
  clear hb1
  replace F3 := F3.allocd (.cells #[.bool nn, .string nS, .int .i64 ne] 24)
  replace F4 := F4.allocd (.cells #[.bool nn, .string nS, .int .i64 ne] 24)
  replace F5 := F5.allocd (.cells #[.bool nn, .string nS, .int .i64 ne] 24)
  have F7 := Blk.put (w1) #[.bool nn, .string nS, .int .i64 ne] 24
  replace B0 := B0.alloc B0.size (.cells #[.bool nn, .string nS, .int .i64 ne] 24)
  obtain ⟨xF31_0, xF31_1, xF31_2, xF31_3, xF31_4, xF31_5⟩ := F3.ce6
  obtain ⟨xF41_0, xF41_1, xF41_2, xF41_3, xF41_4, xF41_5⟩ := F4.ce6
  go_wp2_with fail
  (with_reducible refine (h1 _ (hT.below B0)).mono ?_)
  rintro r w2 ⟨rfl, hb2⟩
  clear xF31_0 xF31_1 xF31_2 xF31_3 xF31_4 xF31_5 xF41_0 xF41_1 xF41_2 xF41_3 xF41_4 xF41_5
  replace F3 := F3.keep hb2
  replace F4 := F4.keep hb2
  replace F5 := F5.keep hb2
  replace F7 := F7.keep hb2
  replace B0 := B0.trans (hb2.mono B0.size)
  clear hb2
  replace F3 := F3.allocd (.cells #[.bool dn, .string dS, .int .i64 de] 24)
  replace F4 := F4.allocd (.cells #[.bool dn, .string dS, .int .i64 de] 24)
  replace F5 := F5.allocd (.cells #[.bool dn, .string dS, .int .i64 de] 24)
  replace F7 := F7.allocd (.cells #[.bool dn, .string dS, .int .i64 de] 24)
  have F9 := Blk.put (w2) #[.bool dn, .string dS, .int .i64 de] 24
  replace B0 := B0.alloc B0.size (.cells #[.bool dn, .string dS, .int .i64 de] 24)
  obtain ⟨xF32_0, xF32_1, xF32_2, xF32_3, xF32_4, xF32_5⟩ := F3.ce6
  obtain ⟨xF42_0, xF42_1, xF42_2, xF42_3, xF42_4, xF42_5⟩ := F4.ce6
  go_wp2_with fail
  (with_reducible refine (h2 _ (hT.below B0)).mono ?_)
  rintro r w3 ⟨rfl, hb3⟩
  clear xF32_0 xF32_1 xF32_2 xF32_3 xF32_4 xF32_5 xF42_0 xF42_1 xF42_2 xF42_3 xF42_4 xF42_5
  replace F3 := F3.keep hb3
  replace F4 := F4.keep hb3
  replace F5 := F5.keep hb3
  replace F7 := F7.keep hb3
  replace F9 := F9.keep hb3
  replace B0 := B0.trans (hb3.mono B0.size)
  clear hb3
  replace F3 := F3.allocd (.cells #[.bool xn, .string xS, .int .i64 xe] 24)
  replace F4 := F4.allocd (.cells #[.bool xn, .string xS, .int .i64 xe] 24)
  replace F5 := F5.allocd (.cells #[.bool xn, .string xS, .int .i64 xe] 24)
  replace F7 := F7.allocd (.cells #[.bool xn, .string xS, .int .i64 xe] 24)
  replace F9 := F9.allocd (.cells #[.bool xn, .string xS, .int .i64 xe] 24)
  have F11 := Blk.put (w3) #[.bool xn, .string xS, .int .i64 xe] 24
  replace B0 := B0.alloc B0.size (.cells #[.bool xn, .string xS, .int .i64 xe] 24)
  obtain ⟨xF33_0, xF33_1, xF33_2, xF33_3, xF33_4, xF33_5⟩ := F3.ce6
  obtain ⟨xF43_0, xF43_1, xF43_2, xF43_3, xF43_4, xF43_5⟩ := F4.ce6
  go_wp2_with fail
  (with_reducible refine (h3 _ (hT.below B0)).mono ?_)
  rintro r w4 ⟨rfl, hb4⟩
  clear xF33_0 xF33_1 xF33_2 xF33_3 xF33_4 xF33_5 xF43_0 xF43_1 xF43_2 xF43_3 xF43_4 xF43_5
  replace F3 := F3.keep hb4
  replace F4 := F4.keep hb4
  replace F5 := F5.keep hb4
  replace F7 := F7.keep hb4
  replace F9 := F9.keep hb4
  replace F11 := F11.keep hb4
  replace B0 := B0.trans (hb4.mono B0.size)
  clear hb4
  obtain ⟨xF34_0, xF34_1, xF34_2, xF34_3, xF34_4, xF34_5⟩ := F3.ce6
  obtain ⟨xF44_0, xF44_1, xF44_2, xF44_3, xF44_4, xF44_5⟩ := F4.ce6
  obtain ⟨xF54_0, xF54_1, xF54_2, xF54_3, xF54_4, xF54_5⟩ := F5.ce6
  go_wp2_with fail
  (with_reducible refine (h4 _ (hT.below B0)).mono ?_)
  rintro r w5 ⟨rfl, hb5⟩
  clear xF34_0 xF34_1 xF34_2 xF34_3 xF34_4 xF34_5 xF44_0 xF44_1 xF44_2 xF44_3 xF44_4 xF44_5 xF54_0 xF54_1 xF54_2 xF54_3 xF54_4 xF54_5
  replace F3 := F3.keep hb5
  replace F4 := F4.keep hb5
  replace F5 := F5.keep hb5
  replace F7 := F7.keep hb5
  replace F9 := F9.keep hb5
  replace F11 := F11.keep hb5
  replace B0 := B0.trans (hb5.mono B0.size)
  clear hb5
  obtain ⟨xF35_0, xF35_1, xF35_2, xF35_3, xF35_4, xF35_5⟩ := F3.ce6
  go_wp2_with fail
  (with_reducible refine (m1 _).mono ?_)
  rintro r w6 ⟨rfl, hb6⟩
  clear xF35_0 xF35_1 xF35_2 xF35_3 xF35_4 xF35_5
  replace F3 := F3.keep hb6
  replace F4 := F4.keep hb6
  replace F5 := F5.keep hb6
  replace F7 := F7.keep hb6
  replace F9 := F9.keep hb6
  replace F11 := F11.keep hb6
  replace B0 := B0.trans (hb6.mono B0.size)
  clear hb6
  obtain ⟨xF36_0, xF36_1, xF36_2, xF36_3, xF36_4, xF36_5⟩ := F3.ce6
  go_wp2_with fail
  (with_reducible refine (r0 _).mono ?_)
  rintro r w7 ⟨rfl, hb7⟩
  clear xF36_0 xF36_1 xF36_2 xF36_3 xF36_4 xF36_5
  replace F3 := F3.keep hb7
  replace F4 := F4.keep hb7
  replace F5 := F5.keep hb7
  replace F7 := F7.keep hb7
  replace F9 := F9.keep hb7
  replace F11 := F11.keep hb7
  replace B0 := B0.trans (hb7.mono B0.size)
  clear hb7
  replace F3 := F3.allocd (.cells #[.bool nn, .string nS, .int .i64 ne] 24)
  replace F4 := F4.allocd (.cells #[.bool nn, .string nS, .int .i64 ne] 24)
  replace F5 := F5.allocd (.cells #[.bool nn, .string nS, .int .i64 ne] 24)
  replace F7 := F7.allocd (.cells #[.bool nn, .string nS, .int .i64 ne] 24)
  replace F9 := F9.allocd (.cells #[.bool nn, .string nS, .int .i64 ne] 24)
  replace F11 := F11.allocd (.cells #[.bool nn, .string nS, .int .i64 ne] 24)
  have F17 := Blk.put (w7) #[.bool nn, .string nS, .int .i64 ne] 24
  replace B0 := B0.alloc B0.size (.cells #[.bool nn, .string nS, .int .i64 ne] 24)
  obtain ⟨xF77_0, xF77_1, xF77_2⟩ := F7.ce3
  obtain ⟨xF177_0, xF177_1, xF177_2⟩ := F17.ce3
  obtain ⟨xF47_0, xF47_1, xF47_2, xF47_3, xF47_4, xF47_5⟩ := F4.ce6
  go_wp2_with fail
  (with_reducible refine (m2 _).mono ?_)
  rintro r w8 ⟨rfl, hb8⟩
  clear xF77_0 xF77_1 xF77_2 xF177_0 xF177_1 xF177_2 xF47_0 xF47_1 xF47_2 xF47_3 xF47_4 xF47_5
  replace F3 := F3.keep hb8
  replace F4 := F4.keep hb8
  replace F5 := F5.keep hb8
  replace F7 := F7.keep hb8
  replace F9 := F9.keep hb8
  replace F11 := F11.keep hb8
  replace F17 := F17.keep hb8
  replace B0 := B0.trans (hb8.mono B0.size)
  clear hb8
  obtain ⟨xF38_0, xF38_1, xF38_2, xF38_3, xF38_4, xF38_5⟩ := F3.ce6
  obtain ⟨xF48_0, xF48_1, xF48_2, xF48_3, xF48_4, xF48_5⟩ := F4.ce6
  go_wp2_with fail
  (with_reducible refine (r1 _).mono ?_)
  rintro r w9 ⟨rfl, hb9⟩
  clear xF38_0 xF38_1 xF38_2 xF38_3 xF38_4 xF38_5 xF48_0 xF48_1 xF48_2 xF48_3 xF48_4 xF48_5
  replace F3 := F3.keep hb9
  replace F4 := F4.keep hb9
  replace F5 := F5.keep hb9
  clear F7
  replace F9 := F9.keep hb9
  replace F11 := F11.keep hb9
  clear F17
  replace B0 := B0.trans (hb9.mono B0.size)
  clear hb9
  replace F3 := F3.allocd (.cells #[.bool dn, .string dS, .int .i64 de] 24)
  replace F4 := F4.allocd (.cells #[.bool dn, .string dS, .int .i64 de] 24)
  replace F5 := F5.allocd (.cells #[.bool dn, .string dS, .int .i64 de] 24)
  replace F9 := F9.allocd (.cells #[.bool dn, .string dS, .int .i64 de] 24)
  replace F11 := F11.allocd (.cells #[.bool dn, .string dS, .int .i64 de] 24)
  have F19 := Blk.put (w9) #[.bool dn, .string dS, .int .i64 de] 24
  replace B0 := B0.alloc B0.size (.cells #[.bool dn, .string dS, .int .i64 de] 24)
  obtain ⟨xF39_0, xF39_1, xF39_2, xF39_3, xF39_4, xF39_5⟩ := F3.ce6
  obtain ⟨xF49_0, xF49_1, xF49_2, xF49_3, xF49_4, xF49_5⟩ := F4.ce6
  go_wp2_with fail
  (with_reducible refine (r2 _).mono ?_)
  rintro r w10 ⟨rfl, hb10⟩
  clear xF39_0 xF39_1 xF39_2 xF39_3 xF39_4 xF39_5 xF49_0 xF49_1 xF49_2 xF49_3 xF49_4 xF49_5
  replace F3 := F3.keep hb10
  replace F4 := F4.keep hb10
  replace F5 := F5.keep hb10
  replace F9 := F9.keep hb10
  replace F11 := F11.keep hb10
  replace F19 := F19.keep hb10
  replace B0 := B0.trans (hb10.mono B0.size)
  clear hb10
  replace F3 := F3.allocd (.cells #[.bool xn, .string xS, .int .i64 xe] 24)
  replace F4 := F4.allocd (.cells #[.bool xn, .string xS, .int .i64 xe] 24)
  replace F5 := F5.allocd (.cells #[.bool xn, .string xS, .int .i64 xe] 24)
  replace F9 := F9.allocd (.cells #[.bool xn, .string xS, .int .i64 xe] 24)
  replace F11 := F11.allocd (.cells #[.bool xn, .string xS, .int .i64 xe] 24)
  replace F19 := F19.allocd (.cells #[.bool xn, .string xS, .int .i64 xe] 24)
  have F21 := Blk.put (w10) #[.bool xn, .string xS, .int .i64 xe] 24
  replace B0 := B0.alloc B0.size (.cells #[.bool xn, .string xS, .int .i64 xe] 24)
  obtain ⟨xF310_0, xF310_1, xF310_2, xF310_3, xF310_4, xF310_5⟩ := F3.ce6
  obtain ⟨xF410_0, xF410_1, xF410_2, xF410_3, xF410_4, xF410_5⟩ := F4.ce6
  go_wp2_with fail
  (with_reducible refine (r3 _).mono ?_)
  rintro r w11 ⟨rfl, hb11⟩
  clear xF310_0 xF310_1 xF310_2 xF310_3 xF310_4 xF310_5 xF410_0 xF410_1 xF410_2 xF410_3 xF410_4 xF410_5
  replace F3 := F3.keep hb11
  replace F4 := F4.keep hb11
  replace F5 := F5.keep hb11
  replace F9 := F9.keep hb11
  replace F11 := F11.keep hb11
  replace F19 := F19.keep hb11
  replace F21 := F21.keep hb11
  replace B0 := B0.trans (hb11.mono B0.size)
  clear hb11
  obtain ⟨xF911_0, xF911_1, xF911_2⟩ := F9.ce3
  obtain ⟨xF1911_0, xF1911_1, xF1911_2⟩ := F19.ce3
  obtain ⟨xF1111_0, xF1111_1, xF1111_2⟩ := F11.ce3
  obtain ⟨xF2111_0, xF2111_1, xF2111_2⟩ := F21.ce3
  obtain ⟨xF511_0, xF511_1, xF511_2, xF511_3, xF511_4, xF511_5⟩ := F5.ce6
  go_wp2_with fail
  (with_reducible refine (m3 _).mono ?_)
  rintro r w12 ⟨rfl, hb12⟩
  clear xF911_0 xF911_1 xF911_2 xF1911_0 xF1911_1 xF1911_2 xF1111_0 xF1111_1 xF1111_2 xF2111_0 xF2111_1 xF2111_2 xF511_0 xF511_1 xF511_2 xF511_3 xF511_4 xF511_5
  replace F3 := F3.keep hb12
  replace F4 := F4.keep hb12
  replace F5 := F5.keep hb12
  replace F9 := F9.keep hb12
  replace F11 := F11.keep hb12
  replace F19 := F19.keep hb12
  replace F21 := F21.keep hb12
  replace B0 := B0.trans (hb12.mono B0.size)
  clear hb12
  obtain ⟨xF312_0, xF312_1, xF312_2, xF312_3, xF312_4, xF312_5⟩ := F3.ce6
  obtain ⟨xF412_0, xF412_1, xF412_2, xF412_3, xF412_4, xF412_5⟩ := F4.ce6
  obtain ⟨xF512_0, xF512_1, xF512_2, xF512_3, xF512_4, xF512_5⟩ := F5.ce6
  go_wp2_with fail
  (with_reducible refine (r4 _).mono ?_)
  rintro r w13 ⟨rfl, hb13⟩
  clear xF312_0 xF312_1 xF312_2 xF312_3 xF312_4 xF312_5 xF412_0 xF412_1 xF412_2 xF412_3 xF412_4 xF412_5 xF512_0 xF512_1 xF512_2 xF512_3 xF512_4 xF512_5
  replace F3 := F3.keep hb13
  replace F4 := F4.keep hb13
  replace F5 := F5.keep hb13
  clear F9
  clear F11
  clear F19
  clear F21
  replace B0 := B0.trans (hb13.mono B0.size)
  clear hb13
  go_wp2_with fail
  (with_reducible refine (hw _ (hT.below B0)).mono ?_)
  rintro r w14 ⟨rfl, hb14⟩
  clear F3
  clear F4
  clear F5
  replace B0 := B0.trans (hb14.mono B0.size)
  clear hb14
  go_wp2
  go_ret
  exact ⟨rfl, B0⟩

end Go.Proofs.YtgcifpjhhoalmaaDoor
