/- Walks of the layer of Gausses, by a program (walk.py): part N1. -/
import Derived.Test.YtgcifpjhhoalmaaDoorHC
import Derived.Test.YtgcifpjhhoalmaaDoorHF
namespace Go.Proofs.YtgcifpjhhoalmaaDoor
open Go Go.RowKit Go.PlainAid Fil

set_option maxRecDepth 10000 in
set_option maxHeartbeats 4000000 in
theorem norms_1 (a : GR) (b : GR) (c : GR) (w : World) (ok_a : a.fit) (ok_b : b.fit) (ok_c : c.fit) (h_a : a.may = false) (hT : Tab w) :
    Calls Tryd.prog 12 #[.agg #[.bool a.n, .string a.s, .int .i64 a.e, .bool a.m, .string a.t, .int .i64 a.f], .agg #[.bool b.n, .string b.s, .int .i64 b.e, .bool b.m, .string b.t, .int .i64 b.f], .agg #[.bool c.n, .string c.s, .int .i64 c.e, .bool c.m, .string c.t, .int .i64 c.f]] w fun r w' => r = .returned (.bool true) ∧ Below w.heap.size w w' := by
  have h0 := fun W => gnorm_bad a W ok_a h_a
  have h1 := fun W => gdot_bad a b W ok_a ok_b (by rw [h_a]; rfl)
  have h2 := fun W => gcross_bad a b W ok_a ok_b (by rw [h_a]; rfl)
  have h3 := fun W => gcmp_bad a b W ok_a ok_b (by rw [h_a]; rfl)
  have h4 := fun W => gside_bad a b c W ok_a ok_b ok_c (by rw [h_a]; rfl)
  have hw := fun W hW => l6awake_any W hW
  have m1 := fun W => qmay_g a W ok_a
  rw [h_a] at m1
  clear h_a
  clear ok_a ok_b ok_c
  obtain ⟨an, aS, ae, am, aT, af⟩ := a
  obtain ⟨bn, bS, be, bm, bT, bf⟩ := b
  obtain ⟨cn, cS, ce, cm, cT, cf⟩ := c
  dsimp only at *
  try dsimp only [GY.raw, DY.raw] at *
  go_enter Tryd.func12, Tryd.ntmps12
  have B0 := Below.refl w.heap.size w
  have F3 := Blk.put (w) #[.bool an, .string aS, .int .i64 ae, .bool am, .string aT, .int .i64 af] 49
  replace B0 := B0.alloc B0.size (.cells #[.bool an, .string aS, .int .i64 ae, .bool am, .string aT, .int .i64 af] 49)
  replace F3 := F3.allocd (.cells #[.bool bn, .string bS, .int .i64 be, .bool bm, .string bT, .int .i64 bf] 49)
  have F4 := Blk.put ((w).alloc (.cells #[.bool an, .string aS, .int .i64 ae, .bool am, .string aT, .int .i64 af] 49)) #[.bool bn, .string bS, .int .i64 be, .bool bm, .string bT, .int .i64 bf] 49
  rw [show ((w).alloc (.cells #[.bool an, .string aS, .int .i64 ae, .bool am, .string aT, .int .i64 af] 49)).heap.size = w.heap.size + 1 by simp] at F4
  replace B0 := B0.alloc B0.size (.cells #[.bool bn, .string bS, .int .i64 be, .bool bm, .string bT, .int .i64 bf] 49)
  replace F3 := F3.allocd (.cells #[.bool cn, .string cS, .int .i64 ce, .bool cm, .string cT, .int .i64 cf] 49)
  replace F4 := F4.allocd (.cells #[.bool cn, .string cS, .int .i64 ce, .bool cm, .string cT, .int .i64 cf] 49)
  have F5 := Blk.put (((w).alloc (.cells #[.bool an, .string aS, .int .i64 ae, .bool am, .string aT, .int .i64 af] 49)).alloc (.cells #[.bool bn, .string bS, .int .i64 be, .bool bm, .string bT, .int .i64 bf] 49)) #[.bool cn, .string cS, .int .i64 ce, .bool cm, .string cT, .int .i64 cf] 49
  rw [show (((w).alloc (.cells #[.bool an, .string aS, .int .i64 ae, .bool am, .string aT, .int .i64 af] 49)).alloc (.cells #[.bool bn, .string bS, .int .i64 be, .bool bm, .string bT, .int .i64 bf] 49)).heap.size = w.heap.size + 1 + 1 by simp] at F5
  replace B0 := B0.alloc B0.size (.cells #[.bool cn, .string cS, .int .i64 ce, .bool cm, .string cT, .int .i64 cf] 49)
  obtain ⟨xF30_0, xF30_1, xF30_2, xF30_3, xF30_4, xF30_5⟩ := F3.ce6
  go_wp2_with fail
  (with_reducible refine (h0 _).mono ?_)
  rintro r w1 ⟨rfl, hb1⟩
  clear xF30_0 xF30_1 xF30_2 xF30_3 xF30_4 xF30_5
  replace F3 := F3.keep hb1
  replace F4 := F4.keep hb1
  replace F5 := F5.keep hb1
  replace B0 := B0.trans (hb1.mono B0.size)
  clear hb1
  replace F3 := F3.allocd (.cells #[.bool false, .string { data := #[] }, .int .i64 0] 24)
  replace F4 := F4.allocd (.cells #[.bool false, .string { data := #[] }, .int .i64 0] 24)
  replace F5 := F5.allocd (.cells #[.bool false, .string { data := #[] }, .int .i64 0] 24)
  have F7 := Blk.put (w1) #[.bool false, .string { data := #[] }, .int .i64 0] 24
  replace B0 := B0.alloc B0.size (.cells #[.bool false, .string { data := #[] }, .int .i64 0] 24)
  obtain ⟨xF31_0, xF31_1, xF31_2, xF31_3, xF31_4, xF31_5⟩ := F3.ce6
  obtain ⟨xF41_0, xF41_1, xF41_2, xF41_3, xF41_4, xF41_5⟩ := F4.ce6
  go_wp2_with fail
  (with_reducible refine (h1 _).mono ?_)
  rintro r w2 ⟨rfl, hb2⟩
  clear xF31_0 xF31_1 xF31_2 xF31_3 xF31_4 xF31_5 xF41_0 xF41_1 xF41_2 xF41_3 xF41_4 xF41_5
  replace F3 := F3.keep hb2
  replace F4 := F4.keep hb2
  replace F5 := F5.keep hb2
  replace F7 := F7.keep hb2
  replace B0 := B0.trans (hb2.mono B0.size)
  clear hb2
  replace F3 := F3.allocd (.cells #[.bool false, .string { data := #[] }, .int .i64 0] 24)
  replace F4 := F4.allocd (.cells #[.bool false, .string { data := #[] }, .int .i64 0] 24)
  replace F5 := F5.allocd (.cells #[.bool false, .string { data := #[] }, .int .i64 0] 24)
  replace F7 := F7.allocd (.cells #[.bool false, .string { data := #[] }, .int .i64 0] 24)
  have F9 := Blk.put (w2) #[.bool false, .string { data := #[] }, .int .i64 0] 24
  replace B0 := B0.alloc B0.size (.cells #[.bool false, .string { data := #[] }, .int .i64 0] 24)
  obtain ⟨xF32_0, xF32_1, xF32_2, xF32_3, xF32_4, xF32_5⟩ := F3.ce6
  obtain ⟨xF42_0, xF42_1, xF42_2, xF42_3, xF42_4, xF42_5⟩ := F4.ce6
  go_wp2_with fail
  (with_reducible refine (h2 _).mono ?_)
  rintro r w3 ⟨rfl, hb3⟩
  clear xF32_0 xF32_1 xF32_2 xF32_3 xF32_4 xF32_5 xF42_0 xF42_1 xF42_2 xF42_3 xF42_4 xF42_5
  replace F3 := F3.keep hb3
  replace F4 := F4.keep hb3
  replace F5 := F5.keep hb3
  replace F7 := F7.keep hb3
  replace F9 := F9.keep hb3
  replace B0 := B0.trans (hb3.mono B0.size)
  clear hb3
  replace F3 := F3.allocd (.cells #[.bool false, .string { data := #[] }, .int .i64 0] 24)
  replace F4 := F4.allocd (.cells #[.bool false, .string { data := #[] }, .int .i64 0] 24)
  replace F5 := F5.allocd (.cells #[.bool false, .string { data := #[] }, .int .i64 0] 24)
  replace F7 := F7.allocd (.cells #[.bool false, .string { data := #[] }, .int .i64 0] 24)
  replace F9 := F9.allocd (.cells #[.bool false, .string { data := #[] }, .int .i64 0] 24)
  have F11 := Blk.put (w3) #[.bool false, .string { data := #[] }, .int .i64 0] 24
  replace B0 := B0.alloc B0.size (.cells #[.bool false, .string { data := #[] }, .int .i64 0] 24)
  obtain ⟨xF33_0, xF33_1, xF33_2, xF33_3, xF33_4, xF33_5⟩ := F3.ce6
  obtain ⟨xF43_0, xF43_1, xF43_2, xF43_3, xF43_4, xF43_5⟩ := F4.ce6
  go_wp2_with fail
  (with_reducible refine (h3 _).mono ?_)
  rintro r w4 ⟨rfl, hb4⟩
  clear xF33_0 xF33_1 xF33_2 xF33_3 xF33_4 xF33_5 xF43_0 xF43_1 xF43_2 xF43_3 xF43_4 xF43_5
  replace F3 := F3.keep hb4
  replace F4 := F4.keep hb4
  replace F5 := F5.keep hb4
  replace F7 := F7.keep hb4
  replace F9 := F9.keep hb4
  replace F11 := F11.keep hb4
  replace B0 := B0.trans (hb4.mono B0.size)
  clear hb4
  obtain ⟨xF34_0, xF34_1, xF34_2, xF34_3, xF34_4, xF34_5⟩ := F3.ce6
  obtain ⟨xF44_0, xF44_1, xF44_2, xF44_3, xF44_4, xF44_5⟩ := F4.ce6
  obtain ⟨xF54_0, xF54_1, xF54_2, xF54_3, xF54_4, xF54_5⟩ := F5.ce6
  go_wp2_with fail
  (with_reducible refine (h4 _).mono ?_)
  rintro r w5 ⟨rfl, hb5⟩
  clear xF34_0 xF34_1 xF34_2 xF34_3 xF34_4 xF34_5 xF44_0 xF44_1 xF44_2 xF44_3 xF44_4 xF44_5 xF54_0 xF54_1 xF54_2 xF54_3 xF54_4 xF54_5
  replace F3 := F3.keep hb5
  replace F4 := F4.keep hb5
  replace F5 := F5.keep hb5
  replace F7 := F7.keep hb5
  replace F9 := F9.keep hb5
  replace F11 := F11.keep hb5
  replace B0 := B0.trans (hb5.mono B0.size)
  clear hb5
  obtain ⟨xF35_0, xF35_1, xF35_2, xF35_3, xF35_4, xF35_5⟩ := F3.ce6
  go_wp2_with fail
  (with_reducible refine (m1 _).mono ?_)
  rintro r w6 ⟨rfl, hb6⟩
  clear xF35_0 xF35_1 xF35_2 xF35_3 xF35_4 xF35_5
  replace F3 := F3.keep hb6
  clear F4
  clear F5
  replace F7 := F7.keep hb6
  replace F9 := F9.keep hb6
  replace F11 := F11.keep hb6
  replace B0 := B0.trans (hb6.mono B0.size)
  clear hb6
  obtain ⟨xF76_0, xF76_1, xF76_2⟩ := F7.ce3
  obtain ⟨xF96_0, xF96_1, xF96_2⟩ := F9.ce3
  obtain ⟨xF116_0, xF116_1, xF116_2⟩ := F11.ce3
  go_wp2_with fail
  (with_reducible refine (hw _ (hT.below B0)).mono ?_)
  rintro r w7 ⟨rfl, hb7⟩
  clear xF76_0 xF76_1 xF76_2 xF96_0 xF96_1 xF96_2 xF116_0 xF116_1 xF116_2
  clear F3
  replace F7 := F7.keep hb7
  replace F9 := F9.keep hb7
  replace F11 := F11.keep hb7
  replace B0 := B0.trans (hb7.mono B0.size)
  clear hb7
  go_wp2
  go_ret
  exact ⟨rfl, B0⟩

set_option maxRecDepth 10000 in
set_option maxHeartbeats 4000000 in
theorem norms_2 (a : GY) (b : GR) (c : GR) (n : DY × Int) (E_n : gNorm a = n) (w : World) (ok_a : a.ok) (ok_b : b.fit) (ok_c : c.fit) (h_b : b.may = false) (hT : Tab w) :
    Calls Tryd.prog 12 #[.agg #[.bool a.re.n, .string (bstr a.re.x), .int .i64 a.re.e, .bool a.im.n, .string (bstr a.im.x), .int .i64 a.im.e], .agg #[.bool b.n, .string b.s, .int .i64 b.e, .bool b.m, .string b.t, .int .i64 b.f], .agg #[.bool c.n, .string c.s, .int .i64 c.e, .bool c.m, .string c.t, .int .i64 c.f]] w fun r w' => r = .returned (.bool true) ∧ Below w.heap.size w w' := by
  have h0 := fun W hW => gnorm a W ok_a hW
  rw [E_n] at h0
  have h1 := fun W => gdot_bad a.raw b W (GY.raw_fit ok_a) ok_b (by rw [GY.raw_may ok_a, h_b]; rfl)
  have h2 := fun W => gcross_bad a.raw b W (GY.raw_fit ok_a) ok_b (by rw [GY.raw_may ok_a, h_b]; rfl)
  have h3 := fun W => gcmp_bad a.raw b W (GY.raw_fit ok_a) ok_b (by rw [GY.raw_may ok_a, h_b]; rfl)
  have h4 := fun W => gside_bad a.raw b c W (GY.raw_fit ok_a) ok_b ok_c (by rw [GY.raw_may ok_a, h_b]; rfl)
  have hw := fun W hW => l6awake_any W hW
  have m1 := fun W => qmay_g a.raw W (GY.raw_fit ok_a)
  rw [GY.raw_may ok_a] at m1
  have r0 := fun W => qnorm a W ok_a
  rw [E_n] at r0
  have m2 := fun W => qmay_g b W ok_b
  rw [h_b] at m2
  clear h_b
  clear E_n ok_a ok_b ok_c
  obtain ⟨⟨an, aX, ae⟩, ⟨am, aY, af⟩⟩ := a
  obtain ⟨bn, bS, be, bm, bT, bf⟩ := b
  obtain ⟨cn, cS, ce, cm, cT, cf⟩ := c
  obtain ⟨⟨nn, nX, ne⟩, nr⟩ := n
  dsimp only at *
  try dsimp only [GY.raw, DY.raw] at *
  generalize bstr aX = aS at *
  generalize bstr aY = aT at *
  generalize bstr nX = nS at *
  go_enter Tryd.func12, Tryd.ntmps12
  have B0 := Below.refl w.heap.size w
  have F3 := Blk.put (w) #[.bool an, .string aS, .int .i64 ae, .bool am, .string aT, .int .i64 af] 49
  replace B0 := B0.alloc B0.size (.cells #[.bool an, .string aS, .int .i64 ae, .bool am, .string aT, .int .i64 af] 49)
  replace F3 := F3.allocd (.cells #[.bool bn, .string bS, .int .i64 be, .bool bm, .string bT, .int .i64 bf] 49)
  have F4 := Blk.put ((w).alloc (.cells #[.bool an, .string aS, .int .i64 ae, .bool am, .string aT, .int .i64 af] 49)) #[.bool bn, .string bS, .int .i64 be, .bool bm, .string bT, .int .i64 bf] 49
  rw [show ((w).alloc (.cells #[.bool an, .string aS, .int .i64 ae, .bool am, .string aT, .int .i64 af] 49)).heap.size = w.heap.size + 1 by simp] at F4
  replace B0 := B0.alloc B0.size (.cells #[.bool bn, .string bS, .int .i64 be, .bool bm, .string bT, .int .i64 bf] 49)
  replace F3 := F3.allocd (.cells #[.bool cn, .string cS, .int .i64 ce, .bool cm, .string cT, .int .i64 cf] 49)
  replace F4 := F4.allocd (.cells #[.bool cn, .string cS, .int .i64 ce, .bool cm, .string cT, .int .i64 cf] 49)
  have F5 := Blk.put (((w).alloc (.cells #[.bool an, .string aS, .int .i64 ae, .bool am, .string aT, .int .i64 af] 49)).alloc (.cells #[.bool bn, .string bS, .int .i64 be, .bool bm, .string bT, .int .i64 bf] 49)) #[.bool cn, .string cS, .int .i64 ce, .bool cm, .string cT, .int .i64 cf] 49
  rw [show (((w).alloc (.cells #[.bool an, .string aS, .int .i64 ae, .bool am, .string aT, .int .i64 af] 49)).alloc (.cells #[.bool bn, .string bS, .int .i64 be, .bool bm, .string bT, .int .i64 bf] 49)).heap.size = w.heap.size + 1 + 1 by simp] at F5
  replace B0 := B0.alloc B0.size (.cells #[.bool cn, .string cS, .int .i64 ce, .bool cm, .string cT, .int .i64 cf] 49)
  obtain ⟨xF30_0, xF30_1, xF30_2, xF30_3, xF30_4, xF30_5⟩ := F3.ce6
  go_wp2_with fail
  (with_reducible refine (h0 _ (hT.below B0)).mono ?_)
  rintro r w1 ⟨rfl, hb1⟩
  clear xF30_0 xF30_1 xF30_2 xF30_3 xF30_4 xF30_5
  replace F3 := F3.keep hb1
  replace F4 := F4.keep hb1
  replace F5 := F5.keep hb1
  replace B0 := B0.trans (hb1.mono B0.size)
  clear hb1
  replace F3 := F3.allocd (.cells #[.bool nn, .string nS, .int .i64 ne] 24)
  replace F4 := F4.allocd (.cells #[.bool nn, .string nS, .int .i64 ne] 24)
  replace F5 := F5.allocd (.cells #[.bool nn, .string nS, .int .i64 ne] 24)
  have F7 := Blk.put (w1) #[.bool nn, .string nS, .int .i64 ne] 24
  replace B0 := B0.alloc B0.size (.cells #[.bool nn, .string nS, .int .i64 ne] 24)
  obtain ⟨xF31_0, xF31_1, xF31_2, xF31_3, xF31_4, xF31_5⟩ := F3.ce6
  obtain ⟨xF41_0, xF41_1, xF41_2, xF41_3, xF41_4, xF41_5⟩ := F4.ce6
  go_wp2_with fail
  (with_reducible refine (h1 _).mono ?_)
  rintro r w2 ⟨rfl, hb2⟩
  clear xF31_0 xF31_1 xF31_2 xF31_3 xF31_4 xF31_5 xF41_0 xF41_1 xF41_2 xF41_3 xF41_4 xF41_5
  replace F3 := F3.keep hb2
  replace F4 := F4.keep hb2
  replace F5 := F5.keep hb2
  replace F7 := F7.keep hb2
  replace B0 := B0.trans (hb2.mono B0.size)
  clear hb2
  replace F3 := F3.allocd (.cells #[.bool false, .string { data := #[] }, .int .i64 0] 24)
  replace F4 := F4.allocd (.cells #[.bool false, .string { data := #[] }, .int .i64 0] 24)
  replace F5 := F5.allocd (.cells #[.bool false, .string { data := #[] }, .int .i64 0] 24)
  replace F7 := F7.allocd (.cells #[.bool false, .string { data := #[] }, .int .i64 0] 24)
  have F9 := Blk.put (w2) #[.bool false, .string { data := #[] }, .int .i64 0] 24
  replace B0 := B0.alloc B0.size (.cells #[.bool false, .string { data := #[] }, .int .i64 0] 24)
  obtain ⟨xF32_0, xF32_1, xF32_2, xF32_3, xF32_4, xF32_5⟩ := F3.ce6
  obtain ⟨xF42_0, xF42_1, xF42_2, xF42_3, xF42_4, xF42_5⟩ := F4.ce6
  go_wp2_with fail
  (with_reducible refine (h2 _).mono ?_)
  rintro r w3 ⟨rfl, hb3⟩
  clear xF32_0 xF32_1 xF32_2 xF32_3 xF32_4 xF32_5 xF42_0 xF42_1 xF42_2 xF42_3 xF42_4 xF42_5
  replace F3 := F3.keep hb3
  replace F4 := F4.keep hb3
  replace F5 := F5.keep hb3
  replace F7 := F7.keep hb3
  replace F9 := F9.keep hb3
  replace B0 := B0.trans (hb3.mono B0.size)
  clear hb3
  replace F3 := F3.allocd (.cells #[.bool false, .string { data := #[] }, .int .i64 0] 24)
  replace F4 := F4.allocd (.cells #[.bool false, .string { data := #[] }, .int .i64 0] 24)
  replace F5 := F5.allocd (.cells #[.bool false, .string { data := #[] }, .int .i64 0] 24)
  replace F7 := F7.allocd (.cells #[.bool false, .string { data := #[] }, .int .i64 0] 24)
  replace F9 := F9.allocd (.cells #[.bool false, .string { data := #[] }, .int .i64 0] 24)
  have F11 := Blk.put (w3) #[.bool false, .string { data := #[] }, .int .i64 0] 24
  replace B0 := B0.alloc B0.size (.cells #[.bool false, .string { data := #[] }, .int .i64 0] 24)
  obtain ⟨xF33_0, xF33_1, xF33_2, xF33_3, xF33_4, xF33_5⟩ := F3.ce6
  obtain ⟨xF43_0, xF43_1, xF43_2, xF43_3, xF43_4, xF43_5⟩ := F4.ce6
  go_wp2_with fail
  (with_reducible refine (h3 _).mono ?_)
  rintro r w4 ⟨rfl, hb4⟩
  clear xF33_0 xF33_1 xF33_2 xF33_3 xF33_4 xF33_5 xF43_0 xF43_1 xF43_2 xF43_3 xF43_4 xF43_5
  replace F3 := F3.keep hb4
  replace F4 := F4.keep hb4
  replace F5 := F5.keep hb4
  replace F7 := F7.keep hb4
  replace F9 := F9.keep hb4
  replace F11 := F11.keep hb4
  replace B0 := B0.trans (hb4.mono B0.size)
  clear hb4
  obtain ⟨xF34_0, xF34_1, xF34_2, xF34_3, xF34_4, xF34_5⟩ := F3.ce6
  obtain ⟨xF44_0, xF44_1, xF44_2, xF44_3, xF44_4, xF44_5⟩ := F4.ce6
  obtain ⟨xF54_0, xF54_1, xF54_2, xF54_3, xF54_4, xF54_5⟩ := F5.ce6
  go_wp2_with fail
  (with_reducible refine (h4 _).mono ?_)
  rintro r w5 ⟨rfl, hb5⟩
  clear xF34_0 xF34_1 xF34_2 xF34_3 xF34_4 xF34_5 xF44_0 xF44_1 xF44_2 xF44_3 xF44_4 xF44_5 xF54_0 xF54_1 xF54_2 xF54_3 xF54_4 xF54_5
  replace F3 := F3.keep hb5
  replace F4 := F4.keep hb5
  replace F5 := F5.keep hb5
  replace F7 := F7.keep hb5
  replace F9 := F9.keep hb5
  replace F11 := F11.keep hb5
  replace B0 := B0.trans (hb5.mono B0.size)
  clear hb5
  obtain ⟨xF35_0, xF35_1, xF35_2, xF35_3, xF35_4, xF35_5⟩ := F3.ce6
  go_wp2_with fail
  (with_reducible refine (m1 _).mono ?_)
  rintro r w6 ⟨rfl, hb6⟩
  clear xF35_0 xF35_1 xF35_2 xF35_3 xF35_4 xF35_5
  replace F3 := F3.keep hb6
  replace F4 := F4.keep hb6
  clear F5
  replace F7 := F7.keep hb6
  replace F9 := F9.keep hb6
  replace F11 := F11.keep hb6
  replace B0 := B0.trans (hb6.mono B0.size)
  clear hb6
  obtain ⟨xF36_0, xF36_1, xF36_2, xF36_3, xF36_4, xF36_5⟩ := F3.ce6
  go_wp2_with fail
  (with_reducible refine (r0 _).mono ?_)
  rintro r w7 ⟨rfl, hb7⟩
  clear xF36_0 xF36_1 xF36_2 xF36_3 xF36_4 xF36_5
  replace F3 := F3.keep hb7
  replace F4 := F4.keep hb7
  replace F7 := F7.keep hb7
  replace F9 := F9.keep hb7
  replace F11 := F11.keep hb7
  replace B0 := B0.trans (hb7.mono B0.size)
  clear hb7
  clear F3
  replace F4 := F4.allocd (.cells #[.bool nn, .string nS, .int .i64 ne] 24)
  replace F7 := F7.allocd (.cells #[.bool nn, .string nS, .int .i64 ne] 24)
  replace F9 := F9.allocd (.cells #[.bool nn, .string nS, .int .i64 ne] 24)
  replace F11 := F11.allocd (.cells #[.bool nn, .string nS, .int .i64 ne] 24)
  have F17 := Blk.put (w7) #[.bool nn, .string nS, .int .i64 ne] 24
  replace B0 := B0.alloc B0.size (.cells #[.bool nn, .string nS, .int .i64 ne] 24)
  obtain ⟨xF77_0, xF77_1, xF77_2⟩ := F7.ce3
  obtain ⟨xF177_0, xF177_1, xF177_2⟩ := F17.ce3
  obtain ⟨xF47_0, xF47_1, xF47_2, xF47_3, xF47_4, xF47_5⟩ := F4.ce6
  go_wp2_with fail
  (with_reducible refine (m2 _).mono ?_)
  rintro r w8 ⟨rfl, hb8⟩
  clear xF77_0 xF77_1 xF77_2 xF177_0 xF177_1 xF177_2 xF47_0 xF47_1 xF47_2 xF47_3 xF47_4 xF47_5
  replace F4 := F4.keep hb8
  replace F7 := F7.keep hb8
  replace F9 := F9.keep hb8
  replace F11 := F11.keep hb8
  replace F17 := F17.keep hb8
  replace B0 := B0.trans (hb8.mono B0.size)
  clear hb8
  obtain ⟨xF98_0, xF98_1, xF98_2⟩ := F9.ce3
  obtain ⟨xF118_0, xF118_1, xF118_2⟩ := F11.ce3
  go_wp2_with fail
  (with_reducible refine (hw _ (hT.below B0)).mono ?_)
  rintro r w9 ⟨rfl, hb9⟩
  clear xF98_0 xF98_1 xF98_2 xF118_0 xF118_1 xF118_2
  clear F4
  clear F7
  replace F9 := F9.keep hb9
  replace F11 := F11.keep hb9
  clear F17
  replace B0 := B0.trans (hb9.mono B0.size)
  clear hb9
  go_wp2
  go_ret
  exact ⟨rfl, B0⟩

end Go.Proofs.YtgcifpjhhoalmaaDoor
