/- Walks of the layer of Gausses, by a program (walk.py): part S4. -/
import Derived.Test.YtgcifpjhhoalmaaDoorS1
import Derived.Test.YtgcifpjhhoalmaaDoorH5
namespace Go.Proofs.YtgcifpjhhoalmaaDoor
open Go Go.RowKit Go.PlainAid Fil

set_option maxRecDepth 10000 in
set_option maxHeartbeats 4000000 in
theorem sums_sns (a : GY) (b : GR) (d : DY) (t : GY × Int) (E_t : gScale a d = t) (w : World) (ok_a : a.ok) (ok_b : b.fit) (ok_d : d.ok) (h_b : b.may = false) (hT : Tab w) :
    Calls Tryd.prog 9 #[.agg #[.bool a.re.n, .string (bstr a.re.x), .int .i64 a.re.e, .bool a.im.n, .string (bstr a.im.x), .int .i64 a.im.e], .agg #[.bool b.n, .string b.s, .int .i64 b.e, .bool b.m, .string b.t, .int .i64 b.f], .agg #[.bool d.n, .string (bstr d.x), .int .i64 d.e]] w fun r w' => r = .returned (.bool true) ∧ Below w.heap.size w w' := by
  have h1 := fun W => gadd_bad a.raw b W (GY.raw_fit ok_a) ok_b (by rw [GY.raw_may ok_a, h_b]; rfl)
  have h2 := fun W => gsub_bad a.raw b W (GY.raw_fit ok_a) ok_b (by rw [GY.raw_may ok_a, h_b]; rfl)
  have h3 := fun W => gmul_bad a.raw b W (GY.raw_fit ok_a) ok_b (by rw [GY.raw_may ok_a, h_b]; rfl)
  have h4 := fun W hW => gscale a d W ok_a ok_d hW
  rw [E_t] at h4
  have m1 := fun W => qmay_g a.raw W (GY.raw_fit ok_a)
  rw [GY.raw_may ok_a] at m1
  have m2 := fun W => qmay_g b W ok_b
  rw [h_b] at m2
  have m3 := fun W => rmay_g d.raw W (DY.raw_fit ok_d)
  rw [DY.raw_may ok_d] at m3
  have hn := fun W => l6none_yes W
  have hw := fun W hW => l6awake_any W hW
  have r4 := fun W => qscale a d W ok_a ok_d
  rw [E_t] at r4
  have e4 := fun W => l6same_yes t.1.re.n (bstr t.1.re.x) t.1.re.e t.1.im.n (bstr t.1.im.x) t.1.im.e t.2 W
  clear h_b
  clear E_t ok_a ok_b ok_d
  obtain ⟨⟨an, aX, ae⟩, ⟨am, aY, af⟩⟩ := a
  obtain ⟨bn, bS, be, bm, bT, bf⟩ := b
  obtain ⟨dn, dX, de⟩ := d
  obtain ⟨⟨⟨tn, tX, te⟩, ⟨tm, tY, tf⟩⟩, tr⟩ := t
  dsimp only at *
  try dsimp only [GY.raw, DY.raw] at *
  generalize bstr aX = aS at *
  generalize bstr aY = aT at *
  generalize bstr dX = dS at *
  generalize bstr tX = tS at *
  generalize bstr tY = tT at *
  go_enter Tryd.func9, Tryd.ntmps9
  have B0 := Below.refl w.heap.size w
  have F3 := Blk.put (w) #[.bool an, .string aS, .int .i64 ae, .bool am, .string aT, .int .i64 af] 49
  replace B0 := B0.alloc B0.size (.cells #[.bool an, .string aS, .int .i64 ae, .bool am, .string aT, .int .i64 af] 49)
  replace F3 := F3.allocd (.cells #[.bool bn, .string bS, .int .i64 be, .bool bm, .string bT, .int .i64 bf] 49)
  have F4 := Blk.put ((w).alloc (.cells #[.bool an, .string aS, .int .i64 ae, .bool am, .string aT, .int .i64 af] 49)) #[.bool bn, .string bS, .int .i64 be, .bool bm, .string bT, .int .i64 bf] 49
  rw [show ((w).alloc (.cells #[.bool an, .string aS, .int .i64 ae, .bool am, .string aT, .int .i64 af] 49)).heap.size = w.heap.size + 1 by simp] at F4
  replace B0 := B0.alloc B0.size (.cells #[.bool bn, .string bS, .int .i64 be, .bool bm, .string bT, .int .i64 bf] 49)
  replace F3 := F3.allocd (.cells #[.bool dn, .string dS, .int .i64 de] 24)
  replace F4 := F4.allocd (.cells #[.bool dn, .string dS, .int .i64 de] 24)
  have F5 := Blk.put (((w).alloc (.cells #[.bool an, .string aS, .int .i64 ae, .bool am, .string aT, .int .i64 af] 49)).alloc (.cells #[.bool bn, .string bS, .int .i64 be, .bool bm, .string bT, .int .i64 bf] 49)) #[.bool dn, .string dS, .int .i64 de] 24
  rw [show (((w).alloc (.cells #[.bool an, .string aS, .int .i64 ae, .bool am, .string aT, .int .i64 af] 49)).alloc (.cells #[.bool bn, .string bS, .int .i64 be, .bool bm, .string bT, .int .i64 bf] 49)).heap.size = w.heap.size + 1 + 1 by simp] at F5
  replace B0 := B0.alloc B0.size (.cells #[.bool dn, .string dS, .int .i64 de] 24)
  obtain ⟨xF30_0, xF30_1, xF30_2, xF30_3, xF30_4, xF30_5⟩ := F3.ce6
  obtain ⟨xF40_0, xF40_1, xF40_2, xF40_3, xF40_4, xF40_5⟩ := F4.ce6
  go_wp2_with fail
  (with_reducible refine (h1 _).mono ?_)
  rintro r w1 ⟨rfl, hb1⟩
  clear xF30_0 xF30_1 xF30_2 xF30_3 xF30_4 xF30_5 xF40_0 xF40_1 xF40_2 xF40_3 xF40_4 xF40_5
  replace F3 := F3.keep hb1
  replace F4 := F4.keep hb1
  replace F5 := F5.keep hb1
  replace B0 := B0.trans (hb1.mono B0.size)
  clear hb1
  replace F3 := F3.allocd (.cells #[.bool false, .string { data := #[] }, .int .i64 0, .bool false, .string { data := #[] }, .int .i64 0] 49)
  replace F4 := F4.allocd (.cells #[.bool false, .string { data := #[] }, .int .i64 0, .bool false, .string { data := #[] }, .int .i64 0] 49)
  replace F5 := F5.allocd (.cells #[.bool false, .string { data := #[] }, .int .i64 0, .bool false, .string { data := #[] }, .int .i64 0] 49)
  have F7 := Blk.put (w1) #[.bool false, .string { data := #[] }, .int .i64 0, .bool false, .string { data := #[] }, .int .i64 0] 49
  replace B0 := B0.alloc B0.size (.cells #[.bool false, .string { data := #[] }, .int .i64 0, .bool false, .string { data := #[] }, .int .i64 0] 49)
  obtain ⟨xF31_0, xF31_1, xF31_2, xF31_3, xF31_4, xF31_5⟩ := F3.ce6
  obtain ⟨xF41_0, xF41_1, xF41_2, xF41_3, xF41_4, xF41_5⟩ := F4.ce6
  go_wp2_with fail
  (with_reducible refine (h2 _).mono ?_)
  rintro r w2 ⟨rfl, hb2⟩
  clear xF31_0 xF31_1 xF31_2 xF31_3 xF31_4 xF31_5 xF41_0 xF41_1 xF41_2 xF41_3 xF41_4 xF41_5
  replace F3 := F3.keep hb2
  replace F4 := F4.keep hb2
  replace F5 := F5.keep hb2
  replace F7 := F7.keep hb2
  replace B0 := B0.trans (hb2.mono B0.size)
  clear hb2
  replace F3 := F3.allocd (.cells #[.bool false, .string { data := #[] }, .int .i64 0, .bool false, .string { data := #[] }, .int .i64 0] 49)
  replace F4 := F4.allocd (.cells #[.bool false, .string { data := #[] }, .int .i64 0, .bool false, .string { data := #[] }, .int .i64 0] 49)
  replace F5 := F5.allocd (.cells #[.bool false, .string { data := #[] }, .int .i64 0, .bool false, .string { data := #[] }, .int .i64 0] 49)
  replace F7 := F7.allocd (.cells #[.bool false, .string { data := #[] }, .int .i64 0, .bool false, .string { data := #[] }, .int .i64 0] 49)
  have F9 := Blk.put (w2) #[.bool false, .string { data := #[] }, .int .i64 0, .bool false, .string { data := #[] }, .int .i64 0] 49
  replace B0 := B0.alloc B0.size (.cells #[.bool false, .string { data := #[] }, .int .i64 0, .bool false, .string { data := #[] }, .int .i64 0] 49)
  obtain ⟨xF32_0, xF32_1, xF32_2, xF32_3, xF32_4, xF32_5⟩ := F3.ce6
  obtain ⟨xF42_0, xF42_1, xF42_2, xF42_3, xF42_4, xF42_5⟩ := F4.ce6
  go_wp2_with fail
  (with_reducible refine (h3 _).mono ?_)
  rintro r w3 ⟨rfl, hb3⟩
  clear xF32_0 xF32_1 xF32_2 xF32_3 xF32_4 xF32_5 xF42_0 xF42_1 xF42_2 xF42_3 xF42_4 xF42_5
  replace F3 := F3.keep hb3
  replace F4 := F4.keep hb3
  replace F5 := F5.keep hb3
  replace F7 := F7.keep hb3
  replace F9 := F9.keep hb3
  replace B0 := B0.trans (hb3.mono B0.size)
  clear hb3
  replace F3 := F3.allocd (.cells #[.bool false, .string { data := #[] }, .int .i64 0, .bool false, .string { data := #[] }, .int .i64 0] 49)
  replace F4 := F4.allocd (.cells #[.bool false, .string { data := #[] }, .int .i64 0, .bool false, .string { data := #[] }, .int .i64 0] 49)
  replace F5 := F5.allocd (.cells #[.bool false, .string { data := #[] }, .int .i64 0, .bool false, .string { data := #[] }, .int .i64 0] 49)
  replace F7 := F7.allocd (.cells #[.bool false, .string { data := #[] }, .int .i64 0, .bool false, .string { data := #[] }, .int .i64 0] 49)
  replace F9 := F9.allocd (.cells #[.bool false, .string { data := #[] }, .int .i64 0, .bool false, .string { data := #[] }, .int .i64 0] 49)
  have F11 := Blk.put (w3) #[.bool false, .string { data := #[] }, .int .i64 0, .bool false, .string { data := #[] }, .int .i64 0] 49
  replace B0 := B0.alloc B0.size (.cells #[.bool false, .string { data := #[] }, .int .i64 0, .bool false, .string { data := #[] }, .int .i64 0] 49)
  obtain ⟨xF33_0, xF33_1, xF33_2, xF33_3, xF33_4, xF33_5⟩ := F3.ce6
  obtain ⟨xF53_0, xF53_1, xF53_2⟩ := F5.ce3
  go_wp2_with fail
  (with_reducible refine (h4 _ (hT.below B0)).mono ?_)
  rintro r w4 ⟨rfl, hb4⟩
  clear xF33_0 xF33_1 xF33_2 xF33_3 xF33_4 xF33_5 xF53_0 xF53_1 xF53_2
  replace F3 := F3.keep hb4
  replace F4 := F4.keep hb4
  replace F5 := F5.keep hb4
  replace F7 := F7.keep hb4
  replace F9 := F9.keep hb4
  replace F11 := F11.keep hb4
  replace B0 := B0.trans (hb4.mono B0.size)
  clear hb4
  replace F3 := F3.allocd (.cells #[.bool tn, .string tS, .int .i64 te, .bool tm, .string tT, .int .i64 tf] 49)
  replace F4 := F4.allocd (.cells #[.bool tn, .string tS, .int .i64 te, .bool tm, .string tT, .int .i64 tf] 49)
  replace F5 := F5.allocd (.cells #[.bool tn, .string tS, .int .i64 te, .bool tm, .string tT, .int .i64 tf] 49)
  replace F7 := F7.allocd (.cells #[.bool tn, .string tS, .int .i64 te, .bool tm, .string tT, .int .i64 tf] 49)
  replace F9 := F9.allocd (.cells #[.bool tn, .string tS, .int .i64 te, .bool tm, .string tT, .int .i64 tf] 49)
  replace F11 := F11.allocd (.cells #[.bool tn, .string tS, .int .i64 te, .bool tm, .string tT, .int .i64 tf] 49)
  have F13 := Blk.put (w4) #[.bool tn, .string tS, .int .i64 te, .bool tm, .string tT, .int .i64 tf] 49
  replace B0 := B0.alloc B0.size (.cells #[.bool tn, .string tS, .int .i64 te, .bool tm, .string tT, .int .i64 tf] 49)
  obtain ⟨xF34_0, xF34_1, xF34_2, xF34_3, xF34_4, xF34_5⟩ := F3.ce6
  go_wp2_with fail
  (with_reducible refine (m1 _).mono ?_)
  rintro r w5 ⟨rfl, hb5⟩
  clear xF34_0 xF34_1 xF34_2 xF34_3 xF34_4 xF34_5
  replace F3 := F3.keep hb5
  replace F4 := F4.keep hb5
  replace F5 := F5.keep hb5
  replace F7 := F7.keep hb5
  replace F9 := F9.keep hb5
  replace F11 := F11.keep hb5
  replace F13 := F13.keep hb5
  replace B0 := B0.trans (hb5.mono B0.size)
  clear hb5
  obtain ⟨xF55_0, xF55_1, xF55_2⟩ := F5.ce3
  go_wp2_with fail
  (with_reducible refine (m3 _).mono ?_)
  rintro r w6 ⟨rfl, hb6⟩
  clear xF55_0 xF55_1 xF55_2
  replace F3 := F3.keep hb6
  replace F4 := F4.keep hb6
  replace F5 := F5.keep hb6
  replace F7 := F7.keep hb6
  replace F9 := F9.keep hb6
  replace F11 := F11.keep hb6
  replace F13 := F13.keep hb6
  replace B0 := B0.trans (hb6.mono B0.size)
  clear hb6
  obtain ⟨xF36_0, xF36_1, xF36_2, xF36_3, xF36_4, xF36_5⟩ := F3.ce6
  obtain ⟨xF56_0, xF56_1, xF56_2⟩ := F5.ce3
  go_wp2_with fail
  (with_reducible refine (r4 _).mono ?_)
  rintro r w7 ⟨rfl, hb7⟩
  clear xF36_0 xF36_1 xF36_2 xF36_3 xF36_4 xF36_5 xF56_0 xF56_1 xF56_2
  replace F3 := F3.keep hb7
  replace F4 := F4.keep hb7
  replace F5 := F5.keep hb7
  replace F7 := F7.keep hb7
  replace F9 := F9.keep hb7
  replace F11 := F11.keep hb7
  replace F13 := F13.keep hb7
  replace B0 := B0.trans (hb7.mono B0.size)
  clear hb7
  replace F3 := F3.allocd (.cells #[.bool tn, .string tS, .int .i64 te, .bool tm, .string tT, .int .i64 tf] 49)
  replace F4 := F4.allocd (.cells #[.bool tn, .string tS, .int .i64 te, .bool tm, .string tT, .int .i64 tf] 49)
  clear F5
  replace F7 := F7.allocd (.cells #[.bool tn, .string tS, .int .i64 te, .bool tm, .string tT, .int .i64 tf] 49)
  replace F9 := F9.allocd (.cells #[.bool tn, .string tS, .int .i64 te, .bool tm, .string tT, .int .i64 tf] 49)
  replace F11 := F11.allocd (.cells #[.bool tn, .string tS, .int .i64 te, .bool tm, .string tT, .int .i64 tf] 49)
  replace F13 := F13.allocd (.cells #[.bool tn, .string tS, .int .i64 te, .bool tm, .string tT, .int .i64 tf] 49)
  have F15 := Blk.put (w7) #[.bool tn, .string tS, .int .i64 te, .bool tm, .string tT, .int .i64 tf] 49
  replace B0 := B0.alloc B0.size (.cells #[.bool tn, .string tS, .int .i64 te, .bool tm, .string tT, .int .i64 tf] 49)
  obtain ⟨xF137_0, xF137_1, xF137_2, xF137_3, xF137_4, xF137_5⟩ := F13.ce6
  obtain ⟨xF157_0, xF157_1, xF157_2, xF157_3, xF157_4, xF157_5⟩ := F15.ce6
  go_wp2_with fail
  (with_reducible refine (e4 _).mono ?_)
  rintro r w8 ⟨rfl, hb8⟩
  clear xF137_0 xF137_1 xF137_2 xF137_3 xF137_4 xF137_5 xF157_0 xF157_1 xF157_2 xF157_3 xF157_4 xF157_5
  replace F3 := F3.keep hb8
  replace F4 := F4.keep hb8
  replace F7 := F7.keep hb8
  replace F9 := F9.keep hb8
  replace F11 := F11.keep hb8
  replace F13 := F13.keep hb8
  replace F15 := F15.keep hb8
  replace B0 := B0.trans (hb8.mono B0.size)
  clear hb8
  obtain ⟨xF38_0, xF38_1, xF38_2, xF38_3, xF38_4, xF38_5⟩ := F3.ce6
  go_wp2_with fail
  (with_reducible refine (m1 _).mono ?_)
  rintro r w9 ⟨rfl, hb9⟩
  clear xF38_0 xF38_1 xF38_2 xF38_3 xF38_4 xF38_5
  replace F3 := F3.keep hb9
  replace F4 := F4.keep hb9
  replace F7 := F7.keep hb9
  replace F9 := F9.keep hb9
  replace F11 := F11.keep hb9
  clear F13
  clear F15
  replace B0 := B0.trans (hb9.mono B0.size)
  clear hb9
  obtain ⟨xF49_0, xF49_1, xF49_2, xF49_3, xF49_4, xF49_5⟩ := F4.ce6
  go_wp2_with fail
  (with_reducible refine (m2 _).mono ?_)
  rintro r w10 ⟨rfl, hb10⟩
  clear xF49_0 xF49_1 xF49_2 xF49_3 xF49_4 xF49_5
  clear F3
  replace F4 := F4.keep hb10
  replace F7 := F7.keep hb10
  replace F9 := F9.keep hb10
  replace F11 := F11.keep hb10
  replace B0 := B0.trans (hb10.mono B0.size)
  clear hb10
  obtain ⟨xF710_0, xF710_1, xF710_2, xF710_3, xF710_4, xF710_5⟩ := F7.ce6
  go_wp2_with fail
  (with_reducible refine (hn _).mono ?_)
  rintro r w11 ⟨rfl, hb11⟩
  clear xF710_0 xF710_1 xF710_2 xF710_3 xF710_4 xF710_5
  clear F4
  replace F7 := F7.keep hb11
  replace F9 := F9.keep hb11
  replace F11 := F11.keep hb11
  replace B0 := B0.trans (hb11.mono B0.size)
  clear hb11
  obtain ⟨xF911_0, xF911_1, xF911_2, xF911_3, xF911_4, xF911_5⟩ := F9.ce6
  go_wp2_with fail
  (with_reducible refine (hn _).mono ?_)
  rintro r w12 ⟨rfl, hb12⟩
  clear xF911_0 xF911_1 xF911_2 xF911_3 xF911_4 xF911_5
  clear F7
  replace F9 := F9.keep hb12
  replace F11 := F11.keep hb12
  replace B0 := B0.trans (hb12.mono B0.size)
  clear hb12
  obtain ⟨xF1112_0, xF1112_1, xF1112_2, xF1112_3, xF1112_4, xF1112_5⟩ := F11.ce6
  go_wp2_with fail
  (with_reducible refine (hn _).mono ?_)
  rintro r w13 ⟨rfl, hb13⟩
  clear xF1112_0 xF1112_1 xF1112_2 xF1112_3 xF1112_4 xF1112_5
  clear F9
  replace F11 := F11.keep hb13
  replace B0 := B0.trans (hb13.mono B0.size)
  clear hb13
  go_wp2_with fail
  (with_reducible refine (hw _ (hT.below B0)).mono ?_)
  rintro r w14 ⟨rfl, hb14⟩
  clear F11
  replace B0 := B0.trans (hb14.mono B0.size)
  clear hb14
  go_wp2
  go_ret
  exact ⟨rfl, B0⟩

end Go.Proofs.YtgcifpjhhoalmaaDoor
