/- Walk of view.Cover where all goes well and no later corner is farther than the first. -/
import Derived.Test.YtfbkopepkklkjaaGreatDoorQ5
import Derived.Test.YtfbkopepkklkjaaGreatDoorQ6
import Derived.Test.YtfbkopepkklkjaaGreatDoorQ7
import Derived.Test.YtfbkopepkklkjaaGreatDoorG6
namespace Go.Proofs.YtfbkopepkklkjaaGreatDoor
open Go Go.RowKit Go.PlainAid Fil


set_option maxRecDepth 1000000 in
set_option maxHeartbeats 16000000 in
theorem vcover_a (l : DY) (b : DY) (e : Int) (p : DY) (q : DY) (M : GY × Int) (x : Nat) (y : Nat) (Z : GY) (S0 : GY × Int) (N0 : DY × Int) (K0 : Int) (S1 : GY × Int) (N1 : DY × Int) (K1 : Int) (S2 : GY × Int) (N2 : DY × Int) (K2 : Int) (S3 : GY × Int) (N3 : DY × Int) (K3 : Int) (R : Nat) (E_p : (vM l 2 (e - 1)).1 = p) (E_q : (vM b 2 (e - 1)).1 = q) (E_M : gB (vM l 1 (e - 1)) (vM b 1 (e - 1)) = M) (E_x : nearF M.1.re.n M.1.re.x M.1.re.e = x) (E_y : nearF M.1.im.n M.1.im.x M.1.im.e = y) (E_Z : (⟨flY x, flY y⟩ : GY) = Z) (E_S0 : gSub (⟨l, b⟩ : GY) Z = S0) (E_N0 : gNorm S0.1 = N0) (E_K0 : yCmp N0.1 DY.zero = K0) (E_S1 : gSub (⟨p, b⟩ : GY) Z = S1) (E_N1 : gNorm S1.1 = N1) (E_K1 : yCmp N1.1 N0.1 = K1) (E_S2 : gSub (⟨l, q⟩ : GY) Z = S2) (E_N2 : gNorm S2.1 = N2) (E_K2 : yCmp N2.1 N0.1 = K2) (E_S3 : gSub (⟨p, q⟩ : GY) Z = S3) (E_N3 : gNorm S3.1 = N3) (E_K3 : yCmp N3.1 N0.1 = K3) (E_R : lst (rpB N0.1) 9218868437227405311 = R) (w : World) (ok_l : l.ok) (ok_b : b.ok) (e1 : -4096 ≤ e) (e2 : e ≤ 4096) (hp : (vM l 2 (e - 1)).2 = 0) (hq : (vM b 2 (e - 1)).2 = 0) (hM : M.2 = 0) (x1 : x < 18446744073709551616) (x2 : flQ x ≠ 2047) (y1 : y < 18446744073709551616) (y2 : flQ y ≠ 2047) (hS0 : S0.2 = 0) (hN0 : N0.2 = 0) (hS1 : S1.2 = 0) (hN1 : N1.2 = 0) (hS2 : S2.2 = 0) (hN2 : N2.2 = 0) (hS3 : S3.2 = 0) (hN3 : N3.2 = 0) (hK0 : 0 < K0) (hK1 : ¬ 0 < K1) (hK2 : ¬ 0 < K2) (hK3 : ¬ 0 < K3) (hr0 : rpB N0.1 9218868437227405311 = true) (hT : Tab w) :
  Calls Tryz.prog 19 #[.agg #[.bool l.n, .string (bstr l.x), .int .i64 l.e, .bool b.n, .string (bstr b.x), .int .i64 b.e, .int .i64 e]] w fun r w' => r = .returned (.tuple #[.agg #[.complex .f64 x y, .float .f64 R], .int .i64 0]) ∧ Below w.heap.size w w' := by
 have ok_p : p.ok := E_p ▸ vM_ok _ _ _
 have ok_q : q.ok := E_q ▸ vM_ok _ _ _
 have ok_M : M.1.ok := E_M ▸ gB_ok (vM_ok _ _ _) (vM_ok _ _ _)
 have ok_Z : Z.ok := E_Z ▸ ⟨flY_ok _, flY_ok _⟩
 have ok_S0 : S0.1.ok := E_S0 ▸ gSub_ok _ _
 have ok_N0 : N0.1.ok := E_N0 ▸ gNorm_ok _
 have ok_S1 : S1.1.ok := E_S1 ▸ gSub_ok _ _
 have ok_N1 : N1.1.ok := E_N1 ▸ gNorm_ok _
 have ok_S2 : S2.1.ok := E_S2 ▸ gSub_ok _ _
 have ok_N2 : N2.1.ok := E_N2 ▸ gNorm_ok _
 have ok_S3 : S3.1.ok := E_S3 ▸ gSub_ok _ _
 have ok_N3 : N3.1.ok := E_N3 ▸ gNorm_ok _
 have h1 := fun W => vright_ok l b e W ok_l ok_b e1 e2
 have h2 := fun W hW => vcorners_0 l b e _ _ rfl rfl W ok_l ok_b e1 e2 hp hq hW
 rw [E_p] at h2
 rw [E_q] at h2
 have h3 := fun W hW => vmiddle_w l b e _ rfl W ok_l ok_b e1 e2 hW
 rw [E_M] at h3
 have h4 := fun W hW => gnear_w M.1 _ _ rfl rfl W ok_M hW
 rw [E_x] at h4
 rw [E_y] at h4
 have h5 := fun W hW => gcomplex_w x y _ _ rfl rfl W x1 x2 y1 y2 hW
 have s0 := fun W hW => gsub (⟨l, b⟩ : GY) Z W ⟨ok_l, ok_b⟩ ok_Z hW
 rw [E_S0] at s0
 have n0 := fun W hW => gnorm S0.1 W ok_S0 hW
 rw [E_N0] at n0
 have k0 := fun W => ccmp N0.1 DY.zero W ok_N0 DY.zero_ok
 rw [E_K0] at k0
 have s1 := fun W hW => gsub (⟨p, b⟩ : GY) Z W ⟨ok_p, ok_b⟩ ok_Z hW
 rw [E_S1] at s1
 have n1 := fun W hW => gnorm S1.1 W ok_S1 hW
 rw [E_N1] at n1
 have k1 := fun W => ccmp N1.1 N0.1 W ok_N1 ok_N0
 rw [E_K1] at k1
 have s2 := fun W hW => gsub (⟨l, q⟩ : GY) Z W ⟨ok_l, ok_q⟩ ok_Z hW
 rw [E_S2] at s2
 have n2 := fun W hW => gnorm S2.1 W ok_S2 hW
 rw [E_N2] at n2
 have k2 := fun W => ccmp N2.1 N0.1 W ok_N2 ok_N0
 rw [E_K2] at k2
 have s3 := fun W hW => gsub (⟨p, q⟩ : GY) Z W ⟨ok_p, ok_q⟩ ok_Z hW
 rw [E_S3] at s3
 have n3 := fun W hW => gnorm S3.1 W ok_S3 hW
 rw [E_N3] at n3
 have k3 := fun W => ccmp N3.1 N0.1 W ok_N3 ok_N0
 rw [E_K3] at k3
 have hr := fun W hW => vroot_yes N0.1 _ rfl W ok_N0 hr0 hW
 rw [E_R] at hr
 rw [show bstr DY.zero.x = { data := #[] } from bstr_zero, show DY.zero.n = false from rfl, show DY.zero.e = 0 from rfl] at k0
 rw [show flY x = Z.re from E_Z ▸ rfl, show flY y = Z.im from E_Z ▸ rfl] at h5
 clear E_p E_q E_M E_x E_y E_Z E_S0 E_N0 E_K0 E_S1 E_N1 E_K1 E_S2 E_N2 E_K2 E_S3 E_N3 E_K3 E_R ok_p ok_q ok_M ok_Z ok_S0 ok_N0 ok_S1 ok_N1 ok_S2 ok_N2 ok_S3 ok_N3 ok_l ok_b
 obtain ⟨ln, lX, le⟩ := l
 obtain ⟨bn, bX, be⟩ := b
 obtain ⟨pn, pX, pe⟩ := p
 obtain ⟨qn, qX, qe⟩ := q
 obtain ⟨⟨⟨Mn, MX, Me⟩, ⟨Mm, MY, Mf⟩⟩, Mr⟩ := M
 obtain ⟨⟨Zn, ZX, Ze⟩, ⟨Zm, ZY, Zf⟩⟩ := Z
 obtain ⟨⟨⟨S0n, S0X, S0e⟩, ⟨S0m, S0Y, S0f⟩⟩, S0r⟩ := S0
 obtain ⟨⟨N0n, N0X, N0e⟩, N0r⟩ := N0
 obtain ⟨⟨⟨S1n, S1X, S1e⟩, ⟨S1m, S1Y, S1f⟩⟩, S1r⟩ := S1
 obtain ⟨⟨N1n, N1X, N1e⟩, N1r⟩ := N1
 obtain ⟨⟨⟨S2n, S2X, S2e⟩, ⟨S2m, S2Y, S2f⟩⟩, S2r⟩ := S2
 obtain ⟨⟨N2n, N2X, N2e⟩, N2r⟩ := N2
 obtain ⟨⟨⟨S3n, S3X, S3e⟩, ⟨S3m, S3Y, S3f⟩⟩, S3r⟩ := S3
 obtain ⟨⟨N3n, N3X, N3e⟩, N3r⟩ := N3
 dsimp only at *
 generalize bstr lX = lS at *
 generalize bstr bX = bS at *
 generalize bstr pX = pS at *
 generalize bstr qX = qS at *
 generalize bstr MX = MS at *
 generalize bstr MY = MT at *
 generalize bstr ZX = ZS at *
 generalize bstr ZY = ZT at *
 generalize bstr S0X = S0S at *
 generalize bstr S0Y = S0T at *
 generalize bstr N0X = N0S at *
 generalize bstr S1X = S1S at *
 generalize bstr S1Y = S1T at *
 generalize bstr N1X = N1S at *
 generalize bstr S2X = S2S at *
 generalize bstr S2Y = S2T at *
 generalize bstr N2X = N2S at *
 generalize bstr S3X = S3S at *
 generalize bstr S3Y = S3T at *
 generalize bstr N3X = N3S at *
 have uM : (Mr != 0) = false := by simp [hM]
 have uS0 : (S0r != 0) = false := by simp [hS0]
 have uN0 : (N0r != 0) = false := by simp [hN0]
 have uS1 : (S1r != 0) = false := by simp [hS1]
 have uN1 : (N1r != 0) = false := by simp [hN1]
 have uS2 : (S2r != 0) = false := by simp [hS2]
 have uN2 : (N2r != 0) = false := by simp [hN2]
 have uS3 : (S3r != 0) = false := by simp [hS3]
 have uN3 : (N3r != 0) = false := by simp [hN3]
 clear hM hS0 hN0 hS1 hN1 hS2 hN2 hS3 hN3
 clear x1 x2 y1 y2 hp hq hr0 e1 e2
 have hst1 := fun (a : Addr) (v : Nat) (m : Mode) (W : World) => (run_store Tryz.prog W a (.float .f64 v) m rfl : (store a (.float .f64 v) m).run Tryz.prog W = stored Tryz.prog W a (.float .f64 v) m)
 have hst2 := fun (a : Addr) (v u : Nat) (m : Mode) (W : World) => (run_store Tryz.prog W a (.complex .f64 v u) m rfl : (store a (.complex .f64 v u) m).run Tryz.prog W = stored Tryz.prog W a (.complex .f64 v u) m)
 go_enter Tryz.func19, Tryz.ntmps19
 have B0 := Below.refl w.heap.size w
 have F1 := Blk.put (w) #[.bool ln, .string lS, .int .i64 le, .bool bn, .string bS, .int .i64 be, .int .i64 e] 26
 replace B0 := B0.alloc B0.size (.cells #[.bool ln, .string lS, .int .i64 le, .bool bn, .string bS, .int .i64 be, .int .i64 e] 26)
 have q_w_F2 : Hid (w.heap.size ≤ w.heap.size + 1) := Lib.hid (by omega)
 replace F1 := F1.allocd (.cells #[.complex .f64 0 0, .float .f64 0] 59)
 have F2 := Blk.put ((w).alloc (.cells #[.bool ln, .string lS, .int .i64 le, .bool bn, .string bS, .int .i64 be, .int .i64 e] 26)) #[.complex .f64 0 0, .float .f64 0] 59
 rw [show ((w).alloc (.cells #[.bool ln, .string lS, .int .i64 le, .bool bn, .string bS, .int .i64 be, .int .i64 e] 26)).heap.size = w.heap.size + 1 by simp] at F2
 replace B0 := B0.alloc B0.size (.cells #[.complex .f64 0 0, .float .f64 0] 59)
 obtain ⟨xF10_0, xF10_1, xF10_2, xF10_3, xF10_4, xF10_5, xF10_6⟩ := F1.ce7
 go_wp2_with fail
 (with_reducible refine (h1 _).mono ?_)
 rintro r w1 ⟨rfl, hb1⟩
 clear xF10_0 xF10_1 xF10_2 xF10_3 xF10_4 xF10_5 xF10_6
 replace F1 := F1.keep hb1
 replace F2 := F2.keep hb1
 replace B0 := B0.trans (hb1.mono B0.size)
 clear hb1
 obtain ⟨xF11_0, xF11_1, xF11_2, xF11_3, xF11_4, xF11_5, xF11_6⟩ := F1.ce7
 go_wp2_with fail
 (with_reducible refine (h2 _ (hT.below B0)).mono ?_)
 rintro r w2 ⟨rfl, hb2⟩
 clear xF11_0 xF11_1 xF11_2 xF11_3 xF11_4 xF11_5 xF11_6
 replace F1 := F1.keep hb2
 replace F2 := F2.keep hb2
 replace B0 := B0.trans (hb2.mono B0.size)
 clear hb2
 dsimp only
 go_step
 refine wpList_move rfl _ (.inl rfl) (.tuple #[.agg #[.bool ln, .string lS, .int .i64 le, .bool bn, .string bS, .int .i64 be, .bool pn, .string pS, .int .i64 pe, .bool bn, .string bS, .int .i64 be, .bool ln, .string lS, .int .i64 le, .bool qn, .string qS, .int .i64 qe, .bool pn, .string pS, .int .i64 pe, .bool qn, .string qS, .int .i64 qe], .int .i64 0]) rfl ?_
 (try dsimp only [Act.put]); (try go_frame)
 refine wpList_extract rfl _ 0 rfl _ (.agg #[.bool ln, .string lS, .int .i64 le, .bool bn, .string bS, .int .i64 be, .bool pn, .string pS, .int .i64 pe, .bool bn, .string bS, .int .i64 be, .bool ln, .string lS, .int .i64 le, .bool qn, .string qS, .int .i64 qe, .bool pn, .string pS, .int .i64 pe, .bool qn, .string qS, .int .i64 qe]) rfl rfl ?_
 (try dsimp only [Act.put]); (try go_frame)
 refine wpList_extract rfl _ 1 rfl _ (.int .i64 0) rfl rfl ?_
 (try dsimp only [Act.put]); (try go_frame)
 refine wpList_new rfl _ rfl _ Tryz.zeroValue29 ?_
 (try dsimp only [Act.put]); (try go_frame)
 refine wpList_store_new rfl _ _ _ rfl _ #[.bool ln, .string lS, .int .i64 le, .bool bn, .string bS, .int .i64 be, .bool pn, .string pS, .int .i64 pe, .bool bn, .string bS, .int .i64 be, .bool ln, .string lS, .int .i64 le, .bool qn, .string qS, .int .i64 qe, .bool pn, .string pS, .int .i64 pe, .bool qn, .string qS, .int .i64 qe] rfl rfl (by kernel_rfl) rfl (by simp [Value.oneCell']) ?_
 (try dsimp only [Act.put]); (try go_frame)
 replace F1 := F1.allocd (.cells #[.bool ln, .string lS, .int .i64 le, .bool bn, .string bS, .int .i64 be, .bool pn, .string pS, .int .i64 pe, .bool bn, .string bS, .int .i64 be, .bool ln, .string lS, .int .i64 le, .bool qn, .string qS, .int .i64 qe, .bool pn, .string pS, .int .i64 pe, .bool qn, .string qS, .int .i64 qe] 29)
 replace F2 := F2.allocd (.cells #[.bool ln, .string lS, .int .i64 le, .bool bn, .string bS, .int .i64 be, .bool pn, .string pS, .int .i64 pe, .bool bn, .string bS, .int .i64 be, .bool ln, .string lS, .int .i64 le, .bool qn, .string qS, .int .i64 qe, .bool pn, .string pS, .int .i64 pe, .bool qn, .string qS, .int .i64 qe] 29)
 have F4 := Blk.put (w2) #[.bool ln, .string lS, .int .i64 le, .bool bn, .string bS, .int .i64 be, .bool pn, .string pS, .int .i64 pe, .bool bn, .string bS, .int .i64 be, .bool ln, .string lS, .int .i64 le, .bool qn, .string qS, .int .i64 qe, .bool pn, .string pS, .int .i64 pe, .bool qn, .string qS, .int .i64 qe] 29
 replace B0 := B0.alloc B0.size (.cells #[.bool ln, .string lS, .int .i64 le, .bool bn, .string bS, .int .i64 be, .bool pn, .string pS, .int .i64 pe, .bool bn, .string bS, .int .i64 be, .bool ln, .string lS, .int .i64 le, .bool qn, .string qS, .int .i64 qe, .bool pn, .string pS, .int .i64 pe, .bool qn, .string qS, .int .i64 qe] 29)
 refine wpList_move rfl _ (.inr rfl) (.int .i64 0) rfl ?_
 (try dsimp only [Act.put]); (try go_frame)
 obtain ⟨xF12_0, xF12_1, xF12_2, xF12_3, xF12_4, xF12_5, xF12_6⟩ := F1.ce7
 go_wp2_with fail
 (with_reducible refine (h3 _ (hT.below B0)).mono ?_)
 rintro r w3 ⟨rfl, hb3⟩
 clear xF12_0 xF12_1 xF12_2 xF12_3 xF12_4 xF12_5 xF12_6
 replace F1 := F1.keep hb3
 replace F2 := F2.keep hb3
 replace F4 := F4.keep hb3
 replace B0 := B0.trans (hb3.mono B0.size)
 clear hb3
 clear F1
 replace F2 := F2.allocd (.cells #[.bool Mn, .string MS, .int .i64 Me, .bool Mm, .string MT, .int .i64 Mf] 28)
 replace F4 := F4.allocd (.cells #[.bool Mn, .string MS, .int .i64 Me, .bool Mm, .string MT, .int .i64 Mf] 28)
 have F6 := Blk.put (w3) #[.bool Mn, .string MS, .int .i64 Me, .bool Mm, .string MT, .int .i64 Mf] 28
 replace B0 := B0.alloc B0.size (.cells #[.bool Mn, .string MS, .int .i64 Me, .bool Mm, .string MT, .int .i64 Mf] 28)
 obtain ⟨xF63_0, xF63_1, xF63_2, xF63_3, xF63_4, xF63_5⟩ := F6.ce6
 go_wp2_with fail
 (with_reducible refine (h4 _ (hT.below B0)).mono ?_)
 rintro r w4 ⟨rfl, hb4⟩
 clear xF63_0 xF63_1 xF63_2 xF63_3 xF63_4 xF63_5
 replace F2 := F2.keep hb4
 replace F4 := F4.keep hb4
 replace F6 := F6.keep hb4
 replace B0 := B0.trans (hb4.mono B0.size)
 clear hb4
 go_wp2_with fail
 (with_reducible refine (h5 _ (hT.below B0)).mono ?_)
 rintro r w5 ⟨rfl, hb5⟩
 replace F2 := F2.keep hb5
 replace F4 := F4.keep hb5
 clear F6
 replace B0 := B0.trans (hb5.mono B0.size)
 clear hb5
 replace F2 := F2.allocd (.cells #[.bool Zn, .string ZS, .int .i64 Ze, .bool Zm, .string ZT, .int .i64 Zf] 28)
 replace F4 := F4.allocd (.cells #[.bool Zn, .string ZS, .int .i64 Ze, .bool Zm, .string ZT, .int .i64 Zf] 28)
 have F9 := Blk.put (w5) #[.bool Zn, .string ZS, .int .i64 Ze, .bool Zm, .string ZT, .int .i64 Zf] 28
 replace B0 := B0.alloc B0.size (.cells #[.bool Zn, .string ZS, .int .i64 Ze, .bool Zm, .string ZT, .int .i64 Zf] 28)
 have q_F2_F11 : Hid (w.heap.size + 1 < w5.heap.size + 1) := Lib.hid (by have := F2.lt; first | exact this | omega | (simp; done) | simpa using this)
 have q_F9_F11 : Hid (w5.heap.size < w5.heap.size + 1) := Lib.hid (by have := F9.lt; first | exact this | omega | (simp; done) | simpa using this)
 have q_w_F11 : Hid (w.heap.size ≤ w5.heap.size + 1) := Lib.hid (by have := B0.size; first | exact this | omega | (simp; done) | simpa using this)
 replace F2 := F2.allocd (.cells #[.bool false, .string { data := #[] }, .int .i64 0] 24)
 replace F4 := F4.allocd (.cells #[.bool false, .string { data := #[] }, .int .i64 0] 24)
 replace F9 := F9.allocd (.cells #[.bool false, .string { data := #[] }, .int .i64 0] 24)
 have F11 := Blk.put ((w5).alloc (.cells #[.bool Zn, .string ZS, .int .i64 Ze, .bool Zm, .string ZT, .int .i64 Zf] 28)) #[.bool false, .string { data := #[] }, .int .i64 0] 24
 rw [show ((w5).alloc (.cells #[.bool Zn, .string ZS, .int .i64 Ze, .bool Zm, .string ZT, .int .i64 Zf] 28)).heap.size = w5.heap.size + 1 by simp] at F11
 replace B0 := B0.alloc B0.size (.cells #[.bool false, .string { data := #[] }, .int .i64 0] 24)
 go_upto_region 14 with fail
 refine wp_region_lit ?_
 refine wpList_load_row rfl _ _ rfl (w2.heap.size) _ _ _ rfl F4 Tryz.underlying29 (by kernel_rfl) ?_
 (try dsimp only [Act.put]); (try go_frame)
 refine wpList_move rfl _ (.inl rfl) (.int .i64 0) rfl ?_
 (try dsimp only [Act.put]); (try go_frame)
 go_wp2_with fail
 refine wp_loop_rounds 5 ?_
 rw [rounds_succ]
 go_upto_region 16 with fail
 refine wp_region_lit ?_
 refine wpList_index rfl _ _ _ rfl _ _ _ #[.bool ln, .string lS, .int .i64 le, .bool bn, .string bS, .int .i64 be] _ 0 rfl rfl Tryz.underlying29 Tryz.sizeOf28 Tryz.isAgg28 (by omega) (by omega) rfl ?_
 (try dsimp only [Act.put]); (try go_frame)
 replace F2 := F2.allocd (.cells #[.bool ln, .string lS, .int .i64 le, .bool bn, .string bS, .int .i64 be] 28)
 replace F4 := F4.allocd (.cells #[.bool ln, .string lS, .int .i64 le, .bool bn, .string bS, .int .i64 be] 28)
 replace F9 := F9.allocd (.cells #[.bool ln, .string lS, .int .i64 le, .bool bn, .string bS, .int .i64 be] 28)
 replace F11 := F11.allocd (.cells #[.bool ln, .string lS, .int .i64 le, .bool bn, .string bS, .int .i64 be] 28)
 have F13r0 := Blk.put (((w5).alloc (.cells #[.bool Zn, .string ZS, .int .i64 Ze, .bool Zm, .string ZT, .int .i64 Zf] 28)).alloc (.cells #[.bool false, .string { data := #[] }, .int .i64 0] 24)) #[.bool ln, .string lS, .int .i64 le, .bool bn, .string bS, .int .i64 be] 28
 rw [show (((w5).alloc (.cells #[.bool Zn, .string ZS, .int .i64 Ze, .bool Zm, .string ZT, .int .i64 Zf] 28)).alloc (.cells #[.bool false, .string { data := #[] }, .int .i64 0] 24)).heap.size = w5.heap.size + 1 + 1 by simp] at F13r0
 replace B0 := B0.alloc B0.size (.cells #[.bool ln, .string lS, .int .i64 le, .bool bn, .string bS, .int .i64 be] 28)
 obtain ⟨xF13r05_0, xF13r05_1, xF13r05_2, xF13r05_3, xF13r05_4, xF13r05_5⟩ := F13r0.ce6
 obtain ⟨xF95_0, xF95_1, xF95_2, xF95_3, xF95_4, xF95_5⟩ := F9.ce6
 go_wp2_with fail
 (with_reducible refine (s0 _ (hT.below B0)).mono ?_)
 rintro r w6 ⟨rfl, hb6⟩
 clear xF13r05_0 xF13r05_1 xF13r05_2 xF13r05_3 xF13r05_4 xF13r05_5 xF95_0 xF95_1 xF95_2 xF95_3 xF95_4 xF95_5
 replace F2 := F2.keep hb6
 replace F4 := F4.keep hb6
 replace F9 := F9.keep hb6
 replace F11 := F11.keep hb6
 replace F13r0 := F13r0.keep hb6
 replace B0 := B0.trans (hb6.mono B0.size)
 clear hb6
 replace F2 := F2.allocd (.cells #[.bool S0n, .string S0S, .int .i64 S0e, .bool S0m, .string S0T, .int .i64 S0f] 28)
 clear F4
 replace F9 := F9.allocd (.cells #[.bool S0n, .string S0S, .int .i64 S0e, .bool S0m, .string S0T, .int .i64 S0f] 28)
 replace F11 := F11.allocd (.cells #[.bool S0n, .string S0S, .int .i64 S0e, .bool S0m, .string S0T, .int .i64 S0f] 28)
 clear F13r0
 have F14r0 := Blk.put (w6) #[.bool S0n, .string S0S, .int .i64 S0e, .bool S0m, .string S0T, .int .i64 S0f] 28
 replace B0 := B0.alloc B0.size (.cells #[.bool S0n, .string S0S, .int .i64 S0e, .bool S0m, .string S0T, .int .i64 S0f] 28)
 obtain ⟨xF14r06_0, xF14r06_1, xF14r06_2, xF14r06_3, xF14r06_4, xF14r06_5⟩ := F14r0.ce6
 go_wp2_with fail
 (with_reducible refine (n0 _ (hT.below B0)).mono ?_)
 rintro r w7 ⟨rfl, hb7⟩
 clear xF14r06_0 xF14r06_1 xF14r06_2 xF14r06_3 xF14r06_4 xF14r06_5
 replace F2 := F2.keep hb7
 replace F9 := F9.keep hb7
 replace F11 := F11.keep hb7
 replace F14r0 := F14r0.keep hb7
 replace B0 := B0.trans (hb7.mono B0.size)
 clear hb7
 have q_F11_F16r0 : Hid (w5.heap.size + 1 < w7.heap.size) := Lib.hid (by have := F11.lt; first | exact this | omega | (simp; done) | simpa using this)
 replace F2 := F2.allocd (.cells #[.bool N0n, .string N0S, .int .i64 N0e] 24)
 replace F9 := F9.allocd (.cells #[.bool N0n, .string N0S, .int .i64 N0e] 24)
 replace F11 := F11.allocd (.cells #[.bool N0n, .string N0S, .int .i64 N0e] 24)
 clear F14r0
 have F16r0 := Blk.put (w7) #[.bool N0n, .string N0S, .int .i64 N0e] 24
 replace B0 := B0.alloc B0.size (.cells #[.bool N0n, .string N0S, .int .i64 N0e] 24)
 obtain ⟨xF16r07_0, xF16r07_1, xF16r07_2⟩ := F16r0.ce3
 obtain ⟨xF117_0, xF117_1, xF117_2⟩ := F11.ce3
 go_wp2_with fail
 (with_reducible refine (k0 _).mono ?_)
 rintro r w8 ⟨rfl, hb8⟩
 clear xF16r07_0 xF16r07_1 xF16r07_2 xF117_0 xF117_1 xF117_2
 replace F2 := F2.keep hb8
 replace F9 := F9.keep hb8
 replace F11 := F11.keep hb8
 replace F16r0 := F16r0.keep hb8
 replace B0 := B0.trans (hb8.mono B0.size)
 clear hb8
 obtain ⟨xF16r08_0, xF16r08_1, xF16r08_2⟩ := F16r0.ce3
 obtain ⟨xF118_0, xF118_1, xF118_2⟩ := F11.ce3
 obtain ⟨xF118_0f, xF118_1f, xF118_2f⟩ := F11.fr3
 replace F2 := (((F2.far 0 (.bool N0n) (Nat.ne_of_lt q_F2_F11.out)).far 1 (.string N0S) (Nat.ne_of_lt q_F2_F11.out)).far 2 (.int .i64 N0e) (Nat.ne_of_lt q_F2_F11.out))
 replace F9 := (((F9.far 0 (.bool N0n) (Nat.ne_of_lt q_F9_F11.out)).far 1 (.string N0S) (Nat.ne_of_lt q_F9_F11.out)).far 2 (.int .i64 N0e) (Nat.ne_of_lt q_F9_F11.out))
 replace F16r0 := (((F16r0.far 0 (.bool N0n) (Nat.ne_of_gt q_F11_F16r0.out)).far 1 (.string N0S) (Nat.ne_of_gt q_F11_F16r0.out)).far 2 (.int .i64 N0e) (Nat.ne_of_gt q_F11_F16r0.out))
 replace F11 : Blk ((((w8).setCell ⟨w5.heap.size + 1, 0, none⟩ (.bool N0n)).setCell ⟨w5.heap.size + 1, 1, none⟩ (.string N0S)).setCell ⟨w5.heap.size + 1, 2, none⟩ (.int .i64 N0e)) (w5.heap.size + 1) #[.bool N0n, .string N0S, .int .i64 N0e] 24 := (((F11.setAt 0 (.bool N0n)).setAt 1 (.string N0S)).setAt 2 (.int .i64 N0e))
 replace B0 := (((B0.setCell (p := ⟨w5.heap.size + 1, 0, none⟩) q_w_F11.out (.bool N0n)).setCell (p := ⟨w5.heap.size + 1, 1, none⟩) q_w_F11.out (.string N0S)).setCell (p := ⟨w5.heap.size + 1, 2, none⟩) q_w_F11.out (.int .i64 N0e))
 go_wp2_with fail
 clear xF16r08_0 xF16r08_1 xF16r08_2 xF118_0 xF118_1 xF118_2 xF118_0f xF118_1f xF118_2f
 rw [rounds_succ]
 go_upto_region 16 with fail
 refine wp_region_lit ?_
 refine wpList_index rfl _ _ _ rfl _ _ _ #[.bool pn, .string pS, .int .i64 pe, .bool bn, .string bS, .int .i64 be] _ 1 rfl rfl Tryz.underlying29 Tryz.sizeOf28 Tryz.isAgg28 (by omega) (by omega) rfl ?_
 (try dsimp only [Act.put]); (try go_frame)
 replace F2 := F2.allocd (.cells #[.bool pn, .string pS, .int .i64 pe, .bool bn, .string bS, .int .i64 be] 28)
 replace F9 := F9.allocd (.cells #[.bool pn, .string pS, .int .i64 pe, .bool bn, .string bS, .int .i64 be] 28)
 replace F11 := F11.allocd (.cells #[.bool pn, .string pS, .int .i64 pe, .bool bn, .string bS, .int .i64 be] 28)
 replace F16r0 := F16r0.allocd (.cells #[.bool pn, .string pS, .int .i64 pe, .bool bn, .string bS, .int .i64 be] 28)
 have F13r1 := Blk.put ((((w8).setCell ⟨w5.heap.size + 1, 0, none⟩ (.bool N0n)).setCell ⟨w5.heap.size + 1, 1, none⟩ (.string N0S)).setCell ⟨w5.heap.size + 1, 2, none⟩ (.int .i64 N0e)) #[.bool pn, .string pS, .int .i64 pe, .bool bn, .string bS, .int .i64 be] 28
 rw [show ((((w8).setCell ⟨w5.heap.size + 1, 0, none⟩ (.bool N0n)).setCell ⟨w5.heap.size + 1, 1, none⟩ (.string N0S)).setCell ⟨w5.heap.size + 1, 2, none⟩ (.int .i64 N0e)).heap.size = w8.heap.size by simp] at F13r1
 replace B0 := B0.alloc B0.size (.cells #[.bool pn, .string pS, .int .i64 pe, .bool bn, .string bS, .int .i64 be] 28)
 obtain ⟨xF13r19_0, xF13r19_1, xF13r19_2, xF13r19_3, xF13r19_4, xF13r19_5⟩ := F13r1.ce6
 obtain ⟨xF99_0, xF99_1, xF99_2, xF99_3, xF99_4, xF99_5⟩ := F9.ce6
 go_wp2_with fail
 (with_reducible refine (s1 _ (hT.below B0)).mono ?_)
 rintro r w9 ⟨rfl, hb9⟩
 clear xF13r19_0 xF13r19_1 xF13r19_2 xF13r19_3 xF13r19_4 xF13r19_5 xF99_0 xF99_1 xF99_2 xF99_3 xF99_4 xF99_5
 replace F2 := F2.keep hb9
 replace F9 := F9.keep hb9
 replace F11 := F11.keep hb9
 replace F16r0 := F16r0.keep hb9
 replace F13r1 := F13r1.keep hb9
 replace B0 := B0.trans (hb9.mono B0.size)
 clear hb9
 replace F2 := F2.allocd (.cells #[.bool S1n, .string S1S, .int .i64 S1e, .bool S1m, .string S1T, .int .i64 S1f] 28)
 replace F9 := F9.allocd (.cells #[.bool S1n, .string S1S, .int .i64 S1e, .bool S1m, .string S1T, .int .i64 S1f] 28)
 replace F11 := F11.allocd (.cells #[.bool S1n, .string S1S, .int .i64 S1e, .bool S1m, .string S1T, .int .i64 S1f] 28)
 clear F16r0
 clear F13r1
 have F14r1 := Blk.put (w9) #[.bool S1n, .string S1S, .int .i64 S1e, .bool S1m, .string S1T, .int .i64 S1f] 28
 replace B0 := B0.alloc B0.size (.cells #[.bool S1n, .string S1S, .int .i64 S1e, .bool S1m, .string S1T, .int .i64 S1f] 28)
 obtain ⟨xF14r110_0, xF14r110_1, xF14r110_2, xF14r110_3, xF14r110_4, xF14r110_5⟩ := F14r1.ce6
 go_wp2_with fail
 (with_reducible refine (n1 _ (hT.below B0)).mono ?_)
 rintro r w10 ⟨rfl, hb10⟩
 clear xF14r110_0 xF14r110_1 xF14r110_2 xF14r110_3 xF14r110_4 xF14r110_5
 replace F2 := F2.keep hb10
 replace F9 := F9.keep hb10
 replace F11 := F11.keep hb10
 replace F14r1 := F14r1.keep hb10
 replace B0 := B0.trans (hb10.mono B0.size)
 clear hb10
 replace F2 := F2.allocd (.cells #[.bool N1n, .string N1S, .int .i64 N1e] 24)
 replace F9 := F9.allocd (.cells #[.bool N1n, .string N1S, .int .i64 N1e] 24)
 replace F11 := F11.allocd (.cells #[.bool N1n, .string N1S, .int .i64 N1e] 24)
 clear F14r1
 have F16r1 := Blk.put (w10) #[.bool N1n, .string N1S, .int .i64 N1e] 24
 replace B0 := B0.alloc B0.size (.cells #[.bool N1n, .string N1S, .int .i64 N1e] 24)
 obtain ⟨xF16r111_0, xF16r111_1, xF16r111_2⟩ := F16r1.ce3
 obtain ⟨xF1111_0, xF1111_1, xF1111_2⟩ := F11.ce3
 go_wp2_with fail
 (with_reducible refine (k1 _).mono ?_)
 rintro r w11 ⟨rfl, hb11⟩
 clear xF16r111_0 xF16r111_1 xF16r111_2 xF1111_0 xF1111_1 xF1111_2
 replace F2 := F2.keep hb11
 replace F9 := F9.keep hb11
 replace F11 := F11.keep hb11
 replace F16r1 := F16r1.keep hb11
 replace B0 := B0.trans (hb11.mono B0.size)
 clear hb11
 go_wp2_with fail
 rw [rounds_succ]
 go_upto_region 16 with fail
 refine wp_region_lit ?_
 refine wpList_index rfl _ _ _ rfl _ _ _ #[.bool ln, .string lS, .int .i64 le, .bool qn, .string qS, .int .i64 qe] _ 2 rfl rfl Tryz.underlying29 Tryz.sizeOf28 Tryz.isAgg28 (by omega) (by omega) rfl ?_
 (try dsimp only [Act.put]); (try go_frame)
 replace F2 := F2.allocd (.cells #[.bool ln, .string lS, .int .i64 le, .bool qn, .string qS, .int .i64 qe] 28)
 replace F9 := F9.allocd (.cells #[.bool ln, .string lS, .int .i64 le, .bool qn, .string qS, .int .i64 qe] 28)
 replace F11 := F11.allocd (.cells #[.bool ln, .string lS, .int .i64 le, .bool qn, .string qS, .int .i64 qe] 28)
 clear F16r1
 have F13r2 := Blk.put (w11) #[.bool ln, .string lS, .int .i64 le, .bool qn, .string qS, .int .i64 qe] 28
 replace B0 := B0.alloc B0.size (.cells #[.bool ln, .string lS, .int .i64 le, .bool qn, .string qS, .int .i64 qe] 28)
 obtain ⟨xF13r212_0, xF13r212_1, xF13r212_2, xF13r212_3, xF13r212_4, xF13r212_5⟩ := F13r2.ce6
 obtain ⟨xF912_0, xF912_1, xF912_2, xF912_3, xF912_4, xF912_5⟩ := F9.ce6
 go_wp2_with fail
 (with_reducible refine (s2 _ (hT.below B0)).mono ?_)
 rintro r w12 ⟨rfl, hb12⟩
 clear xF13r212_0 xF13r212_1 xF13r212_2 xF13r212_3 xF13r212_4 xF13r212_5 xF912_0 xF912_1 xF912_2 xF912_3 xF912_4 xF912_5
 replace F2 := F2.keep hb12
 replace F9 := F9.keep hb12
 replace F11 := F11.keep hb12
 replace F13r2 := F13r2.keep hb12
 replace B0 := B0.trans (hb12.mono B0.size)
 clear hb12
 replace F2 := F2.allocd (.cells #[.bool S2n, .string S2S, .int .i64 S2e, .bool S2m, .string S2T, .int .i64 S2f] 28)
 replace F9 := F9.allocd (.cells #[.bool S2n, .string S2S, .int .i64 S2e, .bool S2m, .string S2T, .int .i64 S2f] 28)
 replace F11 := F11.allocd (.cells #[.bool S2n, .string S2S, .int .i64 S2e, .bool S2m, .string S2T, .int .i64 S2f] 28)
 clear F13r2
 have F14r2 := Blk.put (w12) #[.bool S2n, .string S2S, .int .i64 S2e, .bool S2m, .string S2T, .int .i64 S2f] 28
 replace B0 := B0.alloc B0.size (.cells #[.bool S2n, .string S2S, .int .i64 S2e, .bool S2m, .string S2T, .int .i64 S2f] 28)
 obtain ⟨xF14r213_0, xF14r213_1, xF14r213_2, xF14r213_3, xF14r213_4, xF14r213_5⟩ := F14r2.ce6
 go_wp2_with fail
 (with_reducible refine (n2 _ (hT.below B0)).mono ?_)
 rintro r w13 ⟨rfl, hb13⟩
 clear xF14r213_0 xF14r213_1 xF14r213_2 xF14r213_3 xF14r213_4 xF14r213_5
 replace F2 := F2.keep hb13
 replace F9 := F9.keep hb13
 replace F11 := F11.keep hb13
 replace F14r2 := F14r2.keep hb13
 replace B0 := B0.trans (hb13.mono B0.size)
 clear hb13
 replace F2 := F2.allocd (.cells #[.bool N2n, .string N2S, .int .i64 N2e] 24)
 replace F9 := F9.allocd (.cells #[.bool N2n, .string N2S, .int .i64 N2e] 24)
 replace F11 := F11.allocd (.cells #[.bool N2n, .string N2S, .int .i64 N2e] 24)
 clear F14r2
 have F16r2 := Blk.put (w13) #[.bool N2n, .string N2S, .int .i64 N2e] 24
 replace B0 := B0.alloc B0.size (.cells #[.bool N2n, .string N2S, .int .i64 N2e] 24)
 obtain ⟨xF16r214_0, xF16r214_1, xF16r214_2⟩ := F16r2.ce3
 obtain ⟨xF1114_0, xF1114_1, xF1114_2⟩ := F11.ce3
 go_wp2_with fail
 (with_reducible refine (k2 _).mono ?_)
 rintro r w14 ⟨rfl, hb14⟩
 clear xF16r214_0 xF16r214_1 xF16r214_2 xF1114_0 xF1114_1 xF1114_2
 replace F2 := F2.keep hb14
 replace F9 := F9.keep hb14
 replace F11 := F11.keep hb14
 replace F16r2 := F16r2.keep hb14
 replace B0 := B0.trans (hb14.mono B0.size)
 clear hb14
 go_wp2_with fail
 rw [rounds_succ]
 go_upto_region 16 with fail
 refine wp_region_lit ?_
 refine wpList_index rfl _ _ _ rfl _ _ _ #[.bool pn, .string pS, .int .i64 pe, .bool qn, .string qS, .int .i64 qe] _ 3 rfl rfl Tryz.underlying29 Tryz.sizeOf28 Tryz.isAgg28 (by omega) (by omega) rfl ?_
 (try dsimp only [Act.put]); (try go_frame)
 replace F2 := F2.allocd (.cells #[.bool pn, .string pS, .int .i64 pe, .bool qn, .string qS, .int .i64 qe] 28)
 replace F9 := F9.allocd (.cells #[.bool pn, .string pS, .int .i64 pe, .bool qn, .string qS, .int .i64 qe] 28)
 replace F11 := F11.allocd (.cells #[.bool pn, .string pS, .int .i64 pe, .bool qn, .string qS, .int .i64 qe] 28)
 clear F16r2
 have F13r3 := Blk.put (w14) #[.bool pn, .string pS, .int .i64 pe, .bool qn, .string qS, .int .i64 qe] 28
 replace B0 := B0.alloc B0.size (.cells #[.bool pn, .string pS, .int .i64 pe, .bool qn, .string qS, .int .i64 qe] 28)
 obtain ⟨xF13r315_0, xF13r315_1, xF13r315_2, xF13r315_3, xF13r315_4, xF13r315_5⟩ := F13r3.ce6
 obtain ⟨xF915_0, xF915_1, xF915_2, xF915_3, xF915_4, xF915_5⟩ := F9.ce6
 go_wp2_with fail
 (with_reducible refine (s3 _ (hT.below B0)).mono ?_)
 rintro r w15 ⟨rfl, hb15⟩
 clear xF13r315_0 xF13r315_1 xF13r315_2 xF13r315_3 xF13r315_4 xF13r315_5 xF915_0 xF915_1 xF915_2 xF915_3 xF915_4 xF915_5
 replace F2 := F2.keep hb15
 replace F9 := F9.keep hb15
 replace F11 := F11.keep hb15
 replace F13r3 := F13r3.keep hb15
 replace B0 := B0.trans (hb15.mono B0.size)
 clear hb15
 replace F2 := F2.allocd (.cells #[.bool S3n, .string S3S, .int .i64 S3e, .bool S3m, .string S3T, .int .i64 S3f] 28)
 clear F9
 replace F11 := F11.allocd (.cells #[.bool S3n, .string S3S, .int .i64 S3e, .bool S3m, .string S3T, .int .i64 S3f] 28)
 clear F13r3
 have F14r3 := Blk.put (w15) #[.bool S3n, .string S3S, .int .i64 S3e, .bool S3m, .string S3T, .int .i64 S3f] 28
 replace B0 := B0.alloc B0.size (.cells #[.bool S3n, .string S3S, .int .i64 S3e, .bool S3m, .string S3T, .int .i64 S3f] 28)
 obtain ⟨xF14r316_0, xF14r316_1, xF14r316_2, xF14r316_3, xF14r316_4, xF14r316_5⟩ := F14r3.ce6
 go_wp2_with fail
 (with_reducible refine (n3 _ (hT.below B0)).mono ?_)
 rintro r w16 ⟨rfl, hb16⟩
 clear xF14r316_0 xF14r316_1 xF14r316_2 xF14r316_3 xF14r316_4 xF14r316_5
 replace F2 := F2.keep hb16
 replace F11 := F11.keep hb16
 replace F14r3 := F14r3.keep hb16
 replace B0 := B0.trans (hb16.mono B0.size)
 clear hb16
 replace F2 := F2.allocd (.cells #[.bool N3n, .string N3S, .int .i64 N3e] 24)
 replace F11 := F11.allocd (.cells #[.bool N3n, .string N3S, .int .i64 N3e] 24)
 clear F14r3
 have F16r3 := Blk.put (w16) #[.bool N3n, .string N3S, .int .i64 N3e] 24
 replace B0 := B0.alloc B0.size (.cells #[.bool N3n, .string N3S, .int .i64 N3e] 24)
 obtain ⟨xF16r317_0, xF16r317_1, xF16r317_2⟩ := F16r3.ce3
 obtain ⟨xF1117_0, xF1117_1, xF1117_2⟩ := F11.ce3
 go_wp2_with fail
 (with_reducible refine (k3 _).mono ?_)
 rintro r w17 ⟨rfl, hb17⟩
 clear xF16r317_0 xF16r317_1 xF16r317_2 xF1117_0 xF1117_1 xF1117_2
 replace F2 := F2.keep hb17
 replace F11 := F11.keep hb17
 replace F16r3 := F16r3.keep hb17
 replace B0 := B0.trans (hb17.mono B0.size)
 clear hb17
 go_wp2_with fail
 rw [rounds_succ]
 obtain ⟨xF1118_0, xF1118_1, xF1118_2⟩ := F11.ce3
 go_wp2_with fail
 (with_reducible refine (hr _ (hT.below B0)).mono ?_)
 rintro r w18 ⟨rfl, hb18⟩
 clear xF1118_0 xF1118_1 xF1118_2
 replace F2 := F2.keep hb18
 replace F11 := F11.keep hb18
 clear F16r3
 replace B0 := B0.trans (hb18.mono B0.size)
 clear hb18
 obtain ⟨xF219_0, xF219_1⟩ := F2.ce2
 obtain ⟨xF219_0f, xF219_1f⟩ := F2.fr2
 clear F11
 replace F2 : Blk (((w18).setCell ⟨w.heap.size + 1, 0, none⟩ (.complex .f64 x y)).setCell ⟨w.heap.size + 1, 1, none⟩ (.float .f64 R)) (w.heap.size + 1) #[.complex .f64 x y, .float .f64 R] 59 := ((F2.setAt 0 (.complex .f64 x y)).setAt 1 (.float .f64 R))
 replace B0 := ((B0.setCell (p := ⟨w.heap.size + 1, 0, none⟩) q_w_F2.out (.complex .f64 x y)).setCell (p := ⟨w.heap.size + 1, 1, none⟩) q_w_F2.out (.float .f64 R))
 obtain ⟨xF220_0, xF220_1⟩ := F2.ce2
 go_wp2
 exact bodyPost_ret (v := .tuple #[.agg #[.complex .f64 x y, .float .f64 R], .int .i64 0]) (by simp [results, Tryz.results19, go_sem, xF220_0, xF220_1]) rfl ⟨rfl, B0⟩

end Go.Proofs.YtfbkopepkklkjaaGreatDoor
