/- Walks of view.Holds. -/
import Derived.Test.YtfbkopepkklkjaaGreatDoorQ7
namespace Go.Proofs.YtfbkopepkklkjaaGreatDoor
open Go Go.RowKit Go.PlainAid Fil


set_option maxRecDepth 1000000 in
set_option maxHeartbeats 16000000 in
theorem vholds_w (l : DY) (b : DY) (e : Int) (g : GY) (p : DY) (q : DY) (K0 : Int) (K1 : Int) (K2 : Int) (K3 : Int) (E_p : (vM l 2 (e - 1)).1 = p) (E_q : (vM b 2 (e - 1)).1 = q) (E_K0 : yCmp l g.re = K0) (E_K1 : yCmp g.re p = K1) (E_K2 : yCmp b g.im = K2) (E_K3 : yCmp g.im q = K3) (w : World) (ok_l : l.ok) (ok_b : b.ok) (ok_g : g.ok) (e1 : -4096 ≤ e) (e2 : e ≤ 4096) (hp : (vM l 2 (e - 1)).2 = 0) (hq : (vM b 2 (e - 1)).2 = 0) (hT : Tab w) :
    Calls Tryz.prog 7 #[.agg #[.bool l.n, .string (bstr l.x), .int .i64 l.e, .bool b.n, .string (bstr b.x), .int .i64 b.e, .int .i64 e], .agg #[.bool g.re.n, .string (bstr g.re.x), .int .i64 g.re.e, .bool g.im.n, .string (bstr g.im.x), .int .i64 g.im.e]] w fun r w' => r = .returned (.tuple #[.bool (decide (K0 ≤ 0) && (decide (K1 ≤ 0) && (decide (K2 ≤ 0) && decide (K3 ≤ 0)))), .int .i64 0]) ∧ Below w.heap.size w w' := by
  have ok_p : p.ok := E_p ▸ vM_ok _ _ _
  have ok_q : q.ok := E_q ▸ vM_ok _ _ _
  have h1 := fun W => vright_ok l b e W ok_l ok_b e1 e2
  have h2 := fun W => gcheck_ok g W ok_g
  have h3 := fun W hW => vcorners_0 l b e _ _ rfl rfl W ok_l ok_b e1 e2 hp hq hW
  rw [E_p] at h3
  rw [E_q] at h3
  have k0 := fun W => ccmp l g.re W ok_l ok_g.1
  rw [E_K0] at k0
  have k1 := fun W => ccmp g.re p W ok_g.1 ok_p
  rw [E_K1] at k1
  have k2 := fun W => ccmp b g.im W ok_b ok_g.2
  rw [E_K2] at k2
  have k3 := fun W => ccmp g.im q W ok_g.2 ok_q
  rw [E_K3] at k3
  clear E_p E_q E_K0 E_K1 E_K2 E_K3 ok_p ok_q ok_l ok_b ok_g
  obtain ⟨ln, lX, le⟩ := l
  obtain ⟨bn, bX, be⟩ := b
  obtain ⟨⟨gn, gX, ge⟩, ⟨gm, gY, gf⟩⟩ := g
  obtain ⟨pn, pX, pe⟩ := p
  obtain ⟨qn, qX, qe⟩ := q
  dsimp only at *
  generalize bstr lX = lS at *
  generalize bstr bX = bS at *
  generalize bstr gX = gS at *
  generalize bstr gY = gT at *
  generalize bstr pX = pS at *
  generalize bstr qX = qS at *
  clear e1 e2 hp hq
  go_enter Tryz.func7, Tryz.ntmps7
  have B0 := Below.refl w.heap.size w
  have F2 := Blk.put (w) #[.bool ln, .string lS, .int .i64 le, .bool bn, .string bS, .int .i64 be, .int .i64 e] 26
  replace B0 := B0.alloc B0.size (.cells #[.bool ln, .string lS, .int .i64 le, .bool bn, .string bS, .int .i64 be, .int .i64 e] 26)
  replace F2 := F2.allocd (.cells #[.bool gn, .string gS, .int .i64 ge, .bool gm, .string gT, .int .i64 gf] 28)
  have F3 := Blk.put ((w).alloc (.cells #[.bool ln, .string lS, .int .i64 le, .bool bn, .string bS, .int .i64 be, .int .i64 e] 26)) #[.bool gn, .string gS, .int .i64 ge, .bool gm, .string gT, .int .i64 gf] 28
  rw [show ((w).alloc (.cells #[.bool ln, .string lS, .int .i64 le, .bool bn, .string bS, .int .i64 be, .int .i64 e] 26)).heap.size = w.heap.size + 1 by simp] at F3
  replace B0 := B0.alloc B0.size (.cells #[.bool gn, .string gS, .int .i64 ge, .bool gm, .string gT, .int .i64 gf] 28)
  obtain ⟨xF20_0, xF20_1, xF20_2, xF20_3, xF20_4, xF20_5, xF20_6⟩ := F2.ce7
  go_wp2_with fail
  (with_reducible refine (h1 _).mono ?_)
  rintro r w1 ⟨rfl, hb1⟩
  clear xF20_0 xF20_1 xF20_2 xF20_3 xF20_4 xF20_5 xF20_6
  replace F2 := F2.keep hb1
  replace F3 := F3.keep hb1
  replace B0 := B0.trans (hb1.mono B0.size)
  clear hb1
  obtain ⟨xF31_0, xF31_1, xF31_2, xF31_3, xF31_4, xF31_5⟩ := F3.ce6
  go_wp2_with fail
  (with_reducible refine (h2 _).mono ?_)
  rintro r w2 ⟨rfl, hb2⟩
  clear xF31_0 xF31_1 xF31_2 xF31_3 xF31_4 xF31_5
  replace F2 := F2.keep hb2
  replace F3 := F3.keep hb2
  replace B0 := B0.trans (hb2.mono B0.size)
  clear hb2
  obtain ⟨xF22_0, xF22_1, xF22_2, xF22_3, xF22_4, xF22_5, xF22_6⟩ := F2.ce7
  go_wp2_with fail
  (with_reducible refine (h3 _ (hT.below B0)).mono ?_)
  rintro r w3 ⟨rfl, hb3⟩
  clear xF22_0 xF22_1 xF22_2 xF22_3 xF22_4 xF22_5 xF22_6
  replace F2 := F2.keep hb3
  replace F3 := F3.keep hb3
  replace B0 := B0.trans (hb3.mono B0.size)
  clear hb3
  dsimp only
  go_step
  refine wpList_move rfl _ (.inl rfl) (.tuple #[.agg #[.bool ln, .string lS, .int .i64 le, .bool bn, .string bS, .int .i64 be, .bool pn, .string pS, .int .i64 pe, .bool bn, .string bS, .int .i64 be, .bool ln, .string lS, .int .i64 le, .bool qn, .string qS, .int .i64 qe, .bool pn, .string pS, .int .i64 pe, .bool qn, .string qS, .int .i64 qe], .int .i64 0]) rfl ?_
  (try dsimp only [Act.put]); (try go_frame)
  refine wpList_extract rfl _ 0 rfl _ (.agg #[.bool ln, .string lS, .int .i64 le, .bool bn, .string bS, .int .i64 be, .bool pn, .string pS, .int .i64 pe, .bool bn, .string bS, .int .i64 be, .bool ln, .string lS, .int .i64 le, .bool qn, .string qS, .int .i64 qe, .bool pn, .string pS, .int .i64 pe, .bool qn, .string qS, .int .i64 qe]) rfl rfl ?_
  (try dsimp only [Act.put]); (try go_frame)
  refine wpList_extract rfl _ 1 rfl _ (.int .i64 0) rfl rfl ?_
  (try dsimp only [Act.put]); (try go_frame)
  refine wpList_new rfl _ rfl _ Tryz.zeroValue29 ?_
  (try dsimp only [Act.put]); (try go_frame)
  refine wpList_store_new rfl _ _ _ rfl _ #[.bool ln, .string lS, .int .i64 le, .bool bn, .string bS, .int .i64 be, .bool pn, .string pS, .int .i64 pe, .bool bn, .string bS, .int .i64 be, .bool ln, .string lS, .int .i64 le, .bool qn, .string qS, .int .i64 qe, .bool pn, .string pS, .int .i64 pe, .bool qn, .string qS, .int .i64 qe] rfl rfl (by kernel_rfl) rfl (by simp [Value.oneCell']) ?_
  (try dsimp only [Act.put]); (try go_frame)
  replace F2 := F2.allocd (.cells #[.bool ln, .string lS, .int .i64 le, .bool bn, .string bS, .int .i64 be, .bool pn, .string pS, .int .i64 pe, .bool bn, .string bS, .int .i64 be, .bool ln, .string lS, .int .i64 le, .bool qn, .string qS, .int .i64 qe, .bool pn, .string pS, .int .i64 pe, .bool qn, .string qS, .int .i64 qe] 29)
  replace F3 := F3.allocd (.cells #[.bool ln, .string lS, .int .i64 le, .bool bn, .string bS, .int .i64 be, .bool pn, .string pS, .int .i64 pe, .bool bn, .string bS, .int .i64 be, .bool ln, .string lS, .int .i64 le, .bool qn, .string qS, .int .i64 qe, .bool pn, .string pS, .int .i64 pe, .bool qn, .string qS, .int .i64 qe] 29)
  have F6 := Blk.put (w3) #[.bool ln, .string lS, .int .i64 le, .bool bn, .string bS, .int .i64 be, .bool pn, .string pS, .int .i64 pe, .bool bn, .string bS, .int .i64 be, .bool ln, .string lS, .int .i64 le, .bool qn, .string qS, .int .i64 qe, .bool pn, .string pS, .int .i64 pe, .bool qn, .string qS, .int .i64 qe] 29
  replace B0 := B0.alloc B0.size (.cells #[.bool ln, .string lS, .int .i64 le, .bool bn, .string bS, .int .i64 be, .bool pn, .string pS, .int .i64 pe, .bool bn, .string bS, .int .i64 be, .bool ln, .string lS, .int .i64 le, .bool qn, .string qS, .int .i64 qe, .bool pn, .string pS, .int .i64 pe, .bool qn, .string qS, .int .i64 qe] 29)
  refine wpList_move rfl _ (.inr rfl) (.int .i64 0) rfl ?_
  (try dsimp only [Act.put]); (try go_frame)
  obtain ⟨xF23_0, xF23_1, xF23_2, xF23_3, xF23_4, xF23_5, xF23_6⟩ := F2.ce7
  obtain ⟨xF33_0, xF33_1, xF33_2, xF33_3, xF33_4, xF33_5⟩ := F3.ce6
  go_wp2_with fail
  (with_reducible refine (k0 _).mono ?_)
  rintro r w4 ⟨rfl, hb4⟩
  clear xF23_0 xF23_1 xF23_2 xF23_3 xF23_4 xF23_5 xF23_6 xF33_0 xF33_1 xF33_2 xF33_3 xF33_4 xF33_5
  replace F2 := F2.keep hb4
  replace F3 := F3.keep hb4
  replace F6 := F6.keep hb4
  replace B0 := B0.trans (hb4.mono B0.size)
  clear hb4
  obtain ⟨xF34_0, xF34_1, xF34_2, xF34_3, xF34_4, xF34_5⟩ := F3.ce6
  have yF64_18 : (w4).cell? ⟨w3.heap.size, 18, none⟩ = some (.bool pn) := F6.at 18 (by simp)
  have yF64_19 : (w4).cell? ⟨w3.heap.size, 19, none⟩ = some (.string pS) := F6.at 19 (by simp)
  have yF64_20 : (w4).cell? ⟨w3.heap.size, 20, none⟩ = some (.int .i64 pe) := F6.at 20 (by simp)
  go_wp2_with fail
  (with_reducible refine (k1 _).mono ?_)
  rintro r w5 ⟨rfl, hb5⟩
  clear xF34_0 xF34_1 xF34_2 xF34_3 xF34_4 xF34_5 yF64_18 yF64_19 yF64_20
  replace F2 := F2.keep hb5
  replace F3 := F3.keep hb5
  replace F6 := F6.keep hb5
  replace B0 := B0.trans (hb5.mono B0.size)
  clear hb5
  obtain ⟨xF25_0, xF25_1, xF25_2, xF25_3, xF25_4, xF25_5, xF25_6⟩ := F2.ce7
  obtain ⟨xF35_0, xF35_1, xF35_2, xF35_3, xF35_4, xF35_5⟩ := F3.ce6
  go_wp2_with fail
  (with_reducible refine (k2 _).mono ?_)
  rintro r w6 ⟨rfl, hb6⟩
  clear xF25_0 xF25_1 xF25_2 xF25_3 xF25_4 xF25_5 xF25_6 xF35_0 xF35_1 xF35_2 xF35_3 xF35_4 xF35_5
  replace F2 := F2.keep hb6
  replace F3 := F3.keep hb6
  replace F6 := F6.keep hb6
  replace B0 := B0.trans (hb6.mono B0.size)
  clear hb6
  obtain ⟨xF36_0, xF36_1, xF36_2, xF36_3, xF36_4, xF36_5⟩ := F3.ce6
  have yF66_21 : (w6).cell? ⟨w3.heap.size, 21, none⟩ = some (.bool qn) := F6.at 21 (by simp)
  have yF66_22 : (w6).cell? ⟨w3.heap.size, 22, none⟩ = some (.string qS) := F6.at 22 (by simp)
  have yF66_23 : (w6).cell? ⟨w3.heap.size, 23, none⟩ = some (.int .i64 qe) := F6.at 23 (by simp)
  go_wp2_with fail
  (with_reducible refine (k3 _).mono ?_)
  rintro r w7 ⟨rfl, hb7⟩
  clear xF36_0 xF36_1 xF36_2 xF36_3 xF36_4 xF36_5 yF66_21 yF66_22 yF66_23
  clear F2
  replace F3 := F3.keep hb7
  replace F6 := F6.keep hb7
  replace B0 := B0.trans (hb7.mono B0.size)
  clear hb7
  by_cases g0 : K0 ≤ 0
  · have d0 := decide_eq_true g0
    by_cases g1 : K1 ≤ 0
    · have d1 := decide_eq_true g1
      by_cases g2 : K2 ≤ 0
      · have d2 := decide_eq_true g2
        by_cases g3 : K3 ≤ 0
        · have d3 := decide_eq_true g3
          go_wp2
          go_ret2
          exact ⟨by rw [d0, d1, d2, d3]; rfl, B0⟩
        · have d3 := decide_eq_false g3
          go_wp2
          go_ret2
          exact ⟨by rw [d0, d1, d2, d3]; rfl, B0⟩
      · have d2 := decide_eq_false g2
        go_wp2
        go_ret2
        exact ⟨by rw [d0, d1, d2]; rfl, B0⟩
    · have d1 := decide_eq_false g1
      go_wp2
      go_ret2
      exact ⟨by rw [d0, d1]; rfl, B0⟩
  · have d0 := decide_eq_false g0
    go_wp2
    go_ret2
    exact ⟨by rw [d0]; rfl, B0⟩

set_option maxRecDepth 1000000 in
set_option maxHeartbeats 16000000 in
theorem vholds_1 (l : DY) (b : DY) (e : Int) (g : GY) (w : World) (ok_l : l.ok) (ok_b : b.ok) (ok_g : g.ok) (e1 : -4096 ≤ e) (e2 : e ≤ 4096) (hp : ¬ (vM l 2 (e - 1)).2 = 0) (hT : Tab w) :
    Calls Tryz.prog 7 #[.agg #[.bool l.n, .string (bstr l.x), .int .i64 l.e, .bool b.n, .string (bstr b.x), .int .i64 b.e, .int .i64 e], .agg #[.bool g.re.n, .string (bstr g.re.x), .int .i64 g.re.e, .bool g.im.n, .string (bstr g.im.x), .int .i64 g.im.e]] w fun r w' => r = .returned (.tuple #[.bool false, .int .i64 4]) ∧ Below w.heap.size w w' := by
  have h1 := fun W => vright_ok l b e W ok_l ok_b e1 e2
  have h2 := fun W => gcheck_ok g W ok_g
  have h3 := fun W hW => vcorners_1 l b e W ok_l ok_b e1 e2 hp hW
  clear ok_l ok_b ok_g
  obtain ⟨ln, lX, le⟩ := l
  obtain ⟨bn, bX, be⟩ := b
  obtain ⟨⟨gn, gX, ge⟩, ⟨gm, gY, gf⟩⟩ := g
  dsimp only at *
  generalize bstr lX = lS at *
  generalize bstr bX = bS at *
  generalize bstr gX = gS at *
  generalize bstr gY = gT at *
  clear e1 e2 hp
  go_enter Tryz.func7, Tryz.ntmps7
  have B0 := Below.refl w.heap.size w
  have F2 := Blk.put (w) #[.bool ln, .string lS, .int .i64 le, .bool bn, .string bS, .int .i64 be, .int .i64 e] 26
  replace B0 := B0.alloc B0.size (.cells #[.bool ln, .string lS, .int .i64 le, .bool bn, .string bS, .int .i64 be, .int .i64 e] 26)
  replace F2 := F2.allocd (.cells #[.bool gn, .string gS, .int .i64 ge, .bool gm, .string gT, .int .i64 gf] 28)
  have F3 := Blk.put ((w).alloc (.cells #[.bool ln, .string lS, .int .i64 le, .bool bn, .string bS, .int .i64 be, .int .i64 e] 26)) #[.bool gn, .string gS, .int .i64 ge, .bool gm, .string gT, .int .i64 gf] 28
  rw [show ((w).alloc (.cells #[.bool ln, .string lS, .int .i64 le, .bool bn, .string bS, .int .i64 be, .int .i64 e] 26)).heap.size = w.heap.size + 1 by simp] at F3
  replace B0 := B0.alloc B0.size (.cells #[.bool gn, .string gS, .int .i64 ge, .bool gm, .string gT, .int .i64 gf] 28)
  obtain ⟨xF20_0, xF20_1, xF20_2, xF20_3, xF20_4, xF20_5, xF20_6⟩ := F2.ce7
  go_wp2_with fail
  (with_reducible refine (h1 _).mono ?_)
  rintro r w1 ⟨rfl, hb1⟩
  clear xF20_0 xF20_1 xF20_2 xF20_3 xF20_4 xF20_5 xF20_6
  replace F2 := F2.keep hb1
  replace F3 := F3.keep hb1
  replace B0 := B0.trans (hb1.mono B0.size)
  clear hb1
  obtain ⟨xF31_0, xF31_1, xF31_2, xF31_3, xF31_4, xF31_5⟩ := F3.ce6
  go_wp2_with fail
  (with_reducible refine (h2 _).mono ?_)
  rintro r w2 ⟨rfl, hb2⟩
  clear xF31_0 xF31_1 xF31_2 xF31_3 xF31_4 xF31_5
  replace F2 := F2.keep hb2
  replace F3 := F3.keep hb2
  replace B0 := B0.trans (hb2.mono B0.size)
  clear hb2
  obtain ⟨xF22_0, xF22_1, xF22_2, xF22_3, xF22_4, xF22_5, xF22_6⟩ := F2.ce7
  go_wp2_with fail
  (with_reducible refine (h3 _ (hT.below B0)).mono ?_)
  rintro r w3 ⟨rfl, hb3⟩
  clear xF22_0 xF22_1 xF22_2 xF22_3 xF22_4 xF22_5 xF22_6
  replace F2 := F2.keep hb3
  clear F3
  replace B0 := B0.trans (hb3.mono B0.size)
  clear hb3
  dsimp only
  go_step
  refine wpList_move rfl _ (.inl rfl) (.tuple #[.agg #[.bool false, .string { data := #[] }, .int .i64 0, .bool false, .string { data := #[] }, .int .i64 0, .bool false, .string { data := #[] }, .int .i64 0, .bool false, .string { data := #[] }, .int .i64 0, .bool false, .string { data := #[] }, .int .i64 0, .bool false, .string { data := #[] }, .int .i64 0, .bool false, .string { data := #[] }, .int .i64 0, .bool false, .string { data := #[] }, .int .i64 0], .int .i64 4]) rfl ?_
  (try dsimp only [Act.put]); (try go_frame)
  refine wpList_extract rfl _ 0 rfl _ (.agg #[.bool false, .string { data := #[] }, .int .i64 0, .bool false, .string { data := #[] }, .int .i64 0, .bool false, .string { data := #[] }, .int .i64 0, .bool false, .string { data := #[] }, .int .i64 0, .bool false, .string { data := #[] }, .int .i64 0, .bool false, .string { data := #[] }, .int .i64 0, .bool false, .string { data := #[] }, .int .i64 0, .bool false, .string { data := #[] }, .int .i64 0]) rfl rfl ?_
  (try dsimp only [Act.put]); (try go_frame)
  refine wpList_extract rfl _ 1 rfl _ (.int .i64 4) rfl rfl ?_
  (try dsimp only [Act.put]); (try go_frame)
  refine wpList_new rfl _ rfl _ Tryz.zeroValue29 ?_
  (try dsimp only [Act.put]); (try go_frame)
  refine wpList_store_new rfl _ _ _ rfl _ #[.bool false, .string { data := #[] }, .int .i64 0, .bool false, .string { data := #[] }, .int .i64 0, .bool false, .string { data := #[] }, .int .i64 0, .bool false, .string { data := #[] }, .int .i64 0, .bool false, .string { data := #[] }, .int .i64 0, .bool false, .string { data := #[] }, .int .i64 0, .bool false, .string { data := #[] }, .int .i64 0, .bool false, .string { data := #[] }, .int .i64 0] rfl rfl (by kernel_rfl) rfl (by simp [Value.oneCell']) ?_
  (try dsimp only [Act.put]); (try go_frame)
  clear F2
  replace B0 := B0.alloc B0.size (.cells #[.bool false, .string { data := #[] }, .int .i64 0, .bool false, .string { data := #[] }, .int .i64 0, .bool false, .string { data := #[] }, .int .i64 0, .bool false, .string { data := #[] }, .int .i64 0, .bool false, .string { data := #[] }, .int .i64 0, .bool false, .string { data := #[] }, .int .i64 0, .bool false, .string { data := #[] }, .int .i64 0, .bool false, .string { data := #[] }, .int .i64 0] 29)
  refine wpList_move rfl _ (.inr rfl) (.int .i64 4) rfl ?_
  (try dsimp only [Act.put]); (try go_frame)
  go_wp2
  go_ret2
  exact ⟨rfl, B0⟩

set_option maxRecDepth 1000000 in
set_option maxHeartbeats 16000000 in
theorem vholds_2 (l : DY) (b : DY) (e : Int) (g : GY) (w : World) (ok_l : l.ok) (ok_b : b.ok) (ok_g : g.ok) (e1 : -4096 ≤ e) (e2 : e ≤ 4096) (hp : (vM l 2 (e - 1)).2 = 0) (hq : ¬ (vM b 2 (e - 1)).2 = 0) (hT : Tab w) :
    Calls Tryz.prog 7 #[.agg #[.bool l.n, .string (bstr l.x), .int .i64 l.e, .bool b.n, .string (bstr b.x), .int .i64 b.e, .int .i64 e], .agg #[.bool g.re.n, .string (bstr g.re.x), .int .i64 g.re.e, .bool g.im.n, .string (bstr g.im.x), .int .i64 g.im.e]] w fun r w' => r = .returned (.tuple #[.bool false, .int .i64 4]) ∧ Below w.heap.size w w' := by
  have h1 := fun W => vright_ok l b e W ok_l ok_b e1 e2
  have h2 := fun W => gcheck_ok g W ok_g
  have h3 := fun W hW => vcorners_2 l b e _ rfl W ok_l ok_b e1 e2 hp hq hW
  clear ok_l ok_b ok_g
  obtain ⟨ln, lX, le⟩ := l
  obtain ⟨bn, bX, be⟩ := b
  obtain ⟨⟨gn, gX, ge⟩, ⟨gm, gY, gf⟩⟩ := g
  dsimp only at *
  generalize bstr lX = lS at *
  generalize bstr bX = bS at *
  generalize bstr gX = gS at *
  generalize bstr gY = gT at *
  clear e1 e2 hp hq
  go_enter Tryz.func7, Tryz.ntmps7
  have B0 := Below.refl w.heap.size w
  have F2 := Blk.put (w) #[.bool ln, .string lS, .int .i64 le, .bool bn, .string bS, .int .i64 be, .int .i64 e] 26
  replace B0 := B0.alloc B0.size (.cells #[.bool ln, .string lS, .int .i64 le, .bool bn, .string bS, .int .i64 be, .int .i64 e] 26)
  replace F2 := F2.allocd (.cells #[.bool gn, .string gS, .int .i64 ge, .bool gm, .string gT, .int .i64 gf] 28)
  have F3 := Blk.put ((w).alloc (.cells #[.bool ln, .string lS, .int .i64 le, .bool bn, .string bS, .int .i64 be, .int .i64 e] 26)) #[.bool gn, .string gS, .int .i64 ge, .bool gm, .string gT, .int .i64 gf] 28
  rw [show ((w).alloc (.cells #[.bool ln, .string lS, .int .i64 le, .bool bn, .string bS, .int .i64 be, .int .i64 e] 26)).heap.size = w.heap.size + 1 by simp] at F3
  replace B0 := B0.alloc B0.size (.cells #[.bool gn, .string gS, .int .i64 ge, .bool gm, .string gT, .int .i64 gf] 28)
  obtain ⟨xF20_0, xF20_1, xF20_2, xF20_3, xF20_4, xF20_5, xF20_6⟩ := F2.ce7
  go_wp2_with fail
  (with_reducible refine (h1 _).mono ?_)
  rintro r w1 ⟨rfl, hb1⟩
  clear xF20_0 xF20_1 xF20_2 xF20_3 xF20_4 xF20_5 xF20_6
  replace F2 := F2.keep hb1
  replace F3 := F3.keep hb1
  replace B0 := B0.trans (hb1.mono B0.size)
  clear hb1
  obtain ⟨xF31_0, xF31_1, xF31_2, xF31_3, xF31_4, xF31_5⟩ := F3.ce6
  go_wp2_with fail
  (with_reducible refine (h2 _).mono ?_)
  rintro r w2 ⟨rfl, hb2⟩
  clear xF31_0 xF31_1 xF31_2 xF31_3 xF31_4 xF31_5
  replace F2 := F2.keep hb2
  replace F3 := F3.keep hb2
  replace B0 := B0.trans (hb2.mono B0.size)
  clear hb2
  obtain ⟨xF22_0, xF22_1, xF22_2, xF22_3, xF22_4, xF22_5, xF22_6⟩ := F2.ce7
  go_wp2_with fail
  (with_reducible refine (h3 _ (hT.below B0)).mono ?_)
  rintro r w3 ⟨rfl, hb3⟩
  clear xF22_0 xF22_1 xF22_2 xF22_3 xF22_4 xF22_5 xF22_6
  replace F2 := F2.keep hb3
  clear F3
  replace B0 := B0.trans (hb3.mono B0.size)
  clear hb3
  dsimp only
  go_step
  refine wpList_move rfl _ (.inl rfl) (.tuple #[.agg #[.bool false, .string { data := #[] }, .int .i64 0, .bool false, .string { data := #[] }, .int .i64 0, .bool false, .string { data := #[] }, .int .i64 0, .bool false, .string { data := #[] }, .int .i64 0, .bool false, .string { data := #[] }, .int .i64 0, .bool false, .string { data := #[] }, .int .i64 0, .bool false, .string { data := #[] }, .int .i64 0, .bool false, .string { data := #[] }, .int .i64 0], .int .i64 4]) rfl ?_
  (try dsimp only [Act.put]); (try go_frame)
  refine wpList_extract rfl _ 0 rfl _ (.agg #[.bool false, .string { data := #[] }, .int .i64 0, .bool false, .string { data := #[] }, .int .i64 0, .bool false, .string { data := #[] }, .int .i64 0, .bool false, .string { data := #[] }, .int .i64 0, .bool false, .string { data := #[] }, .int .i64 0, .bool false, .string { data := #[] }, .int .i64 0, .bool false, .string { data := #[] }, .int .i64 0, .bool false, .string { data := #[] }, .int .i64 0]) rfl rfl ?_
  (try dsimp only [Act.put]); (try go_frame)
  refine wpList_extract rfl _ 1 rfl _ (.int .i64 4) rfl rfl ?_
  (try dsimp only [Act.put]); (try go_frame)
  refine wpList_new rfl _ rfl _ Tryz.zeroValue29 ?_
  (try dsimp only [Act.put]); (try go_frame)
  refine wpList_store_new rfl _ _ _ rfl _ #[.bool false, .string { data := #[] }, .int .i64 0, .bool false, .string { data := #[] }, .int .i64 0, .bool false, .string { data := #[] }, .int .i64 0, .bool false, .string { data := #[] }, .int .i64 0, .bool false, .string { data := #[] }, .int .i64 0, .bool false, .string { data := #[] }, .int .i64 0, .bool false, .string { data := #[] }, .int .i64 0, .bool false, .string { data := #[] }, .int .i64 0] rfl rfl (by kernel_rfl) rfl (by simp [Value.oneCell']) ?_
  (try dsimp only [Act.put]); (try go_frame)
  clear F2
  replace B0 := B0.alloc B0.size (.cells #[.bool false, .string { data := #[] }, .int .i64 0, .bool false, .string { data := #[] }, .int .i64 0, .bool false, .string { data := #[] }, .int .i64 0, .bool false, .string { data := #[] }, .int .i64 0, .bool false, .string { data := #[] }, .int .i64 0, .bool false, .string { data := #[] }, .int .i64 0, .bool false, .string { data := #[] }, .int .i64 0, .bool false, .string { data := #[] }, .int .i64 0] 29)
  refine wpList_move rfl _ (.inr rfl) (.int .i64 4) rfl ?_
  (try dsimp only [Act.put]); (try go_frame)
  go_wp2
  go_ret2
  exact ⟨rfl, B0⟩

set_option maxRecDepth 10000 in
set_option maxHeartbeats 4000000 in
theorem vholds_bad (l : DY) (b : DY) (e : Int) (g : GR) (w : World) (ok_l : l.ok) (ok_b : b.ok) (ok_g : g.fit) (e1 : -4096 ≤ e) (e2 : e ≤ 4096) (hg : g.may = false) :
    Calls Tryz.prog 7 #[.agg #[.bool l.n, .string (bstr l.x), .int .i64 l.e, .bool b.n, .string (bstr b.x), .int .i64 b.e, .int .i64 e], .agg #[.bool g.n, .string g.s, .int .i64 g.e, .bool g.m, .string g.t, .int .i64 g.f]] w fun r w' => r = .returned (.tuple #[.bool false, .int .i64 2]) ∧ Below w.heap.size w w' := by
  have h1 := fun W => vright_ok l b e W ok_l ok_b e1 e2
  have h2 := fun W => gcheck_any g.n g.s g.e g.m g.t g.f W ok_g.1 ok_g.2
  rw [show okE (mayB g.n g.s g.e && mayB g.m g.t g.f) = 2 from by rw [show (mayB g.n g.s g.e && mayB g.m g.t g.f) = false from hg]; rfl] at h2
  clear hg
  clear ok_l ok_b ok_g
  obtain ⟨ln, lX, le⟩ := l
  obtain ⟨bn, bX, be⟩ := b
  obtain ⟨gn, gS, ge, gm, gT, gf⟩ := g
  dsimp only at *
  generalize bstr lX = lS at *
  generalize bstr bX = bS at *
  clear e1 e2
  go_enter Tryz.func7, Tryz.ntmps7
  have B0 := Below.refl w.heap.size w
  have F2 := Blk.put (w) #[.bool ln, .string lS, .int .i64 le, .bool bn, .string bS, .int .i64 be, .int .i64 e] 26
  replace B0 := B0.alloc B0.size (.cells #[.bool ln, .string lS, .int .i64 le, .bool bn, .string bS, .int .i64 be, .int .i64 e] 26)
  replace F2 := F2.allocd (.cells #[.bool gn, .string gS, .int .i64 ge, .bool gm, .string gT, .int .i64 gf] 28)
  have F3 := Blk.put ((w).alloc (.cells #[.bool ln, .string lS, .int .i64 le, .bool bn, .string bS, .int .i64 be, .int .i64 e] 26)) #[.bool gn, .string gS, .int .i64 ge, .bool gm, .string gT, .int .i64 gf] 28
  rw [show ((w).alloc (.cells #[.bool ln, .string lS, .int .i64 le, .bool bn, .string bS, .int .i64 be, .int .i64 e] 26)).heap.size = w.heap.size + 1 by simp] at F3
  replace B0 := B0.alloc B0.size (.cells #[.bool gn, .string gS, .int .i64 ge, .bool gm, .string gT, .int .i64 gf] 28)
  obtain ⟨xF20_0, xF20_1, xF20_2, xF20_3, xF20_4, xF20_5, xF20_6⟩ := F2.ce7
  go_wp2_with fail
  (with_reducible refine (h1 _).mono ?_)
  rintro r w1 ⟨rfl, hb1⟩
  clear xF20_0 xF20_1 xF20_2 xF20_3 xF20_4 xF20_5 xF20_6
  replace F2 := F2.keep hb1
  replace F3 := F3.keep hb1
  replace B0 := B0.trans (hb1.mono B0.size)
  clear hb1
  obtain ⟨xF31_0, xF31_1, xF31_2, xF31_3, xF31_4, xF31_5⟩ := F3.ce6
  go_wp2_with fail
  (with_reducible refine (h2 _).mono ?_)
  rintro r w2 ⟨rfl, hb2⟩
  clear xF31_0 xF31_1 xF31_2 xF31_3 xF31_4 xF31_5
  clear F2
  replace F3 := F3.keep hb2
  replace B0 := B0.trans (hb2.mono B0.size)
  clear hb2
  go_wp2
  go_ret2
  exact ⟨rfl, B0⟩

end Go.Proofs.YtfbkopepkklkjaaGreatDoor
