/- Walks of the layer of Gausses, by a program (walk.py): part H8. -/
import Derived.Test.YtgcifpjhhoalmaaDoorH6
namespace Go.Proofs.YtgcifpjhhoalmaaDoor
open Go Go.RowKit Go.PlainAid Fil

theorem gNorm_dot (a : GY) : gDot a a = gNorm a := rfl

set_option maxRecDepth 10000 in
set_option maxHeartbeats 4000000 in
theorem gnorm_w (a : GY) (p : DY × Int) (E_p : gNorm a = p) (w : World) (ok_a : a.ok)  (hT : Tab w) :
    Calls Tryd.prog 45 #[.agg #[.bool a.re.n, .string (bstr a.re.x), .int .i64 a.re.e, .bool a.im.n, .string (bstr a.im.x), .int .i64 a.im.e]] w fun r w' => r = .returned (.tuple #[.agg #[.bool p.1.n, .string (bstr p.1.x), .int .i64 p.1.e], .int .i64 p.2]) ∧ Below w.heap.size w w' := by
  have h1 := fun W hW => gdot a a W ok_a ok_a hW
  rw [gNorm_dot] at h1
  rw [E_p] at h1
  clear E_p ok_a
  obtain ⟨⟨an, aX, ae⟩, ⟨am, aY, af⟩⟩ := a
  obtain ⟨⟨pn, pX, pe⟩, pr⟩ := p
  dsimp only at *
  generalize bstr aX = aS at *
  generalize bstr aY = aT at *
  generalize bstr pX = pS at *
  go_enter Tryd.func45, Tryd.ntmps45
  have B0 := Below.refl w.heap.size w
  have F1 := Blk.put (w) #[.bool an, .string aS, .int .i64 ae, .bool am, .string aT, .int .i64 af] 49
  replace B0 := B0.alloc B0.size (.cells #[.bool an, .string aS, .int .i64 ae, .bool am, .string aT, .int .i64 af] 49)
  have q_w_F2 : Hid (w.heap.size ≤ w.heap.size + 1) := Lib.hid (by omega)
  replace F1 := F1.allocd (.cells #[.bool false, .string { data := #[] }, .int .i64 0] 24)
  have F2 := Blk.put ((w).alloc (.cells #[.bool an, .string aS, .int .i64 ae, .bool am, .string aT, .int .i64 af] 49)) #[.bool false, .string { data := #[] }, .int .i64 0] 24
  rw [show ((w).alloc (.cells #[.bool an, .string aS, .int .i64 ae, .bool am, .string aT, .int .i64 af] 49)).heap.size = w.heap.size + 1 by simp] at F2
  replace B0 := B0.alloc B0.size (.cells #[.bool false, .string { data := #[] }, .int .i64 0] 24)
  obtain ⟨xF10_0, xF10_1, xF10_2, xF10_3, xF10_4, xF10_5⟩ := F1.ce6
  go_wp2_with fail
  (with_reducible refine (h1 _ (hT.below B0)).mono ?_)
  rintro r w1 ⟨rfl, hb1⟩
  clear xF10_0 xF10_1 xF10_2 xF10_3 xF10_4 xF10_5
  replace F1 := F1.keep hb1
  replace F2 := F2.keep hb1
  replace B0 := B0.trans (hb1.mono B0.size)
  clear hb1
  obtain ⟨xF21_0, xF21_1, xF21_2⟩ := F2.ce3
  obtain ⟨xF21_0f, xF21_1f, xF21_2f⟩ := F2.fr3
  clear F1
  replace F2 : Blk ((((w1).setCell ⟨w.heap.size + 1, 0, none⟩ (.bool pn)).setCell ⟨w.heap.size + 1, 1, none⟩ (.string pS)).setCell ⟨w.heap.size + 1, 2, none⟩ (.int .i64 pe)) (w.heap.size + 1) #[.bool pn, .string pS, .int .i64 pe] 24 := (((F2.setAt 0 (.bool pn)).setAt 1 (.string pS)).setAt 2 (.int .i64 pe))
  replace B0 := (((B0.setCell (p := ⟨w.heap.size + 1, 0, none⟩) q_w_F2.out (.bool pn)).setCell (p := ⟨w.heap.size + 1, 1, none⟩) q_w_F2.out (.string pS)).setCell (p := ⟨w.heap.size + 1, 2, none⟩) q_w_F2.out (.int .i64 pe))
  obtain ⟨xF22_0, xF22_1, xF22_2⟩ := F2.ce3
  go_wp2
  exact bodyPost_ret (v := .tuple #[.agg #[.bool pn, .string pS, .int .i64 pe], .int .i64 pr]) (by simp [results, Tryd.results45, go_sem, xF22_0, xF22_1, xF22_2]) rfl ⟨rfl, B0⟩

theorem gnorm (a : GY) (w : World) (ha : a.ok) (hT : Tab w) :
    Calls Tryd.prog 45 #[.agg #[.bool a.re.n, .string (bstr a.re.x), .int .i64 a.re.e, .bool a.im.n, .string (bstr a.im.x), .int .i64 a.im.e]] w fun r w' => r = .returned (.tuple #[.agg #[.bool (gNorm a).1.n, .string (bstr (gNorm a).1.x), .int .i64 (gNorm a).1.e], .int .i64 (gNorm a).2]) ∧ Below w.heap.size w w' := gnorm_w a _ rfl w ha hT

set_option maxRecDepth 10000 in
set_option maxHeartbeats 4000000 in
theorem gcmp_1 (a : GY) (b : GY) (p : DY × Int) (E_p : gNorm a = p) (w : World) (ok_a : a.ok) (ok_b : b.ok) (h_p : ¬ p.2 = 0) (hT : Tab w) :
    Calls Tryd.prog 75 #[.agg #[.bool a.re.n, .string (bstr a.re.x), .int .i64 a.re.e, .bool a.im.n, .string (bstr a.im.x), .int .i64 a.im.e], .agg #[.bool b.re.n, .string (bstr b.re.x), .int .i64 b.re.e, .bool b.im.n, .string (bstr b.im.x), .int .i64 b.im.e]] w fun r w' => r = .returned (.tuple #[.int .i64 0, .int .i64 p.2]) ∧ Below w.heap.size w w' := by
  have ok_p : p.1.ok := E_p ▸ gNorm_ok _
  have hall := fun Bk W h => gall2_ok a b Bk W h ok_a ok_b
  have h1 := fun W hW => gnorm a W ok_a hW
  rw [E_p] at h1
  clear E_p ok_p ok_a ok_b
  obtain ⟨⟨an, aX, ae⟩, ⟨am, aY, af⟩⟩ := a
  obtain ⟨⟨bn, bX, be⟩, ⟨bm, bY, bf⟩⟩ := b
  obtain ⟨⟨pn, pX, pe⟩, pr⟩ := p
  dsimp only at *
  generalize bstr aX = aS at *
  generalize bstr aY = aT at *
  generalize bstr bX = bS at *
  generalize bstr bY = bT at *
  generalize bstr pX = pS at *
  have hb_p : (pr != 0) = true := by simpa using h_p
  clear h_p
  go_enter Tryd.func75, Tryd.ntmps75
  have B0 := Below.refl w.heap.size w
  have F2 := Blk.put (w) #[.bool an, .string aS, .int .i64 ae, .bool am, .string aT, .int .i64 af] 49
  replace B0 := B0.alloc B0.size (.cells #[.bool an, .string aS, .int .i64 ae, .bool am, .string aT, .int .i64 af] 49)
  replace F2 := F2.allocd (.cells #[.bool bn, .string bS, .int .i64 be, .bool bm, .string bT, .int .i64 bf] 49)
  have F3 := Blk.put ((w).alloc (.cells #[.bool an, .string aS, .int .i64 ae, .bool am, .string aT, .int .i64 af] 49)) #[.bool bn, .string bS, .int .i64 be, .bool bm, .string bT, .int .i64 bf] 49
  rw [show ((w).alloc (.cells #[.bool an, .string aS, .int .i64 ae, .bool am, .string aT, .int .i64 af] 49)).heap.size = w.heap.size + 1 by simp] at F3
  replace B0 := B0.alloc B0.size (.cells #[.bool bn, .string bS, .int .i64 be, .bool bm, .string bT, .int .i64 bf] 49)
  obtain ⟨xF20_0, xF20_1, xF20_2, xF20_3, xF20_4, xF20_5⟩ := F2.ce6
  obtain ⟨xF30_0, xF30_1, xF30_2, xF30_3, xF30_4, xF30_5⟩ := F3.ce6
  go_wp2_with fail
  (with_reducible refine (hall _ _ (by simp)).mono ?_)
  rintro r w1 ⟨rfl, hb1⟩
  clear xF20_0 xF20_1 xF20_2 xF20_3 xF20_4 xF20_5 xF30_0 xF30_1 xF30_2 xF30_3 xF30_4 xF30_5
  replace F2 := F2.keep hb1
  replace F3 := F3.keep hb1
  replace B0 := B0.trans (hb1.mono B0.size)
  clear hb1
  obtain ⟨xF21_0, xF21_1, xF21_2, xF21_3, xF21_4, xF21_5⟩ := F2.ce6
  go_wp2_with fail
  (with_reducible refine (h1 _ (hT.below B0)).mono ?_)
  rintro r w2 ⟨rfl, hb2⟩
  clear xF21_0 xF21_1 xF21_2 xF21_3 xF21_4 xF21_5
  replace F2 := F2.keep hb2
  clear F3
  replace B0 := B0.trans (hb2.mono B0.size)
  clear hb2
  clear F2
  replace B0 := B0.alloc B0.size (.cells #[.bool pn, .string pS, .int .i64 pe] 24)
  go_wp2
  go_ret2
  exact ⟨rfl, B0⟩

set_option maxRecDepth 10000 in
set_option maxHeartbeats 4000000 in
theorem gcmp_2 (a : GY) (b : GY) (p : DY × Int) (q : DY × Int) (E_p : gNorm a = p) (E_q : gNorm b = q) (w : World) (ok_a : a.ok) (ok_b : b.ok) (h_p : p.2 = 0) (h_q : ¬ q.2 = 0) (hT : Tab w) :
    Calls Tryd.prog 75 #[.agg #[.bool a.re.n, .string (bstr a.re.x), .int .i64 a.re.e, .bool a.im.n, .string (bstr a.im.x), .int .i64 a.im.e], .agg #[.bool b.re.n, .string (bstr b.re.x), .int .i64 b.re.e, .bool b.im.n, .string (bstr b.im.x), .int .i64 b.im.e]] w fun r w' => r = .returned (.tuple #[.int .i64 0, .int .i64 q.2]) ∧ Below w.heap.size w w' := by
  have ok_p : p.1.ok := E_p ▸ gNorm_ok _
  have ok_q : q.1.ok := E_q ▸ gNorm_ok _
  have hall := fun Bk W h => gall2_ok a b Bk W h ok_a ok_b
  have h1 := fun W hW => gnorm a W ok_a hW
  rw [E_p] at h1
  have h2 := fun W hW => gnorm b W ok_b hW
  rw [E_q] at h2
  clear E_p E_q ok_p ok_q ok_a ok_b
  obtain ⟨⟨an, aX, ae⟩, ⟨am, aY, af⟩⟩ := a
  obtain ⟨⟨bn, bX, be⟩, ⟨bm, bY, bf⟩⟩ := b
  obtain ⟨⟨pn, pX, pe⟩, pr⟩ := p
  obtain ⟨⟨qn, qX, qe⟩, qr⟩ := q
  dsimp only at *
  generalize bstr aX = aS at *
  generalize bstr aY = aT at *
  generalize bstr bX = bS at *
  generalize bstr bY = bT at *
  generalize bstr pX = pS at *
  generalize bstr qX = qS at *
  have hb_p : (pr != 0) = false := by simp [h_p]
  clear h_p
  have hb_q : (qr != 0) = true := by simpa using h_q
  clear h_q
  go_enter Tryd.func75, Tryd.ntmps75
  have B0 := Below.refl w.heap.size w
  have F2 := Blk.put (w) #[.bool an, .string aS, .int .i64 ae, .bool am, .string aT, .int .i64 af] 49
  replace B0 := B0.alloc B0.size (.cells #[.bool an, .string aS, .int .i64 ae, .bool am, .string aT, .int .i64 af] 49)
  replace F2 := F2.allocd (.cells #[.bool bn, .string bS, .int .i64 be, .bool bm, .string bT, .int .i64 bf] 49)
  have F3 := Blk.put ((w).alloc (.cells #[.bool an, .string aS, .int .i64 ae, .bool am, .string aT, .int .i64 af] 49)) #[.bool bn, .string bS, .int .i64 be, .bool bm, .string bT, .int .i64 bf] 49
  rw [show ((w).alloc (.cells #[.bool an, .string aS, .int .i64 ae, .bool am, .string aT, .int .i64 af] 49)).heap.size = w.heap.size + 1 by simp] at F3
  replace B0 := B0.alloc B0.size (.cells #[.bool bn, .string bS, .int .i64 be, .bool bm, .string bT, .int .i64 bf] 49)
  obtain ⟨xF20_0, xF20_1, xF20_2, xF20_3, xF20_4, xF20_5⟩ := F2.ce6
  obtain ⟨xF30_0, xF30_1, xF30_2, xF30_3, xF30_4, xF30_5⟩ := F3.ce6
  go_wp2_with fail
  (with_reducible refine (hall _ _ (by simp)).mono ?_)
  rintro r w1 ⟨rfl, hb1⟩
  clear xF20_0 xF20_1 xF20_2 xF20_3 xF20_4 xF20_5 xF30_0 xF30_1 xF30_2 xF30_3 xF30_4 xF30_5
  replace F2 := F2.keep hb1
  replace F3 := F3.keep hb1
  replace B0 := B0.trans (hb1.mono B0.size)
  clear hb1
  obtain ⟨xF21_0, xF21_1, xF21_2, xF21_3, xF21_4, xF21_5⟩ := F2.ce6
  go_wp2_with fail
  (with_reducible refine (h1 _ (hT.below B0)).mono ?_)
  rintro r w2 ⟨rfl, hb2⟩
  clear xF21_0 xF21_1 xF21_2 xF21_3 xF21_4 xF21_5
  replace F2 := F2.keep hb2
  replace F3 := F3.keep hb2
  replace B0 := B0.trans (hb2.mono B0.size)
  clear hb2
  clear F2
  replace F3 := F3.allocd (.cells #[.bool pn, .string pS, .int .i64 pe] 24)
  replace B0 := B0.alloc B0.size (.cells #[.bool pn, .string pS, .int .i64 pe] 24)
  obtain ⟨xF32_0, xF32_1, xF32_2, xF32_3, xF32_4, xF32_5⟩ := F3.ce6
  go_wp2_with fail
  (with_reducible refine (h2 _ (hT.below B0)).mono ?_)
  rintro r w3 ⟨rfl, hb3⟩
  clear xF32_0 xF32_1 xF32_2 xF32_3 xF32_4 xF32_5
  replace F3 := F3.keep hb3
  replace B0 := B0.trans (hb3.mono B0.size)
  clear hb3
  clear F3
  replace B0 := B0.alloc B0.size (.cells #[.bool qn, .string qS, .int .i64 qe] 24)
  go_wp2
  go_ret2
  exact ⟨rfl, B0⟩

set_option maxRecDepth 10000 in
set_option maxHeartbeats 4000000 in
theorem gcmp_3 (a : GY) (b : GY) (p : DY × Int) (q : DY × Int) (N : Int) (E_p : gNorm a = p) (E_q : gNorm b = q) (E_N : yCmp p.1 q.1 = N) (w : World) (ok_a : a.ok) (ok_b : b.ok) (h_p : p.2 = 0) (h_q : q.2 = 0) (hT : Tab w) :
    Calls Tryd.prog 75 #[.agg #[.bool a.re.n, .string (bstr a.re.x), .int .i64 a.re.e, .bool a.im.n, .string (bstr a.im.x), .int .i64 a.im.e], .agg #[.bool b.re.n, .string (bstr b.re.x), .int .i64 b.re.e, .bool b.im.n, .string (bstr b.im.x), .int .i64 b.im.e]] w fun r w' => r = .returned (.tuple #[.int .i64 N, .int .i64 0]) ∧ Below w.heap.size w w' := by
  have ok_p : p.1.ok := E_p ▸ gNorm_ok _
  have ok_q : q.1.ok := E_q ▸ gNorm_ok _
  have hall := fun Bk W h => gall2_ok a b Bk W h ok_a ok_b
  have h1 := fun W hW => gnorm a W ok_a hW
  rw [E_p] at h1
  have h2 := fun W hW => gnorm b W ok_b hW
  rw [E_q] at h2
  have h3 := fun W => ccmp p.1 q.1 W ok_p ok_q
  rw [E_N] at h3
  clear E_p E_q E_N ok_p ok_q ok_a ok_b
  obtain ⟨⟨an, aX, ae⟩, ⟨am, aY, af⟩⟩ := a
  obtain ⟨⟨bn, bX, be⟩, ⟨bm, bY, bf⟩⟩ := b
  obtain ⟨⟨pn, pX, pe⟩, pr⟩ := p
  obtain ⟨⟨qn, qX, qe⟩, qr⟩ := q
  dsimp only at *
  generalize bstr aX = aS at *
  generalize bstr aY = aT at *
  generalize bstr bX = bS at *
  generalize bstr bY = bT at *
  generalize bstr pX = pS at *
  generalize bstr qX = qS at *
  have hb_p : (pr != 0) = false := by simp [h_p]
  clear h_p
  have hb_q : (qr != 0) = false := by simp [h_q]
  clear h_q
  go_enter Tryd.func75, Tryd.ntmps75
  have B0 := Below.refl w.heap.size w
  have F2 := Blk.put (w) #[.bool an, .string aS, .int .i64 ae, .bool am, .string aT, .int .i64 af] 49
  replace B0 := B0.alloc B0.size (.cells #[.bool an, .string aS, .int .i64 ae, .bool am, .string aT, .int .i64 af] 49)
  replace F2 := F2.allocd (.cells #[.bool bn, .string bS, .int .i64 be, .bool bm, .string bT, .int .i64 bf] 49)
  have F3 := Blk.put ((w).alloc (.cells #[.bool an, .string aS, .int .i64 ae, .bool am, .string aT, .int .i64 af] 49)) #[.bool bn, .string bS, .int .i64 be, .bool bm, .string bT, .int .i64 bf] 49
  rw [show ((w).alloc (.cells #[.bool an, .string aS, .int .i64 ae, .bool am, .string aT, .int .i64 af] 49)).heap.size = w.heap.size + 1 by simp] at F3
  replace B0 := B0.alloc B0.size (.cells #[.bool bn, .string bS, .int .i64 be, .bool bm, .string bT, .int .i64 bf] 49)
  obtain ⟨xF20_0, xF20_1, xF20_2, xF20_3, xF20_4, xF20_5⟩ := F2.ce6
  obtain ⟨xF30_0, xF30_1, xF30_2, xF30_3, xF30_4, xF30_5⟩ := F3.ce6
  go_wp2_with fail
  (with_reducible refine (hall _ _ (by simp)).mono ?_)
  rintro r w1 ⟨rfl, hb1⟩
  clear xF20_0 xF20_1 xF20_2 xF20_3 xF20_4 xF20_5 xF30_0 xF30_1 xF30_2 xF30_3 xF30_4 xF30_5
  replace F2 := F2.keep hb1
  replace F3 := F3.keep hb1
  replace B0 := B0.trans (hb1.mono B0.size)
  clear hb1
  obtain ⟨xF21_0, xF21_1, xF21_2, xF21_3, xF21_4, xF21_5⟩ := F2.ce6
  go_wp2_with fail
  (with_reducible refine (h1 _ (hT.below B0)).mono ?_)
  rintro r w2 ⟨rfl, hb2⟩
  clear xF21_0 xF21_1 xF21_2 xF21_3 xF21_4 xF21_5
  replace F2 := F2.keep hb2
  replace F3 := F3.keep hb2
  replace B0 := B0.trans (hb2.mono B0.size)
  clear hb2
  clear F2
  replace F3 := F3.allocd (.cells #[.bool pn, .string pS, .int .i64 pe] 24)
  have F6 := Blk.put (w2) #[.bool pn, .string pS, .int .i64 pe] 24
  replace B0 := B0.alloc B0.size (.cells #[.bool pn, .string pS, .int .i64 pe] 24)
  obtain ⟨xF32_0, xF32_1, xF32_2, xF32_3, xF32_4, xF32_5⟩ := F3.ce6
  go_wp2_with fail
  (with_reducible refine (h2 _ (hT.below B0)).mono ?_)
  rintro r w3 ⟨rfl, hb3⟩
  clear xF32_0 xF32_1 xF32_2 xF32_3 xF32_4 xF32_5
  replace F3 := F3.keep hb3
  replace F6 := F6.keep hb3
  replace B0 := B0.trans (hb3.mono B0.size)
  clear hb3
  clear F3
  replace F6 := F6.allocd (.cells #[.bool qn, .string qS, .int .i64 qe] 24)
  have F8 := Blk.put (w3) #[.bool qn, .string qS, .int .i64 qe] 24
  replace B0 := B0.alloc B0.size (.cells #[.bool qn, .string qS, .int .i64 qe] 24)
  obtain ⟨xF63_0, xF63_1, xF63_2⟩ := F6.ce3
  obtain ⟨xF83_0, xF83_1, xF83_2⟩ := F8.ce3
  go_wp2_with fail
  (with_reducible refine (h3 _).mono ?_)
  rintro r w4 ⟨rfl, hb4⟩
  clear xF63_0 xF63_1 xF63_2 xF83_0 xF83_1 xF83_2
  replace F6 := F6.keep hb4
  replace F8 := F8.keep hb4
  replace B0 := B0.trans (hb4.mono B0.size)
  clear hb4
  go_wp2
  go_ret2
  exact ⟨rfl, B0⟩

theorem gNorm_e (a : GY) : (gNorm a).2 = 0 ∨ (gNorm a).2 = 4 := yTwo_or _ _ _ _ _
theorem gCross_e (a b : GY) : (gCross a b).2 = 0 ∨ gCross a b = (DY.zero, 4) := yTwo_e _ _ _ _ _
theorem gB_e (p q : DY × Int) : (gB p q).2 = 0 ∨ gB p q = (GY.zero, 4) := by
  unfold gB; split
  · exact .inl rfl
  · exact .inr rfl
theorem gSub_e (a b : GY) : (gSub a b).2 = 0 ∨ gSub a b = (GY.zero, 4) := gB_e _ _
theorem err4 {α : Type} {z : α} {p : α × Int} (h : p.2 = 0 ∨ p = (z, 4)) (h0 : ¬ p.2 = 0) : p.2 = 4 := by
  rcases h with h | h
  · exact absurd h h0
  · rw [h]
theorem gcmp (a b : GY) (w : World) (ha : a.ok) (hb : b.ok) (hT : Tab w) :
    Calls Tryd.prog 75 #[.agg #[.bool a.re.n, .string (bstr a.re.x), .int .i64 a.re.e, .bool a.im.n, .string (bstr a.im.x), .int .i64 a.im.e], .agg #[.bool b.re.n, .string (bstr b.re.x), .int .i64 b.re.e, .bool b.im.n, .string (bstr b.im.x), .int .i64 b.im.e]] w fun r w' => r = .returned (.tuple #[.int .i64 (gCmp a b).1, .int .i64 (gCmp a b).2]) ∧ Below w.heap.size w w' := by
  unfold gCmp
  by_cases h1 : (gNorm a).2 = 0
  · by_cases h2 : (gNorm b).2 = 0
    · rw [if_pos ⟨h1, h2⟩]
      exact gcmp_3 a b _ _ _ rfl rfl rfl w ha hb h1 h2 hT
    · rw [if_neg (fun h => h2 h.2), ← err4 (yTwo_e _ _ _ _ _) h2]
      exact gcmp_2 a b _ _ rfl rfl w ha hb h1 h2 hT
  · rw [if_neg (fun h => h1 h.1), ← err4 (yTwo_e _ _ _ _ _) h1]
    exact gcmp_1 a b _ rfl w ha hb h1 hT

set_option maxRecDepth 10000 in
set_option maxHeartbeats 4000000 in
theorem gside_1 (a : GY) (b : GY) (c : GY) (p : GY × Int) (E_p : gSub b a = p) (w : World) (ok_a : a.ok) (ok_b : b.ok) (ok_c : c.ok) (h_p : ¬ p.2 = 0) (hT : Tab w) :
    Calls Tryd.prog 76 #[.agg #[.bool a.re.n, .string (bstr a.re.x), .int .i64 a.re.e, .bool a.im.n, .string (bstr a.im.x), .int .i64 a.im.e], .agg #[.bool b.re.n, .string (bstr b.re.x), .int .i64 b.re.e, .bool b.im.n, .string (bstr b.im.x), .int .i64 b.im.e], .agg #[.bool c.re.n, .string (bstr c.re.x), .int .i64 c.re.e, .bool c.im.n, .string (bstr c.im.x), .int .i64 c.im.e]] w fun r w' => r = .returned (.tuple #[.int .i64 0, .int .i64 p.2]) ∧ Below w.heap.size w w' := by
  have ok_p : p.1.ok := E_p ▸ gSub_ok _ _
  have hall := fun Bk W h => gall3_ok a b c Bk W h ok_a ok_b ok_c
  have h1 := fun W hW => gsub b a W ok_b ok_a hW
  rw [E_p] at h1
  clear E_p ok_p ok_a ok_b ok_c
  obtain ⟨⟨an, aX, ae⟩, ⟨am, aY, af⟩⟩ := a
  obtain ⟨⟨bn, bX, be⟩, ⟨bm, bY, bf⟩⟩ := b
  obtain ⟨⟨cn, cX, ce⟩, ⟨cm, cY, cf⟩⟩ := c
  obtain ⟨⟨⟨pn, pX, pe⟩, ⟨pm, pY, pf⟩⟩, pr⟩ := p
  dsimp only at *
  generalize bstr aX = aS at *
  generalize bstr aY = aT at *
  generalize bstr bX = bS at *
  generalize bstr bY = bT at *
  generalize bstr cX = cS at *
  generalize bstr cY = cT at *
  generalize bstr pX = pS at *
  generalize bstr pY = pT at *
  have hb_p : (pr != 0) = true := by simpa using h_p
  clear h_p
  go_enter Tryd.func76, Tryd.ntmps76
  have B0 := Below.refl w.heap.size w
  have F3 := Blk.put (w) #[.bool an, .string aS, .int .i64 ae, .bool am, .string aT, .int .i64 af] 49
  replace B0 := B0.alloc B0.size (.cells #[.bool an, .string aS, .int .i64 ae, .bool am, .string aT, .int .i64 af] 49)
  replace F3 := F3.allocd (.cells #[.bool bn, .string bS, .int .i64 be, .bool bm, .string bT, .int .i64 bf] 49)
  have F4 := Blk.put ((w).alloc (.cells #[.bool an, .string aS, .int .i64 ae, .bool am, .string aT, .int .i64 af] 49)) #[.bool bn, .string bS, .int .i64 be, .bool bm, .string bT, .int .i64 bf] 49
  rw [show ((w).alloc (.cells #[.bool an, .string aS, .int .i64 ae, .bool am, .string aT, .int .i64 af] 49)).heap.size = w.heap.size + 1 by simp] at F4
  replace B0 := B0.alloc B0.size (.cells #[.bool bn, .string bS, .int .i64 be, .bool bm, .string bT, .int .i64 bf] 49)
  replace F3 := F3.allocd (.cells #[.bool cn, .string cS, .int .i64 ce, .bool cm, .string cT, .int .i64 cf] 49)
  replace F4 := F4.allocd (.cells #[.bool cn, .string cS, .int .i64 ce, .bool cm, .string cT, .int .i64 cf] 49)
  have F5 := Blk.put (((w).alloc (.cells #[.bool an, .string aS, .int .i64 ae, .bool am, .string aT, .int .i64 af] 49)).alloc (.cells #[.bool bn, .string bS, .int .i64 be, .bool bm, .string bT, .int .i64 bf] 49)) #[.bool cn, .string cS, .int .i64 ce, .bool cm, .string cT, .int .i64 cf] 49
  rw [show (((w).alloc (.cells #[.bool an, .string aS, .int .i64 ae, .bool am, .string aT, .int .i64 af] 49)).alloc (.cells #[.bool bn, .string bS, .int .i64 be, .bool bm, .string bT, .int .i64 bf] 49)).heap.size = w.heap.size + 1 + 1 by simp] at F5
  replace B0 := B0.alloc B0.size (.cells #[.bool cn, .string cS, .int .i64 ce, .bool cm, .string cT, .int .i64 cf] 49)
  obtain ⟨xF30_0, xF30_1, xF30_2, xF30_3, xF30_4, xF30_5⟩ := F3.ce6
  obtain ⟨xF40_0, xF40_1, xF40_2, xF40_3, xF40_4, xF40_5⟩ := F4.ce6
  obtain ⟨xF50_0, xF50_1, xF50_2, xF50_3, xF50_4, xF50_5⟩ := F5.ce6
  go_wp2_with fail
  (with_reducible refine (hall _ _ (by simp)).mono ?_)
  rintro r w1 ⟨rfl, hb1⟩
  clear xF30_0 xF30_1 xF30_2 xF30_3 xF30_4 xF30_5 xF40_0 xF40_1 xF40_2 xF40_3 xF40_4 xF40_5 xF50_0 xF50_1 xF50_2 xF50_3 xF50_4 xF50_5
  replace F3 := F3.keep hb1
  replace F4 := F4.keep hb1
  replace F5 := F5.keep hb1
  replace B0 := B0.trans (hb1.mono B0.size)
  clear hb1
  obtain ⟨xF41_0, xF41_1, xF41_2, xF41_3, xF41_4, xF41_5⟩ := F4.ce6
  obtain ⟨xF31_0, xF31_1, xF31_2, xF31_3, xF31_4, xF31_5⟩ := F3.ce6
  go_wp2_with fail
  (with_reducible refine (h1 _ (hT.below B0)).mono ?_)
  rintro r w2 ⟨rfl, hb2⟩
  clear xF41_0 xF41_1 xF41_2 xF41_3 xF41_4 xF41_5 xF31_0 xF31_1 xF31_2 xF31_3 xF31_4 xF31_5
  replace F3 := F3.keep hb2
  replace F4 := F4.keep hb2
  clear F5
  replace B0 := B0.trans (hb2.mono B0.size)
  clear hb2
  clear F3
  clear F4
  replace B0 := B0.alloc B0.size (.cells #[.bool pn, .string pS, .int .i64 pe, .bool pm, .string pT, .int .i64 pf] 49)
  go_wp2
  go_ret2
  exact ⟨rfl, B0⟩

set_option maxRecDepth 10000 in
set_option maxHeartbeats 4000000 in
theorem gside_2 (a : GY) (b : GY) (c : GY) (p : GY × Int) (q : GY × Int) (E_p : gSub b a = p) (E_q : gSub c a = q) (w : World) (ok_a : a.ok) (ok_b : b.ok) (ok_c : c.ok) (h_p : p.2 = 0) (h_q : ¬ q.2 = 0) (hT : Tab w) :
    Calls Tryd.prog 76 #[.agg #[.bool a.re.n, .string (bstr a.re.x), .int .i64 a.re.e, .bool a.im.n, .string (bstr a.im.x), .int .i64 a.im.e], .agg #[.bool b.re.n, .string (bstr b.re.x), .int .i64 b.re.e, .bool b.im.n, .string (bstr b.im.x), .int .i64 b.im.e], .agg #[.bool c.re.n, .string (bstr c.re.x), .int .i64 c.re.e, .bool c.im.n, .string (bstr c.im.x), .int .i64 c.im.e]] w fun r w' => r = .returned (.tuple #[.int .i64 0, .int .i64 q.2]) ∧ Below w.heap.size w w' := by
  have ok_p : p.1.ok := E_p ▸ gSub_ok _ _
  have ok_q : q.1.ok := E_q ▸ gSub_ok _ _
  have hall := fun Bk W h => gall3_ok a b c Bk W h ok_a ok_b ok_c
  have h1 := fun W hW => gsub b a W ok_b ok_a hW
  rw [E_p] at h1
  have h2 := fun W hW => gsub c a W ok_c ok_a hW
  rw [E_q] at h2
  clear E_p E_q ok_p ok_q ok_a ok_b ok_c
  obtain ⟨⟨an, aX, ae⟩, ⟨am, aY, af⟩⟩ := a
  obtain ⟨⟨bn, bX, be⟩, ⟨bm, bY, bf⟩⟩ := b
  obtain ⟨⟨cn, cX, ce⟩, ⟨cm, cY, cf⟩⟩ := c
  obtain ⟨⟨⟨pn, pX, pe⟩, ⟨pm, pY, pf⟩⟩, pr⟩ := p
  obtain ⟨⟨⟨qn, qX, qe⟩, ⟨qm, qY, qf⟩⟩, qr⟩ := q
  dsimp only at *
  generalize bstr aX = aS at *
  generalize bstr aY = aT at *
  generalize bstr bX = bS at *
  generalize bstr bY = bT at *
  generalize bstr cX = cS at *
  generalize bstr cY = cT at *
  generalize bstr pX = pS at *
  generalize bstr pY = pT at *
  generalize bstr qX = qS at *
  generalize bstr qY = qT at *
  have hb_p : (pr != 0) = false := by simp [h_p]
  clear h_p
  have hb_q : (qr != 0) = true := by simpa using h_q
  clear h_q
  go_enter Tryd.func76, Tryd.ntmps76
  have B0 := Below.refl w.heap.size w
  have F3 := Blk.put (w) #[.bool an, .string aS, .int .i64 ae, .bool am, .string aT, .int .i64 af] 49
  replace B0 := B0.alloc B0.size (.cells #[.bool an, .string aS, .int .i64 ae, .bool am, .string aT, .int .i64 af] 49)
  replace F3 := F3.allocd (.cells #[.bool bn, .string bS, .int .i64 be, .bool bm, .string bT, .int .i64 bf] 49)
  have F4 := Blk.put ((w).alloc (.cells #[.bool an, .string aS, .int .i64 ae, .bool am, .string aT, .int .i64 af] 49)) #[.bool bn, .string bS, .int .i64 be, .bool bm, .string bT, .int .i64 bf] 49
  rw [show ((w).alloc (.cells #[.bool an, .string aS, .int .i64 ae, .bool am, .string aT, .int .i64 af] 49)).heap.size = w.heap.size + 1 by simp] at F4
  replace B0 := B0.alloc B0.size (.cells #[.bool bn, .string bS, .int .i64 be, .bool bm, .string bT, .int .i64 bf] 49)
  replace F3 := F3.allocd (.cells #[.bool cn, .string cS, .int .i64 ce, .bool cm, .string cT, .int .i64 cf] 49)
  replace F4 := F4.allocd (.cells #[.bool cn, .string cS, .int .i64 ce, .bool cm, .string cT, .int .i64 cf] 49)
  have F5 := Blk.put (((w).alloc (.cells #[.bool an, .string aS, .int .i64 ae, .bool am, .string aT, .int .i64 af] 49)).alloc (.cells #[.bool bn, .string bS, .int .i64 be, .bool bm, .string bT, .int .i64 bf] 49)) #[.bool cn, .string cS, .int .i64 ce, .bool cm, .string cT, .int .i64 cf] 49
  rw [show (((w).alloc (.cells #[.bool an, .string aS, .int .i64 ae, .bool am, .string aT, .int .i64 af] 49)).alloc (.cells #[.bool bn, .string bS, .int .i64 be, .bool bm, .string bT, .int .i64 bf] 49)).heap.size = w.heap.size + 1 + 1 by simp] at F5
  replace B0 := B0.alloc B0.size (.cells #[.bool cn, .string cS, .int .i64 ce, .bool cm, .string cT, .int .i64 cf] 49)
  obtain ⟨xF30_0, xF30_1, xF30_2, xF30_3, xF30_4, xF30_5⟩ := F3.ce6
  obtain ⟨xF40_0, xF40_1, xF40_2, xF40_3, xF40_4, xF40_5⟩ := F4.ce6
  obtain ⟨xF50_0, xF50_1, xF50_2, xF50_3, xF50_4, xF50_5⟩ := F5.ce6
  go_wp2_with fail
  (with_reducible refine (hall _ _ (by simp)).mono ?_)
  rintro r w1 ⟨rfl, hb1⟩
  clear xF30_0 xF30_1 xF30_2 xF30_3 xF30_4 xF30_5 xF40_0 xF40_1 xF40_2 xF40_3 xF40_4 xF40_5 xF50_0 xF50_1 xF50_2 xF50_3 xF50_4 xF50_5
  replace F3 := F3.keep hb1
  replace F4 := F4.keep hb1
  replace F5 := F5.keep hb1
  replace B0 := B0.trans (hb1.mono B0.size)
  clear hb1
  obtain ⟨xF41_0, xF41_1, xF41_2, xF41_3, xF41_4, xF41_5⟩ := F4.ce6
  obtain ⟨xF31_0, xF31_1, xF31_2, xF31_3, xF31_4, xF31_5⟩ := F3.ce6
  go_wp2_with fail
  (with_reducible refine (h1 _ (hT.below B0)).mono ?_)
  rintro r w2 ⟨rfl, hb2⟩
  clear xF41_0 xF41_1 xF41_2 xF41_3 xF41_4 xF41_5 xF31_0 xF31_1 xF31_2 xF31_3 xF31_4 xF31_5
  replace F3 := F3.keep hb2
  replace F4 := F4.keep hb2
  replace F5 := F5.keep hb2
  replace B0 := B0.trans (hb2.mono B0.size)
  clear hb2
  replace F3 := F3.allocd (.cells #[.bool pn, .string pS, .int .i64 pe, .bool pm, .string pT, .int .i64 pf] 49)
  clear F4
  replace F5 := F5.allocd (.cells #[.bool pn, .string pS, .int .i64 pe, .bool pm, .string pT, .int .i64 pf] 49)
  replace B0 := B0.alloc B0.size (.cells #[.bool pn, .string pS, .int .i64 pe, .bool pm, .string pT, .int .i64 pf] 49)
  obtain ⟨xF52_0, xF52_1, xF52_2, xF52_3, xF52_4, xF52_5⟩ := F5.ce6
  obtain ⟨xF32_0, xF32_1, xF32_2, xF32_3, xF32_4, xF32_5⟩ := F3.ce6
  go_wp2_with fail
  (with_reducible refine (h2 _ (hT.below B0)).mono ?_)
  rintro r w3 ⟨rfl, hb3⟩
  clear xF52_0 xF52_1 xF52_2 xF52_3 xF52_4 xF52_5 xF32_0 xF32_1 xF32_2 xF32_3 xF32_4 xF32_5
  replace F3 := F3.keep hb3
  replace F5 := F5.keep hb3
  replace B0 := B0.trans (hb3.mono B0.size)
  clear hb3
  clear F3
  clear F5
  replace B0 := B0.alloc B0.size (.cells #[.bool qn, .string qS, .int .i64 qe, .bool qm, .string qT, .int .i64 qf] 49)
  go_wp2
  go_ret2
  exact ⟨rfl, B0⟩

set_option maxRecDepth 10000 in
set_option maxHeartbeats 4000000 in
theorem gside_3 (a : GY) (b : GY) (c : GY) (p : GY × Int) (q : GY × Int) (R : DY × Int) (E_p : gSub b a = p) (E_q : gSub c a = q) (E_R : gCross p.1 q.1 = R) (w : World) (ok_a : a.ok) (ok_b : b.ok) (ok_c : c.ok) (h_p : p.2 = 0) (h_q : q.2 = 0) (h_R : ¬ R.2 = 0) (hT : Tab w) :
    Calls Tryd.prog 76 #[.agg #[.bool a.re.n, .string (bstr a.re.x), .int .i64 a.re.e, .bool a.im.n, .string (bstr a.im.x), .int .i64 a.im.e], .agg #[.bool b.re.n, .string (bstr b.re.x), .int .i64 b.re.e, .bool b.im.n, .string (bstr b.im.x), .int .i64 b.im.e], .agg #[.bool c.re.n, .string (bstr c.re.x), .int .i64 c.re.e, .bool c.im.n, .string (bstr c.im.x), .int .i64 c.im.e]] w fun r w' => r = .returned (.tuple #[.int .i64 0, .int .i64 R.2]) ∧ Below w.heap.size w w' := by
  have ok_p : p.1.ok := E_p ▸ gSub_ok _ _
  have ok_q : q.1.ok := E_q ▸ gSub_ok _ _
  have ok_R : R.1.ok := E_R ▸ gCross_ok _ _
  have hall := fun Bk W h => gall3_ok a b c Bk W h ok_a ok_b ok_c
  have h1 := fun W hW => gsub b a W ok_b ok_a hW
  rw [E_p] at h1
  have h2 := fun W hW => gsub c a W ok_c ok_a hW
  rw [E_q] at h2
  have h3 := fun W hW => gcross p.1 q.1 W ok_p ok_q hW
  rw [E_R] at h3
  clear E_p E_q E_R ok_p ok_q ok_R ok_a ok_b ok_c
  obtain ⟨⟨an, aX, ae⟩, ⟨am, aY, af⟩⟩ := a
  obtain ⟨⟨bn, bX, be⟩, ⟨bm, bY, bf⟩⟩ := b
  obtain ⟨⟨cn, cX, ce⟩, ⟨cm, cY, cf⟩⟩ := c
  obtain ⟨⟨⟨pn, pX, pe⟩, ⟨pm, pY, pf⟩⟩, pr⟩ := p
  obtain ⟨⟨⟨qn, qX, qe⟩, ⟨qm, qY, qf⟩⟩, qr⟩ := q
  obtain ⟨⟨Rn, RX, Re⟩, Rr⟩ := R
  dsimp only at *
  generalize bstr aX = aS at *
  generalize bstr aY = aT at *
  generalize bstr bX = bS at *
  generalize bstr bY = bT at *
  generalize bstr cX = cS at *
  generalize bstr cY = cT at *
  generalize bstr pX = pS at *
  generalize bstr pY = pT at *
  generalize bstr qX = qS at *
  generalize bstr qY = qT at *
  generalize bstr RX = RS at *
  have hb_p : (pr != 0) = false := by simp [h_p]
  clear h_p
  have hb_q : (qr != 0) = false := by simp [h_q]
  clear h_q
  have hb_R : (Rr != 0) = true := by simpa using h_R
  clear h_R
  go_enter Tryd.func76, Tryd.ntmps76
  have B0 := Below.refl w.heap.size w
  have F3 := Blk.put (w) #[.bool an, .string aS, .int .i64 ae, .bool am, .string aT, .int .i64 af] 49
  replace B0 := B0.alloc B0.size (.cells #[.bool an, .string aS, .int .i64 ae, .bool am, .string aT, .int .i64 af] 49)
  replace F3 := F3.allocd (.cells #[.bool bn, .string bS, .int .i64 be, .bool bm, .string bT, .int .i64 bf] 49)
  have F4 := Blk.put ((w).alloc (.cells #[.bool an, .string aS, .int .i64 ae, .bool am, .string aT, .int .i64 af] 49)) #[.bool bn, .string bS, .int .i64 be, .bool bm, .string bT, .int .i64 bf] 49
  rw [show ((w).alloc (.cells #[.bool an, .string aS, .int .i64 ae, .bool am, .string aT, .int .i64 af] 49)).heap.size = w.heap.size + 1 by simp] at F4
  replace B0 := B0.alloc B0.size (.cells #[.bool bn, .string bS, .int .i64 be, .bool bm, .string bT, .int .i64 bf] 49)
  replace F3 := F3.allocd (.cells #[.bool cn, .string cS, .int .i64 ce, .bool cm, .string cT, .int .i64 cf] 49)
  replace F4 := F4.allocd (.cells #[.bool cn, .string cS, .int .i64 ce, .bool cm, .string cT, .int .i64 cf] 49)
  have F5 := Blk.put (((w).alloc (.cells #[.bool an, .string aS, .int .i64 ae, .bool am, .string aT, .int .i64 af] 49)).alloc (.cells #[.bool bn, .string bS, .int .i64 be, .bool bm, .string bT, .int .i64 bf] 49)) #[.bool cn, .string cS, .int .i64 ce, .bool cm, .string cT, .int .i64 cf] 49
  rw [show (((w).alloc (.cells #[.bool an, .string aS, .int .i64 ae, .bool am, .string aT, .int .i64 af] 49)).alloc (.cells #[.bool bn, .string bS, .int .i64 be, .bool bm, .string bT, .int .i64 bf] 49)).heap.size = w.heap.size + 1 + 1 by simp] at F5
  replace B0 := B0.alloc B0.size (.cells #[.bool cn, .string cS, .int .i64 ce, .bool cm, .string cT, .int .i64 cf] 49)
  obtain ⟨xF30_0, xF30_1, xF30_2, xF30_3, xF30_4, xF30_5⟩ := F3.ce6
  obtain ⟨xF40_0, xF40_1, xF40_2, xF40_3, xF40_4, xF40_5⟩ := F4.ce6
  obtain ⟨xF50_0, xF50_1, xF50_2, xF50_3, xF50_4, xF50_5⟩ := F5.ce6
  go_wp2_with fail
  (with_reducible refine (hall _ _ (by simp)).mono ?_)
  rintro r w1 ⟨rfl, hb1⟩
  clear xF30_0 xF30_1 xF30_2 xF30_3 xF30_4 xF30_5 xF40_0 xF40_1 xF40_2 xF40_3 xF40_4 xF40_5 xF50_0 xF50_1 xF50_2 xF50_3 xF50_4 xF50_5
  replace F3 := F3.keep hb1
  replace F4 := F4.keep hb1
  replace F5 := F5.keep hb1
  replace B0 := B0.trans (hb1.mono B0.size)
  clear hb1
  obtain ⟨xF41_0, xF41_1, xF41_2, xF41_3, xF41_4, xF41_5⟩ := F4.ce6
  obtain ⟨xF31_0, xF31_1, xF31_2, xF31_3, xF31_4, xF31_5⟩ := F3.ce6
  go_wp2_with fail
  (with_reducible refine (h1 _ (hT.below B0)).mono ?_)
  rintro r w2 ⟨rfl, hb2⟩
  clear xF41_0 xF41_1 xF41_2 xF41_3 xF41_4 xF41_5 xF31_0 xF31_1 xF31_2 xF31_3 xF31_4 xF31_5
  replace F3 := F3.keep hb2
  replace F4 := F4.keep hb2
  replace F5 := F5.keep hb2
  replace B0 := B0.trans (hb2.mono B0.size)
  clear hb2
  replace F3 := F3.allocd (.cells #[.bool pn, .string pS, .int .i64 pe, .bool pm, .string pT, .int .i64 pf] 49)
  clear F4
  replace F5 := F5.allocd (.cells #[.bool pn, .string pS, .int .i64 pe, .bool pm, .string pT, .int .i64 pf] 49)
  have F8 := Blk.put (w2) #[.bool pn, .string pS, .int .i64 pe, .bool pm, .string pT, .int .i64 pf] 49
  replace B0 := B0.alloc B0.size (.cells #[.bool pn, .string pS, .int .i64 pe, .bool pm, .string pT, .int .i64 pf] 49)
  obtain ⟨xF52_0, xF52_1, xF52_2, xF52_3, xF52_4, xF52_5⟩ := F5.ce6
  obtain ⟨xF32_0, xF32_1, xF32_2, xF32_3, xF32_4, xF32_5⟩ := F3.ce6
  go_wp2_with fail
  (with_reducible refine (h2 _ (hT.below B0)).mono ?_)
  rintro r w3 ⟨rfl, hb3⟩
  clear xF52_0 xF52_1 xF52_2 xF52_3 xF52_4 xF52_5 xF32_0 xF32_1 xF32_2 xF32_3 xF32_4 xF32_5
  replace F3 := F3.keep hb3
  replace F5 := F5.keep hb3
  replace F8 := F8.keep hb3
  replace B0 := B0.trans (hb3.mono B0.size)
  clear hb3
  clear F3
  clear F5
  replace F8 := F8.allocd (.cells #[.bool qn, .string qS, .int .i64 qe, .bool qm, .string qT, .int .i64 qf] 49)
  have F10 := Blk.put (w3) #[.bool qn, .string qS, .int .i64 qe, .bool qm, .string qT, .int .i64 qf] 49
  replace B0 := B0.alloc B0.size (.cells #[.bool qn, .string qS, .int .i64 qe, .bool qm, .string qT, .int .i64 qf] 49)
  obtain ⟨xF83_0, xF83_1, xF83_2, xF83_3, xF83_4, xF83_5⟩ := F8.ce6
  obtain ⟨xF103_0, xF103_1, xF103_2, xF103_3, xF103_4, xF103_5⟩ := F10.ce6
  go_wp2_with fail
  (with_reducible refine (h3 _ (hT.below B0)).mono ?_)
  rintro r w4 ⟨rfl, hb4⟩
  clear xF83_0 xF83_1 xF83_2 xF83_3 xF83_4 xF83_5 xF103_0 xF103_1 xF103_2 xF103_3 xF103_4 xF103_5
  replace F8 := F8.keep hb4
  replace F10 := F10.keep hb4
  replace B0 := B0.trans (hb4.mono B0.size)
  clear hb4
  clear F8
  clear F10
  replace B0 := B0.alloc B0.size (.cells #[.bool Rn, .string RS, .int .i64 Re] 24)
  go_wp2
  go_ret2
  exact ⟨rfl, B0⟩

set_option maxRecDepth 10000 in
set_option maxHeartbeats 4000000 in
theorem gside_4 (a : GY) (b : GY) (c : GY) (p : GY × Int) (q : GY × Int) (R : DY × Int) (Z : Int) (E_p : gSub b a = p) (E_q : gSub c a = q) (E_R : gCross p.1 q.1 = R) (E_Z : R.1.z.sign = Z) (w : World) (ok_a : a.ok) (ok_b : b.ok) (ok_c : c.ok) (h_p : p.2 = 0) (h_q : q.2 = 0) (h_R : R.2 = 0) (hT : Tab w) :
    Calls Tryd.prog 76 #[.agg #[.bool a.re.n, .string (bstr a.re.x), .int .i64 a.re.e, .bool a.im.n, .string (bstr a.im.x), .int .i64 a.im.e], .agg #[.bool b.re.n, .string (bstr b.re.x), .int .i64 b.re.e, .bool b.im.n, .string (bstr b.im.x), .int .i64 b.im.e], .agg #[.bool c.re.n, .string (bstr c.re.x), .int .i64 c.re.e, .bool c.im.n, .string (bstr c.im.x), .int .i64 c.im.e]] w fun r w' => r = .returned (.tuple #[.int .i64 Z, .int .i64 0]) ∧ Below w.heap.size w w' := by
  have ok_p : p.1.ok := E_p ▸ gSub_ok _ _
  have ok_q : q.1.ok := E_q ▸ gSub_ok _ _
  have ok_R : R.1.ok := E_R ▸ gCross_ok _ _
  have hall := fun Bk W h => gall3_ok a b c Bk W h ok_a ok_b ok_c
  have h1 := fun W hW => gsub b a W ok_b ok_a hW
  rw [E_p] at h1
  have h2 := fun W hW => gsub c a W ok_c ok_a hW
  rw [E_q] at h2
  have h3 := fun W hW => gcross p.1 q.1 W ok_p ok_q hW
  rw [E_R] at h3
  have h4 := fun W => csign R.1 W ok_R
  rw [E_Z] at h4
  clear E_p E_q E_R E_Z ok_p ok_q ok_R ok_a ok_b ok_c
  obtain ⟨⟨an, aX, ae⟩, ⟨am, aY, af⟩⟩ := a
  obtain ⟨⟨bn, bX, be⟩, ⟨bm, bY, bf⟩⟩ := b
  obtain ⟨⟨cn, cX, ce⟩, ⟨cm, cY, cf⟩⟩ := c
  obtain ⟨⟨⟨pn, pX, pe⟩, ⟨pm, pY, pf⟩⟩, pr⟩ := p
  obtain ⟨⟨⟨qn, qX, qe⟩, ⟨qm, qY, qf⟩⟩, qr⟩ := q
  obtain ⟨⟨Rn, RX, Re⟩, Rr⟩ := R
  dsimp only at *
  generalize bstr aX = aS at *
  generalize bstr aY = aT at *
  generalize bstr bX = bS at *
  generalize bstr bY = bT at *
  generalize bstr cX = cS at *
  generalize bstr cY = cT at *
  generalize bstr pX = pS at *
  generalize bstr pY = pT at *
  generalize bstr qX = qS at *
  generalize bstr qY = qT at *
  generalize bstr RX = RS at *
  have hb_p : (pr != 0) = false := by simp [h_p]
  clear h_p
  have hb_q : (qr != 0) = false := by simp [h_q]
  clear h_q
  have hb_R : (Rr != 0) = false := by simp [h_R]
  clear h_R
  go_enter Tryd.func76, Tryd.ntmps76
  have B0 := Below.refl w.heap.size w
  have F3 := Blk.put (w) #[.bool an, .string aS, .int .i64 ae, .bool am, .string aT, .int .i64 af] 49
  replace B0 := B0.alloc B0.size (.cells #[.bool an, .string aS, .int .i64 ae, .bool am, .string aT, .int .i64 af] 49)
  replace F3 := F3.allocd (.cells #[.bool bn, .string bS, .int .i64 be, .bool bm, .string bT, .int .i64 bf] 49)
  have F4 := Blk.put ((w).alloc (.cells #[.bool an, .string aS, .int .i64 ae, .bool am, .string aT, .int .i64 af] 49)) #[.bool bn, .string bS, .int .i64 be, .bool bm, .string bT, .int .i64 bf] 49
  rw [show ((w).alloc (.cells #[.bool an, .string aS, .int .i64 ae, .bool am, .string aT, .int .i64 af] 49)).heap.size = w.heap.size + 1 by simp] at F4
  replace B0 := B0.alloc B0.size (.cells #[.bool bn, .string bS, .int .i64 be, .bool bm, .string bT, .int .i64 bf] 49)
  replace F3 := F3.allocd (.cells #[.bool cn, .string cS, .int .i64 ce, .bool cm, .string cT, .int .i64 cf] 49)
  replace F4 := F4.allocd (.cells #[.bool cn, .string cS, .int .i64 ce, .bool cm, .string cT, .int .i64 cf] 49)
  have F5 := Blk.put (((w).alloc (.cells #[.bool an, .string aS, .int .i64 ae, .bool am, .string aT, .int .i64 af] 49)).alloc (.cells #[.bool bn, .string bS, .int .i64 be, .bool bm, .string bT, .int .i64 bf] 49)) #[.bool cn, .string cS, .int .i64 ce, .bool cm, .string cT, .int .i64 cf] 49
  rw [show (((w).alloc (.cells #[.bool an, .string aS, .int .i64 ae, .bool am, .string aT, .int .i64 af] 49)).alloc (.cells #[.bool bn, .string bS, .int .i64 be, .bool bm, .string bT, .int .i64 bf] 49)).heap.size = w.heap.size + 1 + 1 by simp] at F5
  replace B0 := B0.alloc B0.size (.cells #[.bool cn, .string cS, .int .i64 ce, .bool cm, .string cT, .int .i64 cf] 49)
  obtain ⟨xF30_0, xF30_1, xF30_2, xF30_3, xF30_4, xF30_5⟩ := F3.ce6
  obtain ⟨xF40_0, xF40_1, xF40_2, xF40_3, xF40_4, xF40_5⟩ := F4.ce6
  obtain ⟨xF50_0, xF50_1, xF50_2, xF50_3, xF50_4, xF50_5⟩ := F5.ce6
  go_wp2_with fail
  (with_reducible refine (hall _ _ (by simp)).mono ?_)
  rintro r w1 ⟨rfl, hb1⟩
  clear xF30_0 xF30_1 xF30_2 xF30_3 xF30_4 xF30_5 xF40_0 xF40_1 xF40_2 xF40_3 xF40_4 xF40_5 xF50_0 xF50_1 xF50_2 xF50_3 xF50_4 xF50_5
  replace F3 := F3.keep hb1
  replace F4 := F4.keep hb1
  replace F5 := F5.keep hb1
  replace B0 := B0.trans (hb1.mono B0.size)
  clear hb1
  obtain ⟨xF41_0, xF41_1, xF41_2, xF41_3, xF41_4, xF41_5⟩ := F4.ce6
  obtain ⟨xF31_0, xF31_1, xF31_2, xF31_3, xF31_4, xF31_5⟩ := F3.ce6
  go_wp2_with fail
  (with_reducible refine (h1 _ (hT.below B0)).mono ?_)
  rintro r w2 ⟨rfl, hb2⟩
  clear xF41_0 xF41_1 xF41_2 xF41_3 xF41_4 xF41_5 xF31_0 xF31_1 xF31_2 xF31_3 xF31_4 xF31_5
  replace F3 := F3.keep hb2
  replace F4 := F4.keep hb2
  replace F5 := F5.keep hb2
  replace B0 := B0.trans (hb2.mono B0.size)
  clear hb2
  replace F3 := F3.allocd (.cells #[.bool pn, .string pS, .int .i64 pe, .bool pm, .string pT, .int .i64 pf] 49)
  clear F4
  replace F5 := F5.allocd (.cells #[.bool pn, .string pS, .int .i64 pe, .bool pm, .string pT, .int .i64 pf] 49)
  have F8 := Blk.put (w2) #[.bool pn, .string pS, .int .i64 pe, .bool pm, .string pT, .int .i64 pf] 49
  replace B0 := B0.alloc B0.size (.cells #[.bool pn, .string pS, .int .i64 pe, .bool pm, .string pT, .int .i64 pf] 49)
  obtain ⟨xF52_0, xF52_1, xF52_2, xF52_3, xF52_4, xF52_5⟩ := F5.ce6
  obtain ⟨xF32_0, xF32_1, xF32_2, xF32_3, xF32_4, xF32_5⟩ := F3.ce6
  go_wp2_with fail
  (with_reducible refine (h2 _ (hT.below B0)).mono ?_)
  rintro r w3 ⟨rfl, hb3⟩
  clear xF52_0 xF52_1 xF52_2 xF52_3 xF52_4 xF52_5 xF32_0 xF32_1 xF32_2 xF32_3 xF32_4 xF32_5
  replace F3 := F3.keep hb3
  replace F5 := F5.keep hb3
  replace F8 := F8.keep hb3
  replace B0 := B0.trans (hb3.mono B0.size)
  clear hb3
  clear F3
  clear F5
  replace F8 := F8.allocd (.cells #[.bool qn, .string qS, .int .i64 qe, .bool qm, .string qT, .int .i64 qf] 49)
  have F10 := Blk.put (w3) #[.bool qn, .string qS, .int .i64 qe, .bool qm, .string qT, .int .i64 qf] 49
  replace B0 := B0.alloc B0.size (.cells #[.bool qn, .string qS, .int .i64 qe, .bool qm, .string qT, .int .i64 qf] 49)
  obtain ⟨xF83_0, xF83_1, xF83_2, xF83_3, xF83_4, xF83_5⟩ := F8.ce6
  obtain ⟨xF103_0, xF103_1, xF103_2, xF103_3, xF103_4, xF103_5⟩ := F10.ce6
  go_wp2_with fail
  (with_reducible refine (h3 _ (hT.below B0)).mono ?_)
  rintro r w4 ⟨rfl, hb4⟩
  clear xF83_0 xF83_1 xF83_2 xF83_3 xF83_4 xF83_5 xF103_0 xF103_1 xF103_2 xF103_3 xF103_4 xF103_5
  replace F8 := F8.keep hb4
  replace F10 := F10.keep hb4
  replace B0 := B0.trans (hb4.mono B0.size)
  clear hb4
  clear F8
  clear F10
  have F11 := Blk.put (w4) #[.bool Rn, .string RS, .int .i64 Re] 24
  replace B0 := B0.alloc B0.size (.cells #[.bool Rn, .string RS, .int .i64 Re] 24)
  obtain ⟨xF114_0, xF114_1, xF114_2⟩ := F11.ce3
  go_wp2_with fail
  (with_reducible refine (h4 _).mono ?_)
  rintro r w5 ⟨rfl, hb5⟩
  clear xF114_0 xF114_1 xF114_2
  replace F11 := F11.keep hb5
  replace B0 := B0.trans (hb5.mono B0.size)
  clear hb5
  go_wp2
  go_ret2
  exact ⟨rfl, B0⟩

theorem gside (a b c : GY) (w : World) (ha : a.ok) (hb : b.ok) (hc : c.ok) (hT : Tab w) :
    Calls Tryd.prog 76 #[.agg #[.bool a.re.n, .string (bstr a.re.x), .int .i64 a.re.e, .bool a.im.n, .string (bstr a.im.x), .int .i64 a.im.e], .agg #[.bool b.re.n, .string (bstr b.re.x), .int .i64 b.re.e, .bool b.im.n, .string (bstr b.im.x), .int .i64 b.im.e], .agg #[.bool c.re.n, .string (bstr c.re.x), .int .i64 c.re.e, .bool c.im.n, .string (bstr c.im.x), .int .i64 c.im.e]] w fun r w' => r = .returned (.tuple #[.int .i64 (gSide a b c).1, .int .i64 (gSide a b c).2]) ∧ Below w.heap.size w w' := by
  unfold gSide
  by_cases h1 : (gSub b a).2 = 0
  · by_cases h2 : (gSub c a).2 = 0
    · rw [if_pos ⟨h1, h2⟩]
      by_cases h3 : (gCross (gSub b a).1 (gSub c a).1).2 = 0
      · have H := gside_4 a b c _ _ _ _ rfl rfl rfl rfl w ha hb hc h1 h2 h3 hT
        rw [← h3] at H
        exact H
      · have H := gside_3 a b c _ _ _ rfl rfl rfl w ha hb hc h1 h2 h3 hT
        have hz : (gCross (gSub b a).1 (gSub c a).1).1.z.sign = 0 := by
          rcases gCross_e (gSub b a).1 (gSub c a).1 with h | h
          · exact absurd h h3
          · rw [h]; rfl
        rw [← hz] at H
        exact H
    · rw [if_neg (fun h => h2 h.2), ← err4 (gSub_e _ _) h2]
      exact gside_2 a b c _ _ rfl rfl w ha hb hc h1 h2 hT
  · rw [if_neg (fun h => h1 h.1), ← err4 (gSub_e _ _) h1]
    exact gside_1 a b c _ rfl w ha hb hc h1 hT

end Go.Proofs.YtgcifpjhhoalmaaDoor
