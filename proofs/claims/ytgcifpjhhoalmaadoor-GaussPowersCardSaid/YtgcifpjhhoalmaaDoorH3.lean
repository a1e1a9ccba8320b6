/- Walks of the layer of Gausses, by a program (walk.py): part H3. -/
import Derived.Test.YtgcifpjhhoalmaaDoorH1
import Derived.Test.YtgcifpjhhoalmaaDoorH2
namespace Go.Proofs.YtgcifpjhhoalmaaDoor
open Go Go.RowKit Go.PlainAid Fil

set_option maxRecDepth 10000 in
set_option maxHeartbeats 4000000 in
theorem qmul_w (a : GY) (b : GY) (p : DY × Int) (q : DY × Int) (R : GY × Int) (E_p : yTwo a.re b.re a.im b.im true = p) (E_q : yTwo a.re b.im a.im b.re false = q) (E_R : gB p q = R) (w : World) (ok_a : a.ok) (ok_b : b.ok)  :
    Calls Tryd.prog 67 #[.agg #[.bool a.re.n, .string (bstr a.re.x), .int .i64 a.re.e, .bool a.im.n, .string (bstr a.im.x), .int .i64 a.im.e], .agg #[.bool b.re.n, .string (bstr b.re.x), .int .i64 b.re.e, .bool b.im.n, .string (bstr b.im.x), .int .i64 b.im.e]] w fun r w' => r = .returned (.tuple #[.agg #[.bool R.1.re.n, .string (bstr R.1.re.x), .int .i64 R.1.re.e, .bool R.1.im.n, .string (bstr R.1.im.x), .int .i64 R.1.im.e], .int .i64 R.2]) ∧ Below w.heap.size w w' := by
  have h1 := fun W => qtwo a.re b.re a.im b.im true W ok_a.1 ok_b.1 ok_a.2 ok_b.2
  rw [E_p] at h1
  have h2 := fun W => qtwo a.re b.im a.im b.re false W ok_a.1 ok_b.2 ok_a.2 ok_b.1
  rw [E_q] at h2
  have h3 := fun W => qboth_any p q W
  rw [E_R] at h3
  clear E_p E_q E_R ok_a ok_b
  obtain ⟨⟨an, aX, ae⟩, ⟨am, aY, af⟩⟩ := a
  obtain ⟨⟨bn, bX, be⟩, ⟨bm, bY, bf⟩⟩ := b
  obtain ⟨⟨pn, pX, pe⟩, pr⟩ := p
  obtain ⟨⟨qn, qX, qe⟩, qr⟩ := q
  obtain ⟨⟨⟨Rn, RX, Re⟩, ⟨Rm, RY, Rf⟩⟩, Rr⟩ := R
  dsimp only at *
  generalize bstr aX = aS at *
  generalize bstr aY = aT at *
  generalize bstr bX = bS at *
  generalize bstr bY = bT at *
  generalize bstr pX = pS at *
  generalize bstr qX = qS at *
  generalize bstr RX = RS at *
  generalize bstr RY = RT at *
  go_enter Tryd.func67, Tryd.ntmps67
  have B0 := Below.refl w.heap.size w
  have F2 := Blk.put (w) #[.bool an, .string aS, .int .i64 ae, .bool am, .string aT, .int .i64 af] 49
  replace B0 := B0.alloc B0.size (.cells #[.bool an, .string aS, .int .i64 ae, .bool am, .string aT, .int .i64 af] 49)
  replace F2 := F2.allocd (.cells #[.bool bn, .string bS, .int .i64 be, .bool bm, .string bT, .int .i64 bf] 49)
  have F3 := Blk.put ((w).alloc (.cells #[.bool an, .string aS, .int .i64 ae, .bool am, .string aT, .int .i64 af] 49)) #[.bool bn, .string bS, .int .i64 be, .bool bm, .string bT, .int .i64 bf] 49
  rw [show ((w).alloc (.cells #[.bool an, .string aS, .int .i64 ae, .bool am, .string aT, .int .i64 af] 49)).heap.size = w.heap.size + 1 by simp] at F3
  replace B0 := B0.alloc B0.size (.cells #[.bool bn, .string bS, .int .i64 be, .bool bm, .string bT, .int .i64 bf] 49)
  have q_w_F4 : Hid (w.heap.size ≤ w.heap.size + 1 + 1) := Lib.hid (by omega)
  replace F2 := F2.allocd (.cells #[.bool false, .string { data := #[] }, .int .i64 0, .bool false, .string { data := #[] }, .int .i64 0] 49)
  replace F3 := F3.allocd (.cells #[.bool false, .string { data := #[] }, .int .i64 0, .bool false, .string { data := #[] }, .int .i64 0] 49)
  have F4 := Blk.put (((w).alloc (.cells #[.bool an, .string aS, .int .i64 ae, .bool am, .string aT, .int .i64 af] 49)).alloc (.cells #[.bool bn, .string bS, .int .i64 be, .bool bm, .string bT, .int .i64 bf] 49)) #[.bool false, .string { data := #[] }, .int .i64 0, .bool false, .string { data := #[] }, .int .i64 0] 49
  rw [show (((w).alloc (.cells #[.bool an, .string aS, .int .i64 ae, .bool am, .string aT, .int .i64 af] 49)).alloc (.cells #[.bool bn, .string bS, .int .i64 be, .bool bm, .string bT, .int .i64 bf] 49)).heap.size = w.heap.size + 1 + 1 by simp] at F4
  replace B0 := B0.alloc B0.size (.cells #[.bool false, .string { data := #[] }, .int .i64 0, .bool false, .string { data := #[] }, .int .i64 0] 49)
  obtain ⟨xF20_0, xF20_1, xF20_2, xF20_3, xF20_4, xF20_5⟩ := F2.ce6
  obtain ⟨xF30_0, xF30_1, xF30_2, xF30_3, xF30_4, xF30_5⟩ := F3.ce6
  go_wp2_with fail
  (with_reducible refine (h1 _).mono ?_)
  rintro r w1 ⟨rfl, hb1⟩
  clear xF20_0 xF20_1 xF20_2 xF20_3 xF20_4 xF20_5 xF30_0 xF30_1 xF30_2 xF30_3 xF30_4 xF30_5
  replace F2 := F2.keep hb1
  replace F3 := F3.keep hb1
  replace F4 := F4.keep hb1
  replace B0 := B0.trans (hb1.mono B0.size)
  clear hb1
  replace F2 := F2.allocd (.cells #[.bool pn, .string pS, .int .i64 pe] 24)
  replace F3 := F3.allocd (.cells #[.bool pn, .string pS, .int .i64 pe] 24)
  replace F4 := F4.allocd (.cells #[.bool pn, .string pS, .int .i64 pe] 24)
  have F6 := Blk.put (w1) #[.bool pn, .string pS, .int .i64 pe] 24
  replace B0 := B0.alloc B0.size (.cells #[.bool pn, .string pS, .int .i64 pe] 24)
  obtain ⟨xF21_0, xF21_1, xF21_2, xF21_3, xF21_4, xF21_5⟩ := F2.ce6
  obtain ⟨xF31_0, xF31_1, xF31_2, xF31_3, xF31_4, xF31_5⟩ := F3.ce6
  go_wp2_with fail
  (with_reducible refine (h2 _).mono ?_)
  rintro r w2 ⟨rfl, hb2⟩
  clear xF21_0 xF21_1 xF21_2 xF21_3 xF21_4 xF21_5 xF31_0 xF31_1 xF31_2 xF31_3 xF31_4 xF31_5
  replace F2 := F2.keep hb2
  replace F3 := F3.keep hb2
  replace F4 := F4.keep hb2
  replace F6 := F6.keep hb2
  replace B0 := B0.trans (hb2.mono B0.size)
  clear hb2
  clear F2
  clear F3
  replace F4 := F4.allocd (.cells #[.bool qn, .string qS, .int .i64 qe] 24)
  replace F6 := F6.allocd (.cells #[.bool qn, .string qS, .int .i64 qe] 24)
  have F8 := Blk.put (w2) #[.bool qn, .string qS, .int .i64 qe] 24
  replace B0 := B0.alloc B0.size (.cells #[.bool qn, .string qS, .int .i64 qe] 24)
  obtain ⟨xF62_0, xF62_1, xF62_2⟩ := F6.ce3
  obtain ⟨xF82_0, xF82_1, xF82_2⟩ := F8.ce3
  go_wp2_with fail
  (with_reducible refine (h3 _).mono ?_)
  rintro r w3 ⟨rfl, hb3⟩
  clear xF62_0 xF62_1 xF62_2 xF82_0 xF82_1 xF82_2
  replace F4 := F4.keep hb3
  replace F6 := F6.keep hb3
  replace F8 := F8.keep hb3
  replace B0 := B0.trans (hb3.mono B0.size)
  clear hb3
  obtain ⟨xF43_0, xF43_1, xF43_2, xF43_3, xF43_4, xF43_5⟩ := F4.ce6
  obtain ⟨xF43_0f, xF43_1f, xF43_2f, xF43_3f, xF43_4f, xF43_5f⟩ := F4.fr6
  clear F6
  clear F8
  replace F4 : Blk (((((((w3).setCell ⟨w.heap.size + 1 + 1, 0, none⟩ (.bool Rn)).setCell ⟨w.heap.size + 1 + 1, 1, none⟩ (.string RS)).setCell ⟨w.heap.size + 1 + 1, 2, none⟩ (.int .i64 Re)).setCell ⟨w.heap.size + 1 + 1, 3, none⟩ (.bool Rm)).setCell ⟨w.heap.size + 1 + 1, 4, none⟩ (.string RT)).setCell ⟨w.heap.size + 1 + 1, 5, none⟩ (.int .i64 Rf)) (w.heap.size + 1 + 1) #[.bool Rn, .string RS, .int .i64 Re, .bool Rm, .string RT, .int .i64 Rf] 49 := ((((((F4.setAt 0 (.bool Rn)).setAt 1 (.string RS)).setAt 2 (.int .i64 Re)).setAt 3 (.bool Rm)).setAt 4 (.string RT)).setAt 5 (.int .i64 Rf))
  replace B0 := ((((((B0.setCell (p := ⟨w.heap.size + 1 + 1, 0, none⟩) q_w_F4.out (.bool Rn)).setCell (p := ⟨w.heap.size + 1 + 1, 1, none⟩) q_w_F4.out (.string RS)).setCell (p := ⟨w.heap.size + 1 + 1, 2, none⟩) q_w_F4.out (.int .i64 Re)).setCell (p := ⟨w.heap.size + 1 + 1, 3, none⟩) q_w_F4.out (.bool Rm)).setCell (p := ⟨w.heap.size + 1 + 1, 4, none⟩) q_w_F4.out (.string RT)).setCell (p := ⟨w.heap.size + 1 + 1, 5, none⟩) q_w_F4.out (.int .i64 Rf))
  obtain ⟨xF44_0, xF44_1, xF44_2, xF44_3, xF44_4, xF44_5⟩ := F4.ce6
  go_wp2
  exact bodyPost_ret (v := .tuple #[.agg #[.bool Rn, .string RS, .int .i64 Re, .bool Rm, .string RT, .int .i64 Rf], .int .i64 Rr]) (by simp [results, Tryd.results67, go_sem, xF44_0, xF44_1, xF44_2, xF44_3, xF44_4, xF44_5]) rfl ⟨rfl, B0⟩

theorem qmul (a : GY) (b : GY) (w : World) (ha : a.ok) (hb : b.ok) :
    Calls Tryd.prog 67 #[.agg #[.bool a.re.n, .string (bstr a.re.x), .int .i64 a.re.e, .bool a.im.n, .string (bstr a.im.x), .int .i64 a.im.e], .agg #[.bool b.re.n, .string (bstr b.re.x), .int .i64 b.re.e, .bool b.im.n, .string (bstr b.im.x), .int .i64 b.im.e]] w fun r w' => r = .returned (.tuple #[.agg #[.bool (gMul a b).1.re.n, .string (bstr (gMul a b).1.re.x), .int .i64 (gMul a b).1.re.e, .bool (gMul a b).1.im.n, .string (bstr (gMul a b).1.im.x), .int .i64 (gMul a b).1.im.e], .int .i64 (gMul a b).2]) ∧ Below w.heap.size w w' := qmul_w a b _ _ _ rfl rfl rfl w ha hb

set_option maxRecDepth 10000 in
set_option maxHeartbeats 4000000 in
theorem qscale_w (a : GY) (d : DY) (p : DY × Int) (q : DY × Int) (R : GY × Int) (E_p : yMul a.re d = p) (E_q : yMul a.im d = q) (E_R : gB p q = R) (w : World) (ok_a : a.ok) (ok_d : d.ok)  :
    Calls Tryd.prog 63 #[.agg #[.bool a.re.n, .string (bstr a.re.x), .int .i64 a.re.e, .bool a.im.n, .string (bstr a.im.x), .int .i64 a.im.e], .agg #[.bool d.n, .string (bstr d.x), .int .i64 d.e]] w fun r w' => r = .returned (.tuple #[.agg #[.bool R.1.re.n, .string (bstr R.1.re.x), .int .i64 R.1.re.e, .bool R.1.im.n, .string (bstr R.1.im.x), .int .i64 R.1.im.e], .int .i64 R.2]) ∧ Below w.heap.size w w' := by
  have h1 := fun W => rcmul a.re d W ok_a.1 ok_d
  rw [E_p] at h1
  have h2 := fun W => rcmul a.im d W ok_a.2 ok_d
  rw [E_q] at h2
  have h3 := fun W => qboth_any p q W
  rw [E_R] at h3
  clear E_p E_q E_R ok_a ok_d
  obtain ⟨⟨an, aX, ae⟩, ⟨am, aY, af⟩⟩ := a
  obtain ⟨dn, dX, de⟩ := d
  obtain ⟨⟨pn, pX, pe⟩, pr⟩ := p
  obtain ⟨⟨qn, qX, qe⟩, qr⟩ := q
  obtain ⟨⟨⟨Rn, RX, Re⟩, ⟨Rm, RY, Rf⟩⟩, Rr⟩ := R
  dsimp only at *
  generalize bstr aX = aS at *
  generalize bstr aY = aT at *
  generalize bstr dX = dS at *
  generalize bstr pX = pS at *
  generalize bstr qX = qS at *
  generalize bstr RX = RS at *
  generalize bstr RY = RT at *
  go_enter Tryd.func63, Tryd.ntmps63
  have B0 := Below.refl w.heap.size w
  have F2 := Blk.put (w) #[.bool an, .string aS, .int .i64 ae, .bool am, .string aT, .int .i64 af] 49
  replace B0 := B0.alloc B0.size (.cells #[.bool an, .string aS, .int .i64 ae, .bool am, .string aT, .int .i64 af] 49)
  replace F2 := F2.allocd (.cells #[.bool dn, .string dS, .int .i64 de] 24)
  have F3 := Blk.put ((w).alloc (.cells #[.bool an, .string aS, .int .i64 ae, .bool am, .string aT, .int .i64 af] 49)) #[.bool dn, .string dS, .int .i64 de] 24
  rw [show ((w).alloc (.cells #[.bool an, .string aS, .int .i64 ae, .bool am, .string aT, .int .i64 af] 49)).heap.size = w.heap.size + 1 by simp] at F3
  replace B0 := B0.alloc B0.size (.cells #[.bool dn, .string dS, .int .i64 de] 24)
  have q_w_F4 : Hid (w.heap.size ≤ w.heap.size + 1 + 1) := Lib.hid (by omega)
  replace F2 := F2.allocd (.cells #[.bool false, .string { data := #[] }, .int .i64 0, .bool false, .string { data := #[] }, .int .i64 0] 49)
  replace F3 := F3.allocd (.cells #[.bool false, .string { data := #[] }, .int .i64 0, .bool false, .string { data := #[] }, .int .i64 0] 49)
  have F4 := Blk.put (((w).alloc (.cells #[.bool an, .string aS, .int .i64 ae, .bool am, .string aT, .int .i64 af] 49)).alloc (.cells #[.bool dn, .string dS, .int .i64 de] 24)) #[.bool false, .string { data := #[] }, .int .i64 0, .bool false, .string { data := #[] }, .int .i64 0] 49
  rw [show (((w).alloc (.cells #[.bool an, .string aS, .int .i64 ae, .bool am, .string aT, .int .i64 af] 49)).alloc (.cells #[.bool dn, .string dS, .int .i64 de] 24)).heap.size = w.heap.size + 1 + 1 by simp] at F4
  replace B0 := B0.alloc B0.size (.cells #[.bool false, .string { data := #[] }, .int .i64 0, .bool false, .string { data := #[] }, .int .i64 0] 49)
  obtain ⟨xF20_0, xF20_1, xF20_2, xF20_3, xF20_4, xF20_5⟩ := F2.ce6
  obtain ⟨xF30_0, xF30_1, xF30_2⟩ := F3.ce3
  go_wp2_with fail
  (with_reducible refine (h1 _).mono ?_)
  rintro r w1 ⟨rfl, hb1⟩
  clear xF20_0 xF20_1 xF20_2 xF20_3 xF20_4 xF20_5 xF30_0 xF30_1 xF30_2
  replace F2 := F2.keep hb1
  replace F3 := F3.keep hb1
  replace F4 := F4.keep hb1
  replace B0 := B0.trans (hb1.mono B0.size)
  clear hb1
  replace F2 := F2.allocd (.cells #[.bool pn, .string pS, .int .i64 pe] 24)
  replace F3 := F3.allocd (.cells #[.bool pn, .string pS, .int .i64 pe] 24)
  replace F4 := F4.allocd (.cells #[.bool pn, .string pS, .int .i64 pe] 24)
  have F6 := Blk.put (w1) #[.bool pn, .string pS, .int .i64 pe] 24
  replace B0 := B0.alloc B0.size (.cells #[.bool pn, .string pS, .int .i64 pe] 24)
  obtain ⟨xF21_0, xF21_1, xF21_2, xF21_3, xF21_4, xF21_5⟩ := F2.ce6
  obtain ⟨xF31_0, xF31_1, xF31_2⟩ := F3.ce3
  go_wp2_with fail
  (with_reducible refine (h2 _).mono ?_)
  rintro r w2 ⟨rfl, hb2⟩
  clear xF21_0 xF21_1 xF21_2 xF21_3 xF21_4 xF21_5 xF31_0 xF31_1 xF31_2
  replace F2 := F2.keep hb2
  replace F3 := F3.keep hb2
  replace F4 := F4.keep hb2
  replace F6 := F6.keep hb2
  replace B0 := B0.trans (hb2.mono B0.size)
  clear hb2
  clear F2
  clear F3
  replace F4 := F4.allocd (.cells #[.bool qn, .string qS, .int .i64 qe] 24)
  replace F6 := F6.allocd (.cells #[.bool qn, .string qS, .int .i64 qe] 24)
  have F8 := Blk.put (w2) #[.bool qn, .string qS, .int .i64 qe] 24
  replace B0 := B0.alloc B0.size (.cells #[.bool qn, .string qS, .int .i64 qe] 24)
  obtain ⟨xF62_0, xF62_1, xF62_2⟩ := F6.ce3
  obtain ⟨xF82_0, xF82_1, xF82_2⟩ := F8.ce3
  go_wp2_with fail
  (with_reducible refine (h3 _).mono ?_)
  rintro r w3 ⟨rfl, hb3⟩
  clear xF62_0 xF62_1 xF62_2 xF82_0 xF82_1 xF82_2
  replace F4 := F4.keep hb3
  replace F6 := F6.keep hb3
  replace F8 := F8.keep hb3
  replace B0 := B0.trans (hb3.mono B0.size)
  clear hb3
  obtain ⟨xF43_0, xF43_1, xF43_2, xF43_3, xF43_4, xF43_5⟩ := F4.ce6
  obtain ⟨xF43_0f, xF43_1f, xF43_2f, xF43_3f, xF43_4f, xF43_5f⟩ := F4.fr6
  clear F6
  clear F8
  replace F4 : Blk (((((((w3).setCell ⟨w.heap.size + 1 + 1, 0, none⟩ (.bool Rn)).setCell ⟨w.heap.size + 1 + 1, 1, none⟩ (.string RS)).setCell ⟨w.heap.size + 1 + 1, 2, none⟩ (.int .i64 Re)).setCell ⟨w.heap.size + 1 + 1, 3, none⟩ (.bool Rm)).setCell ⟨w.heap.size + 1 + 1, 4, none⟩ (.string RT)).setCell ⟨w.heap.size + 1 + 1, 5, none⟩ (.int .i64 Rf)) (w.heap.size + 1 + 1) #[.bool Rn, .string RS, .int .i64 Re, .bool Rm, .string RT, .int .i64 Rf] 49 := ((((((F4.setAt 0 (.bool Rn)).setAt 1 (.string RS)).setAt 2 (.int .i64 Re)).setAt 3 (.bool Rm)).setAt 4 (.string RT)).setAt 5 (.int .i64 Rf))
  replace B0 := ((((((B0.setCell (p := ⟨w.heap.size + 1 + 1, 0, none⟩) q_w_F4.out (.bool Rn)).setCell (p := ⟨w.heap.size + 1 + 1, 1, none⟩) q_w_F4.out (.string RS)).setCell (p := ⟨w.heap.size + 1 + 1, 2, none⟩) q_w_F4.out (.int .i64 Re)).setCell (p := ⟨w.heap.size + 1 + 1, 3, none⟩) q_w_F4.out (.bool Rm)).setCell (p := ⟨w.heap.size + 1 + 1, 4, none⟩) q_w_F4.out (.string RT)).setCell (p := ⟨w.heap.size + 1 + 1, 5, none⟩) q_w_F4.out (.int .i64 Rf))
  obtain ⟨xF44_0, xF44_1, xF44_2, xF44_3, xF44_4, xF44_5⟩ := F4.ce6
  go_wp2
  exact bodyPost_ret (v := .tuple #[.agg #[.bool Rn, .string RS, .int .i64 Re, .bool Rm, .string RT, .int .i64 Rf], .int .i64 Rr]) (by simp [results, Tryd.results63, go_sem, xF44_0, xF44_1, xF44_2, xF44_3, xF44_4, xF44_5]) rfl ⟨rfl, B0⟩

theorem qscale (a : GY) (d : DY) (w : World) (ha : a.ok) (hd : d.ok) :
    Calls Tryd.prog 63 #[.agg #[.bool a.re.n, .string (bstr a.re.x), .int .i64 a.re.e, .bool a.im.n, .string (bstr a.im.x), .int .i64 a.im.e], .agg #[.bool d.n, .string (bstr d.x), .int .i64 d.e]] w fun r w' => r = .returned (.tuple #[.agg #[.bool (gScale a d).1.re.n, .string (bstr (gScale a d).1.re.x), .int .i64 (gScale a d).1.re.e, .bool (gScale a d).1.im.n, .string (bstr (gScale a d).1.im.x), .int .i64 (gScale a d).1.im.e], .int .i64 (gScale a d).2]) ∧ Below w.heap.size w w' := qscale_w a d _ _ _ rfl rfl rfl w ha hd

set_option maxRecDepth 10000 in
set_option maxHeartbeats 4000000 in
theorem qnorm_w (a : GY) (p : DY × Int) (E_p : yTwo a.re a.re a.im a.im false = p) (w : World) (ok_a : a.ok)  :
    Calls Tryd.prog 77 #[.agg #[.bool a.re.n, .string (bstr a.re.x), .int .i64 a.re.e, .bool a.im.n, .string (bstr a.im.x), .int .i64 a.im.e]] w fun r w' => r = .returned (.tuple #[.agg #[.bool p.1.n, .string (bstr p.1.x), .int .i64 p.1.e], .int .i64 p.2]) ∧ Below w.heap.size w w' := by
  have h1 := fun W => qtwo a.re a.re a.im a.im false W ok_a.1 ok_a.1 ok_a.2 ok_a.2
  rw [E_p] at h1
  clear E_p ok_a
  obtain ⟨⟨an, aX, ae⟩, ⟨am, aY, af⟩⟩ := a
  obtain ⟨⟨pn, pX, pe⟩, pr⟩ := p
  dsimp only at *
  generalize bstr aX = aS at *
  generalize bstr aY = aT at *
  generalize bstr pX = pS at *
  go_enter Tryd.func77, Tryd.ntmps77
  have B0 := Below.refl w.heap.size w
  have F1 := Blk.put (w) #[.bool an, .string aS, .int .i64 ae, .bool am, .string aT, .int .i64 af] 49
  replace B0 := B0.alloc B0.size (.cells #[.bool an, .string aS, .int .i64 ae, .bool am, .string aT, .int .i64 af] 49)
  have q_w_F2 : Hid (w.heap.size ≤ w.heap.size + 1) := Lib.hid (by omega)
  replace F1 := F1.allocd (.cells #[.bool false, .string { data := #[] }, .int .i64 0] 24)
  have F2 := Blk.put ((w).alloc (.cells #[.bool an, .string aS, .int .i64 ae, .bool am, .string aT, .int .i64 af] 49)) #[.bool false, .string { data := #[] }, .int .i64 0] 24
  rw [show ((w).alloc (.cells #[.bool an, .string aS, .int .i64 ae, .bool am, .string aT, .int .i64 af] 49)).heap.size = w.heap.size + 1 by simp] at F2
  replace B0 := B0.alloc B0.size (.cells #[.bool false, .string { data := #[] }, .int .i64 0] 24)
  obtain ⟨xF10_0, xF10_1, xF10_2, xF10_3, xF10_4, xF10_5⟩ := F1.ce6
  go_wp2_with fail
  (with_reducible refine (h1 _).mono ?_)
  rintro r w1 ⟨rfl, hb1⟩
  clear xF10_0 xF10_1 xF10_2 xF10_3 xF10_4 xF10_5
  replace F1 := F1.keep hb1
  replace F2 := F2.keep hb1
  replace B0 := B0.trans (hb1.mono B0.size)
  clear hb1
  obtain ⟨xF21_0, xF21_1, xF21_2⟩ := F2.ce3
  obtain ⟨xF21_0f, xF21_1f, xF21_2f⟩ := F2.fr3
  clear F1
  replace F2 : Blk ((((w1).setCell ⟨w.heap.size + 1, 0, none⟩ (.bool pn)).setCell ⟨w.heap.size + 1, 1, none⟩ (.string pS)).setCell ⟨w.heap.size + 1, 2, none⟩ (.int .i64 pe)) (w.heap.size + 1) #[.bool pn, .string pS, .int .i64 pe] 24 := (((F2.setAt 0 (.bool pn)).setAt 1 (.string pS)).setAt 2 (.int .i64 pe))
  replace B0 := (((B0.setCell (p := ⟨w.heap.size + 1, 0, none⟩) q_w_F2.out (.bool pn)).setCell (p := ⟨w.heap.size + 1, 1, none⟩) q_w_F2.out (.string pS)).setCell (p := ⟨w.heap.size + 1, 2, none⟩) q_w_F2.out (.int .i64 pe))
  obtain ⟨xF22_0, xF22_1, xF22_2⟩ := F2.ce3
  go_wp2
  exact bodyPost_ret (v := .tuple #[.agg #[.bool pn, .string pS, .int .i64 pe], .int .i64 pr]) (by simp [results, Tryd.results77, go_sem, xF22_0, xF22_1, xF22_2]) rfl ⟨rfl, B0⟩

theorem qnorm (a : GY) (w : World) (ha : a.ok) :
    Calls Tryd.prog 77 #[.agg #[.bool a.re.n, .string (bstr a.re.x), .int .i64 a.re.e, .bool a.im.n, .string (bstr a.im.x), .int .i64 a.im.e]] w fun r w' => r = .returned (.tuple #[.agg #[.bool (gNorm a).1.n, .string (bstr (gNorm a).1.x), .int .i64 (gNorm a).1.e], .int .i64 (gNorm a).2]) ∧ Below w.heap.size w w' := qnorm_w a _ rfl w ha

set_option maxRecDepth 10000 in
set_option maxHeartbeats 4000000 in
theorem qdot_w (a : GY) (b : GY) (p : DY × Int) (E_p : yTwo a.re b.re a.im b.im false = p) (w : World) (ok_a : a.ok) (ok_b : b.ok)  :
    Calls Tryd.prog 78 #[.agg #[.bool a.re.n, .string (bstr a.re.x), .int .i64 a.re.e, .bool a.im.n, .string (bstr a.im.x), .int .i64 a.im.e], .agg #[.bool b.re.n, .string (bstr b.re.x), .int .i64 b.re.e, .bool b.im.n, .string (bstr b.im.x), .int .i64 b.im.e]] w fun r w' => r = .returned (.tuple #[.agg #[.bool p.1.n, .string (bstr p.1.x), .int .i64 p.1.e], .int .i64 p.2]) ∧ Below w.heap.size w w' := by
  have h1 := fun W => qtwo a.re b.re a.im b.im false W ok_a.1 ok_b.1 ok_a.2 ok_b.2
  rw [E_p] at h1
  clear E_p ok_a ok_b
  obtain ⟨⟨an, aX, ae⟩, ⟨am, aY, af⟩⟩ := a
  obtain ⟨⟨bn, bX, be⟩, ⟨bm, bY, bf⟩⟩ := b
  obtain ⟨⟨pn, pX, pe⟩, pr⟩ := p
  dsimp only at *
  generalize bstr aX = aS at *
  generalize bstr aY = aT at *
  generalize bstr bX = bS at *
  generalize bstr bY = bT at *
  generalize bstr pX = pS at *
  go_enter Tryd.func78, Tryd.ntmps78
  have B0 := Below.refl w.heap.size w
  have F2 := Blk.put (w) #[.bool an, .string aS, .int .i64 ae, .bool am, .string aT, .int .i64 af] 49
  replace B0 := B0.alloc B0.size (.cells #[.bool an, .string aS, .int .i64 ae, .bool am, .string aT, .int .i64 af] 49)
  replace F2 := F2.allocd (.cells #[.bool bn, .string bS, .int .i64 be, .bool bm, .string bT, .int .i64 bf] 49)
  have F3 := Blk.put ((w).alloc (.cells #[.bool an, .string aS, .int .i64 ae, .bool am, .string aT, .int .i64 af] 49)) #[.bool bn, .string bS, .int .i64 be, .bool bm, .string bT, .int .i64 bf] 49
  rw [show ((w).alloc (.cells #[.bool an, .string aS, .int .i64 ae, .bool am, .string aT, .int .i64 af] 49)).heap.size = w.heap.size + 1 by simp] at F3
  replace B0 := B0.alloc B0.size (.cells #[.bool bn, .string bS, .int .i64 be, .bool bm, .string bT, .int .i64 bf] 49)
  have q_w_F4 : Hid (w.heap.size ≤ w.heap.size + 1 + 1) := Lib.hid (by omega)
  replace F2 := F2.allocd (.cells #[.bool false, .string { data := #[] }, .int .i64 0] 24)
  replace F3 := F3.allocd (.cells #[.bool false, .string { data := #[] }, .int .i64 0] 24)
  have F4 := Blk.put (((w).alloc (.cells #[.bool an, .string aS, .int .i64 ae, .bool am, .string aT, .int .i64 af] 49)).alloc (.cells #[.bool bn, .string bS, .int .i64 be, .bool bm, .string bT, .int .i64 bf] 49)) #[.bool false, .string { data := #[] }, .int .i64 0] 24
  rw [show (((w).alloc (.cells #[.bool an, .string aS, .int .i64 ae, .bool am, .string aT, .int .i64 af] 49)).alloc (.cells #[.bool bn, .string bS, .int .i64 be, .bool bm, .string bT, .int .i64 bf] 49)).heap.size = w.heap.size + 1 + 1 by simp] at F4
  replace B0 := B0.alloc B0.size (.cells #[.bool false, .string { data := #[] }, .int .i64 0] 24)
  obtain ⟨xF20_0, xF20_1, xF20_2, xF20_3, xF20_4, xF20_5⟩ := F2.ce6
  obtain ⟨xF30_0, xF30_1, xF30_2, xF30_3, xF30_4, xF30_5⟩ := F3.ce6
  go_wp2_with fail
  (with_reducible refine (h1 _).mono ?_)
  rintro r w1 ⟨rfl, hb1⟩
  clear xF20_0 xF20_1 xF20_2 xF20_3 xF20_4 xF20_5 xF30_0 xF30_1 xF30_2 xF30_3 xF30_4 xF30_5
  replace F2 := F2.keep hb1
  replace F3 := F3.keep hb1
  replace F4 := F4.keep hb1
  replace B0 := B0.trans (hb1.mono B0.size)
  clear hb1
  obtain ⟨xF41_0, xF41_1, xF41_2⟩ := F4.ce3
  obtain ⟨xF41_0f, xF41_1f, xF41_2f⟩ := F4.fr3
  clear F2
  clear F3
  replace F4 : Blk ((((w1).setCell ⟨w.heap.size + 1 + 1, 0, none⟩ (.bool pn)).setCell ⟨w.heap.size + 1 + 1, 1, none⟩ (.string pS)).setCell ⟨w.heap.size + 1 + 1, 2, none⟩ (.int .i64 pe)) (w.heap.size + 1 + 1) #[.bool pn, .string pS, .int .i64 pe] 24 := (((F4.setAt 0 (.bool pn)).setAt 1 (.string pS)).setAt 2 (.int .i64 pe))
  replace B0 := (((B0.setCell (p := ⟨w.heap.size + 1 + 1, 0, none⟩) q_w_F4.out (.bool pn)).setCell (p := ⟨w.heap.size + 1 + 1, 1, none⟩) q_w_F4.out (.string pS)).setCell (p := ⟨w.heap.size + 1 + 1, 2, none⟩) q_w_F4.out (.int .i64 pe))
  obtain ⟨xF42_0, xF42_1, xF42_2⟩ := F4.ce3
  go_wp2
  exact bodyPost_ret (v := .tuple #[.agg #[.bool pn, .string pS, .int .i64 pe], .int .i64 pr]) (by simp [results, Tryd.results78, go_sem, xF42_0, xF42_1, xF42_2]) rfl ⟨rfl, B0⟩

theorem qdot (a : GY) (b : GY) (w : World) (ha : a.ok) (hb : b.ok) :
    Calls Tryd.prog 78 #[.agg #[.bool a.re.n, .string (bstr a.re.x), .int .i64 a.re.e, .bool a.im.n, .string (bstr a.im.x), .int .i64 a.im.e], .agg #[.bool b.re.n, .string (bstr b.re.x), .int .i64 b.re.e, .bool b.im.n, .string (bstr b.im.x), .int .i64 b.im.e]] w fun r w' => r = .returned (.tuple #[.agg #[.bool (gDot a b).1.n, .string (bstr (gDot a b).1.x), .int .i64 (gDot a b).1.e], .int .i64 (gDot a b).2]) ∧ Below w.heap.size w w' := qdot_w a b _ rfl w ha hb

set_option maxRecDepth 10000 in
set_option maxHeartbeats 4000000 in
theorem qcross_w (a : GY) (b : GY) (p : DY × Int) (E_p : yTwo a.re b.im a.im b.re true = p) (w : World) (ok_a : a.ok) (ok_b : b.ok)  :
    Calls Tryd.prog 79 #[.agg #[.bool a.re.n, .string (bstr a.re.x), .int .i64 a.re.e, .bool a.im.n, .string (bstr a.im.x), .int .i64 a.im.e], .agg #[.bool b.re.n, .string (bstr b.re.x), .int .i64 b.re.e, .bool b.im.n, .string (bstr b.im.x), .int .i64 b.im.e]] w fun r w' => r = .returned (.tuple #[.agg #[.bool p.1.n, .string (bstr p.1.x), .int .i64 p.1.e], .int .i64 p.2]) ∧ Below w.heap.size w w' := by
  have h1 := fun W => qtwo a.re b.im a.im b.re true W ok_a.1 ok_b.2 ok_a.2 ok_b.1
  rw [E_p] at h1
  clear E_p ok_a ok_b
  obtain ⟨⟨an, aX, ae⟩, ⟨am, aY, af⟩⟩ := a
  obtain ⟨⟨bn, bX, be⟩, ⟨bm, bY, bf⟩⟩ := b
  obtain ⟨⟨pn, pX, pe⟩, pr⟩ := p
  dsimp only at *
  generalize bstr aX = aS at *
  generalize bstr aY = aT at *
  generalize bstr bX = bS at *
  generalize bstr bY = bT at *
  generalize bstr pX = pS at *
  go_enter Tryd.func79, Tryd.ntmps79
  have B0 := Below.refl w.heap.size w
  have F2 := Blk.put (w) #[.bool an, .string aS, .int .i64 ae, .bool am, .string aT, .int .i64 af] 49
  replace B0 := B0.alloc B0.size (.cells #[.bool an, .string aS, .int .i64 ae, .bool am, .string aT, .int .i64 af] 49)
  replace F2 := F2.allocd (.cells #[.bool bn, .string bS, .int .i64 be, .bool bm, .string bT, .int .i64 bf] 49)
  have F3 := Blk.put ((w).alloc (.cells #[.bool an, .string aS, .int .i64 ae, .bool am, .string aT, .int .i64 af] 49)) #[.bool bn, .string bS, .int .i64 be, .bool bm, .string bT, .int .i64 bf] 49
  rw [show ((w).alloc (.cells #[.bool an, .string aS, .int .i64 ae, .bool am, .string aT, .int .i64 af] 49)).heap.size = w.heap.size + 1 by simp] at F3
  replace B0 := B0.alloc B0.size (.cells #[.bool bn, .string bS, .int .i64 be, .bool bm, .string bT, .int .i64 bf] 49)
  have q_w_F4 : Hid (w.heap.size ≤ w.heap.size + 1 + 1) := Lib.hid (by omega)
  replace F2 := F2.allocd (.cells #[.bool false, .string { data := #[] }, .int .i64 0] 24)
  replace F3 := F3.allocd (.cells #[.bool false, .string { data := #[] }, .int .i64 0] 24)
  have F4 := Blk.put (((w).alloc (.cells #[.bool an, .string aS, .int .i64 ae, .bool am, .string aT, .int .i64 af] 49)).alloc (.cells #[.bool bn, .string bS, .int .i64 be, .bool bm, .string bT, .int .i64 bf] 49)) #[.bool false, .string { data := #[] }, .int .i64 0] 24
  rw [show (((w).alloc (.cells #[.bool an, .string aS, .int .i64 ae, .bool am, .string aT, .int .i64 af] 49)).alloc (.cells #[.bool bn, .string bS, .int .i64 be, .bool bm, .string bT, .int .i64 bf] 49)).heap.size = w.heap.size + 1 + 1 by simp] at F4
  replace B0 := B0.alloc B0.size (.cells #[.bool false, .string { data := #[] }, .int .i64 0] 24)
  obtain ⟨xF20_0, xF20_1, xF20_2, xF20_3, xF20_4, xF20_5⟩ := F2.ce6
  obtain ⟨xF30_0, xF30_1, xF30_2, xF30_3, xF30_4, xF30_5⟩ := F3.ce6
  go_wp2_with fail
  (with_reducible refine (h1 _).mono ?_)
  rintro r w1 ⟨rfl, hb1⟩
  clear xF20_0 xF20_1 xF20_2 xF20_3 xF20_4 xF20_5 xF30_0 xF30_1 xF30_2 xF30_3 xF30_4 xF30_5
  replace F2 := F2.keep hb1
  replace F3 := F3.keep hb1
  replace F4 := F4.keep hb1
  replace B0 := B0.trans (hb1.mono B0.size)
  clear hb1
  obtain ⟨xF41_0, xF41_1, xF41_2⟩ := F4.ce3
  obtain ⟨xF41_0f, xF41_1f, xF41_2f⟩ := F4.fr3
  clear F2
  clear F3
  replace F4 : Blk ((((w1).setCell ⟨w.heap.size + 1 + 1, 0, none⟩ (.bool pn)).setCell ⟨w.heap.size + 1 + 1, 1, none⟩ (.string pS)).setCell ⟨w.heap.size + 1 + 1, 2, none⟩ (.int .i64 pe)) (w.heap.size + 1 + 1) #[.bool pn, .string pS, .int .i64 pe] 24 := (((F4.setAt 0 (.bool pn)).setAt 1 (.string pS)).setAt 2 (.int .i64 pe))
  replace B0 := (((B0.setCell (p := ⟨w.heap.size + 1 + 1, 0, none⟩) q_w_F4.out (.bool pn)).setCell (p := ⟨w.heap.size + 1 + 1, 1, none⟩) q_w_F4.out (.string pS)).setCell (p := ⟨w.heap.size + 1 + 1, 2, none⟩) q_w_F4.out (.int .i64 pe))
  obtain ⟨xF42_0, xF42_1, xF42_2⟩ := F4.ce3
  go_wp2
  exact bodyPost_ret (v := .tuple #[.agg #[.bool pn, .string pS, .int .i64 pe], .int .i64 pr]) (by simp [results, Tryd.results79, go_sem, xF42_0, xF42_1, xF42_2]) rfl ⟨rfl, B0⟩

theorem qcross (a : GY) (b : GY) (w : World) (ha : a.ok) (hb : b.ok) :
    Calls Tryd.prog 79 #[.agg #[.bool a.re.n, .string (bstr a.re.x), .int .i64 a.re.e, .bool a.im.n, .string (bstr a.im.x), .int .i64 a.im.e], .agg #[.bool b.re.n, .string (bstr b.re.x), .int .i64 b.re.e, .bool b.im.n, .string (bstr b.im.x), .int .i64 b.im.e]] w fun r w' => r = .returned (.tuple #[.agg #[.bool (gCross a b).1.n, .string (bstr (gCross a b).1.x), .int .i64 (gCross a b).1.e], .int .i64 (gCross a b).2]) ∧ Below w.heap.size w w' := qcross_w a b _ rfl w ha hb

end Go.Proofs.YtgcifpjhhoalmaaDoor
