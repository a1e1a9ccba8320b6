/- Walks of the layer of Gausses, by a program (walk.py): part H4. -/
import Derived.Test.YtgcifpjhhoalmaaDoorH3
namespace Go.Proofs.YtgcifpjhhoalmaaDoor
open Go Go.RowKit Go.PlainAid Fil

set_option maxRecDepth 10000 in
set_option maxHeartbeats 4000000 in
theorem qcmp_bad (a : GY) (b : GY) (p : DY × Int) (q : DY × Int) (E_p : gNorm a = p) (E_q : gNorm b = q) (w : World) (ok_a : a.ok) (ok_b : b.ok) (h : ¬ (p.2 = 0 ∧ q.2 = 0)) :
    Calls Tryd.prog 80 #[.agg #[.bool a.re.n, .string (bstr a.re.x), .int .i64 a.re.e, .bool a.im.n, .string (bstr a.im.x), .int .i64 a.im.e], .agg #[.bool b.re.n, .string (bstr b.re.x), .int .i64 b.re.e, .bool b.im.n, .string (bstr b.im.x), .int .i64 b.im.e]] w fun r w' => r = .returned (.tuple #[.int .i64 0, .int .i64 4]) ∧ Below w.heap.size w w' := by
  have ok_p : p.1.ok := E_p ▸ gNorm_ok _
  have ok_q : q.1.ok := E_q ▸ gNorm_ok _
  have h1 := fun W => qnorm a W ok_a
  rw [E_p] at h1
  have h2 := fun W => qnorm b W ok_b
  rw [E_q] at h2
  clear E_p E_q ok_p ok_q ok_a ok_b
  obtain ⟨⟨an, aX, ae⟩, ⟨am, aY, af⟩⟩ := a
  obtain ⟨⟨bn, bX, be⟩, ⟨bm, bY, bf⟩⟩ := b
  obtain ⟨⟨pn, pX, pe⟩, pr⟩ := p
  obtain ⟨⟨qn, qX, qe⟩, qr⟩ := q
  dsimp only at *
  generalize bstr aX = aS at *
  generalize bstr aY = aT at *
  generalize bstr bX = bS at *
  generalize bstr bY = bT at *
  generalize bstr pX = pS at *
  generalize bstr qX = qS at *
  by_cases hu : pr = 0
  · have hu2 : (pr != 0) = false := by simp [hu]
    have hv2 : (qr != 0) = true := by simpa [hu] using h
    clear h hu
    go_enter Tryd.func80, Tryd.ntmps80
    have B0 := Below.refl w.heap.size w
    have F2 := Blk.put (w) #[.bool an, .string aS, .int .i64 ae, .bool am, .string aT, .int .i64 af] 49
    replace B0 := B0.alloc B0.size (.cells #[.bool an, .string aS, .int .i64 ae, .bool am, .string aT, .int .i64 af] 49)
    replace F2 := F2.allocd (.cells #[.bool bn, .string bS, .int .i64 be, .bool bm, .string bT, .int .i64 bf] 49)
    have F3 := Blk.put ((w).alloc (.cells #[.bool an, .string aS, .int .i64 ae, .bool am, .string aT, .int .i64 af] 49)) #[.bool bn, .string bS, .int .i64 be, .bool bm, .string bT, .int .i64 bf] 49
    rw [show ((w).alloc (.cells #[.bool an, .string aS, .int .i64 ae, .bool am, .string aT, .int .i64 af] 49)).heap.size = w.heap.size + 1 by simp] at F3
    replace B0 := B0.alloc B0.size (.cells #[.bool bn, .string bS, .int .i64 be, .bool bm, .string bT, .int .i64 bf] 49)
    obtain ⟨xF20_0, xF20_1, xF20_2, xF20_3, xF20_4, xF20_5⟩ := F2.ce6
    go_wp2_with fail
    (with_reducible refine (h1 _).mono ?_)
    rintro r w1 ⟨rfl, hb1⟩
    clear xF20_0 xF20_1 xF20_2 xF20_3 xF20_4 xF20_5
    replace F2 := F2.keep hb1
    replace F3 := F3.keep hb1
    replace B0 := B0.trans (hb1.mono B0.size)
    clear hb1
    clear F2
    replace F3 := F3.allocd (.cells #[.bool pn, .string pS, .int .i64 pe] 24)
    replace B0 := B0.alloc B0.size (.cells #[.bool pn, .string pS, .int .i64 pe] 24)
    obtain ⟨xF31_0, xF31_1, xF31_2, xF31_3, xF31_4, xF31_5⟩ := F3.ce6
    go_wp2_with fail
    (with_reducible refine (h2 _).mono ?_)
    rintro r w2 ⟨rfl, hb2⟩
    clear xF31_0 xF31_1 xF31_2 xF31_3 xF31_4 xF31_5
    replace F3 := F3.keep hb2
    replace B0 := B0.trans (hb2.mono B0.size)
    clear hb2
    clear F3
    replace B0 := B0.alloc B0.size (.cells #[.bool qn, .string qS, .int .i64 qe] 24)
    go_wp2
    go_ret2
    exact ⟨rfl, B0⟩
  · have hu2 : (pr != 0) = true := by simpa using hu
    clear h hu
    go_enter Tryd.func80, Tryd.ntmps80
    have B0 := Below.refl w.heap.size w
    have F2 := Blk.put (w) #[.bool an, .string aS, .int .i64 ae, .bool am, .string aT, .int .i64 af] 49
    replace B0 := B0.alloc B0.size (.cells #[.bool an, .string aS, .int .i64 ae, .bool am, .string aT, .int .i64 af] 49)
    replace F2 := F2.allocd (.cells #[.bool bn, .string bS, .int .i64 be, .bool bm, .string bT, .int .i64 bf] 49)
    have F3 := Blk.put ((w).alloc (.cells #[.bool an, .string aS, .int .i64 ae, .bool am, .string aT, .int .i64 af] 49)) #[.bool bn, .string bS, .int .i64 be, .bool bm, .string bT, .int .i64 bf] 49
    rw [show ((w).alloc (.cells #[.bool an, .string aS, .int .i64 ae, .bool am, .string aT, .int .i64 af] 49)).heap.size = w.heap.size + 1 by simp] at F3
    replace B0 := B0.alloc B0.size (.cells #[.bool bn, .string bS, .int .i64 be, .bool bm, .string bT, .int .i64 bf] 49)
    obtain ⟨xF20_0, xF20_1, xF20_2, xF20_3, xF20_4, xF20_5⟩ := F2.ce6
    go_wp2_with fail
    (with_reducible refine (h1 _).mono ?_)
    rintro r w1 ⟨rfl, hb1⟩
    clear xF20_0 xF20_1 xF20_2 xF20_3 xF20_4 xF20_5
    replace F2 := F2.keep hb1
    replace F3 := F3.keep hb1
    replace B0 := B0.trans (hb1.mono B0.size)
    clear hb1
    clear F2
    replace F3 := F3.allocd (.cells #[.bool pn, .string pS, .int .i64 pe] 24)
    replace B0 := B0.alloc B0.size (.cells #[.bool pn, .string pS, .int .i64 pe] 24)
    obtain ⟨xF31_0, xF31_1, xF31_2, xF31_3, xF31_4, xF31_5⟩ := F3.ce6
    go_wp2_with fail
    (with_reducible refine (h2 _).mono ?_)
    rintro r w2 ⟨rfl, hb2⟩
    clear xF31_0 xF31_1 xF31_2 xF31_3 xF31_4 xF31_5
    replace F3 := F3.keep hb2
    replace B0 := B0.trans (hb2.mono B0.size)
    clear hb2
    clear F3
    replace B0 := B0.alloc B0.size (.cells #[.bool qn, .string qS, .int .i64 qe] 24)
    go_wp2
    go_ret2
    exact ⟨rfl, B0⟩

set_option maxRecDepth 10000 in
set_option maxHeartbeats 4000000 in
theorem qcmp_ok (a : GY) (b : GY) (p : DY × Int) (q : DY × Int) (N : Int) (E_p : gNorm a = p) (E_q : gNorm b = q) (E_N : yCmp p.1 q.1 = N) (w : World) (ok_a : a.ok) (ok_b : b.ok) (hp : p.2 = 0) (hq : q.2 = 0) :
    Calls Tryd.prog 80 #[.agg #[.bool a.re.n, .string (bstr a.re.x), .int .i64 a.re.e, .bool a.im.n, .string (bstr a.im.x), .int .i64 a.im.e], .agg #[.bool b.re.n, .string (bstr b.re.x), .int .i64 b.re.e, .bool b.im.n, .string (bstr b.im.x), .int .i64 b.im.e]] w fun r w' => r = .returned (.tuple #[.int .i64 N, .int .i64 0]) ∧ Below w.heap.size w w' := by
  have ok_p : p.1.ok := E_p ▸ gNorm_ok _
  have ok_q : q.1.ok := E_q ▸ gNorm_ok _
  have h1 := fun W => qnorm a W ok_a
  rw [E_p] at h1
  have h2 := fun W => qnorm b W ok_b
  rw [E_q] at h2
  have h3 := fun W => rccmp p.1 q.1 W ok_p ok_q
  rw [E_N] at h3
  clear E_p E_q E_N ok_p ok_q ok_a ok_b
  obtain ⟨⟨an, aX, ae⟩, ⟨am, aY, af⟩⟩ := a
  obtain ⟨⟨bn, bX, be⟩, ⟨bm, bY, bf⟩⟩ := b
  obtain ⟨⟨pn, pX, pe⟩, pr⟩ := p
  obtain ⟨⟨qn, qX, qe⟩, qr⟩ := q
  dsimp only at *
  generalize bstr aX = aS at *
  generalize bstr aY = aT at *
  generalize bstr bX = bS at *
  generalize bstr bY = bT at *
  generalize bstr pX = pS at *
  generalize bstr qX = qS at *
  have hu2 : (pr != 0) = false := by simp [hp]
  have hv2 : (qr != 0) = false := by simp [hq]
  clear hp hq
  go_enter Tryd.func80, Tryd.ntmps80
  have B0 := Below.refl w.heap.size w
  have F2 := Blk.put (w) #[.bool an, .string aS, .int .i64 ae, .bool am, .string aT, .int .i64 af] 49
  replace B0 := B0.alloc B0.size (.cells #[.bool an, .string aS, .int .i64 ae, .bool am, .string aT, .int .i64 af] 49)
  replace F2 := F2.allocd (.cells #[.bool bn, .string bS, .int .i64 be, .bool bm, .string bT, .int .i64 bf] 49)
  have F3 := Blk.put ((w).alloc (.cells #[.bool an, .string aS, .int .i64 ae, .bool am, .string aT, .int .i64 af] 49)) #[.bool bn, .string bS, .int .i64 be, .bool bm, .string bT, .int .i64 bf] 49
  rw [show ((w).alloc (.cells #[.bool an, .string aS, .int .i64 ae, .bool am, .string aT, .int .i64 af] 49)).heap.size = w.heap.size + 1 by simp] at F3
  replace B0 := B0.alloc B0.size (.cells #[.bool bn, .string bS, .int .i64 be, .bool bm, .string bT, .int .i64 bf] 49)
  obtain ⟨xF20_0, xF20_1, xF20_2, xF20_3, xF20_4, xF20_5⟩ := F2.ce6
  go_wp2_with fail
  (with_reducible refine (h1 _).mono ?_)
  rintro r w1 ⟨rfl, hb1⟩
  clear xF20_0 xF20_1 xF20_2 xF20_3 xF20_4 xF20_5
  replace F2 := F2.keep hb1
  replace F3 := F3.keep hb1
  replace B0 := B0.trans (hb1.mono B0.size)
  clear hb1
  clear F2
  replace F3 := F3.allocd (.cells #[.bool pn, .string pS, .int .i64 pe] 24)
  have F6 := Blk.put (w1) #[.bool pn, .string pS, .int .i64 pe] 24
  replace B0 := B0.alloc B0.size (.cells #[.bool pn, .string pS, .int .i64 pe] 24)
  obtain ⟨xF31_0, xF31_1, xF31_2, xF31_3, xF31_4, xF31_5⟩ := F3.ce6
  go_wp2_with fail
  (with_reducible refine (h2 _).mono ?_)
  rintro r w2 ⟨rfl, hb2⟩
  clear xF31_0 xF31_1 xF31_2 xF31_3 xF31_4 xF31_5
  replace F3 := F3.keep hb2
  replace F6 := F6.keep hb2
  replace B0 := B0.trans (hb2.mono B0.size)
  clear hb2
  clear F3
  replace F6 := F6.allocd (.cells #[.bool qn, .string qS, .int .i64 qe] 24)
  have F8 := Blk.put (w2) #[.bool qn, .string qS, .int .i64 qe] 24
  replace B0 := B0.alloc B0.size (.cells #[.bool qn, .string qS, .int .i64 qe] 24)
  obtain ⟨xF62_0, xF62_1, xF62_2⟩ := F6.ce3
  obtain ⟨xF82_0, xF82_1, xF82_2⟩ := F8.ce3
  go_wp2_with fail
  (with_reducible refine (h3 _).mono ?_)
  rintro r w3 ⟨rfl, hb3⟩
  clear xF62_0 xF62_1 xF62_2 xF82_0 xF82_1 xF82_2
  replace F6 := F6.keep hb3
  replace F8 := F8.keep hb3
  replace B0 := B0.trans (hb3.mono B0.size)
  clear hb3
  go_wp2
  go_ret2
  exact ⟨rfl, B0⟩

theorem qcmp (a b : GY) (w : World) (ha : a.ok) (hb : b.ok) :
    Calls Tryd.prog 80 #[.agg #[.bool a.re.n, .string (bstr a.re.x), .int .i64 a.re.e, .bool a.im.n, .string (bstr a.im.x), .int .i64 a.im.e], .agg #[.bool b.re.n, .string (bstr b.re.x), .int .i64 b.re.e, .bool b.im.n, .string (bstr b.im.x), .int .i64 b.im.e]] w fun r w' => r = .returned (.tuple #[.int .i64 (gCmp a b).1, .int .i64 (gCmp a b).2]) ∧ Below w.heap.size w w' := by
  unfold gCmp
  by_cases h : (gNorm a).2 = 0 ∧ (gNorm b).2 = 0
  · rw [if_pos h]
    exact qcmp_ok a b _ _ _ rfl rfl rfl w ha hb h.1 h.2
  · rw [if_neg h]
    exact qcmp_bad a b _ _ rfl rfl w ha hb h

set_option maxRecDepth 10000 in
set_option maxHeartbeats 4000000 in
theorem qside_bad (a : GY) (b : GY) (c : GY) (p : GY × Int) (q : GY × Int) (E_p : gSub b a = p) (E_q : gSub c a = q) (w : World) (ok_a : a.ok) (ok_b : b.ok) (ok_c : c.ok) (h : ¬ (p.2 = 0 ∧ q.2 = 0)) :
    Calls Tryd.prog 81 #[.agg #[.bool a.re.n, .string (bstr a.re.x), .int .i64 a.re.e, .bool a.im.n, .string (bstr a.im.x), .int .i64 a.im.e], .agg #[.bool b.re.n, .string (bstr b.re.x), .int .i64 b.re.e, .bool b.im.n, .string (bstr b.im.x), .int .i64 b.im.e], .agg #[.bool c.re.n, .string (bstr c.re.x), .int .i64 c.re.e, .bool c.im.n, .string (bstr c.im.x), .int .i64 c.im.e]] w fun r w' => r = .returned (.tuple #[.int .i64 0, .int .i64 4]) ∧ Below w.heap.size w w' := by
  have ok_p : p.1.ok := E_p ▸ gSub_ok _ _
  have ok_q : q.1.ok := E_q ▸ gSub_ok _ _
  have h1 := fun W => qsub b a W ok_b ok_a
  rw [E_p] at h1
  have h2 := fun W => qsub c a W ok_c ok_a
  rw [E_q] at h2
  clear E_p E_q ok_p ok_q ok_a ok_b ok_c
  obtain ⟨⟨an, aX, ae⟩, ⟨am, aY, af⟩⟩ := a
  obtain ⟨⟨bn, bX, be⟩, ⟨bm, bY, bf⟩⟩ := b
  obtain ⟨⟨cn, cX, ce⟩, ⟨cm, cY, cf⟩⟩ := c
  obtain ⟨⟨⟨pn, pX, pe⟩, ⟨pm, pY, pf⟩⟩, pr⟩ := p
  obtain ⟨⟨⟨qn, qX, qe⟩, ⟨qm, qY, qf⟩⟩, qr⟩ := q
  dsimp only at *
  generalize bstr aX = aS at *
  generalize bstr aY = aT at *
  generalize bstr bX = bS at *
  generalize bstr bY = bT at *
  generalize bstr cX = cS at *
  generalize bstr cY = cT at *
  generalize bstr pX = pS at *
  generalize bstr pY = pT at *
  generalize bstr qX = qS at *
  generalize bstr qY = qT at *
  by_cases hu : pr = 0
  · have hu2 : (pr != 0) = false := by simp [hu]
    have hv2 : (qr != 0) = true := by simpa [hu] using h
    clear h hu
    go_enter Tryd.func81, Tryd.ntmps81
    have B0 := Below.refl w.heap.size w
    have F3 := Blk.put (w) #[.bool an, .string aS, .int .i64 ae, .bool am, .string aT, .int .i64 af] 49
    replace B0 := B0.alloc B0.size (.cells #[.bool an, .string aS, .int .i64 ae, .bool am, .string aT, .int .i64 af] 49)
    replace F3 := F3.allocd (.cells #[.bool bn, .string bS, .int .i64 be, .bool bm, .string bT, .int .i64 bf] 49)
    have F4 := Blk.put ((w).alloc (.cells #[.bool an, .string aS, .int .i64 ae, .bool am, .string aT, .int .i64 af] 49)) #[.bool bn, .string bS, .int .i64 be, .bool bm, .string bT, .int .i64 bf] 49
    rw [show ((w).alloc (.cells #[.bool an, .string aS, .int .i64 ae, .bool am, .string aT, .int .i64 af] 49)).heap.size = w.heap.size + 1 by simp] at F4
    replace B0 := B0.alloc B0.size (.cells #[.bool bn, .string bS, .int .i64 be, .bool bm, .string bT, .int .i64 bf] 49)
    replace F3 := F3.allocd (.cells #[.bool cn, .string cS, .int .i64 ce, .bool cm, .string cT, .int .i64 cf] 49)
    replace F4 := F4.allocd (.cells #[.bool cn, .string cS, .int .i64 ce, .bool cm, .string cT, .int .i64 cf] 49)
    have F5 := Blk.put (((w).alloc (.cells #[.bool an, .string aS, .int .i64 ae, .bool am, .string aT, .int .i64 af] 49)).alloc (.cells #[.bool bn, .string bS, .int .i64 be, .bool bm, .string bT, .int .i64 bf] 49)) #[.bool cn, .string cS, .int .i64 ce, .bool cm, .string cT, .int .i64 cf] 49
    rw [show (((w).alloc (.cells #[.bool an, .string aS, .int .i64 ae, .bool am, .string aT, .int .i64 af] 49)).alloc (.cells #[.bool bn, .string bS, .int .i64 be, .bool bm, .string bT, .int .i64 bf] 49)).heap.size = w.heap.size + 1 + 1 by simp] at F5
    replace B0 := B0.alloc B0.size (.cells #[.bool cn, .string cS, .int .i64 ce, .bool cm, .string cT, .int .i64 cf] 49)
    obtain ⟨xF40_0, xF40_1, xF40_2, xF40_3, xF40_4, xF40_5⟩ := F4.ce6
    obtain ⟨xF30_0, xF30_1, xF30_2, xF30_3, xF30_4, xF30_5⟩ := F3.ce6
    go_wp2_with fail
    (with_reducible refine (h1 _).mono ?_)
    rintro r w1 ⟨rfl, hb1⟩
    clear xF40_0 xF40_1 xF40_2 xF40_3 xF40_4 xF40_5 xF30_0 xF30_1 xF30_2 xF30_3 xF30_4 xF30_5
    replace F3 := F3.keep hb1
    replace F4 := F4.keep hb1
    replace F5 := F5.keep hb1
    replace B0 := B0.trans (hb1.mono B0.size)
    clear hb1
    replace F3 := F3.allocd (.cells #[.bool pn, .string pS, .int .i64 pe, .bool pm, .string pT, .int .i64 pf] 49)
    clear F4
    replace F5 := F5.allocd (.cells #[.bool pn, .string pS, .int .i64 pe, .bool pm, .string pT, .int .i64 pf] 49)
    replace B0 := B0.alloc B0.size (.cells #[.bool pn, .string pS, .int .i64 pe, .bool pm, .string pT, .int .i64 pf] 49)
    obtain ⟨xF51_0, xF51_1, xF51_2, xF51_3, xF51_4, xF51_5⟩ := F5.ce6
    obtain ⟨xF31_0, xF31_1, xF31_2, xF31_3, xF31_4, xF31_5⟩ := F3.ce6
    go_wp2_with fail
    (with_reducible refine (h2 _).mono ?_)
    rintro r w2 ⟨rfl, hb2⟩
    clear xF51_0 xF51_1 xF51_2 xF51_3 xF51_4 xF51_5 xF31_0 xF31_1 xF31_2 xF31_3 xF31_4 xF31_5
    replace F3 := F3.keep hb2
    replace F5 := F5.keep hb2
    replace B0 := B0.trans (hb2.mono B0.size)
    clear hb2
    clear F3
    clear F5
    replace B0 := B0.alloc B0.size (.cells #[.bool qn, .string qS, .int .i64 qe, .bool qm, .string qT, .int .i64 qf] 49)
    go_wp2
    go_ret2
    exact ⟨rfl, B0⟩
  · have hu2 : (pr != 0) = true := by simpa using hu
    clear h hu
    go_enter Tryd.func81, Tryd.ntmps81
    have B0 := Below.refl w.heap.size w
    have F3 := Blk.put (w) #[.bool an, .string aS, .int .i64 ae, .bool am, .string aT, .int .i64 af] 49
    replace B0 := B0.alloc B0.size (.cells #[.bool an, .string aS, .int .i64 ae, .bool am, .string aT, .int .i64 af] 49)
    replace F3 := F3.allocd (.cells #[.bool bn, .string bS, .int .i64 be, .bool bm, .string bT, .int .i64 bf] 49)
    have F4 := Blk.put ((w).alloc (.cells #[.bool an, .string aS, .int .i64 ae, .bool am, .string aT, .int .i64 af] 49)) #[.bool bn, .string bS, .int .i64 be, .bool bm, .string bT, .int .i64 bf] 49
    rw [show ((w).alloc (.cells #[.bool an, .string aS, .int .i64 ae, .bool am, .string aT, .int .i64 af] 49)).heap.size = w.heap.size + 1 by simp] at F4
    replace B0 := B0.alloc B0.size (.cells #[.bool bn, .string bS, .int .i64 be, .bool bm, .string bT, .int .i64 bf] 49)
    replace F3 := F3.allocd (.cells #[.bool cn, .string cS, .int .i64 ce, .bool cm, .string cT, .int .i64 cf] 49)
    replace F4 := F4.allocd (.cells #[.bool cn, .string cS, .int .i64 ce, .bool cm, .string cT, .int .i64 cf] 49)
    have F5 := Blk.put (((w).alloc (.cells #[.bool an, .string aS, .int .i64 ae, .bool am, .string aT, .int .i64 af] 49)).alloc (.cells #[.bool bn, .string bS, .int .i64 be, .bool bm, .string bT, .int .i64 bf] 49)) #[.bool cn, .string cS, .int .i64 ce, .bool cm, .string cT, .int .i64 cf] 49
    rw [show (((w).alloc (.cells #[.bool an, .string aS, .int .i64 ae, .bool am, .string aT, .int .i64 af] 49)).alloc (.cells #[.bool bn, .string bS, .int .i64 be, .bool bm, .string bT, .int .i64 bf] 49)).heap.size = w.heap.size + 1 + 1 by simp] at F5
    replace B0 := B0.alloc B0.size (.cells #[.bool cn, .string cS, .int .i64 ce, .bool cm, .string cT, .int .i64 cf] 49)
    obtain ⟨xF40_0, xF40_1, xF40_2, xF40_3, xF40_4, xF40_5⟩ := F4.ce6
    obtain ⟨xF30_0, xF30_1, xF30_2, xF30_3, xF30_4, xF30_5⟩ := F3.ce6
    go_wp2_with fail
    (with_reducible refine (h1 _).mono ?_)
    rintro r w1 ⟨rfl, hb1⟩
    clear xF40_0 xF40_1 xF40_2 xF40_3 xF40_4 xF40_5 xF30_0 xF30_1 xF30_2 xF30_3 xF30_4 xF30_5
    replace F3 := F3.keep hb1
    replace F4 := F4.keep hb1
    replace F5 := F5.keep hb1
    replace B0 := B0.trans (hb1.mono B0.size)
    clear hb1
    replace F3 := F3.allocd (.cells #[.bool pn, .string pS, .int .i64 pe, .bool pm, .string pT, .int .i64 pf] 49)
    clear F4
    replace F5 := F5.allocd (.cells #[.bool pn, .string pS, .int .i64 pe, .bool pm, .string pT, .int .i64 pf] 49)
    replace B0 := B0.alloc B0.size (.cells #[.bool pn, .string pS, .int .i64 pe, .bool pm, .string pT, .int .i64 pf] 49)
    obtain ⟨xF51_0, xF51_1, xF51_2, xF51_3, xF51_4, xF51_5⟩ := F5.ce6
    obtain ⟨xF31_0, xF31_1, xF31_2, xF31_3, xF31_4, xF31_5⟩ := F3.ce6
    go_wp2_with fail
    (with_reducible refine (h2 _).mono ?_)
    rintro r w2 ⟨rfl, hb2⟩
    clear xF51_0 xF51_1 xF51_2 xF51_3 xF51_4 xF51_5 xF31_0 xF31_1 xF31_2 xF31_3 xF31_4 xF31_5
    replace F3 := F3.keep hb2
    replace F5 := F5.keep hb2
    replace B0 := B0.trans (hb2.mono B0.size)
    clear hb2
    clear F3
    clear F5
    replace B0 := B0.alloc B0.size (.cells #[.bool qn, .string qS, .int .i64 qe, .bool qm, .string qT, .int .i64 qf] 49)
    go_wp2
    go_ret2
    exact ⟨rfl, B0⟩

set_option maxRecDepth 10000 in
set_option maxHeartbeats 4000000 in
theorem qside_ok (a : GY) (b : GY) (c : GY) (p : GY × Int) (q : GY × Int) (R : DY × Int) (Z : Int) (E_p : gSub b a = p) (E_q : gSub c a = q) (E_R : gCross p.1 q.1 = R) (E_Z : R.1.z.sign = Z) (w : World) (ok_a : a.ok) (ok_b : b.ok) (ok_c : c.ok) (hp : p.2 = 0) (hq : q.2 = 0) :
    Calls Tryd.prog 81 #[.agg #[.bool a.re.n, .string (bstr a.re.x), .int .i64 a.re.e, .bool a.im.n, .string (bstr a.im.x), .int .i64 a.im.e], .agg #[.bool b.re.n, .string (bstr b.re.x), .int .i64 b.re.e, .bool b.im.n, .string (bstr b.im.x), .int .i64 b.im.e], .agg #[.bool c.re.n, .string (bstr c.re.x), .int .i64 c.re.e, .bool c.im.n, .string (bstr c.im.x), .int .i64 c.im.e]] w fun r w' => r = .returned (.tuple #[.int .i64 Z, .int .i64 R.2]) ∧ Below w.heap.size w w' := by
  have ok_p : p.1.ok := E_p ▸ gSub_ok _ _
  have ok_q : q.1.ok := E_q ▸ gSub_ok _ _
  have ok_R : R.1.ok := E_R ▸ gCross_ok _ _
  have h1 := fun W => qsub b a W ok_b ok_a
  rw [E_p] at h1
  have h2 := fun W => qsub c a W ok_c ok_a
  rw [E_q] at h2
  have h3 := fun W => qcross p.1 q.1 W ok_p ok_q
  rw [E_R] at h3
  have h4 := fun W => rcsign R.1 W ok_R
  rw [E_Z] at h4
  clear E_p E_q E_R E_Z ok_p ok_q ok_R ok_a ok_b ok_c
  obtain ⟨⟨an, aX, ae⟩, ⟨am, aY, af⟩⟩ := a
  obtain ⟨⟨bn, bX, be⟩, ⟨bm, bY, bf⟩⟩ := b
  obtain ⟨⟨cn, cX, ce⟩, ⟨cm, cY, cf⟩⟩ := c
  obtain ⟨⟨⟨pn, pX, pe⟩, ⟨pm, pY, pf⟩⟩, pr⟩ := p
  obtain ⟨⟨⟨qn, qX, qe⟩, ⟨qm, qY, qf⟩⟩, qr⟩ := q
  obtain ⟨⟨Rn, RX, Re⟩, Rr⟩ := R
  dsimp only at *
  generalize bstr aX = aS at *
  generalize bstr aY = aT at *
  generalize bstr bX = bS at *
  generalize bstr bY = bT at *
  generalize bstr cX = cS at *
  generalize bstr cY = cT at *
  generalize bstr pX = pS at *
  generalize bstr pY = pT at *
  generalize bstr qX = qS at *
  generalize bstr qY = qT at *
  generalize bstr RX = RS at *
  have hu2 : (pr != 0) = false := by simp [hp]
  have hv2 : (qr != 0) = false := by simp [hq]
  clear hp hq
  go_enter Tryd.func81, Tryd.ntmps81
  have B0 := Below.refl w.heap.size w
  have F3 := Blk.put (w) #[.bool an, .string aS, .int .i64 ae, .bool am, .string aT, .int .i64 af] 49
  replace B0 := B0.alloc B0.size (.cells #[.bool an, .string aS, .int .i64 ae, .bool am, .string aT, .int .i64 af] 49)
  replace F3 := F3.allocd (.cells #[.bool bn, .string bS, .int .i64 be, .bool bm, .string bT, .int .i64 bf] 49)
  have F4 := Blk.put ((w).alloc (.cells #[.bool an, .string aS, .int .i64 ae, .bool am, .string aT, .int .i64 af] 49)) #[.bool bn, .string bS, .int .i64 be, .bool bm, .string bT, .int .i64 bf] 49
  rw [show ((w).alloc (.cells #[.bool an, .string aS, .int .i64 ae, .bool am, .string aT, .int .i64 af] 49)).heap.size = w.heap.size + 1 by simp] at F4
  replace B0 := B0.alloc B0.size (.cells #[.bool bn, .string bS, .int .i64 be, .bool bm, .string bT, .int .i64 bf] 49)
  replace F3 := F3.allocd (.cells #[.bool cn, .string cS, .int .i64 ce, .bool cm, .string cT, .int .i64 cf] 49)
  replace F4 := F4.allocd (.cells #[.bool cn, .string cS, .int .i64 ce, .bool cm, .string cT, .int .i64 cf] 49)
  have F5 := Blk.put (((w).alloc (.cells #[.bool an, .string aS, .int .i64 ae, .bool am, .string aT, .int .i64 af] 49)).alloc (.cells #[.bool bn, .string bS, .int .i64 be, .bool bm, .string bT, .int .i64 bf] 49)) #[.bool cn, .string cS, .int .i64 ce, .bool cm, .string cT, .int .i64 cf] 49
  rw [show (((w).alloc (.cells #[.bool an, .string aS, .int .i64 ae, .bool am, .string aT, .int .i64 af] 49)).alloc (.cells #[.bool bn, .string bS, .int .i64 be, .bool bm, .string bT, .int .i64 bf] 49)).heap.size = w.heap.size + 1 + 1 by simp] at F5
  replace B0 := B0.alloc B0.size (.cells #[.bool cn, .string cS, .int .i64 ce, .bool cm, .string cT, .int .i64 cf] 49)
  obtain ⟨xF40_0, xF40_1, xF40_2, xF40_3, xF40_4, xF40_5⟩ := F4.ce6
  obtain ⟨xF30_0, xF30_1, xF30_2, xF30_3, xF30_4, xF30_5⟩ := F3.ce6
  go_wp2_with fail
  (with_reducible refine (h1 _).mono ?_)
  rintro r w1 ⟨rfl, hb1⟩
  clear xF40_0 xF40_1 xF40_2 xF40_3 xF40_4 xF40_5 xF30_0 xF30_1 xF30_2 xF30_3 xF30_4 xF30_5
  replace F3 := F3.keep hb1
  replace F4 := F4.keep hb1
  replace F5 := F5.keep hb1
  replace B0 := B0.trans (hb1.mono B0.size)
  clear hb1
  replace F3 := F3.allocd (.cells #[.bool pn, .string pS, .int .i64 pe, .bool pm, .string pT, .int .i64 pf] 49)
  clear F4
  replace F5 := F5.allocd (.cells #[.bool pn, .string pS, .int .i64 pe, .bool pm, .string pT, .int .i64 pf] 49)
  have F8 := Blk.put (w1) #[.bool pn, .string pS, .int .i64 pe, .bool pm, .string pT, .int .i64 pf] 49
  replace B0 := B0.alloc B0.size (.cells #[.bool pn, .string pS, .int .i64 pe, .bool pm, .string pT, .int .i64 pf] 49)
  obtain ⟨xF51_0, xF51_1, xF51_2, xF51_3, xF51_4, xF51_5⟩ := F5.ce6
  obtain ⟨xF31_0, xF31_1, xF31_2, xF31_3, xF31_4, xF31_5⟩ := F3.ce6
  go_wp2_with fail
  (with_reducible refine (h2 _).mono ?_)
  rintro r w2 ⟨rfl, hb2⟩
  clear xF51_0 xF51_1 xF51_2 xF51_3 xF51_4 xF51_5 xF31_0 xF31_1 xF31_2 xF31_3 xF31_4 xF31_5
  replace F3 := F3.keep hb2
  replace F5 := F5.keep hb2
  replace F8 := F8.keep hb2
  replace B0 := B0.trans (hb2.mono B0.size)
  clear hb2
  clear F3
  clear F5
  replace F8 := F8.allocd (.cells #[.bool qn, .string qS, .int .i64 qe, .bool qm, .string qT, .int .i64 qf] 49)
  have F10 := Blk.put (w2) #[.bool qn, .string qS, .int .i64 qe, .bool qm, .string qT, .int .i64 qf] 49
  replace B0 := B0.alloc B0.size (.cells #[.bool qn, .string qS, .int .i64 qe, .bool qm, .string qT, .int .i64 qf] 49)
  obtain ⟨xF82_0, xF82_1, xF82_2, xF82_3, xF82_4, xF82_5⟩ := F8.ce6
  obtain ⟨xF102_0, xF102_1, xF102_2, xF102_3, xF102_4, xF102_5⟩ := F10.ce6
  go_wp2_with fail
  (with_reducible refine (h3 _).mono ?_)
  rintro r w3 ⟨rfl, hb3⟩
  clear xF82_0 xF82_1 xF82_2 xF82_3 xF82_4 xF82_5 xF102_0 xF102_1 xF102_2 xF102_3 xF102_4 xF102_5
  replace F8 := F8.keep hb3
  replace F10 := F10.keep hb3
  replace B0 := B0.trans (hb3.mono B0.size)
  clear hb3
  clear F8
  clear F10
  have F12 := Blk.put (w3) #[.bool Rn, .string RS, .int .i64 Re] 24
  replace B0 := B0.alloc B0.size (.cells #[.bool Rn, .string RS, .int .i64 Re] 24)
  obtain ⟨xF123_0, xF123_1, xF123_2⟩ := F12.ce3
  go_wp2_with fail
  (with_reducible refine (h4 _).mono ?_)
  rintro r w4 ⟨rfl, hb4⟩
  clear xF123_0 xF123_1 xF123_2
  replace F12 := F12.keep hb4
  replace B0 := B0.trans (hb4.mono B0.size)
  clear hb4
  go_wp2
  go_ret2
  exact ⟨rfl, B0⟩

theorem qside (a b c : GY) (w : World) (ha : a.ok) (hb : b.ok) (hc : c.ok) :
    Calls Tryd.prog 81 #[.agg #[.bool a.re.n, .string (bstr a.re.x), .int .i64 a.re.e, .bool a.im.n, .string (bstr a.im.x), .int .i64 a.im.e], .agg #[.bool b.re.n, .string (bstr b.re.x), .int .i64 b.re.e, .bool b.im.n, .string (bstr b.im.x), .int .i64 b.im.e], .agg #[.bool c.re.n, .string (bstr c.re.x), .int .i64 c.re.e, .bool c.im.n, .string (bstr c.im.x), .int .i64 c.im.e]] w fun r w' => r = .returned (.tuple #[.int .i64 (gSide a b c).1, .int .i64 (gSide a b c).2]) ∧ Below w.heap.size w w' := by
  unfold gSide
  by_cases h : (gSub b a).2 = 0 ∧ (gSub c a).2 = 0
  · rw [if_pos h]
    exact qside_ok a b c _ _ _ _ rfl rfl rfl rfl w ha hb hc h.1 h.2
  · rw [if_neg h]
    exact qside_bad a b c _ _ rfl rfl w ha hb hc h

def GY.one : GY := ⟨⟨false, 1, 0⟩, DY.zero⟩
theorem GY.one_ok : GY.one.ok := ⟨.inr ⟨rfl, by show dn 8 1 ≤ 16384; rw [dn8_one]; omega, by show -(1048576 : Int) ≤ 0; omega, by show (0 : Int) ≤ 1048576; omega⟩, DY.zero_ok⟩

set_option maxRecDepth 10000 in
set_option maxHeartbeats 4000000 in
theorem qone_w (w : World) :
    Calls Tryd.prog 139 #[] w fun r w' => r = .returned (.agg #[.bool false, .string { data := #[1] }, .int .i64 0, .bool false, .string { data := #[] }, .int .i64 0]) ∧ Below w.heap.size w w' := by
  have B0 := (Below.refl w.heap.size w).alloc (Nat.le_refl _) (.cells #[.bool false, .string { data := #[1] }, .int .i64 0, .bool false, .string { data := #[] }, .int .i64 0] 49)
  have F0 := Blk.put w #[.bool false, .string { data := #[1] }, .int .i64 0, .bool false, .string { data := #[] }, .int .i64 0] 49
  obtain ⟨x0, x1, x2, x3, x4, x5⟩ := F0.ce6
  go_enter Tryd.func139, Tryd.ntmps139
  go_wp2
  exact bodyPost_ret (v := .agg #[.bool false, .string { data := #[1] }, .int .i64 0, .bool false, .string { data := #[] }, .int .i64 0]) (by simp [results, Tryd.results139, go_sem, x0, x1, x2, x3, x4, x5]) rfl ⟨rfl, B0⟩

set_option maxRecDepth 10000 in
set_option maxHeartbeats 4000000 in
theorem qmay_any (n : Bool) (s : ByteArray) (e : Int) (m : Bool) (t : ByteArray) (f : Int) (w : World) (hs : s.size ≤ 9223372036854775807) (ht : t.size ≤ 9223372036854775807) :
    Calls Tryd.prog 61 #[.agg #[.bool n, .string s, .int .i64 e, .bool m, .string t, .int .i64 f]] w fun r w' => r = .returned (.bool (mayB n s e && mayB m t f)) ∧ Below w.heap.size w w' := by
  have h1 := fun W => rmay_any n s e W hs
  have h2 := fun W => rmay_any m t f W ht
  clear hs ht
  generalize mayB n s e = P at *
  generalize mayB m t f = Q at *
  cases P
  · rw [Bool.false_and]
    go_enter Tryd.func61, Tryd.ntmps61
    have B0 := Below.refl w.heap.size w
    have F1 := Blk.put (w) #[.bool n, .string s, .int .i64 e, .bool m, .string t, .int .i64 f] 49
    replace B0 := B0.alloc B0.size (.cells #[.bool n, .string s, .int .i64 e, .bool m, .string t, .int .i64 f] 49)
    obtain ⟨xF10_0, xF10_1, xF10_2, xF10_3, xF10_4, xF10_5⟩ := F1.ce6
    go_wp2_with fail
    (with_reducible refine (h1 _).mono ?_)
    rintro r w1 ⟨rfl, hb1⟩
    clear xF10_0 xF10_1 xF10_2 xF10_3 xF10_4 xF10_5
    replace F1 := F1.keep hb1
    replace B0 := B0.trans (hb1.mono B0.size)
    clear hb1
    go_wp2
    go_ret
    exact ⟨rfl, B0⟩
  · rw [Bool.true_and]
    go_enter Tryd.func61, Tryd.ntmps61
    have B0 := Below.refl w.heap.size w
    have F1 := Blk.put (w) #[.bool n, .string s, .int .i64 e, .bool m, .string t, .int .i64 f] 49
    replace B0 := B0.alloc B0.size (.cells #[.bool n, .string s, .int .i64 e, .bool m, .string t, .int .i64 f] 49)
    obtain ⟨xF10_0, xF10_1, xF10_2, xF10_3, xF10_4, xF10_5⟩ := F1.ce6
    go_wp2_with fail
    (with_reducible refine (h1 _).mono ?_)
    rintro r w1 ⟨rfl, hb1⟩
    clear xF10_0 xF10_1 xF10_2 xF10_3 xF10_4 xF10_5
    replace F1 := F1.keep hb1
    replace B0 := B0.trans (hb1.mono B0.size)
    clear hb1
    obtain ⟨xF11_0, xF11_1, xF11_2, xF11_3, xF11_4, xF11_5⟩ := F1.ce6
    go_wp2_with fail
    (with_reducible refine (h2 _).mono ?_)
    rintro r w2 ⟨rfl, hb2⟩
    clear xF11_0 xF11_1 xF11_2 xF11_3 xF11_4 xF11_5
    replace F1 := F1.keep hb2
    replace B0 := B0.trans (hb2.mono B0.size)
    clear hb2
    go_wp2
    go_ret
    exact ⟨rfl, B0⟩

end Go.Proofs.YtgcifpjhhoalmaaDoor
