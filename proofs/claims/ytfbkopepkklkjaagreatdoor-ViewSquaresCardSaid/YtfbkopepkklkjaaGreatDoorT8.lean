/- The reference of layer 24: Holds. -/
import Derived.Test.YtfbkopepkklkjaaGreatDoorT7
namespace Go.Proofs.YtfbkopepkklkjaaGreatDoor
open Go Go.RowKit Go.PlainAid Fil


set_option maxRecDepth 10000 in
set_option maxHeartbeats 4000000 in
theorem rholds_1 (l : DY) (b : DY) (e : Int) (j : GY) (p : DY) (q : DY) (E_p : (vM l 1 e).1 = p) (E_q : (vM b 1 e).1 = q) (w : World) (ok_l : l.ok) (ok_b : b.ok) (e1 : -4096 ≤ e) (e2 : e ≤ 4096) (hp : ¬ (vM l 1 e).2 = 0) :
    Calls Tryz.prog 18 #[.agg #[.bool l.n, .string (bstr l.x), .int .i64 l.e, .bool b.n, .string (bstr b.x), .int .i64 b.e, .int .i64 e], .agg #[.bool j.re.n, .string (bstr j.re.x), .int .i64 j.re.e, .bool j.im.n, .string (bstr j.im.x), .int .i64 j.im.e]] w fun r w' => r = .returned (.tuple #[.bool false, .int .i64 4]) ∧ Below w.heap.size w w' := by
  have h1 := fun W => redges_1 l b e _ _ rfl rfl W ok_l ok_b e1 e2 hp
  rw [E_p] at h1
  rw [E_q] at h1
  clear E_p E_q ok_l ok_b
  obtain ⟨ln, lX, le⟩ := l
  obtain ⟨bn, bX, be⟩ := b
  obtain ⟨⟨jn, jX, je⟩, ⟨jm, jY, jf⟩⟩ := j
  obtain ⟨pn, pX, pe⟩ := p
  obtain ⟨qn, qX, qe⟩ := q
  dsimp only at *
  generalize bstr lX = lS at *
  generalize bstr bX = bS at *
  generalize bstr jX = jS at *
  generalize bstr jY = jT at *
  generalize bstr pX = pS at *
  generalize bstr qX = qS at *
  clear hp e1 e2
  go_enter Tryz.func18, Tryz.ntmps18
  have B0 := Below.refl w.heap.size w
  have F2 := Blk.put (w) #[.bool ln, .string lS, .int .i64 le, .bool bn, .string bS, .int .i64 be, .int .i64 e] 26
  replace B0 := B0.alloc B0.size (.cells #[.bool ln, .string lS, .int .i64 le, .bool bn, .string bS, .int .i64 be, .int .i64 e] 26)
  replace F2 := F2.allocd (.cells #[.bool jn, .string jS, .int .i64 je, .bool jm, .string jT, .int .i64 jf] 28)
  replace B0 := B0.alloc B0.size (.cells #[.bool jn, .string jS, .int .i64 je, .bool jm, .string jT, .int .i64 jf] 28)
  obtain ⟨xF20_0, xF20_1, xF20_2, xF20_3, xF20_4, xF20_5, xF20_6⟩ := F2.ce7
  go_wp2_with fail
  (with_reducible refine (h1 _).mono ?_)
  rintro r w1 ⟨rfl, hb1⟩
  clear xF20_0 xF20_1 xF20_2 xF20_3 xF20_4 xF20_5 xF20_6
  replace F2 := F2.keep hb1
  replace B0 := B0.trans (hb1.mono B0.size)
  clear hb1
  clear F2
  replace B0 := B0.alloc B0.size (.cells #[.bool pn, .string pS, .int .i64 pe] 24)
  replace B0 := B0.alloc B0.size (.cells #[.bool qn, .string qS, .int .i64 qe] 24)
  go_wp2
  go_ret2
  exact ⟨rfl, B0⟩

set_option maxRecDepth 10000 in
set_option maxHeartbeats 4000000 in
theorem rholds_2 (l : DY) (b : DY) (e : Int) (j : GY) (p : DY) (q : DY) (E_p : (vM l 1 e).1 = p) (E_q : (vM b 1 e).1 = q) (w : World) (ok_l : l.ok) (ok_b : b.ok) (e1 : -4096 ≤ e) (e2 : e ≤ 4096) (hp : (vM l 1 e).2 = 0) (hq : ¬ (vM b 1 e).2 = 0) :
    Calls Tryz.prog 18 #[.agg #[.bool l.n, .string (bstr l.x), .int .i64 l.e, .bool b.n, .string (bstr b.x), .int .i64 b.e, .int .i64 e], .agg #[.bool j.re.n, .string (bstr j.re.x), .int .i64 j.re.e, .bool j.im.n, .string (bstr j.im.x), .int .i64 j.im.e]] w fun r w' => r = .returned (.tuple #[.bool false, .int .i64 4]) ∧ Below w.heap.size w w' := by
  have h1 := fun W => redges_2 l b e _ _ rfl rfl W ok_l ok_b e1 e2 hp hq
  rw [E_p] at h1
  rw [E_q] at h1
  clear E_p E_q ok_l ok_b
  obtain ⟨ln, lX, le⟩ := l
  obtain ⟨bn, bX, be⟩ := b
  obtain ⟨⟨jn, jX, je⟩, ⟨jm, jY, jf⟩⟩ := j
  obtain ⟨pn, pX, pe⟩ := p
  obtain ⟨qn, qX, qe⟩ := q
  dsimp only at *
  generalize bstr lX = lS at *
  generalize bstr bX = bS at *
  generalize bstr jX = jS at *
  generalize bstr jY = jT at *
  generalize bstr pX = pS at *
  generalize bstr qX = qS at *
  clear hp hq e1 e2
  go_enter Tryz.func18, Tryz.ntmps18
  have B0 := Below.refl w.heap.size w
  have F2 := Blk.put (w) #[.bool ln, .string lS, .int .i64 le, .bool bn, .string bS, .int .i64 be, .int .i64 e] 26
  replace B0 := B0.alloc B0.size (.cells #[.bool ln, .string lS, .int .i64 le, .bool bn, .string bS, .int .i64 be, .int .i64 e] 26)
  replace F2 := F2.allocd (.cells #[.bool jn, .string jS, .int .i64 je, .bool jm, .string jT, .int .i64 jf] 28)
  replace B0 := B0.alloc B0.size (.cells #[.bool jn, .string jS, .int .i64 je, .bool jm, .string jT, .int .i64 jf] 28)
  obtain ⟨xF20_0, xF20_1, xF20_2, xF20_3, xF20_4, xF20_5, xF20_6⟩ := F2.ce7
  go_wp2_with fail
  (with_reducible refine (h1 _).mono ?_)
  rintro r w1 ⟨rfl, hb1⟩
  clear xF20_0 xF20_1 xF20_2 xF20_3 xF20_4 xF20_5 xF20_6
  replace F2 := F2.keep hb1
  replace B0 := B0.trans (hb1.mono B0.size)
  clear hb1
  clear F2
  replace B0 := B0.alloc B0.size (.cells #[.bool pn, .string pS, .int .i64 pe] 24)
  replace B0 := B0.alloc B0.size (.cells #[.bool qn, .string qS, .int .i64 qe] 24)
  go_wp2
  go_ret2
  exact ⟨rfl, B0⟩

set_option maxRecDepth 10000 in
set_option maxHeartbeats 4000000 in
theorem rholds_3 (l : DY) (b : DY) (e : Int) (j : GY) (p : DY) (q : DY) (K0 : Int) (K1 : Int) (K2 : Int) (K3 : Int) (E_p : (vM l 1 e).1 = p) (E_q : (vM b 1 e).1 = q) (E_K0 : yCmp l j.re = K0) (E_K1 : yCmp j.re p = K1) (E_K2 : yCmp b j.im = K2) (E_K3 : yCmp j.im q = K3) (w : World) (ok_l : l.ok) (ok_b : b.ok) (ok_j : j.ok) (e1 : -4096 ≤ e) (e2 : e ≤ 4096) (hp : (vM l 1 e).2 = 0) (hq : (vM b 1 e).2 = 0) :
    Calls Tryz.prog 18 #[.agg #[.bool l.n, .string (bstr l.x), .int .i64 l.e, .bool b.n, .string (bstr b.x), .int .i64 b.e, .int .i64 e], .agg #[.bool j.re.n, .string (bstr j.re.x), .int .i64 j.re.e, .bool j.im.n, .string (bstr j.im.x), .int .i64 j.im.e]] w fun r w' => r = .returned (.tuple #[.bool (decide (K0 ≤ 0) && (decide (K1 ≤ 0) && (decide (K2 ≤ 0) && decide (K3 ≤ 0)))), .int .i64 0]) ∧ Below w.heap.size w w' := by
  have ok_p : p.ok := E_p ▸ vM_ok _ _ _
  have ok_q : q.ok := E_q ▸ vM_ok _ _ _
  have h1 := fun W => redges_3 l b e _ _ rfl rfl W ok_l ok_b e1 e2 hp hq
  rw [E_p] at h1
  rw [E_q] at h1
  have k0 := fun W => rccmp l j.re W ok_l ok_j.1
  rw [E_K0] at k0
  have k1 := fun W => rccmp j.re p W ok_j.1 ok_p
  rw [E_K1] at k1
  have k2 := fun W => rccmp b j.im W ok_b ok_j.2
  rw [E_K2] at k2
  have k3 := fun W => rccmp j.im q W ok_j.2 ok_q
  rw [E_K3] at k3
  clear E_p E_q E_K0 E_K1 E_K2 E_K3 ok_p ok_q ok_l ok_b ok_j
  obtain ⟨ln, lX, le⟩ := l
  obtain ⟨bn, bX, be⟩ := b
  obtain ⟨⟨jn, jX, je⟩, ⟨jm, jY, jf⟩⟩ := j
  obtain ⟨pn, pX, pe⟩ := p
  obtain ⟨qn, qX, qe⟩ := q
  dsimp only at *
  generalize bstr lX = lS at *
  generalize bstr bX = bS at *
  generalize bstr jX = jS at *
  generalize bstr jY = jT at *
  generalize bstr pX = pS at *
  generalize bstr qX = qS at *
  clear hp hq e1 e2
  by_cases g0 : K0 ≤ 0
  · have d0 := decide_eq_true g0
    rw [d0]
    by_cases g1 : K1 ≤ 0
    · have d1 := decide_eq_true g1
      rw [d1]
      by_cases g2 : K2 ≤ 0
      · have d2 := decide_eq_true g2
        rw [d2]
        go_enter Tryz.func18, Tryz.ntmps18
        have B0 := Below.refl w.heap.size w
        have F2 := Blk.put (w) #[.bool ln, .string lS, .int .i64 le, .bool bn, .string bS, .int .i64 be, .int .i64 e] 26
        replace B0 := B0.alloc B0.size (.cells #[.bool ln, .string lS, .int .i64 le, .bool bn, .string bS, .int .i64 be, .int .i64 e] 26)
        replace F2 := F2.allocd (.cells #[.bool jn, .string jS, .int .i64 je, .bool jm, .string jT, .int .i64 jf] 28)
        have F3 := Blk.put ((w).alloc (.cells #[.bool ln, .string lS, .int .i64 le, .bool bn, .string bS, .int .i64 be, .int .i64 e] 26)) #[.bool jn, .string jS, .int .i64 je, .bool jm, .string jT, .int .i64 jf] 28
        rw [show ((w).alloc (.cells #[.bool ln, .string lS, .int .i64 le, .bool bn, .string bS, .int .i64 be, .int .i64 e] 26)).heap.size = w.heap.size + 1 by simp] at F3
        replace B0 := B0.alloc B0.size (.cells #[.bool jn, .string jS, .int .i64 je, .bool jm, .string jT, .int .i64 jf] 28)
        obtain ⟨xF20_0, xF20_1, xF20_2, xF20_3, xF20_4, xF20_5, xF20_6⟩ := F2.ce7
        go_wp2_with fail
        (with_reducible refine (h1 _).mono ?_)
        rintro r w1 ⟨rfl, hb1⟩
        clear xF20_0 xF20_1 xF20_2 xF20_3 xF20_4 xF20_5 xF20_6
        replace F2 := F2.keep hb1
        replace F3 := F3.keep hb1
        replace B0 := B0.trans (hb1.mono B0.size)
        clear hb1
        replace F2 := F2.allocd (.cells #[.bool pn, .string pS, .int .i64 pe] 24)
        replace F3 := F3.allocd (.cells #[.bool pn, .string pS, .int .i64 pe] 24)
        have F6 := Blk.put (w1) #[.bool pn, .string pS, .int .i64 pe] 24
        replace B0 := B0.alloc B0.size (.cells #[.bool pn, .string pS, .int .i64 pe] 24)
        replace F2 := F2.allocd (.cells #[.bool qn, .string qS, .int .i64 qe] 24)
        replace F3 := F3.allocd (.cells #[.bool qn, .string qS, .int .i64 qe] 24)
        replace F6 := F6.allocd (.cells #[.bool qn, .string qS, .int .i64 qe] 24)
        have F7 := Blk.put ((w1).alloc (.cells #[.bool pn, .string pS, .int .i64 pe] 24)) #[.bool qn, .string qS, .int .i64 qe] 24
        rw [show ((w1).alloc (.cells #[.bool pn, .string pS, .int .i64 pe] 24)).heap.size = w1.heap.size + 1 by simp] at F7
        replace B0 := B0.alloc B0.size (.cells #[.bool qn, .string qS, .int .i64 qe] 24)
        obtain ⟨xF21_0, xF21_1, xF21_2, xF21_3, xF21_4, xF21_5, xF21_6⟩ := F2.ce7
        obtain ⟨xF31_0, xF31_1, xF31_2, xF31_3, xF31_4, xF31_5⟩ := F3.ce6
        go_wp2_with fail
        (with_reducible refine (k0 _).mono ?_)
        rintro r w2 ⟨rfl, hb2⟩
        clear xF21_0 xF21_1 xF21_2 xF21_3 xF21_4 xF21_5 xF21_6 xF31_0 xF31_1 xF31_2 xF31_3 xF31_4 xF31_5
        replace F2 := F2.keep hb2
        replace F3 := F3.keep hb2
        replace F6 := F6.keep hb2
        replace F7 := F7.keep hb2
        replace B0 := B0.trans (hb2.mono B0.size)
        clear hb2
        obtain ⟨xF32_0, xF32_1, xF32_2, xF32_3, xF32_4, xF32_5⟩ := F3.ce6
        obtain ⟨xF62_0, xF62_1, xF62_2⟩ := F6.ce3
        go_wp2_with fail
        (with_reducible refine (k1 _).mono ?_)
        rintro r w3 ⟨rfl, hb3⟩
        clear xF32_0 xF32_1 xF32_2 xF32_3 xF32_4 xF32_5 xF62_0 xF62_1 xF62_2
        replace F2 := F2.keep hb3
        replace F3 := F3.keep hb3
        replace F6 := F6.keep hb3
        replace F7 := F7.keep hb3
        replace B0 := B0.trans (hb3.mono B0.size)
        clear hb3
        obtain ⟨xF23_0, xF23_1, xF23_2, xF23_3, xF23_4, xF23_5, xF23_6⟩ := F2.ce7
        obtain ⟨xF33_0, xF33_1, xF33_2, xF33_3, xF33_4, xF33_5⟩ := F3.ce6
        go_wp2_with fail
        (with_reducible refine (k2 _).mono ?_)
        rintro r w4 ⟨rfl, hb4⟩
        clear xF23_0 xF23_1 xF23_2 xF23_3 xF23_4 xF23_5 xF23_6 xF33_0 xF33_1 xF33_2 xF33_3 xF33_4 xF33_5
        replace F2 := F2.keep hb4
        replace F3 := F3.keep hb4
        clear F6
        replace F7 := F7.keep hb4
        replace B0 := B0.trans (hb4.mono B0.size)
        clear hb4
        obtain ⟨xF34_0, xF34_1, xF34_2, xF34_3, xF34_4, xF34_5⟩ := F3.ce6
        obtain ⟨xF74_0, xF74_1, xF74_2⟩ := F7.ce3
        go_wp2_with fail
        (with_reducible refine (k3 _).mono ?_)
        rintro r w5 ⟨rfl, hb5⟩
        clear xF34_0 xF34_1 xF34_2 xF34_3 xF34_4 xF34_5 xF74_0 xF74_1 xF74_2
        clear F2
        replace F3 := F3.keep hb5
        replace F7 := F7.keep hb5
        replace B0 := B0.trans (hb5.mono B0.size)
        clear hb5
        go_wp2
        go_ret2
        exact ⟨rfl, B0⟩
      · have d2 := decide_eq_false g2
        rw [d2]
        go_enter Tryz.func18, Tryz.ntmps18
        have B0 := Below.refl w.heap.size w
        have F2 := Blk.put (w) #[.bool ln, .string lS, .int .i64 le, .bool bn, .string bS, .int .i64 be, .int .i64 e] 26
        replace B0 := B0.alloc B0.size (.cells #[.bool ln, .string lS, .int .i64 le, .bool bn, .string bS, .int .i64 be, .int .i64 e] 26)
        replace F2 := F2.allocd (.cells #[.bool jn, .string jS, .int .i64 je, .bool jm, .string jT, .int .i64 jf] 28)
        have F3 := Blk.put ((w).alloc (.cells #[.bool ln, .string lS, .int .i64 le, .bool bn, .string bS, .int .i64 be, .int .i64 e] 26)) #[.bool jn, .string jS, .int .i64 je, .bool jm, .string jT, .int .i64 jf] 28
        rw [show ((w).alloc (.cells #[.bool ln, .string lS, .int .i64 le, .bool bn, .string bS, .int .i64 be, .int .i64 e] 26)).heap.size = w.heap.size + 1 by simp] at F3
        replace B0 := B0.alloc B0.size (.cells #[.bool jn, .string jS, .int .i64 je, .bool jm, .string jT, .int .i64 jf] 28)
        obtain ⟨xF20_0, xF20_1, xF20_2, xF20_3, xF20_4, xF20_5, xF20_6⟩ := F2.ce7
        go_wp2_with fail
        (with_reducible refine (h1 _).mono ?_)
        rintro r w1 ⟨rfl, hb1⟩
        clear xF20_0 xF20_1 xF20_2 xF20_3 xF20_4 xF20_5 xF20_6
        replace F2 := F2.keep hb1
        replace F3 := F3.keep hb1
        replace B0 := B0.trans (hb1.mono B0.size)
        clear hb1
        replace F2 := F2.allocd (.cells #[.bool pn, .string pS, .int .i64 pe] 24)
        replace F3 := F3.allocd (.cells #[.bool pn, .string pS, .int .i64 pe] 24)
        have F6 := Blk.put (w1) #[.bool pn, .string pS, .int .i64 pe] 24
        replace B0 := B0.alloc B0.size (.cells #[.bool pn, .string pS, .int .i64 pe] 24)
        replace F2 := F2.allocd (.cells #[.bool qn, .string qS, .int .i64 qe] 24)
        replace F3 := F3.allocd (.cells #[.bool qn, .string qS, .int .i64 qe] 24)
        replace F6 := F6.allocd (.cells #[.bool qn, .string qS, .int .i64 qe] 24)
        replace B0 := B0.alloc B0.size (.cells #[.bool qn, .string qS, .int .i64 qe] 24)
        obtain ⟨xF21_0, xF21_1, xF21_2, xF21_3, xF21_4, xF21_5, xF21_6⟩ := F2.ce7
        obtain ⟨xF31_0, xF31_1, xF31_2, xF31_3, xF31_4, xF31_5⟩ := F3.ce6
        go_wp2_with fail
        (with_reducible refine (k0 _).mono ?_)
        rintro r w2 ⟨rfl, hb2⟩
        clear xF21_0 xF21_1 xF21_2 xF21_3 xF21_4 xF21_5 xF21_6 xF31_0 xF31_1 xF31_2 xF31_3 xF31_4 xF31_5
        replace F2 := F2.keep hb2
        replace F3 := F3.keep hb2
        replace F6 := F6.keep hb2
        replace B0 := B0.trans (hb2.mono B0.size)
        clear hb2
        obtain ⟨xF32_0, xF32_1, xF32_2, xF32_3, xF32_4, xF32_5⟩ := F3.ce6
        obtain ⟨xF62_0, xF62_1, xF62_2⟩ := F6.ce3
        go_wp2_with fail
        (with_reducible refine (k1 _).mono ?_)
        rintro r w3 ⟨rfl, hb3⟩
        clear xF32_0 xF32_1 xF32_2 xF32_3 xF32_4 xF32_5 xF62_0 xF62_1 xF62_2
        replace F2 := F2.keep hb3
        replace F3 := F3.keep hb3
        replace F6 := F6.keep hb3
        replace B0 := B0.trans (hb3.mono B0.size)
        clear hb3
        obtain ⟨xF23_0, xF23_1, xF23_2, xF23_3, xF23_4, xF23_5, xF23_6⟩ := F2.ce7
        obtain ⟨xF33_0, xF33_1, xF33_2, xF33_3, xF33_4, xF33_5⟩ := F3.ce6
        go_wp2_with fail
        (with_reducible refine (k2 _).mono ?_)
        rintro r w4 ⟨rfl, hb4⟩
        clear xF23_0 xF23_1 xF23_2 xF23_3 xF23_4 xF23_5 xF23_6 xF33_0 xF33_1 xF33_2 xF33_3 xF33_4 xF33_5
        replace F2 := F2.keep hb4
        replace F3 := F3.keep hb4
        clear F6
        replace B0 := B0.trans (hb4.mono B0.size)
        clear hb4
        go_wp2
        go_ret2
        exact ⟨rfl, B0⟩
    · have d1 := decide_eq_false g1
      rw [d1]
      go_enter Tryz.func18, Tryz.ntmps18
      have B0 := Below.refl w.heap.size w
      have F2 := Blk.put (w) #[.bool ln, .string lS, .int .i64 le, .bool bn, .string bS, .int .i64 be, .int .i64 e] 26
      replace B0 := B0.alloc B0.size (.cells #[.bool ln, .string lS, .int .i64 le, .bool bn, .string bS, .int .i64 be, .int .i64 e] 26)
      replace F2 := F2.allocd (.cells #[.bool jn, .string jS, .int .i64 je, .bool jm, .string jT, .int .i64 jf] 28)
      have F3 := Blk.put ((w).alloc (.cells #[.bool ln, .string lS, .int .i64 le, .bool bn, .string bS, .int .i64 be, .int .i64 e] 26)) #[.bool jn, .string jS, .int .i64 je, .bool jm, .string jT, .int .i64 jf] 28
      rw [show ((w).alloc (.cells #[.bool ln, .string lS, .int .i64 le, .bool bn, .string bS, .int .i64 be, .int .i64 e] 26)).heap.size = w.heap.size + 1 by simp] at F3
      replace B0 := B0.alloc B0.size (.cells #[.bool jn, .string jS, .int .i64 je, .bool jm, .string jT, .int .i64 jf] 28)
      obtain ⟨xF20_0, xF20_1, xF20_2, xF20_3, xF20_4, xF20_5, xF20_6⟩ := F2.ce7
      go_wp2_with fail
      (with_reducible refine (h1 _).mono ?_)
      rintro r w1 ⟨rfl, hb1⟩
      clear xF20_0 xF20_1 xF20_2 xF20_3 xF20_4 xF20_5 xF20_6
      replace F2 := F2.keep hb1
      replace F3 := F3.keep hb1
      replace B0 := B0.trans (hb1.mono B0.size)
      clear hb1
      replace F2 := F2.allocd (.cells #[.bool pn, .string pS, .int .i64 pe] 24)
      replace F3 := F3.allocd (.cells #[.bool pn, .string pS, .int .i64 pe] 24)
      have F6 := Blk.put (w1) #[.bool pn, .string pS, .int .i64 pe] 24
      replace B0 := B0.alloc B0.size (.cells #[.bool pn, .string pS, .int .i64 pe] 24)
      replace F2 := F2.allocd (.cells #[.bool qn, .string qS, .int .i64 qe] 24)
      replace F3 := F3.allocd (.cells #[.bool qn, .string qS, .int .i64 qe] 24)
      replace F6 := F6.allocd (.cells #[.bool qn, .string qS, .int .i64 qe] 24)
      replace B0 := B0.alloc B0.size (.cells #[.bool qn, .string qS, .int .i64 qe] 24)
      obtain ⟨xF21_0, xF21_1, xF21_2, xF21_3, xF21_4, xF21_5, xF21_6⟩ := F2.ce7
      obtain ⟨xF31_0, xF31_1, xF31_2, xF31_3, xF31_4, xF31_5⟩ := F3.ce6
      go_wp2_with fail
      (with_reducible refine (k0 _).mono ?_)
      rintro r w2 ⟨rfl, hb2⟩
      clear xF21_0 xF21_1 xF21_2 xF21_3 xF21_4 xF21_5 xF21_6 xF31_0 xF31_1 xF31_2 xF31_3 xF31_4 xF31_5
      replace F2 := F2.keep hb2
      replace F3 := F3.keep hb2
      replace F6 := F6.keep hb2
      replace B0 := B0.trans (hb2.mono B0.size)
      clear hb2
      obtain ⟨xF32_0, xF32_1, xF32_2, xF32_3, xF32_4, xF32_5⟩ := F3.ce6
      obtain ⟨xF62_0, xF62_1, xF62_2⟩ := F6.ce3
      go_wp2_with fail
      (with_reducible refine (k1 _).mono ?_)
      rintro r w3 ⟨rfl, hb3⟩
      clear xF32_0 xF32_1 xF32_2 xF32_3 xF32_4 xF32_5 xF62_0 xF62_1 xF62_2
      clear F2
      replace F3 := F3.keep hb3
      replace F6 := F6.keep hb3
      replace B0 := B0.trans (hb3.mono B0.size)
      clear hb3
      go_wp2
      go_ret2
      exact ⟨rfl, B0⟩
  · have d0 := decide_eq_false g0
    rw [d0]
    go_enter Tryz.func18, Tryz.ntmps18
    have B0 := Below.refl w.heap.size w
    have F2 := Blk.put (w) #[.bool ln, .string lS, .int .i64 le, .bool bn, .string bS, .int .i64 be, .int .i64 e] 26
    replace B0 := B0.alloc B0.size (.cells #[.bool ln, .string lS, .int .i64 le, .bool bn, .string bS, .int .i64 be, .int .i64 e] 26)
    replace F2 := F2.allocd (.cells #[.bool jn, .string jS, .int .i64 je, .bool jm, .string jT, .int .i64 jf] 28)
    have F3 := Blk.put ((w).alloc (.cells #[.bool ln, .string lS, .int .i64 le, .bool bn, .string bS, .int .i64 be, .int .i64 e] 26)) #[.bool jn, .string jS, .int .i64 je, .bool jm, .string jT, .int .i64 jf] 28
    rw [show ((w).alloc (.cells #[.bool ln, .string lS, .int .i64 le, .bool bn, .string bS, .int .i64 be, .int .i64 e] 26)).heap.size = w.heap.size + 1 by simp] at F3
    replace B0 := B0.alloc B0.size (.cells #[.bool jn, .string jS, .int .i64 je, .bool jm, .string jT, .int .i64 jf] 28)
    obtain ⟨xF20_0, xF20_1, xF20_2, xF20_3, xF20_4, xF20_5, xF20_6⟩ := F2.ce7
    go_wp2_with fail
    (with_reducible refine (h1 _).mono ?_)
    rintro r w1 ⟨rfl, hb1⟩
    clear xF20_0 xF20_1 xF20_2 xF20_3 xF20_4 xF20_5 xF20_6
    replace F2 := F2.keep hb1
    replace F3 := F3.keep hb1
    replace B0 := B0.trans (hb1.mono B0.size)
    clear hb1
    replace F2 := F2.allocd (.cells #[.bool pn, .string pS, .int .i64 pe] 24)
    replace F3 := F3.allocd (.cells #[.bool pn, .string pS, .int .i64 pe] 24)
    replace B0 := B0.alloc B0.size (.cells #[.bool pn, .string pS, .int .i64 pe] 24)
    replace F2 := F2.allocd (.cells #[.bool qn, .string qS, .int .i64 qe] 24)
    replace F3 := F3.allocd (.cells #[.bool qn, .string qS, .int .i64 qe] 24)
    replace B0 := B0.alloc B0.size (.cells #[.bool qn, .string qS, .int .i64 qe] 24)
    obtain ⟨xF21_0, xF21_1, xF21_2, xF21_3, xF21_4, xF21_5, xF21_6⟩ := F2.ce7
    obtain ⟨xF31_0, xF31_1, xF31_2, xF31_3, xF31_4, xF31_5⟩ := F3.ce6
    go_wp2_with fail
    (with_reducible refine (k0 _).mono ?_)
    rintro r w2 ⟨rfl, hb2⟩
    clear xF21_0 xF21_1 xF21_2 xF21_3 xF21_4 xF21_5 xF21_6 xF31_0 xF31_1 xF31_2 xF31_3 xF31_4 xF31_5
    replace F2 := F2.keep hb2
    replace F3 := F3.keep hb2
    replace B0 := B0.trans (hb2.mono B0.size)
    clear hb2
    go_wp2
    go_ret2
    exact ⟨rfl, B0⟩

end Go.Proofs.YtfbkopepkklkjaaGreatDoor
