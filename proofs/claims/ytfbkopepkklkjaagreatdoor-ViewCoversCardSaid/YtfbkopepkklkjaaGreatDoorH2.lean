/- Walks of the layer of Gausses, by a program (walk.py): part H2. -/
import Derived.Test.YtfbkopepkklkjaaGreatDoorG3
namespace Go.Proofs.YtfbkopepkklkjaaGreatDoor
open Go Go.RowKit Go.PlainAid Fil

set_option maxRecDepth 10000 in
set_option maxHeartbeats 4000000 in
theorem qtwo_bad (a : DY) (b : DY) (c : DY) (d : DY) (l : Bool) (p : DY × Int) (q : DY × Int) (E_p : yMul a b = p) (E_q : yMul c d = q) (w : World) (ok_a : a.ok) (ok_b : b.ok) (ok_c : c.ok) (ok_d : d.ok) (h : ¬ (p.2 = 0 ∧ q.2 = 0)) :
  Calls Tryz.prog 89 #[.agg #[.bool a.n, .string (bstr a.x), .int .i64 a.e], .agg #[.bool b.n, .string (bstr b.x), .int .i64 b.e], .agg #[.bool c.n, .string (bstr c.x), .int .i64 c.e], .agg #[.bool d.n, .string (bstr d.x), .int .i64 d.e], .bool l] w fun r w' => r = .returned (.tuple #[.agg #[.bool false, .string { data := #[] }, .int .i64 0], .int .i64 4]) ∧ Below w.heap.size w w' := by
 have ok_p : p.1.ok := E_p ▸ yMul_ok _ _
 have ok_q : q.1.ok := E_q ▸ yMul_ok _ _
 have h1 := fun W => rcmul a b W ok_a ok_b
 rw [E_p] at h1
 have h2 := fun W => rcmul c d W ok_c ok_d
 rw [E_q] at h2
 clear E_p E_q ok_p ok_q ok_a ok_b ok_c ok_d
 obtain ⟨an, aX, ae⟩ := a
 obtain ⟨bn, bX, be⟩ := b
 obtain ⟨cn, cX, ce⟩ := c
 obtain ⟨dn, dX, de⟩ := d
 obtain ⟨⟨pn, pX, pe⟩, pr⟩ := p
 obtain ⟨⟨qn, qX, qe⟩, qr⟩ := q
 dsimp only at *
 generalize bstr aX = aS at *
 generalize bstr bX = bS at *
 generalize bstr cX = cS at *
 generalize bstr dX = dS at *
 generalize bstr pX = pS at *
 generalize bstr qX = qS at *
 by_cases hu : pr = 0
 ·have hu2 : (pr != 0) = false := by simp [hu]
  have hv2 : (qr != 0) = true := by simpa [hu] using h
  clear h hu
  go_enter Tryz.func89, Tryz.ntmps89
  have B0 := Below.refl w.heap.size w
  have F5 := Blk.put (w) #[.bool an, .string aS, .int .i64 ae] 24
  replace B0 := B0.alloc B0.size (.cells #[.bool an, .string aS, .int .i64 ae] 24)
  replace F5 := F5.allocd (.cells #[.bool bn, .string bS, .int .i64 be] 24)
  have F6 := Blk.put ((w).alloc (.cells #[.bool an, .string aS, .int .i64 ae] 24)) #[.bool bn, .string bS, .int .i64 be] 24
  rw [show ((w).alloc (.cells #[.bool an, .string aS, .int .i64 ae] 24)).heap.size = w.heap.size + 1 by simp] at F6
  replace B0 := B0.alloc B0.size (.cells #[.bool bn, .string bS, .int .i64 be] 24)
  replace F5 := F5.allocd (.cells #[.bool cn, .string cS, .int .i64 ce] 24)
  replace F6 := F6.allocd (.cells #[.bool cn, .string cS, .int .i64 ce] 24)
  have F7 := Blk.put (((w).alloc (.cells #[.bool an, .string aS, .int .i64 ae] 24)).alloc (.cells #[.bool bn, .string bS, .int .i64 be] 24)) #[.bool cn, .string cS, .int .i64 ce] 24
  rw [show (((w).alloc (.cells #[.bool an, .string aS, .int .i64 ae] 24)).alloc (.cells #[.bool bn, .string bS, .int .i64 be] 24)).heap.size = w.heap.size + 1 + 1 by simp] at F7
  replace B0 := B0.alloc B0.size (.cells #[.bool cn, .string cS, .int .i64 ce] 24)
  replace F5 := F5.allocd (.cells #[.bool dn, .string dS, .int .i64 de] 24)
  replace F6 := F6.allocd (.cells #[.bool dn, .string dS, .int .i64 de] 24)
  replace F7 := F7.allocd (.cells #[.bool dn, .string dS, .int .i64 de] 24)
  have F8 := Blk.put ((((w).alloc (.cells #[.bool an, .string aS, .int .i64 ae] 24)).alloc (.cells #[.bool bn, .string bS, .int .i64 be] 24)).alloc (.cells #[.bool cn, .string cS, .int .i64 ce] 24)) #[.bool dn, .string dS, .int .i64 de] 24
  rw [show ((((w).alloc (.cells #[.bool an, .string aS, .int .i64 ae] 24)).alloc (.cells #[.bool bn, .string bS, .int .i64 be] 24)).alloc (.cells #[.bool cn, .string cS, .int .i64 ce] 24)).heap.size = w.heap.size + 1 + 1 + 1 by simp] at F8
  replace B0 := B0.alloc B0.size (.cells #[.bool dn, .string dS, .int .i64 de] 24)
  have q_w_F10 : Hid (w.heap.size ≤ w.heap.size + 1 + 1 + 1 + 1) := Lib.hid (by omega)
  replace F5 := F5.allocd (.cells #[.bool false, .string { data := #[] }, .int .i64 0] 24)
  replace F6 := F6.allocd (.cells #[.bool false, .string { data := #[] }, .int .i64 0] 24)
  replace F7 := F7.allocd (.cells #[.bool false, .string { data := #[] }, .int .i64 0] 24)
  replace F8 := F8.allocd (.cells #[.bool false, .string { data := #[] }, .int .i64 0] 24)
  have F10 := Blk.put (((((w).alloc (.cells #[.bool an, .string aS, .int .i64 ae] 24)).alloc (.cells #[.bool bn, .string bS, .int .i64 be] 24)).alloc (.cells #[.bool cn, .string cS, .int .i64 ce] 24)).alloc (.cells #[.bool dn, .string dS, .int .i64 de] 24)) #[.bool false, .string { data := #[] }, .int .i64 0] 24
  rw [show (((((w).alloc (.cells #[.bool an, .string aS, .int .i64 ae] 24)).alloc (.cells #[.bool bn, .string bS, .int .i64 be] 24)).alloc (.cells #[.bool cn, .string cS, .int .i64 ce] 24)).alloc (.cells #[.bool dn, .string dS, .int .i64 de] 24)).heap.size = w.heap.size + 1 + 1 + 1 + 1 by simp] at F10
  replace B0 := B0.alloc B0.size (.cells #[.bool false, .string { data := #[] }, .int .i64 0] 24)
  obtain ⟨xF50_0, xF50_1, xF50_2⟩ := F5.ce3
  obtain ⟨xF60_0, xF60_1, xF60_2⟩ := F6.ce3
  go_wp2_with fail
  (with_reducible refine (h1 _).mono ?_)
  rintro r w1 ⟨rfl, hb1⟩
  clear xF50_0 xF50_1 xF50_2 xF60_0 xF60_1 xF60_2
  replace F5 := F5.keep hb1
  replace F6 := F6.keep hb1
  replace F7 := F7.keep hb1
  replace F8 := F8.keep hb1
  replace F10 := F10.keep hb1
  replace B0 := B0.trans (hb1.mono B0.size)
  clear hb1
  clear F5
  clear F6
  replace F7 := F7.allocd (.cells #[.bool pn, .string pS, .int .i64 pe] 24)
  replace F8 := F8.allocd (.cells #[.bool pn, .string pS, .int .i64 pe] 24)
  replace F10 := F10.allocd (.cells #[.bool pn, .string pS, .int .i64 pe] 24)
  replace B0 := B0.alloc B0.size (.cells #[.bool pn, .string pS, .int .i64 pe] 24)
  obtain ⟨xF71_0, xF71_1, xF71_2⟩ := F7.ce3
  obtain ⟨xF81_0, xF81_1, xF81_2⟩ := F8.ce3
  go_wp2_with fail
  (with_reducible refine (h2 _).mono ?_)
  rintro r w2 ⟨rfl, hb2⟩
  clear xF71_0 xF71_1 xF71_2 xF81_0 xF81_1 xF81_2
  replace F7 := F7.keep hb2
  replace F8 := F8.keep hb2
  replace F10 := F10.keep hb2
  replace B0 := B0.trans (hb2.mono B0.size)
  clear hb2
  clear F7
  clear F8
  replace F10 := F10.allocd (.cells #[.bool qn, .string qS, .int .i64 qe] 24)
  replace B0 := B0.alloc B0.size (.cells #[.bool qn, .string qS, .int .i64 qe] 24)
  obtain ⟨xF102_0, xF102_1, xF102_2⟩ := F10.ce3
  obtain ⟨xF102_0f, xF102_1f, xF102_2f⟩ := F10.fr3
  replace F10 : Blk (((((w2).alloc (.cells #[.bool qn, .string qS, .int .i64 qe] 24)).setCell ⟨w.heap.size + 1 + 1 + 1 + 1, 0, none⟩ (.bool false)).setCell ⟨w.heap.size + 1 + 1 + 1 + 1, 1, none⟩ (.string { data := #[] })).setCell ⟨w.heap.size + 1 + 1 + 1 + 1, 2, none⟩ (.int .i64 0)) (w.heap.size + 1 + 1 + 1 + 1) #[.bool false, .string { data := #[] }, .int .i64 0] 24 := (((F10.setAt 0 (.bool false)).setAt 1 (.string { data := #[] })).setAt 2 (.int .i64 0))
  replace B0 := (((B0.setCell (p := ⟨w.heap.size + 1 + 1 + 1 + 1, 0, none⟩) q_w_F10.out (.bool false)).setCell (p := ⟨w.heap.size + 1 + 1 + 1 + 1, 1, none⟩) q_w_F10.out (.string { data := #[] })).setCell (p := ⟨w.heap.size + 1 + 1 + 1 + 1, 2, none⟩) q_w_F10.out (.int .i64 0))
  obtain ⟨xF103_0, xF103_1, xF103_2⟩ := F10.ce3
  go_wp2
  exact bodyPost_ret (v := .tuple #[.agg #[.bool false, .string { data := #[] }, .int .i64 0], .int .i64 4]) (by simp [results, Tryz.results89, go_sem, xF103_0, xF103_1, xF103_2]) rfl ⟨rfl, B0⟩
 ·have hu2 : (pr != 0) = true := by simpa using hu
  clear h hu
  go_enter Tryz.func89, Tryz.ntmps89
  have B0 := Below.refl w.heap.size w
  have F5 := Blk.put (w) #[.bool an, .string aS, .int .i64 ae] 24
  replace B0 := B0.alloc B0.size (.cells #[.bool an, .string aS, .int .i64 ae] 24)
  replace F5 := F5.allocd (.cells #[.bool bn, .string bS, .int .i64 be] 24)
  have F6 := Blk.put ((w).alloc (.cells #[.bool an, .string aS, .int .i64 ae] 24)) #[.bool bn, .string bS, .int .i64 be] 24
  rw [show ((w).alloc (.cells #[.bool an, .string aS, .int .i64 ae] 24)).heap.size = w.heap.size + 1 by simp] at F6
  replace B0 := B0.alloc B0.size (.cells #[.bool bn, .string bS, .int .i64 be] 24)
  replace F5 := F5.allocd (.cells #[.bool cn, .string cS, .int .i64 ce] 24)
  replace F6 := F6.allocd (.cells #[.bool cn, .string cS, .int .i64 ce] 24)
  have F7 := Blk.put (((w).alloc (.cells #[.bool an, .string aS, .int .i64 ae] 24)).alloc (.cells #[.bool bn, .string bS, .int .i64 be] 24)) #[.bool cn, .string cS, .int .i64 ce] 24
  rw [show (((w).alloc (.cells #[.bool an, .string aS, .int .i64 ae] 24)).alloc (.cells #[.bool bn, .string bS, .int .i64 be] 24)).heap.size = w.heap.size + 1 + 1 by simp] at F7
  replace B0 := B0.alloc B0.size (.cells #[.bool cn, .string cS, .int .i64 ce] 24)
  replace F5 := F5.allocd (.cells #[.bool dn, .string dS, .int .i64 de] 24)
  replace F6 := F6.allocd (.cells #[.bool dn, .string dS, .int .i64 de] 24)
  replace F7 := F7.allocd (.cells #[.bool dn, .string dS, .int .i64 de] 24)
  have F8 := Blk.put ((((w).alloc (.cells #[.bool an, .string aS, .int .i64 ae] 24)).alloc (.cells #[.bool bn, .string bS, .int .i64 be] 24)).alloc (.cells #[.bool cn, .string cS, .int .i64 ce] 24)) #[.bool dn, .string dS, .int .i64 de] 24
  rw [show ((((w).alloc (.cells #[.bool an, .string aS, .int .i64 ae] 24)).alloc (.cells #[.bool bn, .string bS, .int .i64 be] 24)).alloc (.cells #[.bool cn, .string cS, .int .i64 ce] 24)).heap.size = w.heap.size + 1 + 1 + 1 by simp] at F8
  replace B0 := B0.alloc B0.size (.cells #[.bool dn, .string dS, .int .i64 de] 24)
  have q_w_F10 : Hid (w.heap.size ≤ w.heap.size + 1 + 1 + 1 + 1) := Lib.hid (by omega)
  replace F5 := F5.allocd (.cells #[.bool false, .string { data := #[] }, .int .i64 0] 24)
  replace F6 := F6.allocd (.cells #[.bool false, .string { data := #[] }, .int .i64 0] 24)
  replace F7 := F7.allocd (.cells #[.bool false, .string { data := #[] }, .int .i64 0] 24)
  replace F8 := F8.allocd (.cells #[.bool false, .string { data := #[] }, .int .i64 0] 24)
  have F10 := Blk.put (((((w).alloc (.cells #[.bool an, .string aS, .int .i64 ae] 24)).alloc (.cells #[.bool bn, .string bS, .int .i64 be] 24)).alloc (.cells #[.bool cn, .string cS, .int .i64 ce] 24)).alloc (.cells #[.bool dn, .string dS, .int .i64 de] 24)) #[.bool false, .string { data := #[] }, .int .i64 0] 24
  rw [show (((((w).alloc (.cells #[.bool an, .string aS, .int .i64 ae] 24)).alloc (.cells #[.bool bn, .string bS, .int .i64 be] 24)).alloc (.cells #[.bool cn, .string cS, .int .i64 ce] 24)).alloc (.cells #[.bool dn, .string dS, .int .i64 de] 24)).heap.size = w.heap.size + 1 + 1 + 1 + 1 by simp] at F10
  replace B0 := B0.alloc B0.size (.cells #[.bool false, .string { data := #[] }, .int .i64 0] 24)
  obtain ⟨xF50_0, xF50_1, xF50_2⟩ := F5.ce3
  obtain ⟨xF60_0, xF60_1, xF60_2⟩ := F6.ce3
  go_wp2_with fail
  (with_reducible refine (h1 _).mono ?_)
  rintro r w1 ⟨rfl, hb1⟩
  clear xF50_0 xF50_1 xF50_2 xF60_0 xF60_1 xF60_2
  replace F5 := F5.keep hb1
  replace F6 := F6.keep hb1
  replace F7 := F7.keep hb1
  replace F8 := F8.keep hb1
  replace F10 := F10.keep hb1
  replace B0 := B0.trans (hb1.mono B0.size)
  clear hb1
  clear F5
  clear F6
  replace F7 := F7.allocd (.cells #[.bool pn, .string pS, .int .i64 pe] 24)
  replace F8 := F8.allocd (.cells #[.bool pn, .string pS, .int .i64 pe] 24)
  replace F10 := F10.allocd (.cells #[.bool pn, .string pS, .int .i64 pe] 24)
  replace B0 := B0.alloc B0.size (.cells #[.bool pn, .string pS, .int .i64 pe] 24)
  obtain ⟨xF71_0, xF71_1, xF71_2⟩ := F7.ce3
  obtain ⟨xF81_0, xF81_1, xF81_2⟩ := F8.ce3
  go_wp2_with fail
  (with_reducible refine (h2 _).mono ?_)
  rintro r w2 ⟨rfl, hb2⟩
  clear xF71_0 xF71_1 xF71_2 xF81_0 xF81_1 xF81_2
  replace F7 := F7.keep hb2
  replace F8 := F8.keep hb2
  replace F10 := F10.keep hb2
  replace B0 := B0.trans (hb2.mono B0.size)
  clear hb2
  clear F7
  clear F8
  replace F10 := F10.allocd (.cells #[.bool qn, .string qS, .int .i64 qe] 24)
  replace B0 := B0.alloc B0.size (.cells #[.bool qn, .string qS, .int .i64 qe] 24)
  obtain ⟨xF102_0, xF102_1, xF102_2⟩ := F10.ce3
  obtain ⟨xF102_0f, xF102_1f, xF102_2f⟩ := F10.fr3
  replace F10 : Blk (((((w2).alloc (.cells #[.bool qn, .string qS, .int .i64 qe] 24)).setCell ⟨w.heap.size + 1 + 1 + 1 + 1, 0, none⟩ (.bool false)).setCell ⟨w.heap.size + 1 + 1 + 1 + 1, 1, none⟩ (.string { data := #[] })).setCell ⟨w.heap.size + 1 + 1 + 1 + 1, 2, none⟩ (.int .i64 0)) (w.heap.size + 1 + 1 + 1 + 1) #[.bool false, .string { data := #[] }, .int .i64 0] 24 := (((F10.setAt 0 (.bool false)).setAt 1 (.string { data := #[] })).setAt 2 (.int .i64 0))
  replace B0 := (((B0.setCell (p := ⟨w.heap.size + 1 + 1 + 1 + 1, 0, none⟩) q_w_F10.out (.bool false)).setCell (p := ⟨w.heap.size + 1 + 1 + 1 + 1, 1, none⟩) q_w_F10.out (.string { data := #[] })).setCell (p := ⟨w.heap.size + 1 + 1 + 1 + 1, 2, none⟩) q_w_F10.out (.int .i64 0))
  obtain ⟨xF103_0, xF103_1, xF103_2⟩ := F10.ce3
  go_wp2
  exact bodyPost_ret (v := .tuple #[.agg #[.bool false, .string { data := #[] }, .int .i64 0], .int .i64 4]) (by simp [results, Tryz.results89, go_sem, xF103_0, xF103_1, xF103_2]) rfl ⟨rfl, B0⟩

set_option maxRecDepth 10000 in
set_option maxHeartbeats 4000000 in
theorem qtwo_less (a : DY) (b : DY) (c : DY) (d : DY) (p : DY × Int) (q : DY × Int) (m : DY) (R : DY × Int) (E_p : yMul a b = p) (E_q : yMul c d = q) (E_m : yNeg q.1 = m) (E_R : yAdd p.1 m = R) (w : World) (ok_a : a.ok) (ok_b : b.ok) (ok_c : c.ok) (ok_d : d.ok) (hp : p.2 = 0) (hq : q.2 = 0) :
  Calls Tryz.prog 89 #[.agg #[.bool a.n, .string (bstr a.x), .int .i64 a.e], .agg #[.bool b.n, .string (bstr b.x), .int .i64 b.e], .agg #[.bool c.n, .string (bstr c.x), .int .i64 c.e], .agg #[.bool d.n, .string (bstr d.x), .int .i64 d.e], .bool true] w fun r w' => r = .returned (.tuple #[.agg #[.bool R.1.n, .string (bstr R.1.x), .int .i64 R.1.e], .int .i64 R.2]) ∧ Below w.heap.size w w' := by
 have ok_p : p.1.ok := E_p ▸ yMul_ok _ _
 have ok_q : q.1.ok := E_q ▸ yMul_ok _ _
 have ok_m : m.ok := E_m ▸ yNeg_ok ok_q
 have h1 := fun W => rcmul a b W ok_a ok_b
 rw [E_p] at h1
 have h2 := fun W => rcmul c d W ok_c ok_d
 rw [E_q] at h2
 have h3 := fun W => rcneg q.1 W ok_q
 rw [E_m] at h3
 have h4 := fun W => rcadd p.1 m W ok_p ok_m
 rw [E_R] at h4
 clear E_p E_q E_m E_R ok_p ok_q ok_m ok_a ok_b ok_c ok_d
 obtain ⟨an, aX, ae⟩ := a
 obtain ⟨bn, bX, be⟩ := b
 obtain ⟨cn, cX, ce⟩ := c
 obtain ⟨dn, dX, de⟩ := d
 obtain ⟨⟨pn, pX, pe⟩, pr⟩ := p
 obtain ⟨⟨qn, qX, qe⟩, qr⟩ := q
 obtain ⟨mn, mX, me⟩ := m
 obtain ⟨⟨Rn, RX, Re⟩, Rr⟩ := R
 dsimp only at *
 generalize bstr aX = aS at *
 generalize bstr bX = bS at *
 generalize bstr cX = cS at *
 generalize bstr dX = dS at *
 generalize bstr pX = pS at *
 generalize bstr qX = qS at *
 generalize bstr mX = mS at *
 generalize bstr RX = RS at *
 have hu2 : (pr != 0) = false := by simp [hp]
 have hv2 : (qr != 0) = false := by simp [hq]
 clear hp hq
 go_enter Tryz.func89, Tryz.ntmps89
 have B0 := Below.refl w.heap.size w
 have F5 := Blk.put (w) #[.bool an, .string aS, .int .i64 ae] 24
 replace B0 := B0.alloc B0.size (.cells #[.bool an, .string aS, .int .i64 ae] 24)
 replace F5 := F5.allocd (.cells #[.bool bn, .string bS, .int .i64 be] 24)
 have F6 := Blk.put ((w).alloc (.cells #[.bool an, .string aS, .int .i64 ae] 24)) #[.bool bn, .string bS, .int .i64 be] 24
 rw [show ((w).alloc (.cells #[.bool an, .string aS, .int .i64 ae] 24)).heap.size = w.heap.size + 1 by simp] at F6
 replace B0 := B0.alloc B0.size (.cells #[.bool bn, .string bS, .int .i64 be] 24)
 replace F5 := F5.allocd (.cells #[.bool cn, .string cS, .int .i64 ce] 24)
 replace F6 := F6.allocd (.cells #[.bool cn, .string cS, .int .i64 ce] 24)
 have F7 := Blk.put (((w).alloc (.cells #[.bool an, .string aS, .int .i64 ae] 24)).alloc (.cells #[.bool bn, .string bS, .int .i64 be] 24)) #[.bool cn, .string cS, .int .i64 ce] 24
 rw [show (((w).alloc (.cells #[.bool an, .string aS, .int .i64 ae] 24)).alloc (.cells #[.bool bn, .string bS, .int .i64 be] 24)).heap.size = w.heap.size + 1 + 1 by simp] at F7
 replace B0 := B0.alloc B0.size (.cells #[.bool cn, .string cS, .int .i64 ce] 24)
 replace F5 := F5.allocd (.cells #[.bool dn, .string dS, .int .i64 de] 24)
 replace F6 := F6.allocd (.cells #[.bool dn, .string dS, .int .i64 de] 24)
 replace F7 := F7.allocd (.cells #[.bool dn, .string dS, .int .i64 de] 24)
 have F8 := Blk.put ((((w).alloc (.cells #[.bool an, .string aS, .int .i64 ae] 24)).alloc (.cells #[.bool bn, .string bS, .int .i64 be] 24)).alloc (.cells #[.bool cn, .string cS, .int .i64 ce] 24)) #[.bool dn, .string dS, .int .i64 de] 24
 rw [show ((((w).alloc (.cells #[.bool an, .string aS, .int .i64 ae] 24)).alloc (.cells #[.bool bn, .string bS, .int .i64 be] 24)).alloc (.cells #[.bool cn, .string cS, .int .i64 ce] 24)).heap.size = w.heap.size + 1 + 1 + 1 by simp] at F8
 replace B0 := B0.alloc B0.size (.cells #[.bool dn, .string dS, .int .i64 de] 24)
 have q_w_F10 : Hid (w.heap.size ≤ w.heap.size + 1 + 1 + 1 + 1) := Lib.hid (by omega)
 replace F5 := F5.allocd (.cells #[.bool false, .string { data := #[] }, .int .i64 0] 24)
 replace F6 := F6.allocd (.cells #[.bool false, .string { data := #[] }, .int .i64 0] 24)
 replace F7 := F7.allocd (.cells #[.bool false, .string { data := #[] }, .int .i64 0] 24)
 replace F8 := F8.allocd (.cells #[.bool false, .string { data := #[] }, .int .i64 0] 24)
 have F10 := Blk.put (((((w).alloc (.cells #[.bool an, .string aS, .int .i64 ae] 24)).alloc (.cells #[.bool bn, .string bS, .int .i64 be] 24)).alloc (.cells #[.bool cn, .string cS, .int .i64 ce] 24)).alloc (.cells #[.bool dn, .string dS, .int .i64 de] 24)) #[.bool false, .string { data := #[] }, .int .i64 0] 24
 rw [show (((((w).alloc (.cells #[.bool an, .string aS, .int .i64 ae] 24)).alloc (.cells #[.bool bn, .string bS, .int .i64 be] 24)).alloc (.cells #[.bool cn, .string cS, .int .i64 ce] 24)).alloc (.cells #[.bool dn, .string dS, .int .i64 de] 24)).heap.size = w.heap.size + 1 + 1 + 1 + 1 by simp] at F10
 replace B0 := B0.alloc B0.size (.cells #[.bool false, .string { data := #[] }, .int .i64 0] 24)
 obtain ⟨xF50_0, xF50_1, xF50_2⟩ := F5.ce3
 obtain ⟨xF60_0, xF60_1, xF60_2⟩ := F6.ce3
 go_wp2_with fail
 (with_reducible refine (h1 _).mono ?_)
 rintro r w1 ⟨rfl, hb1⟩
 clear xF50_0 xF50_1 xF50_2 xF60_0 xF60_1 xF60_2
 replace F5 := F5.keep hb1
 replace F6 := F6.keep hb1
 replace F7 := F7.keep hb1
 replace F8 := F8.keep hb1
 replace F10 := F10.keep hb1
 replace B0 := B0.trans (hb1.mono B0.size)
 clear hb1
 clear F5
 clear F6
 replace F7 := F7.allocd (.cells #[.bool pn, .string pS, .int .i64 pe] 24)
 replace F8 := F8.allocd (.cells #[.bool pn, .string pS, .int .i64 pe] 24)
 replace F10 := F10.allocd (.cells #[.bool pn, .string pS, .int .i64 pe] 24)
 have F12 := Blk.put (w1) #[.bool pn, .string pS, .int .i64 pe] 24
 replace B0 := B0.alloc B0.size (.cells #[.bool pn, .string pS, .int .i64 pe] 24)
 obtain ⟨xF71_0, xF71_1, xF71_2⟩ := F7.ce3
 obtain ⟨xF81_0, xF81_1, xF81_2⟩ := F8.ce3
 go_wp2_with fail
 (with_reducible refine (h2 _).mono ?_)
 rintro r w2 ⟨rfl, hb2⟩
 clear xF71_0 xF71_1 xF71_2 xF81_0 xF81_1 xF81_2
 replace F7 := F7.keep hb2
 replace F8 := F8.keep hb2
 replace F10 := F10.keep hb2
 replace F12 := F12.keep hb2
 replace B0 := B0.trans (hb2.mono B0.size)
 clear hb2
 have q_F10_F14 : Hid (w.heap.size + 1 + 1 + 1 + 1 < w2.heap.size) := Lib.hid (by have := F10.lt; first | exact this | simpa using this | omega)
 have q_F12_F14 : Hid (w1.heap.size < w2.heap.size) := Lib.hid (by have := F12.lt; first | exact this | simpa using this | omega)
 have q_w_F14 : Hid (w.heap.size ≤ w2.heap.size) := Lib.hid (by have := B0.size; first | exact this | simpa using this | omega)
 clear F7
 clear F8
 replace F10 := F10.allocd (.cells #[.bool qn, .string qS, .int .i64 qe] 24)
 replace F12 := F12.allocd (.cells #[.bool qn, .string qS, .int .i64 qe] 24)
 have F14 := Blk.put (w2) #[.bool qn, .string qS, .int .i64 qe] 24
 replace B0 := B0.alloc B0.size (.cells #[.bool qn, .string qS, .int .i64 qe] 24)
 obtain ⟨xF142_0, xF142_1, xF142_2⟩ := F14.ce3
 go_wp2_with fail
 (with_reducible refine (h3 _).mono ?_)
 rintro r w3 ⟨rfl, hb3⟩
 clear xF142_0 xF142_1 xF142_2
 replace F10 := F10.keep hb3
 replace F12 := F12.keep hb3
 replace F14 := F14.keep hb3
 replace B0 := B0.trans (hb3.mono B0.size)
 clear hb3
 obtain ⟨xF143_0, xF143_1, xF143_2⟩ := F14.ce3
 obtain ⟨xF143_0f, xF143_1f, xF143_2f⟩ := F14.fr3
 replace F10 := (((F10.far 0 (.bool mn) (Nat.ne_of_lt q_F10_F14.out)).far 1 (.string mS) (Nat.ne_of_lt q_F10_F14.out)).far 2 (.int .i64 me) (Nat.ne_of_lt q_F10_F14.out))
 replace F12 := (((F12.far 0 (.bool mn) (Nat.ne_of_lt q_F12_F14.out)).far 1 (.string mS) (Nat.ne_of_lt q_F12_F14.out)).far 2 (.int .i64 me) (Nat.ne_of_lt q_F12_F14.out))
 replace F14 : Blk ((((w3).setCell ⟨w2.heap.size, 0, none⟩ (.bool mn)).setCell ⟨w2.heap.size, 1, none⟩ (.string mS)).setCell ⟨w2.heap.size, 2, none⟩ (.int .i64 me)) (w2.heap.size) #[.bool mn, .string mS, .int .i64 me] 24 := (((F14.setAt 0 (.bool mn)).setAt 1 (.string mS)).setAt 2 (.int .i64 me))
 replace B0 := (((B0.setCell (p := ⟨w2.heap.size, 0, none⟩) q_w_F14.out (.bool mn)).setCell (p := ⟨w2.heap.size, 1, none⟩) q_w_F14.out (.string mS)).setCell (p := ⟨w2.heap.size, 2, none⟩) q_w_F14.out (.int .i64 me))
 obtain ⟨xF124_0, xF124_1, xF124_2⟩ := F12.ce3
 obtain ⟨xF144_0, xF144_1, xF144_2⟩ := F14.ce3
 go_wp2_with fail
 (with_reducible refine (h4 _).mono ?_)
 rintro r w4 ⟨rfl, hb4⟩
 clear xF143_0 xF143_1 xF143_2 xF143_0f xF143_1f xF143_2f xF124_0 xF124_1 xF124_2 xF144_0 xF144_1 xF144_2
 replace F10 := F10.keep hb4
 replace F12 := F12.keep hb4
 replace F14 := F14.keep hb4
 replace B0 := B0.trans (hb4.mono B0.size)
 clear hb4
 obtain ⟨xF105_0, xF105_1, xF105_2⟩ := F10.ce3
 obtain ⟨xF105_0f, xF105_1f, xF105_2f⟩ := F10.fr3
 clear F12
 clear F14
 replace F10 : Blk ((((w4).setCell ⟨w.heap.size + 1 + 1 + 1 + 1, 0, none⟩ (.bool Rn)).setCell ⟨w.heap.size + 1 + 1 + 1 + 1, 1, none⟩ (.string RS)).setCell ⟨w.heap.size + 1 + 1 + 1 + 1, 2, none⟩ (.int .i64 Re)) (w.heap.size + 1 + 1 + 1 + 1) #[.bool Rn, .string RS, .int .i64 Re] 24 := (((F10.setAt 0 (.bool Rn)).setAt 1 (.string RS)).setAt 2 (.int .i64 Re))
 replace B0 := (((B0.setCell (p := ⟨w.heap.size + 1 + 1 + 1 + 1, 0, none⟩) q_w_F10.out (.bool Rn)).setCell (p := ⟨w.heap.size + 1 + 1 + 1 + 1, 1, none⟩) q_w_F10.out (.string RS)).setCell (p := ⟨w.heap.size + 1 + 1 + 1 + 1, 2, none⟩) q_w_F10.out (.int .i64 Re))
 obtain ⟨xF106_0, xF106_1, xF106_2⟩ := F10.ce3
 go_wp2
 exact bodyPost_ret (v := .tuple #[.agg #[.bool Rn, .string RS, .int .i64 Re], .int .i64 Rr]) (by simp [results, Tryz.results89, go_sem, xF106_0, xF106_1, xF106_2]) rfl ⟨rfl, B0⟩

set_option maxRecDepth 10000 in
set_option maxHeartbeats 4000000 in
theorem qtwo_more (a : DY) (b : DY) (c : DY) (d : DY) (p : DY × Int) (q : DY × Int) (R : DY × Int) (E_p : yMul a b = p) (E_q : yMul c d = q) (E_R : yAdd p.1 q.1 = R) (w : World) (ok_a : a.ok) (ok_b : b.ok) (ok_c : c.ok) (ok_d : d.ok) (hp : p.2 = 0) (hq : q.2 = 0) :
  Calls Tryz.prog 89 #[.agg #[.bool a.n, .string (bstr a.x), .int .i64 a.e], .agg #[.bool b.n, .string (bstr b.x), .int .i64 b.e], .agg #[.bool c.n, .string (bstr c.x), .int .i64 c.e], .agg #[.bool d.n, .string (bstr d.x), .int .i64 d.e], .bool false] w fun r w' => r = .returned (.tuple #[.agg #[.bool R.1.n, .string (bstr R.1.x), .int .i64 R.1.e], .int .i64 R.2]) ∧ Below w.heap.size w w' := by
 have ok_p : p.1.ok := E_p ▸ yMul_ok _ _
 have ok_q : q.1.ok := E_q ▸ yMul_ok _ _
 have h1 := fun W => rcmul a b W ok_a ok_b
 rw [E_p] at h1
 have h2 := fun W => rcmul c d W ok_c ok_d
 rw [E_q] at h2
 have h4 := fun W => rcadd p.1 q.1 W ok_p ok_q
 rw [E_R] at h4
 clear E_p E_q E_R ok_p ok_q ok_a ok_b ok_c ok_d
 obtain ⟨an, aX, ae⟩ := a
 obtain ⟨bn, bX, be⟩ := b
 obtain ⟨cn, cX, ce⟩ := c
 obtain ⟨dn, dX, de⟩ := d
 obtain ⟨⟨pn, pX, pe⟩, pr⟩ := p
 obtain ⟨⟨qn, qX, qe⟩, qr⟩ := q
 obtain ⟨⟨Rn, RX, Re⟩, Rr⟩ := R
 dsimp only at *
 generalize bstr aX = aS at *
 generalize bstr bX = bS at *
 generalize bstr cX = cS at *
 generalize bstr dX = dS at *
 generalize bstr pX = pS at *
 generalize bstr qX = qS at *
 generalize bstr RX = RS at *
 have hu2 : (pr != 0) = false := by simp [hp]
 have hv2 : (qr != 0) = false := by simp [hq]
 clear hp hq
 go_enter Tryz.func89, Tryz.ntmps89
 have B0 := Below.refl w.heap.size w
 have F5 := Blk.put (w) #[.bool an, .string aS, .int .i64 ae] 24
 replace B0 := B0.alloc B0.size (.cells #[.bool an, .string aS, .int .i64 ae] 24)
 replace F5 := F5.allocd (.cells #[.bool bn, .string bS, .int .i64 be] 24)
 have F6 := Blk.put ((w).alloc (.cells #[.bool an, .string aS, .int .i64 ae] 24)) #[.bool bn, .string bS, .int .i64 be] 24
 rw [show ((w).alloc (.cells #[.bool an, .string aS, .int .i64 ae] 24)).heap.size = w.heap.size + 1 by simp] at F6
 replace B0 := B0.alloc B0.size (.cells #[.bool bn, .string bS, .int .i64 be] 24)
 replace F5 := F5.allocd (.cells #[.bool cn, .string cS, .int .i64 ce] 24)
 replace F6 := F6.allocd (.cells #[.bool cn, .string cS, .int .i64 ce] 24)
 have F7 := Blk.put (((w).alloc (.cells #[.bool an, .string aS, .int .i64 ae] 24)).alloc (.cells #[.bool bn, .string bS, .int .i64 be] 24)) #[.bool cn, .string cS, .int .i64 ce] 24
 rw [show (((w).alloc (.cells #[.bool an, .string aS, .int .i64 ae] 24)).alloc (.cells #[.bool bn, .string bS, .int .i64 be] 24)).heap.size = w.heap.size + 1 + 1 by simp] at F7
 replace B0 := B0.alloc B0.size (.cells #[.bool cn, .string cS, .int .i64 ce] 24)
 replace F5 := F5.allocd (.cells #[.bool dn, .string dS, .int .i64 de] 24)
 replace F6 := F6.allocd (.cells #[.bool dn, .string dS, .int .i64 de] 24)
 replace F7 := F7.allocd (.cells #[.bool dn, .string dS, .int .i64 de] 24)
 have F8 := Blk.put ((((w).alloc (.cells #[.bool an, .string aS, .int .i64 ae] 24)).alloc (.cells #[.bool bn, .string bS, .int .i64 be] 24)).alloc (.cells #[.bool cn, .string cS, .int .i64 ce] 24)) #[.bool dn, .string dS, .int .i64 de] 24
 rw [show ((((w).alloc (.cells #[.bool an, .string aS, .int .i64 ae] 24)).alloc (.cells #[.bool bn, .string bS, .int .i64 be] 24)).alloc (.cells #[.bool cn, .string cS, .int .i64 ce] 24)).heap.size = w.heap.size + 1 + 1 + 1 by simp] at F8
 replace B0 := B0.alloc B0.size (.cells #[.bool dn, .string dS, .int .i64 de] 24)
 have q_w_F10 : Hid (w.heap.size ≤ w.heap.size + 1 + 1 + 1 + 1) := Lib.hid (by omega)
 replace F5 := F5.allocd (.cells #[.bool false, .string { data := #[] }, .int .i64 0] 24)
 replace F6 := F6.allocd (.cells #[.bool false, .string { data := #[] }, .int .i64 0] 24)
 replace F7 := F7.allocd (.cells #[.bool false, .string { data := #[] }, .int .i64 0] 24)
 replace F8 := F8.allocd (.cells #[.bool false, .string { data := #[] }, .int .i64 0] 24)
 have F10 := Blk.put (((((w).alloc (.cells #[.bool an, .string aS, .int .i64 ae] 24)).alloc (.cells #[.bool bn, .string bS, .int .i64 be] 24)).alloc (.cells #[.bool cn, .string cS, .int .i64 ce] 24)).alloc (.cells #[.bool dn, .string dS, .int .i64 de] 24)) #[.bool false, .string { data := #[] }, .int .i64 0] 24
 rw [show (((((w).alloc (.cells #[.bool an, .string aS, .int .i64 ae] 24)).alloc (.cells #[.bool bn, .string bS, .int .i64 be] 24)).alloc (.cells #[.bool cn, .string cS, .int .i64 ce] 24)).alloc (.cells #[.bool dn, .string dS, .int .i64 de] 24)).heap.size = w.heap.size + 1 + 1 + 1 + 1 by simp] at F10
 replace B0 := B0.alloc B0.size (.cells #[.bool false, .string { data := #[] }, .int .i64 0] 24)
 obtain ⟨xF50_0, xF50_1, xF50_2⟩ := F5.ce3
 obtain ⟨xF60_0, xF60_1, xF60_2⟩ := F6.ce3
 go_wp2_with fail
 (with_reducible refine (h1 _).mono ?_)
 rintro r w1 ⟨rfl, hb1⟩
 clear xF50_0 xF50_1 xF50_2 xF60_0 xF60_1 xF60_2
 replace F5 := F5.keep hb1
 replace F6 := F6.keep hb1
 replace F7 := F7.keep hb1
 replace F8 := F8.keep hb1
 replace F10 := F10.keep hb1
 replace B0 := B0.trans (hb1.mono B0.size)
 clear hb1
 clear F5
 clear F6
 replace F7 := F7.allocd (.cells #[.bool pn, .string pS, .int .i64 pe] 24)
 replace F8 := F8.allocd (.cells #[.bool pn, .string pS, .int .i64 pe] 24)
 replace F10 := F10.allocd (.cells #[.bool pn, .string pS, .int .i64 pe] 24)
 have F12 := Blk.put (w1) #[.bool pn, .string pS, .int .i64 pe] 24
 replace B0 := B0.alloc B0.size (.cells #[.bool pn, .string pS, .int .i64 pe] 24)
 obtain ⟨xF71_0, xF71_1, xF71_2⟩ := F7.ce3
 obtain ⟨xF81_0, xF81_1, xF81_2⟩ := F8.ce3
 go_wp2_with fail
 (with_reducible refine (h2 _).mono ?_)
 rintro r w2 ⟨rfl, hb2⟩
 clear xF71_0 xF71_1 xF71_2 xF81_0 xF81_1 xF81_2
 replace F7 := F7.keep hb2
 replace F8 := F8.keep hb2
 replace F10 := F10.keep hb2
 replace F12 := F12.keep hb2
 replace B0 := B0.trans (hb2.mono B0.size)
 clear hb2
 clear F7
 clear F8
 replace F10 := F10.allocd (.cells #[.bool qn, .string qS, .int .i64 qe] 24)
 replace F12 := F12.allocd (.cells #[.bool qn, .string qS, .int .i64 qe] 24)
 have F14 := Blk.put (w2) #[.bool qn, .string qS, .int .i64 qe] 24
 replace B0 := B0.alloc B0.size (.cells #[.bool qn, .string qS, .int .i64 qe] 24)
 obtain ⟨xF122_0, xF122_1, xF122_2⟩ := F12.ce3
 obtain ⟨xF142_0, xF142_1, xF142_2⟩ := F14.ce3
 go_wp2_with fail
 (with_reducible refine (h4 _).mono ?_)
 rintro r w3 ⟨rfl, hb3⟩
 clear xF122_0 xF122_1 xF122_2 xF142_0 xF142_1 xF142_2
 replace F10 := F10.keep hb3
 replace F12 := F12.keep hb3
 replace F14 := F14.keep hb3
 replace B0 := B0.trans (hb3.mono B0.size)
 clear hb3
 obtain ⟨xF103_0, xF103_1, xF103_2⟩ := F10.ce3
 obtain ⟨xF103_0f, xF103_1f, xF103_2f⟩ := F10.fr3
 clear F12
 clear F14
 replace F10 : Blk ((((w3).setCell ⟨w.heap.size + 1 + 1 + 1 + 1, 0, none⟩ (.bool Rn)).setCell ⟨w.heap.size + 1 + 1 + 1 + 1, 1, none⟩ (.string RS)).setCell ⟨w.heap.size + 1 + 1 + 1 + 1, 2, none⟩ (.int .i64 Re)) (w.heap.size + 1 + 1 + 1 + 1) #[.bool Rn, .string RS, .int .i64 Re] 24 := (((F10.setAt 0 (.bool Rn)).setAt 1 (.string RS)).setAt 2 (.int .i64 Re))
 replace B0 := (((B0.setCell (p := ⟨w.heap.size + 1 + 1 + 1 + 1, 0, none⟩) q_w_F10.out (.bool Rn)).setCell (p := ⟨w.heap.size + 1 + 1 + 1 + 1, 1, none⟩) q_w_F10.out (.string RS)).setCell (p := ⟨w.heap.size + 1 + 1 + 1 + 1, 2, none⟩) q_w_F10.out (.int .i64 Re))
 obtain ⟨xF104_0, xF104_1, xF104_2⟩ := F10.ce3
 go_wp2
 exact bodyPost_ret (v := .tuple #[.agg #[.bool Rn, .string RS, .int .i64 Re], .int .i64 Rr]) (by simp [results, Tryz.results89, go_sem, xF104_0, xF104_1, xF104_2]) rfl ⟨rfl, B0⟩

theorem qtwo (a b c d : DY) (l : Bool) (w : World) (ha : a.ok) (hb : b.ok) (hc : c.ok) (hd : d.ok) :
  Calls Tryz.prog 89 #[.agg #[.bool a.n, .string (bstr a.x), .int .i64 a.e], .agg #[.bool b.n, .string (bstr b.x), .int .i64 b.e], .agg #[.bool c.n, .string (bstr c.x), .int .i64 c.e], .agg #[.bool d.n, .string (bstr d.x), .int .i64 d.e], .bool l] w fun r w' => r = .returned (.tuple #[.agg #[.bool (yTwo a b c d l).1.n, .string (bstr (yTwo a b c d l).1.x), .int .i64 (yTwo a b c d l).1.e], .int .i64 (yTwo a b c d l).2]) ∧ Below w.heap.size w w' := by
 unfold yTwo
 by_cases h : (yMul a b).2 = 0 ∧ (yMul c d).2 = 0
 ·rw [if_pos h]
  cases l
  ·simp only [Bool.false_eq_true, if_false]
   exact qtwo_more a b c d _ _ _ rfl rfl rfl w ha hb hc hd h.1 h.2
  ·simp only [if_true]
   exact qtwo_less a b c d _ _ _ _ rfl rfl rfl rfl w ha hb hc hd h.1 h.2
 ·rw [if_neg h, show bstr (DY.zero, (4 : Int)).1.x = { data := #[] } from bstr_zero]
  exact qtwo_bad a b c d l _ _ rfl rfl w ha hb hc hd h

end Go.Proofs.YtfbkopepkklkjaaGreatDoor
