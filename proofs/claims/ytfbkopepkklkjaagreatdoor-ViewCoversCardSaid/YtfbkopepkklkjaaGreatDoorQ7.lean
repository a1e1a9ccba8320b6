/- Walks of view.Corners. -/
import Derived.Test.YtfbkopepkklkjaaGreatDoorQ3
import Derived.Test.YtfbkopepkklkjaaGreatDoorQ0
namespace Go.Proofs.YtfbkopepkklkjaaGreatDoor
open Go Go.RowKit Go.PlainAid Fil

theorem vat_00 (l b : DY) (e : Int) (w : World) (hl : l.ok) (hb : b.ok) (e1 : -4096 ≤ e) (e2 : e ≤ 4096) (hT : Tab w) :
  Calls Tryz.prog 22 #[.agg #[.bool l.n, .string (bstr l.x), .int .i64 l.e, .bool b.n, .string (bstr b.x), .int .i64 b.e, .int .i64 e], .int .i64 0, .int .i64 0] w fun r' w' => r' = .returned (.tuple #[.agg #[.bool l.n, .string (bstr l.x), .int .i64 l.e, .bool b.n, .string (bstr b.x), .int .i64 b.e], .int .i64 0]) ∧ Below w.heap.size w w' := by
 have h := vat l b e 0 0 w hl hb e1 e2 (by omega) (by omega) (by omega) (by omega) hT
 rw [vM_zero hl, vM_zero hb, gB_yes rfl rfl] at h
 exact h

theorem vat_C10 (l b : DY) (e : Int) (w : World) (hl : l.ok) (hb : b.ok) (e1 : -4096 ≤ e) (e2 : e ≤ 4096) (hp : (vM l 2 (e - 1)).2 = 0) (hT : Tab w) :
  Calls Tryz.prog 22 #[.agg #[.bool l.n, .string (bstr l.x), .int .i64 l.e, .bool b.n, .string (bstr b.x), .int .i64 b.e, .int .i64 e], .int .i64 2, .int .i64 0] w fun r' w' => r' = .returned (.tuple #[.agg #[.bool (vM l 2 (e - 1)).1.n, .string (bstr (vM l 2 (e - 1)).1.x), .int .i64 (vM l 2 (e - 1)).1.e, .bool b.n, .string (bstr b.x), .int .i64 b.e], .int .i64 0]) ∧ Below w.heap.size w w' := by
 have h := vat l b e 2 0 w hl hb e1 e2 (by omega) (by omega) (by omega) (by omega) hT
 rw [vM_zero hb, gB_yes hp rfl] at h
 exact h

theorem vat_C01 (l b : DY) (e : Int) (w : World) (hl : l.ok) (hb : b.ok) (e1 : -4096 ≤ e) (e2 : e ≤ 4096) (hq : (vM b 2 (e - 1)).2 = 0) (hT : Tab w) :
  Calls Tryz.prog 22 #[.agg #[.bool l.n, .string (bstr l.x), .int .i64 l.e, .bool b.n, .string (bstr b.x), .int .i64 b.e, .int .i64 e], .int .i64 0, .int .i64 2] w fun r' w' => r' = .returned (.tuple #[.agg #[.bool l.n, .string (bstr l.x), .int .i64 l.e, .bool (vM b 2 (e - 1)).1.n, .string (bstr (vM b 2 (e - 1)).1.x), .int .i64 (vM b 2 (e - 1)).1.e], .int .i64 0]) ∧ Below w.heap.size w w' := by
 have h := vat l b e 0 2 w hl hb e1 e2 (by omega) (by omega) (by omega) (by omega) hT
 rw [vM_zero hl, gB_yes rfl hq] at h
 exact h

theorem vat_C11 (l b : DY) (e : Int) (w : World) (hl : l.ok) (hb : b.ok) (e1 : -4096 ≤ e) (e2 : e ≤ 4096) (hp : (vM l 2 (e - 1)).2 = 0) (hq : (vM b 2 (e - 1)).2 = 0) (hT : Tab w) :
  Calls Tryz.prog 22 #[.agg #[.bool l.n, .string (bstr l.x), .int .i64 l.e, .bool b.n, .string (bstr b.x), .int .i64 b.e, .int .i64 e], .int .i64 2, .int .i64 2] w fun r' w' => r' = .returned (.tuple #[.agg #[.bool (vM l 2 (e - 1)).1.n, .string (bstr (vM l 2 (e - 1)).1.x), .int .i64 (vM l 2 (e - 1)).1.e, .bool (vM b 2 (e - 1)).1.n, .string (bstr (vM b 2 (e - 1)).1.x), .int .i64 (vM b 2 (e - 1)).1.e], .int .i64 0]) ∧ Below w.heap.size w w' := by
 have h := vat l b e 2 2 w hl hb e1 e2 (by omega) (by omega) (by omega) (by omega) hT
 rw [gB_yes hp hq] at h
 exact h

theorem vat_Cx (l b : DY) (e : Int) (w : World) (hl : l.ok) (hb : b.ok) (e1 : -4096 ≤ e) (e2 : e ≤ 4096) (hp : ¬ (vM l 2 (e - 1)).2 = 0) (hT : Tab w) :
  Calls Tryz.prog 22 #[.agg #[.bool l.n, .string (bstr l.x), .int .i64 l.e, .bool b.n, .string (bstr b.x), .int .i64 b.e, .int .i64 e], .int .i64 2, .int .i64 0] w fun r' w' => r' = .returned (.tuple #[.agg #[.bool false, .string { data := #[] }, .int .i64 0, .bool false, .string { data := #[] }, .int .i64 0], .int .i64 4]) ∧ Below w.heap.size w w' := by
 have h := vat l b e 2 0 w hl hb e1 e2 (by omega) (by omega) (by omega) (by omega) hT
 rw [gB_no (fun k => hp k.1), show bstr GY.zero.re.x = { data := #[] } from bstr_zero, show bstr GY.zero.im.x = { data := #[] } from bstr_zero] at h
 exact h

theorem vat_Cy (l b : DY) (e : Int) (w : World) (hl : l.ok) (hb : b.ok) (e1 : -4096 ≤ e) (e2 : e ≤ 4096) (hq : ¬ (vM b 2 (e - 1)).2 = 0) (hT : Tab w) :
  Calls Tryz.prog 22 #[.agg #[.bool l.n, .string (bstr l.x), .int .i64 l.e, .bool b.n, .string (bstr b.x), .int .i64 b.e, .int .i64 e], .int .i64 0, .int .i64 2] w fun r' w' => r' = .returned (.tuple #[.agg #[.bool false, .string { data := #[] }, .int .i64 0, .bool false, .string { data := #[] }, .int .i64 0], .int .i64 4]) ∧ Below w.heap.size w w' := by
 have h := vat l b e 0 2 w hl hb e1 e2 (by omega) (by omega) (by omega) (by omega) hT
 rw [gB_no (fun k => hq k.2), show bstr GY.zero.re.x = { data := #[] } from bstr_zero, show bstr GY.zero.im.x = { data := #[] } from bstr_zero] at h
 exact h

set_option maxRecDepth 100000 in
set_option maxHeartbeats 8000000 in
theorem vcorners_0 (l : DY) (b : DY) (e : Int) (p : DY) (q : DY) (E_p : (vM l 2 (e - 1)).1 = p) (E_q : (vM b 2 (e - 1)).1 = q) (w : World) (ok_l : l.ok) (ok_b : b.ok) (e1 : -4096 ≤ e) (e2 : e ≤ 4096) (hp : (vM l 2 (e - 1)).2 = 0) (hq : (vM b 2 (e - 1)).2 = 0) (hT : Tab w) :
  Calls Tryz.prog 5 #[.agg #[.bool l.n, .string (bstr l.x), .int .i64 l.e, .bool b.n, .string (bstr b.x), .int .i64 b.e, .int .i64 e]] w fun r w' => r = .returned (.tuple #[.agg #[.bool l.n, .string (bstr l.x), .int .i64 l.e, .bool b.n, .string (bstr b.x), .int .i64 b.e, .bool p.n, .string (bstr p.x), .int .i64 p.e, .bool b.n, .string (bstr b.x), .int .i64 b.e, .bool l.n, .string (bstr l.x), .int .i64 l.e, .bool q.n, .string (bstr q.x), .int .i64 q.e, .bool p.n, .string (bstr p.x), .int .i64 p.e, .bool q.n, .string (bstr q.x), .int .i64 q.e], .int .i64 0]) ∧ Below w.heap.size w w' := by
 have h1 := fun W => vright_ok l b e W ok_l ok_b e1 e2
 have a0 := fun W hW => vat_00 l b e W ok_l ok_b e1 e2 hW
 have a1 := fun W hW => vat_C10 l b e W ok_l ok_b e1 e2 hp hW
 rw [E_p] at a1
 have a2 := fun W hW => vat_C01 l b e W ok_l ok_b e1 e2 hq hW
 rw [E_q] at a2
 have a3 := fun W hW => vat_C11 l b e W ok_l ok_b e1 e2 hp hq hW
 rw [E_p] at a3
 rw [E_q] at a3
 clear E_p E_q ok_l ok_b
 obtain ⟨ln, lX, le⟩ := l
 obtain ⟨bn, bX, be⟩ := b
 obtain ⟨pn, pX, pe⟩ := p
 obtain ⟨qn, qX, qe⟩ := q
 dsimp only at *
 generalize bstr lX = lS at *
 generalize bstr bX = bS at *
 generalize bstr pX = pS at *
 generalize bstr qX = qS at *
 clear e1 e2 hp hq
 go_enter Tryz.func5, Tryz.ntmps5
 have B0 := Below.refl w.heap.size w
 have F1 := Blk.put (w) #[.bool ln, .string lS, .int .i64 le, .bool bn, .string bS, .int .i64 be, .int .i64 e] 26
 replace B0 := B0.alloc B0.size (.cells #[.bool ln, .string lS, .int .i64 le, .bool bn, .string bS, .int .i64 be, .int .i64 e] 26)
 have q_w_F2 : Hid (w.heap.size ≤ w.heap.size + 1) := Lib.hid (by omega)
 replace F1 := F1.allocd (.cells #[.bool false, .string { data := #[] }, .int .i64 0, .bool false, .string { data := #[] }, .int .i64 0, .bool false, .string { data := #[] }, .int .i64 0, .bool false, .string { data := #[] }, .int .i64 0, .bool false, .string { data := #[] }, .int .i64 0, .bool false, .string { data := #[] }, .int .i64 0, .bool false, .string { data := #[] }, .int .i64 0, .bool false, .string { data := #[] }, .int .i64 0] 29)
 have F2 := Blk.put ((w).alloc (.cells #[.bool ln, .string lS, .int .i64 le, .bool bn, .string bS, .int .i64 be, .int .i64 e] 26)) #[.bool false, .string { data := #[] }, .int .i64 0, .bool false, .string { data := #[] }, .int .i64 0, .bool false, .string { data := #[] }, .int .i64 0, .bool false, .string { data := #[] }, .int .i64 0, .bool false, .string { data := #[] }, .int .i64 0, .bool false, .string { data := #[] }, .int .i64 0, .bool false, .string { data := #[] }, .int .i64 0, .bool false, .string { data := #[] }, .int .i64 0] 29
 rw [show ((w).alloc (.cells #[.bool ln, .string lS, .int .i64 le, .bool bn, .string bS, .int .i64 be, .int .i64 e] 26)).heap.size = w.heap.size + 1 by simp] at F2
 replace B0 := B0.alloc B0.size (.cells #[.bool false, .string { data := #[] }, .int .i64 0, .bool false, .string { data := #[] }, .int .i64 0, .bool false, .string { data := #[] }, .int .i64 0, .bool false, .string { data := #[] }, .int .i64 0, .bool false, .string { data := #[] }, .int .i64 0, .bool false, .string { data := #[] }, .int .i64 0, .bool false, .string { data := #[] }, .int .i64 0, .bool false, .string { data := #[] }, .int .i64 0] 29)
 obtain ⟨xF10_0, xF10_1, xF10_2, xF10_3, xF10_4, xF10_5, xF10_6⟩ := F1.ce7
 go_wp2_with fail
 (with_reducible refine (h1 _).mono ?_)
 rintro r w1 ⟨rfl, hb1⟩
 clear xF10_0 xF10_1 xF10_2 xF10_3 xF10_4 xF10_5 xF10_6
 replace F1 := F1.keep hb1
 replace F2 := F2.keep hb1
 replace B0 := B0.trans (hb1.mono B0.size)
 clear hb1
 have q_F1_F4 : Hid (w.heap.size < w1.heap.size) := Lib.hid (by have := F1.lt; first | exact this | omega | (simp; done) | simpa using this)
 have q_F2_F4 : Hid (w.heap.size + 1 < w1.heap.size) := Lib.hid (by have := F2.lt; first | exact this | omega | (simp; done) | simpa using this)
 have q_w_F4 : Hid (w.heap.size ≤ w1.heap.size) := Lib.hid (by have := B0.size; first | exact this | omega | (simp; done) | simpa using this)
 replace F1 := F1.allocd (.cells #[.bool false, .string { data := #[] }, .int .i64 0, .bool false, .string { data := #[] }, .int .i64 0, .bool false, .string { data := #[] }, .int .i64 0, .bool false, .string { data := #[] }, .int .i64 0, .bool false, .string { data := #[] }, .int .i64 0, .bool false, .string { data := #[] }, .int .i64 0, .bool false, .string { data := #[] }, .int .i64 0, .bool false, .string { data := #[] }, .int .i64 0] 29)
 replace F2 := F2.allocd (.cells #[.bool false, .string { data := #[] }, .int .i64 0, .bool false, .string { data := #[] }, .int .i64 0, .bool false, .string { data := #[] }, .int .i64 0, .bool false, .string { data := #[] }, .int .i64 0, .bool false, .string { data := #[] }, .int .i64 0, .bool false, .string { data := #[] }, .int .i64 0, .bool false, .string { data := #[] }, .int .i64 0, .bool false, .string { data := #[] }, .int .i64 0] 29)
 have F4 := Blk.put (w1) #[.bool false, .string { data := #[] }, .int .i64 0, .bool false, .string { data := #[] }, .int .i64 0, .bool false, .string { data := #[] }, .int .i64 0, .bool false, .string { data := #[] }, .int .i64 0, .bool false, .string { data := #[] }, .int .i64 0, .bool false, .string { data := #[] }, .int .i64 0, .bool false, .string { data := #[] }, .int .i64 0, .bool false, .string { data := #[] }, .int .i64 0] 29
 replace B0 := B0.alloc B0.size (.cells #[.bool false, .string { data := #[] }, .int .i64 0, .bool false, .string { data := #[] }, .int .i64 0, .bool false, .string { data := #[] }, .int .i64 0, .bool false, .string { data := #[] }, .int .i64 0, .bool false, .string { data := #[] }, .int .i64 0, .bool false, .string { data := #[] }, .int .i64 0, .bool false, .string { data := #[] }, .int .i64 0, .bool false, .string { data := #[] }, .int .i64 0] 29)
 go_wp2_with fail
 refine wp_loop_rounds 5 ?_
 rw [rounds_succ]
 obtain ⟨xF11_0, xF11_1, xF11_2, xF11_3, xF11_4, xF11_5, xF11_6⟩ := F1.ce7
 go_wp2_with fail
 (with_reducible refine (a0 _ (hT.below B0)).mono ?_)
 rintro r w2 ⟨rfl, hb2⟩
 clear xF11_0 xF11_1 xF11_2 xF11_3 xF11_4 xF11_5 xF11_6
 replace F1 := F1.keep hb2
 replace F2 := F2.keep hb2
 replace F4 := F4.keep hb2
 replace B0 := B0.trans (hb2.mono B0.size)
 clear hb2
 have q_F4_F6r0 : Hid (w1.heap.size < w2.heap.size) := Lib.hid (by have := F4.lt; first | exact this | omega | (simp; done) | simpa using this)
 replace F1 := F1.allocd (.cells #[.bool ln, .string lS, .int .i64 le, .bool bn, .string bS, .int .i64 be] 28)
 replace F2 := F2.allocd (.cells #[.bool ln, .string lS, .int .i64 le, .bool bn, .string bS, .int .i64 be] 28)
 replace F4 := F4.allocd (.cells #[.bool ln, .string lS, .int .i64 le, .bool bn, .string bS, .int .i64 be] 28)
 have F6r0 := Blk.put (w2) #[.bool ln, .string lS, .int .i64 le, .bool bn, .string bS, .int .i64 be] 28
 replace B0 := B0.alloc B0.size (.cells #[.bool ln, .string lS, .int .i64 le, .bool bn, .string bS, .int .i64 be] 28)
 go_upto_region 10 with fail
 refine wp_region_lit ?_
 refine wpList_move rfl _ (.inl rfl) (.int .i64 0) rfl ?_
 (try dsimp only [Act.put]); (try go_frame)
 refine wpList_load_elem rfl _ _ rfl (w2.heap.size) 0 6 _ _ [.bool ln, .string lS, .int .i64 le, .bool bn, .string bS, .int .i64 be] _ rfl F6r0 rfl Tryz.underlying28 rfl (by kernel_rfl) ?_
 (try dsimp only [Act.put]); (try go_frame)
 refine wpList_elem rfl _ _ _ rfl (w1.heap.size) _ _ 0 _ 0 rfl rfl Tryz.underlying29 Tryz.sizeOf28 (by omega) (by omega) rfl ?_
 (try dsimp only [Act.put]); (try go_frame)
 refine wpList_store_elem rfl _ _ _ rfl (w1.heap.size) 0 _ _ #[.bool ln, .string lS, .int .i64 le, .bool bn, .string bS, .int .i64 be, .bool false, .string { data := #[] }, .int .i64 0, .bool false, .string { data := #[] }, .int .i64 0, .bool false, .string { data := #[] }, .int .i64 0, .bool false, .string { data := #[] }, .int .i64 0, .bool false, .string { data := #[] }, .int .i64 0, .bool false, .string { data := #[] }, .int .i64 0] _ rfl rfl rfl F4 (by kernel_rfl) (by simp) (by simp [Value.oneCell']) ?_
 (try dsimp only [Act.put]); (try go_frame)
 replace F1 := F1.outRow #[.bool ln, .string lS, .int .i64 le, .bool bn, .string bS, .int .i64 be, .bool false, .string { data := #[] }, .int .i64 0, .bool false, .string { data := #[] }, .int .i64 0, .bool false, .string { data := #[] }, .int .i64 0, .bool false, .string { data := #[] }, .int .i64 0, .bool false, .string { data := #[] }, .int .i64 0, .bool false, .string { data := #[] }, .int .i64 0] (Nat.ne_of_lt q_F1_F4.out)
 replace F2 := F2.outRow #[.bool ln, .string lS, .int .i64 le, .bool bn, .string bS, .int .i64 be, .bool false, .string { data := #[] }, .int .i64 0, .bool false, .string { data := #[] }, .int .i64 0, .bool false, .string { data := #[] }, .int .i64 0, .bool false, .string { data := #[] }, .int .i64 0, .bool false, .string { data := #[] }, .int .i64 0, .bool false, .string { data := #[] }, .int .i64 0] (Nat.ne_of_lt q_F2_F4.out)
 replace F6r0 := F6r0.outRow #[.bool ln, .string lS, .int .i64 le, .bool bn, .string bS, .int .i64 be, .bool false, .string { data := #[] }, .int .i64 0, .bool false, .string { data := #[] }, .int .i64 0, .bool false, .string { data := #[] }, .int .i64 0, .bool false, .string { data := #[] }, .int .i64 0, .bool false, .string { data := #[] }, .int .i64 0, .bool false, .string { data := #[] }, .int .i64 0] (Nat.ne_of_gt q_F4_F6r0.out)
 replace F4 := F4.inRow #[.bool ln, .string lS, .int .i64 le, .bool bn, .string bS, .int .i64 be, .bool false, .string { data := #[] }, .int .i64 0, .bool false, .string { data := #[] }, .int .i64 0, .bool false, .string { data := #[] }, .int .i64 0, .bool false, .string { data := #[] }, .int .i64 0, .bool false, .string { data := #[] }, .int .i64 0, .bool false, .string { data := #[] }, .int .i64 0]
 replace B0 := below_setRow B0 q_w_F4.out #[.bool ln, .string lS, .int .i64 le, .bool bn, .string bS, .int .i64 be, .bool false, .string { data := #[] }, .int .i64 0, .bool false, .string { data := #[] }, .int .i64 0, .bool false, .string { data := #[] }, .int .i64 0, .bool false, .string { data := #[] }, .int .i64 0, .bool false, .string { data := #[] }, .int .i64 0, .bool false, .string { data := #[] }, .int .i64 0]
 go_wp2_with fail
 rw [rounds_succ]
 obtain ⟨xF13_0, xF13_1, xF13_2, xF13_3, xF13_4, xF13_5, xF13_6⟩ := F1.ce7
 go_wp2_with fail
 (with_reducible refine (a1 _ (hT.below B0)).mono ?_)
 rintro r w3 ⟨rfl, hb3⟩
 clear xF13_0 xF13_1 xF13_2 xF13_3 xF13_4 xF13_5 xF13_6
 replace F1 := F1.keep hb3
 replace F2 := F2.keep hb3
 replace F4 := F4.keep hb3
 replace F6r0 := F6r0.keep hb3
 replace B0 := B0.trans (hb3.mono B0.size)
 clear hb3
 have q_F4_F6r1 : Hid (w1.heap.size < w3.heap.size) := Lib.hid (by have := F4.lt; first | exact this | omega | (simp; done) | simpa using this)
 replace F1 := F1.allocd (.cells #[.bool pn, .string pS, .int .i64 pe, .bool bn, .string bS, .int .i64 be] 28)
 replace F2 := F2.allocd (.cells #[.bool pn, .string pS, .int .i64 pe, .bool bn, .string bS, .int .i64 be] 28)
 replace F4 := F4.allocd (.cells #[.bool pn, .string pS, .int .i64 pe, .bool bn, .string bS, .int .i64 be] 28)
 clear F6r0
 have F6r1 := Blk.put (w3) #[.bool pn, .string pS, .int .i64 pe, .bool bn, .string bS, .int .i64 be] 28
 replace B0 := B0.alloc B0.size (.cells #[.bool pn, .string pS, .int .i64 pe, .bool bn, .string bS, .int .i64 be] 28)
 go_upto_region 10 with fail
 refine wp_region_lit ?_
 refine wpList_move rfl _ (.inl rfl) (.int .i64 1) rfl ?_
 (try dsimp only [Act.put]); (try go_frame)
 refine wpList_load_elem rfl _ _ rfl (w3.heap.size) 0 6 _ _ [.bool pn, .string pS, .int .i64 pe, .bool bn, .string bS, .int .i64 be] _ rfl F6r1 rfl Tryz.underlying28 rfl (by kernel_rfl) ?_
 (try dsimp only [Act.put]); (try go_frame)
 refine wpList_elem rfl _ _ _ rfl (w1.heap.size) _ _ 6 _ 1 rfl rfl Tryz.underlying29 Tryz.sizeOf28 (by omega) (by omega) rfl ?_
 (try dsimp only [Act.put]); (try go_frame)
 refine wpList_store_elem rfl _ _ _ rfl (w1.heap.size) 6 _ _ #[.bool ln, .string lS, .int .i64 le, .bool bn, .string bS, .int .i64 be, .bool pn, .string pS, .int .i64 pe, .bool bn, .string bS, .int .i64 be, .bool false, .string { data := #[] }, .int .i64 0, .bool false, .string { data := #[] }, .int .i64 0, .bool false, .string { data := #[] }, .int .i64 0, .bool false, .string { data := #[] }, .int .i64 0] _ rfl rfl rfl F4 (by kernel_rfl) (by simp) (by simp [Value.oneCell']) ?_
 (try dsimp only [Act.put]); (try go_frame)
 replace F1 := F1.outRow #[.bool ln, .string lS, .int .i64 le, .bool bn, .string bS, .int .i64 be, .bool pn, .string pS, .int .i64 pe, .bool bn, .string bS, .int .i64 be, .bool false, .string { data := #[] }, .int .i64 0, .bool false, .string { data := #[] }, .int .i64 0, .bool false, .string { data := #[] }, .int .i64 0, .bool false, .string { data := #[] }, .int .i64 0] (Nat.ne_of_lt q_F1_F4.out)
 replace F2 := F2.outRow #[.bool ln, .string lS, .int .i64 le, .bool bn, .string bS, .int .i64 be, .bool pn, .string pS, .int .i64 pe, .bool bn, .string bS, .int .i64 be, .bool false, .string { data := #[] }, .int .i64 0, .bool false, .string { data := #[] }, .int .i64 0, .bool false, .string { data := #[] }, .int .i64 0, .bool false, .string { data := #[] }, .int .i64 0] (Nat.ne_of_lt q_F2_F4.out)
 replace F6r1 := F6r1.outRow #[.bool ln, .string lS, .int .i64 le, .bool bn, .string bS, .int .i64 be, .bool pn, .string pS, .int .i64 pe, .bool bn, .string bS, .int .i64 be, .bool false, .string { data := #[] }, .int .i64 0, .bool false, .string { data := #[] }, .int .i64 0, .bool false, .string { data := #[] }, .int .i64 0, .bool false, .string { data := #[] }, .int .i64 0] (Nat.ne_of_gt q_F4_F6r1.out)
 replace F4 := F4.inRow #[.bool ln, .string lS, .int .i64 le, .bool bn, .string bS, .int .i64 be, .bool pn, .string pS, .int .i64 pe, .bool bn, .string bS, .int .i64 be, .bool false, .string { data := #[] }, .int .i64 0, .bool false, .string { data := #[] }, .int .i64 0, .bool false, .string { data := #[] }, .int .i64 0, .bool false, .string { data := #[] }, .int .i64 0]
 replace B0 := below_setRow B0 q_w_F4.out #[.bool ln, .string lS, .int .i64 le, .bool bn, .string bS, .int .i64 be, .bool pn, .string pS, .int .i64 pe, .bool bn, .string bS, .int .i64 be, .bool false, .string { data := #[] }, .int .i64 0, .bool false, .string { data := #[] }, .int .i64 0, .bool false, .string { data := #[] }, .int .i64 0, .bool false, .string { data := #[] }, .int .i64 0]
 go_wp2_with fail
 rw [rounds_succ]
 obtain ⟨xF15_0, xF15_1, xF15_2, xF15_3, xF15_4, xF15_5, xF15_6⟩ := F1.ce7
 go_wp2_with fail
 (with_reducible refine (a2 _ (hT.below B0)).mono ?_)
 rintro r w4 ⟨rfl, hb4⟩
 clear xF15_0 xF15_1 xF15_2 xF15_3 xF15_4 xF15_5 xF15_6
 replace F1 := F1.keep hb4
 replace F2 := F2.keep hb4
 replace F4 := F4.keep hb4
 replace F6r1 := F6r1.keep hb4
 replace B0 := B0.trans (hb4.mono B0.size)
 clear hb4
 have q_F4_F6r2 : Hid (w1.heap.size < w4.heap.size) := Lib.hid (by have := F4.lt; first | exact this | omega | (simp; done) | simpa using this)
 replace F1 := F1.allocd (.cells #[.bool ln, .string lS, .int .i64 le, .bool qn, .string qS, .int .i64 qe] 28)
 replace F2 := F2.allocd (.cells #[.bool ln, .string lS, .int .i64 le, .bool qn, .string qS, .int .i64 qe] 28)
 replace F4 := F4.allocd (.cells #[.bool ln, .string lS, .int .i64 le, .bool qn, .string qS, .int .i64 qe] 28)
 clear F6r1
 have F6r2 := Blk.put (w4) #[.bool ln, .string lS, .int .i64 le, .bool qn, .string qS, .int .i64 qe] 28
 replace B0 := B0.alloc B0.size (.cells #[.bool ln, .string lS, .int .i64 le, .bool qn, .string qS, .int .i64 qe] 28)
 go_upto_region 10 with fail
 refine wp_region_lit ?_
 refine wpList_move rfl _ (.inl rfl) (.int .i64 2) rfl ?_
 (try dsimp only [Act.put]); (try go_frame)
 refine wpList_load_elem rfl _ _ rfl (w4.heap.size) 0 6 _ _ [.bool ln, .string lS, .int .i64 le, .bool qn, .string qS, .int .i64 qe] _ rfl F6r2 rfl Tryz.underlying28 rfl (by kernel_rfl) ?_
 (try dsimp only [Act.put]); (try go_frame)
 refine wpList_elem rfl _ _ _ rfl (w1.heap.size) _ _ 12 _ 2 rfl rfl Tryz.underlying29 Tryz.sizeOf28 (by omega) (by omega) rfl ?_
 (try dsimp only [Act.put]); (try go_frame)
 refine wpList_store_elem rfl _ _ _ rfl (w1.heap.size) 12 _ _ #[.bool ln, .string lS, .int .i64 le, .bool bn, .string bS, .int .i64 be, .bool pn, .string pS, .int .i64 pe, .bool bn, .string bS, .int .i64 be, .bool ln, .string lS, .int .i64 le, .bool qn, .string qS, .int .i64 qe, .bool false, .string { data := #[] }, .int .i64 0, .bool false, .string { data := #[] }, .int .i64 0] _ rfl rfl rfl F4 (by kernel_rfl) (by simp) (by simp [Value.oneCell']) ?_
 (try dsimp only [Act.put]); (try go_frame)
 replace F1 := F1.outRow #[.bool ln, .string lS, .int .i64 le, .bool bn, .string bS, .int .i64 be, .bool pn, .string pS, .int .i64 pe, .bool bn, .string bS, .int .i64 be, .bool ln, .string lS, .int .i64 le, .bool qn, .string qS, .int .i64 qe, .bool false, .string { data := #[] }, .int .i64 0, .bool false, .string { data := #[] }, .int .i64 0] (Nat.ne_of_lt q_F1_F4.out)
 replace F2 := F2.outRow #[.bool ln, .string lS, .int .i64 le, .bool bn, .string bS, .int .i64 be, .bool pn, .string pS, .int .i64 pe, .bool bn, .string bS, .int .i64 be, .bool ln, .string lS, .int .i64 le, .bool qn, .string qS, .int .i64 qe, .bool false, .string { data := #[] }, .int .i64 0, .bool false, .string { data := #[] }, .int .i64 0] (Nat.ne_of_lt q_F2_F4.out)
 replace F6r2 := F6r2.outRow #[.bool ln, .string lS, .int .i64 le, .bool bn, .string bS, .int .i64 be, .bool pn, .string pS, .int .i64 pe, .bool bn, .string bS, .int .i64 be, .bool ln, .string lS, .int .i64 le, .bool qn, .string qS, .int .i64 qe, .bool false, .string { data := #[] }, .int .i64 0, .bool false, .string { data := #[] }, .int .i64 0] (Nat.ne_of_gt q_F4_F6r2.out)
 replace F4 := F4.inRow #[.bool ln, .string lS, .int .i64 le, .bool bn, .string bS, .int .i64 be, .bool pn, .string pS, .int .i64 pe, .bool bn, .string bS, .int .i64 be, .bool ln, .string lS, .int .i64 le, .bool qn, .string qS, .int .i64 qe, .bool false, .string { data := #[] }, .int .i64 0, .bool false, .string { data := #[] }, .int .i64 0]
 replace B0 := below_setRow B0 q_w_F4.out #[.bool ln, .string lS, .int .i64 le, .bool bn, .string bS, .int .i64 be, .bool pn, .string pS, .int .i64 pe, .bool bn, .string bS, .int .i64 be, .bool ln, .string lS, .int .i64 le, .bool qn, .string qS, .int .i64 qe, .bool false, .string { data := #[] }, .int .i64 0, .bool false, .string { data := #[] }, .int .i64 0]
 go_wp2_with fail
 rw [rounds_succ]
 obtain ⟨xF17_0, xF17_1, xF17_2, xF17_3, xF17_4, xF17_5, xF17_6⟩ := F1.ce7
 go_wp2_with fail
 (with_reducible refine (a3 _ (hT.below B0)).mono ?_)
 rintro r w5 ⟨rfl, hb5⟩
 clear xF17_0 xF17_1 xF17_2 xF17_3 xF17_4 xF17_5 xF17_6
 replace F1 := F1.keep hb5
 replace F2 := F2.keep hb5
 replace F4 := F4.keep hb5
 replace F6r2 := F6r2.keep hb5
 replace B0 := B0.trans (hb5.mono B0.size)
 clear hb5
 have q_F2_F6r3 : Hid (w.heap.size + 1 < w5.heap.size) := Lib.hid (by have := F2.lt; first | exact this | omega | (simp; done) | simpa using this)
 have q_F4_F6r3 : Hid (w1.heap.size < w5.heap.size) := Lib.hid (by have := F4.lt; first | exact this | omega | (simp; done) | simpa using this)
 clear F1
 replace F2 := F2.allocd (.cells #[.bool pn, .string pS, .int .i64 pe, .bool qn, .string qS, .int .i64 qe] 28)
 replace F4 := F4.allocd (.cells #[.bool pn, .string pS, .int .i64 pe, .bool qn, .string qS, .int .i64 qe] 28)
 clear F6r2
 have F6r3 := Blk.put (w5) #[.bool pn, .string pS, .int .i64 pe, .bool qn, .string qS, .int .i64 qe] 28
 replace B0 := B0.alloc B0.size (.cells #[.bool pn, .string pS, .int .i64 pe, .bool qn, .string qS, .int .i64 qe] 28)
 go_upto_region 10 with fail
 refine wp_region_lit ?_
 refine wpList_move rfl _ (.inl rfl) (.int .i64 3) rfl ?_
 (try dsimp only [Act.put]); (try go_frame)
 refine wpList_load_elem rfl _ _ rfl (w5.heap.size) 0 6 _ _ [.bool pn, .string pS, .int .i64 pe, .bool qn, .string qS, .int .i64 qe] _ rfl F6r3 rfl Tryz.underlying28 rfl (by kernel_rfl) ?_
 (try dsimp only [Act.put]); (try go_frame)
 refine wpList_elem rfl _ _ _ rfl (w1.heap.size) _ _ 18 _ 3 rfl rfl Tryz.underlying29 Tryz.sizeOf28 (by omega) (by omega) rfl ?_
 (try dsimp only [Act.put]); (try go_frame)
 refine wpList_store_elem rfl _ _ _ rfl (w1.heap.size) 18 _ _ #[.bool ln, .string lS, .int .i64 le, .bool bn, .string bS, .int .i64 be, .bool pn, .string pS, .int .i64 pe, .bool bn, .string bS, .int .i64 be, .bool ln, .string lS, .int .i64 le, .bool qn, .string qS, .int .i64 qe, .bool pn, .string pS, .int .i64 pe, .bool qn, .string qS, .int .i64 qe] _ rfl rfl rfl F4 (by kernel_rfl) (by simp) (by simp [Value.oneCell']) ?_
 (try dsimp only [Act.put]); (try go_frame)
 replace F2 := F2.outRow #[.bool ln, .string lS, .int .i64 le, .bool bn, .string bS, .int .i64 be, .bool pn, .string pS, .int .i64 pe, .bool bn, .string bS, .int .i64 be, .bool ln, .string lS, .int .i64 le, .bool qn, .string qS, .int .i64 qe, .bool pn, .string pS, .int .i64 pe, .bool qn, .string qS, .int .i64 qe] (Nat.ne_of_lt q_F2_F4.out)
 replace F6r3 := F6r3.outRow #[.bool ln, .string lS, .int .i64 le, .bool bn, .string bS, .int .i64 be, .bool pn, .string pS, .int .i64 pe, .bool bn, .string bS, .int .i64 be, .bool ln, .string lS, .int .i64 le, .bool qn, .string qS, .int .i64 qe, .bool pn, .string pS, .int .i64 pe, .bool qn, .string qS, .int .i64 qe] (Nat.ne_of_gt q_F4_F6r3.out)
 replace F4 := F4.inRow #[.bool ln, .string lS, .int .i64 le, .bool bn, .string bS, .int .i64 be, .bool pn, .string pS, .int .i64 pe, .bool bn, .string bS, .int .i64 be, .bool ln, .string lS, .int .i64 le, .bool qn, .string qS, .int .i64 qe, .bool pn, .string pS, .int .i64 pe, .bool qn, .string qS, .int .i64 qe]
 replace B0 := below_setRow B0 q_w_F4.out #[.bool ln, .string lS, .int .i64 le, .bool bn, .string bS, .int .i64 be, .bool pn, .string pS, .int .i64 pe, .bool bn, .string bS, .int .i64 be, .bool ln, .string lS, .int .i64 le, .bool qn, .string qS, .int .i64 qe, .bool pn, .string pS, .int .i64 pe, .bool qn, .string qS, .int .i64 qe]
 go_wp2_with fail
 rw [rounds_succ]
 go_upto_region 12 with fail
 refine wp_region_lit ?_
 refine wpList_load_row rfl _ _ rfl (w1.heap.size) _ _ _ rfl F4 Tryz.underlying29 (by kernel_rfl) ?_
 (try dsimp only [Act.put]); (try go_frame)
 refine wpList_store_row rfl _ _ _ rfl (w.heap.size + 1) _ _ rfl rfl F2 (by kernel_rfl) rfl (by simp [Value.oneCell']) ?_
 (try dsimp only [Act.put]); (try go_frame)
 replace F4 := F4.outRow #[.bool ln, .string lS, .int .i64 le, .bool bn, .string bS, .int .i64 be, .bool pn, .string pS, .int .i64 pe, .bool bn, .string bS, .int .i64 be, .bool ln, .string lS, .int .i64 le, .bool qn, .string qS, .int .i64 qe, .bool pn, .string pS, .int .i64 pe, .bool qn, .string qS, .int .i64 qe] (Nat.ne_of_gt q_F2_F4.out)
 replace F6r3 := F6r3.outRow #[.bool ln, .string lS, .int .i64 le, .bool bn, .string bS, .int .i64 be, .bool pn, .string pS, .int .i64 pe, .bool bn, .string bS, .int .i64 be, .bool ln, .string lS, .int .i64 le, .bool qn, .string qS, .int .i64 qe, .bool pn, .string pS, .int .i64 pe, .bool qn, .string qS, .int .i64 qe] (Nat.ne_of_gt q_F2_F6r3.out)
 replace F2 := F2.inRow #[.bool ln, .string lS, .int .i64 le, .bool bn, .string bS, .int .i64 be, .bool pn, .string pS, .int .i64 pe, .bool bn, .string bS, .int .i64 be, .bool ln, .string lS, .int .i64 le, .bool qn, .string qS, .int .i64 qe, .bool pn, .string pS, .int .i64 pe, .bool qn, .string qS, .int .i64 qe]
 replace B0 := below_setRow B0 q_w_F2.out #[.bool ln, .string lS, .int .i64 le, .bool bn, .string bS, .int .i64 be, .bool pn, .string pS, .int .i64 pe, .bool bn, .string bS, .int .i64 be, .bool ln, .string lS, .int .i64 le, .bool qn, .string qS, .int .i64 qe, .bool pn, .string pS, .int .i64 pe, .bool qn, .string qS, .int .i64 qe]
 refine wpList_move rfl _ (.inr rfl) (.int .i64 0) rfl ?_
 (try dsimp only [Act.put]); (try go_frame)
 go_wp2
 exact bodyPost_ret (results_row Tryz.results5 (w.heap.size + 1) _ _ _ _ rfl rfl F2 Tryz.underlying29 (by kernel_rfl)) rfl ⟨rfl, B0⟩

set_option maxRecDepth 100000 in
set_option maxHeartbeats 8000000 in
theorem vcorners_1 (l : DY) (b : DY) (e : Int) (w : World) (ok_l : l.ok) (ok_b : b.ok) (e1 : -4096 ≤ e) (e2 : e ≤ 4096) (hp : ¬ (vM l 2 (e - 1)).2 = 0) (hT : Tab w) :
  Calls Tryz.prog 5 #[.agg #[.bool l.n, .string (bstr l.x), .int .i64 l.e, .bool b.n, .string (bstr b.x), .int .i64 b.e, .int .i64 e]] w fun r w' => r = .returned (.tuple #[.agg #[.bool false, .string { data := #[] }, .int .i64 0, .bool false, .string { data := #[] }, .int .i64 0, .bool false, .string { data := #[] }, .int .i64 0, .bool false, .string { data := #[] }, .int .i64 0, .bool false, .string { data := #[] }, .int .i64 0, .bool false, .string { data := #[] }, .int .i64 0, .bool false, .string { data := #[] }, .int .i64 0, .bool false, .string { data := #[] }, .int .i64 0], .int .i64 4]) ∧ Below w.heap.size w w' := by
 have h1 := fun W => vright_ok l b e W ok_l ok_b e1 e2
 have a0 := fun W hW => vat_00 l b e W ok_l ok_b e1 e2 hW
 have hx := fun W hW => vat_Cx l b e W ok_l ok_b e1 e2 hp hW
 clear ok_l ok_b
 obtain ⟨ln, lX, le⟩ := l
 obtain ⟨bn, bX, be⟩ := b
 dsimp only at *
 generalize bstr lX = lS at *
 generalize bstr bX = bS at *
 clear e1 e2 hp
 go_enter Tryz.func5, Tryz.ntmps5
 have B0 := Below.refl w.heap.size w
 have F1 := Blk.put (w) #[.bool ln, .string lS, .int .i64 le, .bool bn, .string bS, .int .i64 be, .int .i64 e] 26
 replace B0 := B0.alloc B0.size (.cells #[.bool ln, .string lS, .int .i64 le, .bool bn, .string bS, .int .i64 be, .int .i64 e] 26)
 have q_w_F2 : Hid (w.heap.size ≤ w.heap.size + 1) := Lib.hid (by omega)
 replace F1 := F1.allocd (.cells #[.bool false, .string { data := #[] }, .int .i64 0, .bool false, .string { data := #[] }, .int .i64 0, .bool false, .string { data := #[] }, .int .i64 0, .bool false, .string { data := #[] }, .int .i64 0, .bool false, .string { data := #[] }, .int .i64 0, .bool false, .string { data := #[] }, .int .i64 0, .bool false, .string { data := #[] }, .int .i64 0, .bool false, .string { data := #[] }, .int .i64 0] 29)
 have F2 := Blk.put ((w).alloc (.cells #[.bool ln, .string lS, .int .i64 le, .bool bn, .string bS, .int .i64 be, .int .i64 e] 26)) #[.bool false, .string { data := #[] }, .int .i64 0, .bool false, .string { data := #[] }, .int .i64 0, .bool false, .string { data := #[] }, .int .i64 0, .bool false, .string { data := #[] }, .int .i64 0, .bool false, .string { data := #[] }, .int .i64 0, .bool false, .string { data := #[] }, .int .i64 0, .bool false, .string { data := #[] }, .int .i64 0, .bool false, .string { data := #[] }, .int .i64 0] 29
 rw [show ((w).alloc (.cells #[.bool ln, .string lS, .int .i64 le, .bool bn, .string bS, .int .i64 be, .int .i64 e] 26)).heap.size = w.heap.size + 1 by simp] at F2
 replace B0 := B0.alloc B0.size (.cells #[.bool false, .string { data := #[] }, .int .i64 0, .bool false, .string { data := #[] }, .int .i64 0, .bool false, .string { data := #[] }, .int .i64 0, .bool false, .string { data := #[] }, .int .i64 0, .bool false, .string { data := #[] }, .int .i64 0, .bool false, .string { data := #[] }, .int .i64 0, .bool false, .string { data := #[] }, .int .i64 0, .bool false, .string { data := #[] }, .int .i64 0] 29)
 obtain ⟨xF10_0, xF10_1, xF10_2, xF10_3, xF10_4, xF10_5, xF10_6⟩ := F1.ce7
 go_wp2_with fail
 (with_reducible refine (h1 _).mono ?_)
 rintro r w1 ⟨rfl, hb1⟩
 clear xF10_0 xF10_1 xF10_2 xF10_3 xF10_4 xF10_5 xF10_6
 replace F1 := F1.keep hb1
 replace F2 := F2.keep hb1
 replace B0 := B0.trans (hb1.mono B0.size)
 clear hb1
 have q_F1_F4 : Hid (w.heap.size < w1.heap.size) := Lib.hid (by have := F1.lt; first | exact this | omega | (simp; done) | simpa using this)
 have q_F2_F4 : Hid (w.heap.size + 1 < w1.heap.size) := Lib.hid (by have := F2.lt; first | exact this | omega | (simp; done) | simpa using this)
 have q_w_F4 : Hid (w.heap.size ≤ w1.heap.size) := Lib.hid (by have := B0.size; first | exact this | omega | (simp; done) | simpa using this)
 replace F1 := F1.allocd (.cells #[.bool false, .string { data := #[] }, .int .i64 0, .bool false, .string { data := #[] }, .int .i64 0, .bool false, .string { data := #[] }, .int .i64 0, .bool false, .string { data := #[] }, .int .i64 0, .bool false, .string { data := #[] }, .int .i64 0, .bool false, .string { data := #[] }, .int .i64 0, .bool false, .string { data := #[] }, .int .i64 0, .bool false, .string { data := #[] }, .int .i64 0] 29)
 replace F2 := F2.allocd (.cells #[.bool false, .string { data := #[] }, .int .i64 0, .bool false, .string { data := #[] }, .int .i64 0, .bool false, .string { data := #[] }, .int .i64 0, .bool false, .string { data := #[] }, .int .i64 0, .bool false, .string { data := #[] }, .int .i64 0, .bool false, .string { data := #[] }, .int .i64 0, .bool false, .string { data := #[] }, .int .i64 0, .bool false, .string { data := #[] }, .int .i64 0] 29)
 have F4 := Blk.put (w1) #[.bool false, .string { data := #[] }, .int .i64 0, .bool false, .string { data := #[] }, .int .i64 0, .bool false, .string { data := #[] }, .int .i64 0, .bool false, .string { data := #[] }, .int .i64 0, .bool false, .string { data := #[] }, .int .i64 0, .bool false, .string { data := #[] }, .int .i64 0, .bool false, .string { data := #[] }, .int .i64 0, .bool false, .string { data := #[] }, .int .i64 0] 29
 replace B0 := B0.alloc B0.size (.cells #[.bool false, .string { data := #[] }, .int .i64 0, .bool false, .string { data := #[] }, .int .i64 0, .bool false, .string { data := #[] }, .int .i64 0, .bool false, .string { data := #[] }, .int .i64 0, .bool false, .string { data := #[] }, .int .i64 0, .bool false, .string { data := #[] }, .int .i64 0, .bool false, .string { data := #[] }, .int .i64 0, .bool false, .string { data := #[] }, .int .i64 0] 29)
 go_wp2_with fail
 refine wp_loop_rounds 5 ?_
 rw [rounds_succ]
 obtain ⟨xF11_0, xF11_1, xF11_2, xF11_3, xF11_4, xF11_5, xF11_6⟩ := F1.ce7
 go_wp2_with fail
 (with_reducible refine (a0 _ (hT.below B0)).mono ?_)
 rintro r w2 ⟨rfl, hb2⟩
 clear xF11_0 xF11_1 xF11_2 xF11_3 xF11_4 xF11_5 xF11_6
 replace F1 := F1.keep hb2
 replace F2 := F2.keep hb2
 replace F4 := F4.keep hb2
 replace B0 := B0.trans (hb2.mono B0.size)
 clear hb2
 have q_F4_F6r0 : Hid (w1.heap.size < w2.heap.size) := Lib.hid (by have := F4.lt; first | exact this | omega | (simp; done) | simpa using this)
 replace F1 := F1.allocd (.cells #[.bool ln, .string lS, .int .i64 le, .bool bn, .string bS, .int .i64 be] 28)
 replace F2 := F2.allocd (.cells #[.bool ln, .string lS, .int .i64 le, .bool bn, .string bS, .int .i64 be] 28)
 replace F4 := F4.allocd (.cells #[.bool ln, .string lS, .int .i64 le, .bool bn, .string bS, .int .i64 be] 28)
 have F6r0 := Blk.put (w2) #[.bool ln, .string lS, .int .i64 le, .bool bn, .string bS, .int .i64 be] 28
 replace B0 := B0.alloc B0.size (.cells #[.bool ln, .string lS, .int .i64 le, .bool bn, .string bS, .int .i64 be] 28)
 go_upto_region 10 with fail
 refine wp_region_lit ?_
 refine wpList_move rfl _ (.inl rfl) (.int .i64 0) rfl ?_
 (try dsimp only [Act.put]); (try go_frame)
 refine wpList_load_elem rfl _ _ rfl (w2.heap.size) 0 6 _ _ [.bool ln, .string lS, .int .i64 le, .bool bn, .string bS, .int .i64 be] _ rfl F6r0 rfl Tryz.underlying28 rfl (by kernel_rfl) ?_
 (try dsimp only [Act.put]); (try go_frame)
 refine wpList_elem rfl _ _ _ rfl (w1.heap.size) _ _ 0 _ 0 rfl rfl Tryz.underlying29 Tryz.sizeOf28 (by omega) (by omega) rfl ?_
 (try dsimp only [Act.put]); (try go_frame)
 refine wpList_store_elem rfl _ _ _ rfl (w1.heap.size) 0 _ _ #[.bool ln, .string lS, .int .i64 le, .bool bn, .string bS, .int .i64 be, .bool false, .string { data := #[] }, .int .i64 0, .bool false, .string { data := #[] }, .int .i64 0, .bool false, .string { data := #[] }, .int .i64 0, .bool false, .string { data := #[] }, .int .i64 0, .bool false, .string { data := #[] }, .int .i64 0, .bool false, .string { data := #[] }, .int .i64 0] _ rfl rfl rfl F4 (by kernel_rfl) (by simp) (by simp [Value.oneCell']) ?_
 (try dsimp only [Act.put]); (try go_frame)
 replace F1 := F1.outRow #[.bool ln, .string lS, .int .i64 le, .bool bn, .string bS, .int .i64 be, .bool false, .string { data := #[] }, .int .i64 0, .bool false, .string { data := #[] }, .int .i64 0, .bool false, .string { data := #[] }, .int .i64 0, .bool false, .string { data := #[] }, .int .i64 0, .bool false, .string { data := #[] }, .int .i64 0, .bool false, .string { data := #[] }, .int .i64 0] (Nat.ne_of_lt q_F1_F4.out)
 replace F2 := F2.outRow #[.bool ln, .string lS, .int .i64 le, .bool bn, .string bS, .int .i64 be, .bool false, .string { data := #[] }, .int .i64 0, .bool false, .string { data := #[] }, .int .i64 0, .bool false, .string { data := #[] }, .int .i64 0, .bool false, .string { data := #[] }, .int .i64 0, .bool false, .string { data := #[] }, .int .i64 0, .bool false, .string { data := #[] }, .int .i64 0] (Nat.ne_of_lt q_F2_F4.out)
 replace F6r0 := F6r0.outRow #[.bool ln, .string lS, .int .i64 le, .bool bn, .string bS, .int .i64 be, .bool false, .string { data := #[] }, .int .i64 0, .bool false, .string { data := #[] }, .int .i64 0, .bool false, .string { data := #[] }, .int .i64 0, .bool false, .string { data := #[] }, .int .i64 0, .bool false, .string { data := #[] }, .int .i64 0, .bool false, .string { data := #[] }, .int .i64 0] (Nat.ne_of_gt q_F4_F6r0.out)
 replace F4 := F4.inRow #[.bool ln, .string lS, .int .i64 le, .bool bn, .string bS, .int .i64 be, .bool false, .string { data := #[] }, .int .i64 0, .bool false, .string { data := #[] }, .int .i64 0, .bool false, .string { data := #[] }, .int .i64 0, .bool false, .string { data := #[] }, .int .i64 0, .bool false, .string { data := #[] }, .int .i64 0, .bool false, .string { data := #[] }, .int .i64 0]
 replace B0 := below_setRow B0 q_w_F4.out #[.bool ln, .string lS, .int .i64 le, .bool bn, .string bS, .int .i64 be, .bool false, .string { data := #[] }, .int .i64 0, .bool false, .string { data := #[] }, .int .i64 0, .bool false, .string { data := #[] }, .int .i64 0, .bool false, .string { data := #[] }, .int .i64 0, .bool false, .string { data := #[] }, .int .i64 0, .bool false, .string { data := #[] }, .int .i64 0]
 go_wp2_with fail
 rw [rounds_succ]
 obtain ⟨xF13_0, xF13_1, xF13_2, xF13_3, xF13_4, xF13_5, xF13_6⟩ := F1.ce7
 go_wp2_with fail
 (with_reducible refine (hx _ (hT.below B0)).mono ?_)
 rintro r w3 ⟨rfl, hb3⟩
 clear xF13_0 xF13_1 xF13_2 xF13_3 xF13_4 xF13_5 xF13_6
 replace F1 := F1.keep hb3
 replace F2 := F2.keep hb3
 replace F4 := F4.keep hb3
 replace F6r0 := F6r0.keep hb3
 replace B0 := B0.trans (hb3.mono B0.size)
 clear hb3
 clear F1
 replace F2 := F2.allocd (.cells #[.bool false, .string { data := #[] }, .int .i64 0, .bool false, .string { data := #[] }, .int .i64 0] 28)
 clear F4
 clear F6r0
 replace B0 := B0.alloc B0.size (.cells #[.bool false, .string { data := #[] }, .int .i64 0, .bool false, .string { data := #[] }, .int .i64 0] 28)
 go_upto_region 9 with fail
 refine wp_region_lit ?_
 refine wpList_zero rfl _ _ _ _ _ rfl Tryz.zeroValue29 Tryz.underlying29 Tryz.sizeOf28 ?_
 (try dsimp only [Act.put]); (try go_frame)
 refine wpList_move rfl _ (.inl rfl) (.int .i64 4) rfl ?_
 (try dsimp only [Act.put]); (try go_frame)
 refine wpList_store_row rfl _ _ _ rfl (w.heap.size + 1) _ _ rfl rfl F2 (by kernel_rfl) rfl (by simp [Value.oneCell']) ?_
 (try dsimp only [Act.put]); (try go_frame)
 replace F2 := F2.inRow #[.bool false, .string { data := #[] }, .int .i64 0, .bool false, .string { data := #[] }, .int .i64 0, .bool false, .string { data := #[] }, .int .i64 0, .bool false, .string { data := #[] }, .int .i64 0, .bool false, .string { data := #[] }, .int .i64 0, .bool false, .string { data := #[] }, .int .i64 0, .bool false, .string { data := #[] }, .int .i64 0, .bool false, .string { data := #[] }, .int .i64 0]
 replace B0 := below_setRow B0 q_w_F2.out #[.bool false, .string { data := #[] }, .int .i64 0, .bool false, .string { data := #[] }, .int .i64 0, .bool false, .string { data := #[] }, .int .i64 0, .bool false, .string { data := #[] }, .int .i64 0, .bool false, .string { data := #[] }, .int .i64 0, .bool false, .string { data := #[] }, .int .i64 0, .bool false, .string { data := #[] }, .int .i64 0, .bool false, .string { data := #[] }, .int .i64 0]
 refine wpList_move rfl _ (.inr rfl) (.int .i64 4) rfl ?_
 (try dsimp only [Act.put]); (try go_frame)
 go_wp2
 exact bodyPost_ret (results_row Tryz.results5 (w.heap.size + 1) _ _ _ _ rfl rfl F2 Tryz.underlying29 (by kernel_rfl)) rfl ⟨rfl, B0⟩

set_option maxRecDepth 100000 in
set_option maxHeartbeats 8000000 in
theorem vcorners_2 (l : DY) (b : DY) (e : Int) (p : DY) (E_p : (vM l 2 (e - 1)).1 = p) (w : World) (ok_l : l.ok) (ok_b : b.ok) (e1 : -4096 ≤ e) (e2 : e ≤ 4096) (hp : (vM l 2 (e - 1)).2 = 0) (hq : ¬ (vM b 2 (e - 1)).2 = 0) (hT : Tab w) :
  Calls Tryz.prog 5 #[.agg #[.bool l.n, .string (bstr l.x), .int .i64 l.e, .bool b.n, .string (bstr b.x), .int .i64 b.e, .int .i64 e]] w fun r w' => r = .returned (.tuple #[.agg #[.bool false, .string { data := #[] }, .int .i64 0, .bool false, .string { data := #[] }, .int .i64 0, .bool false, .string { data := #[] }, .int .i64 0, .bool false, .string { data := #[] }, .int .i64 0, .bool false, .string { data := #[] }, .int .i64 0, .bool false, .string { data := #[] }, .int .i64 0, .bool false, .string { data := #[] }, .int .i64 0, .bool false, .string { data := #[] }, .int .i64 0], .int .i64 4]) ∧ Below w.heap.size w w' := by
 have h1 := fun W => vright_ok l b e W ok_l ok_b e1 e2
 have a0 := fun W hW => vat_00 l b e W ok_l ok_b e1 e2 hW
 have a1 := fun W hW => vat_C10 l b e W ok_l ok_b e1 e2 hp hW
 rw [E_p] at a1
 have hx := fun W hW => vat_Cy l b e W ok_l ok_b e1 e2 hq hW
 clear E_p ok_l ok_b
 obtain ⟨ln, lX, le⟩ := l
 obtain ⟨bn, bX, be⟩ := b
 obtain ⟨pn, pX, pe⟩ := p
 dsimp only at *
 generalize bstr lX = lS at *
 generalize bstr bX = bS at *
 generalize bstr pX = pS at *
 clear e1 e2 hp hq
 go_enter Tryz.func5, Tryz.ntmps5
 have B0 := Below.refl w.heap.size w
 have F1 := Blk.put (w) #[.bool ln, .string lS, .int .i64 le, .bool bn, .string bS, .int .i64 be, .int .i64 e] 26
 replace B0 := B0.alloc B0.size (.cells #[.bool ln, .string lS, .int .i64 le, .bool bn, .string bS, .int .i64 be, .int .i64 e] 26)
 have q_w_F2 : Hid (w.heap.size ≤ w.heap.size + 1) := Lib.hid (by omega)
 replace F1 := F1.allocd (.cells #[.bool false, .string { data := #[] }, .int .i64 0, .bool false, .string { data := #[] }, .int .i64 0, .bool false, .string { data := #[] }, .int .i64 0, .bool false, .string { data := #[] }, .int .i64 0, .bool false, .string { data := #[] }, .int .i64 0, .bool false, .string { data := #[] }, .int .i64 0, .bool false, .string { data := #[] }, .int .i64 0, .bool false, .string { data := #[] }, .int .i64 0] 29)
 have F2 := Blk.put ((w).alloc (.cells #[.bool ln, .string lS, .int .i64 le, .bool bn, .string bS, .int .i64 be, .int .i64 e] 26)) #[.bool false, .string { data := #[] }, .int .i64 0, .bool false, .string { data := #[] }, .int .i64 0, .bool false, .string { data := #[] }, .int .i64 0, .bool false, .string { data := #[] }, .int .i64 0, .bool false, .string { data := #[] }, .int .i64 0, .bool false, .string { data := #[] }, .int .i64 0, .bool false, .string { data := #[] }, .int .i64 0, .bool false, .string { data := #[] }, .int .i64 0] 29
 rw [show ((w).alloc (.cells #[.bool ln, .string lS, .int .i64 le, .bool bn, .string bS, .int .i64 be, .int .i64 e] 26)).heap.size = w.heap.size + 1 by simp] at F2
 replace B0 := B0.alloc B0.size (.cells #[.bool false, .string { data := #[] }, .int .i64 0, .bool false, .string { data := #[] }, .int .i64 0, .bool false, .string { data := #[] }, .int .i64 0, .bool false, .string { data := #[] }, .int .i64 0, .bool false, .string { data := #[] }, .int .i64 0, .bool false, .string { data := #[] }, .int .i64 0, .bool false, .string { data := #[] }, .int .i64 0, .bool false, .string { data := #[] }, .int .i64 0] 29)
 obtain ⟨xF10_0, xF10_1, xF10_2, xF10_3, xF10_4, xF10_5, xF10_6⟩ := F1.ce7
 go_wp2_with fail
 (with_reducible refine (h1 _).mono ?_)
 rintro r w1 ⟨rfl, hb1⟩
 clear xF10_0 xF10_1 xF10_2 xF10_3 xF10_4 xF10_5 xF10_6
 replace F1 := F1.keep hb1
 replace F2 := F2.keep hb1
 replace B0 := B0.trans (hb1.mono B0.size)
 clear hb1
 have q_F1_F4 : Hid (w.heap.size < w1.heap.size) := Lib.hid (by have := F1.lt; first | exact this | omega | (simp; done) | simpa using this)
 have q_F2_F4 : Hid (w.heap.size + 1 < w1.heap.size) := Lib.hid (by have := F2.lt; first | exact this | omega | (simp; done) | simpa using this)
 have q_w_F4 : Hid (w.heap.size ≤ w1.heap.size) := Lib.hid (by have := B0.size; first | exact this | omega | (simp; done) | simpa using this)
 replace F1 := F1.allocd (.cells #[.bool false, .string { data := #[] }, .int .i64 0, .bool false, .string { data := #[] }, .int .i64 0, .bool false, .string { data := #[] }, .int .i64 0, .bool false, .string { data := #[] }, .int .i64 0, .bool false, .string { data := #[] }, .int .i64 0, .bool false, .string { data := #[] }, .int .i64 0, .bool false, .string { data := #[] }, .int .i64 0, .bool false, .string { data := #[] }, .int .i64 0] 29)
 replace F2 := F2.allocd (.cells #[.bool false, .string { data := #[] }, .int .i64 0, .bool false, .string { data := #[] }, .int .i64 0, .bool false, .string { data := #[] }, .int .i64 0, .bool false, .string { data := #[] }, .int .i64 0, .bool false, .string { data := #[] }, .int .i64 0, .bool false, .string { data := #[] }, .int .i64 0, .bool false, .string { data := #[] }, .int .i64 0, .bool false, .string { data := #[] }, .int .i64 0] 29)
 have F4 := Blk.put (w1) #[.bool false, .string { data := #[] }, .int .i64 0, .bool false, .string { data := #[] }, .int .i64 0, .bool false, .string { data := #[] }, .int .i64 0, .bool false, .string { data := #[] }, .int .i64 0, .bool false, .string { data := #[] }, .int .i64 0, .bool false, .string { data := #[] }, .int .i64 0, .bool false, .string { data := #[] }, .int .i64 0, .bool false, .string { data := #[] }, .int .i64 0] 29
 replace B0 := B0.alloc B0.size (.cells #[.bool false, .string { data := #[] }, .int .i64 0, .bool false, .string { data := #[] }, .int .i64 0, .bool false, .string { data := #[] }, .int .i64 0, .bool false, .string { data := #[] }, .int .i64 0, .bool false, .string { data := #[] }, .int .i64 0, .bool false, .string { data := #[] }, .int .i64 0, .bool false, .string { data := #[] }, .int .i64 0, .bool false, .string { data := #[] }, .int .i64 0] 29)
 go_wp2_with fail
 refine wp_loop_rounds 5 ?_
 rw [rounds_succ]
 obtain ⟨xF11_0, xF11_1, xF11_2, xF11_3, xF11_4, xF11_5, xF11_6⟩ := F1.ce7
 go_wp2_with fail
 (with_reducible refine (a0 _ (hT.below B0)).mono ?_)
 rintro r w2 ⟨rfl, hb2⟩
 clear xF11_0 xF11_1 xF11_2 xF11_3 xF11_4 xF11_5 xF11_6
 replace F1 := F1.keep hb2
 replace F2 := F2.keep hb2
 replace F4 := F4.keep hb2
 replace B0 := B0.trans (hb2.mono B0.size)
 clear hb2
 have q_F4_F6r0 : Hid (w1.heap.size < w2.heap.size) := Lib.hid (by have := F4.lt; first | exact this | omega | (simp; done) | simpa using this)
 replace F1 := F1.allocd (.cells #[.bool ln, .string lS, .int .i64 le, .bool bn, .string bS, .int .i64 be] 28)
 replace F2 := F2.allocd (.cells #[.bool ln, .string lS, .int .i64 le, .bool bn, .string bS, .int .i64 be] 28)
 replace F4 := F4.allocd (.cells #[.bool ln, .string lS, .int .i64 le, .bool bn, .string bS, .int .i64 be] 28)
 have F6r0 := Blk.put (w2) #[.bool ln, .string lS, .int .i64 le, .bool bn, .string bS, .int .i64 be] 28
 replace B0 := B0.alloc B0.size (.cells #[.bool ln, .string lS, .int .i64 le, .bool bn, .string bS, .int .i64 be] 28)
 go_upto_region 10 with fail
 refine wp_region_lit ?_
 refine wpList_move rfl _ (.inl rfl) (.int .i64 0) rfl ?_
 (try dsimp only [Act.put]); (try go_frame)
 refine wpList_load_elem rfl _ _ rfl (w2.heap.size) 0 6 _ _ [.bool ln, .string lS, .int .i64 le, .bool bn, .string bS, .int .i64 be] _ rfl F6r0 rfl Tryz.underlying28 rfl (by kernel_rfl) ?_
 (try dsimp only [Act.put]); (try go_frame)
 refine wpList_elem rfl _ _ _ rfl (w1.heap.size) _ _ 0 _ 0 rfl rfl Tryz.underlying29 Tryz.sizeOf28 (by omega) (by omega) rfl ?_
 (try dsimp only [Act.put]); (try go_frame)
 refine wpList_store_elem rfl _ _ _ rfl (w1.heap.size) 0 _ _ #[.bool ln, .string lS, .int .i64 le, .bool bn, .string bS, .int .i64 be, .bool false, .string { data := #[] }, .int .i64 0, .bool false, .string { data := #[] }, .int .i64 0, .bool false, .string { data := #[] }, .int .i64 0, .bool false, .string { data := #[] }, .int .i64 0, .bool false, .string { data := #[] }, .int .i64 0, .bool false, .string { data := #[] }, .int .i64 0] _ rfl rfl rfl F4 (by kernel_rfl) (by simp) (by simp [Value.oneCell']) ?_
 (try dsimp only [Act.put]); (try go_frame)
 replace F1 := F1.outRow #[.bool ln, .string lS, .int .i64 le, .bool bn, .string bS, .int .i64 be, .bool false, .string { data := #[] }, .int .i64 0, .bool false, .string { data := #[] }, .int .i64 0, .bool false, .string { data := #[] }, .int .i64 0, .bool false, .string { data := #[] }, .int .i64 0, .bool false, .string { data := #[] }, .int .i64 0, .bool false, .string { data := #[] }, .int .i64 0] (Nat.ne_of_lt q_F1_F4.out)
 replace F2 := F2.outRow #[.bool ln, .string lS, .int .i64 le, .bool bn, .string bS, .int .i64 be, .bool false, .string { data := #[] }, .int .i64 0, .bool false, .string { data := #[] }, .int .i64 0, .bool false, .string { data := #[] }, .int .i64 0, .bool false, .string { data := #[] }, .int .i64 0, .bool false, .string { data := #[] }, .int .i64 0, .bool false, .string { data := #[] }, .int .i64 0] (Nat.ne_of_lt q_F2_F4.out)
 replace F6r0 := F6r0.outRow #[.bool ln, .string lS, .int .i64 le, .bool bn, .string bS, .int .i64 be, .bool false, .string { data := #[] }, .int .i64 0, .bool false, .string { data := #[] }, .int .i64 0, .bool false, .string { data := #[] }, .int .i64 0, .bool false, .string { data := #[] }, .int .i64 0, .bool false, .string { data := #[] }, .int .i64 0, .bool false, .string { data := #[] }, .int .i64 0] (Nat.ne_of_gt q_F4_F6r0.out)
 replace F4 := F4.inRow #[.bool ln, .string lS, .int .i64 le, .bool bn, .string bS, .int .i64 be, .bool false, .string { data := #[] }, .int .i64 0, .bool false, .string { data := #[] }, .int .i64 0, .bool false, .string { data := #[] }, .int .i64 0, .bool false, .string { data := #[] }, .int .i64 0, .bool false, .string { data := #[] }, .int .i64 0, .bool false, .string { data := #[] }, .int .i64 0]
 replace B0 := below_setRow B0 q_w_F4.out #[.bool ln, .string lS, .int .i64 le, .bool bn, .string bS, .int .i64 be, .bool false, .string { data := #[] }, .int .i64 0, .bool false, .string { data := #[] }, .int .i64 0, .bool false, .string { data := #[] }, .int .i64 0, .bool false, .string { data := #[] }, .int .i64 0, .bool false, .string { data := #[] }, .int .i64 0, .bool false, .string { data := #[] }, .int .i64 0]
 go_wp2_with fail
 rw [rounds_succ]
 obtain ⟨xF13_0, xF13_1, xF13_2, xF13_3, xF13_4, xF13_5, xF13_6⟩ := F1.ce7
 go_wp2_with fail
 (with_reducible refine (a1 _ (hT.below B0)).mono ?_)
 rintro r w3 ⟨rfl, hb3⟩
 clear xF13_0 xF13_1 xF13_2 xF13_3 xF13_4 xF13_5 xF13_6
 replace F1 := F1.keep hb3
 replace F2 := F2.keep hb3
 replace F4 := F4.keep hb3
 replace F6r0 := F6r0.keep hb3
 replace B0 := B0.trans (hb3.mono B0.size)
 clear hb3
 have q_F4_F6r1 : Hid (w1.heap.size < w3.heap.size) := Lib.hid (by have := F4.lt; first | exact this | omega | (simp; done) | simpa using this)
 replace F1 := F1.allocd (.cells #[.bool pn, .string pS, .int .i64 pe, .bool bn, .string bS, .int .i64 be] 28)
 replace F2 := F2.allocd (.cells #[.bool pn, .string pS, .int .i64 pe, .bool bn, .string bS, .int .i64 be] 28)
 replace F4 := F4.allocd (.cells #[.bool pn, .string pS, .int .i64 pe, .bool bn, .string bS, .int .i64 be] 28)
 clear F6r0
 have F6r1 := Blk.put (w3) #[.bool pn, .string pS, .int .i64 pe, .bool bn, .string bS, .int .i64 be] 28
 replace B0 := B0.alloc B0.size (.cells #[.bool pn, .string pS, .int .i64 pe, .bool bn, .string bS, .int .i64 be] 28)
 go_upto_region 10 with fail
 refine wp_region_lit ?_
 refine wpList_move rfl _ (.inl rfl) (.int .i64 1) rfl ?_
 (try dsimp only [Act.put]); (try go_frame)
 refine wpList_load_elem rfl _ _ rfl (w3.heap.size) 0 6 _ _ [.bool pn, .string pS, .int .i64 pe, .bool bn, .string bS, .int .i64 be] _ rfl F6r1 rfl Tryz.underlying28 rfl (by kernel_rfl) ?_
 (try dsimp only [Act.put]); (try go_frame)
 refine wpList_elem rfl _ _ _ rfl (w1.heap.size) _ _ 6 _ 1 rfl rfl Tryz.underlying29 Tryz.sizeOf28 (by omega) (by omega) rfl ?_
 (try dsimp only [Act.put]); (try go_frame)
 refine wpList_store_elem rfl _ _ _ rfl (w1.heap.size) 6 _ _ #[.bool ln, .string lS, .int .i64 le, .bool bn, .string bS, .int .i64 be, .bool pn, .string pS, .int .i64 pe, .bool bn, .string bS, .int .i64 be, .bool false, .string { data := #[] }, .int .i64 0, .bool false, .string { data := #[] }, .int .i64 0, .bool false, .string { data := #[] }, .int .i64 0, .bool false, .string { data := #[] }, .int .i64 0] _ rfl rfl rfl F4 (by kernel_rfl) (by simp) (by simp [Value.oneCell']) ?_
 (try dsimp only [Act.put]); (try go_frame)
 replace F1 := F1.outRow #[.bool ln, .string lS, .int .i64 le, .bool bn, .string bS, .int .i64 be, .bool pn, .string pS, .int .i64 pe, .bool bn, .string bS, .int .i64 be, .bool false, .string { data := #[] }, .int .i64 0, .bool false, .string { data := #[] }, .int .i64 0, .bool false, .string { data := #[] }, .int .i64 0, .bool false, .string { data := #[] }, .int .i64 0] (Nat.ne_of_lt q_F1_F4.out)
 replace F2 := F2.outRow #[.bool ln, .string lS, .int .i64 le, .bool bn, .string bS, .int .i64 be, .bool pn, .string pS, .int .i64 pe, .bool bn, .string bS, .int .i64 be, .bool false, .string { data := #[] }, .int .i64 0, .bool false, .string { data := #[] }, .int .i64 0, .bool false, .string { data := #[] }, .int .i64 0, .bool false, .string { data := #[] }, .int .i64 0] (Nat.ne_of_lt q_F2_F4.out)
 replace F6r1 := F6r1.outRow #[.bool ln, .string lS, .int .i64 le, .bool bn, .string bS, .int .i64 be, .bool pn, .string pS, .int .i64 pe, .bool bn, .string bS, .int .i64 be, .bool false, .string { data := #[] }, .int .i64 0, .bool false, .string { data := #[] }, .int .i64 0, .bool false, .string { data := #[] }, .int .i64 0, .bool false, .string { data := #[] }, .int .i64 0] (Nat.ne_of_gt q_F4_F6r1.out)
 replace F4 := F4.inRow #[.bool ln, .string lS, .int .i64 le, .bool bn, .string bS, .int .i64 be, .bool pn, .string pS, .int .i64 pe, .bool bn, .string bS, .int .i64 be, .bool false, .string { data := #[] }, .int .i64 0, .bool false, .string { data := #[] }, .int .i64 0, .bool false, .string { data := #[] }, .int .i64 0, .bool false, .string { data := #[] }, .int .i64 0]
 replace B0 := below_setRow B0 q_w_F4.out #[.bool ln, .string lS, .int .i64 le, .bool bn, .string bS, .int .i64 be, .bool pn, .string pS, .int .i64 pe, .bool bn, .string bS, .int .i64 be, .bool false, .string { data := #[] }, .int .i64 0, .bool false, .string { data := #[] }, .int .i64 0, .bool false, .string { data := #[] }, .int .i64 0, .bool false, .string { data := #[] }, .int .i64 0]
 go_wp2_with fail
 rw [rounds_succ]
 obtain ⟨xF15_0, xF15_1, xF15_2, xF15_3, xF15_4, xF15_5, xF15_6⟩ := F1.ce7
 go_wp2_with fail
 (with_reducible refine (hx _ (hT.below B0)).mono ?_)
 rintro r w4 ⟨rfl, hb4⟩
 clear xF15_0 xF15_1 xF15_2 xF15_3 xF15_4 xF15_5 xF15_6
 replace F1 := F1.keep hb4
 replace F2 := F2.keep hb4
 replace F4 := F4.keep hb4
 replace F6r1 := F6r1.keep hb4
 replace B0 := B0.trans (hb4.mono B0.size)
 clear hb4
 clear F1
 replace F2 := F2.allocd (.cells #[.bool false, .string { data := #[] }, .int .i64 0, .bool false, .string { data := #[] }, .int .i64 0] 28)
 clear F4
 clear F6r1
 replace B0 := B0.alloc B0.size (.cells #[.bool false, .string { data := #[] }, .int .i64 0, .bool false, .string { data := #[] }, .int .i64 0] 28)
 go_upto_region 9 with fail
 refine wp_region_lit ?_
 refine wpList_zero rfl _ _ _ _ _ rfl Tryz.zeroValue29 Tryz.underlying29 Tryz.sizeOf28 ?_
 (try dsimp only [Act.put]); (try go_frame)
 refine wpList_move rfl _ (.inl rfl) (.int .i64 4) rfl ?_
 (try dsimp only [Act.put]); (try go_frame)
 refine wpList_store_row rfl _ _ _ rfl (w.heap.size + 1) _ _ rfl rfl F2 (by kernel_rfl) rfl (by simp [Value.oneCell']) ?_
 (try dsimp only [Act.put]); (try go_frame)
 replace F2 := F2.inRow #[.bool false, .string { data := #[] }, .int .i64 0, .bool false, .string { data := #[] }, .int .i64 0, .bool false, .string { data := #[] }, .int .i64 0, .bool false, .string { data := #[] }, .int .i64 0, .bool false, .string { data := #[] }, .int .i64 0, .bool false, .string { data := #[] }, .int .i64 0, .bool false, .string { data := #[] }, .int .i64 0, .bool false, .string { data := #[] }, .int .i64 0]
 replace B0 := below_setRow B0 q_w_F2.out #[.bool false, .string { data := #[] }, .int .i64 0, .bool false, .string { data := #[] }, .int .i64 0, .bool false, .string { data := #[] }, .int .i64 0, .bool false, .string { data := #[] }, .int .i64 0, .bool false, .string { data := #[] }, .int .i64 0, .bool false, .string { data := #[] }, .int .i64 0, .bool false, .string { data := #[] }, .int .i64 0, .bool false, .string { data := #[] }, .int .i64 0]
 refine wpList_move rfl _ (.inr rfl) (.int .i64 4) rfl ?_
 (try dsimp only [Act.put]); (try go_frame)
 go_wp2
 exact bodyPost_ret (results_row Tryz.results5 (w.heap.size + 1) _ _ _ _ rfl rfl F2 Tryz.underlying29 (by kernel_rfl)) rfl ⟨rfl, B0⟩

end Go.Proofs.YtfbkopepkklkjaaGreatDoor
