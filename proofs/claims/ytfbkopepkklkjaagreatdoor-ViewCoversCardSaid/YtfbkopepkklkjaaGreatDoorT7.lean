/- The reference of layer 24: Right, Middle, Area, edges. -/
import Derived.Test.YtfbkopepkklkjaaGreatDoorT1
namespace Go.Proofs.YtfbkopepkklkjaaGreatDoor
open Go Go.RowKit Go.PlainAid Fil


set_option maxRecDepth 10000 in
set_option maxHeartbeats 4000000 in
theorem rright_any (l : DRw) (b : DRw) (e : Int) (w : World) (ok_l : l.fit) (ok_b : b.fit)  :
  Calls Tryz.prog 10 #[.agg #[.bool l.n, .string l.s, .int .i64 l.e, .bool b.n, .string b.s, .int .i64 b.e, .int .i64 e]] w fun r w' => r = .returned (.bool (sqB l b e)) ∧ Below w.heap.size w w' := by
 have h1 := fun W => rmay_any l.n l.s l.e W ok_l
 have h2 := fun W => rmay_any b.n b.s b.e W ok_b
 have h3 := fun W => rside_any e W
 unfold sqB DRw.may
 clear ok_l ok_b
 obtain ⟨ln, lS, le⟩ := l
 obtain ⟨bn, bS, be⟩ := b
 dsimp only at *
 generalize mayB ln lS le = M at *
 generalize mayB bn bS be = N at *
 generalize sideB e = S at *
 cases M
 ·clear h2 h3
  go_enter Tryz.func10, Tryz.ntmps10
  have B0 := Below.refl w.heap.size w
  have F1 := Blk.put (w) #[.bool ln, .string lS, .int .i64 le, .bool bn, .string bS, .int .i64 be, .int .i64 e] 26
  replace B0 := B0.alloc B0.size (.cells #[.bool ln, .string lS, .int .i64 le, .bool bn, .string bS, .int .i64 be, .int .i64 e] 26)
  obtain ⟨xF10_0, xF10_1, xF10_2, xF10_3, xF10_4, xF10_5, xF10_6⟩ := F1.ce7
  go_wp2_with fail
  (with_reducible refine (h1 _).mono ?_)
  rintro r w1 ⟨rfl, hb1⟩
  clear xF10_0 xF10_1 xF10_2 xF10_3 xF10_4 xF10_5 xF10_6
  replace F1 := F1.keep hb1
  replace B0 := B0.trans (hb1.mono B0.size)
  clear hb1
  go_wp2
  go_ret
  exact ⟨rfl, B0⟩
 ·cases N
  ·clear h3
   go_enter Tryz.func10, Tryz.ntmps10
   have B0 := Below.refl w.heap.size w
   have F1 := Blk.put (w) #[.bool ln, .string lS, .int .i64 le, .bool bn, .string bS, .int .i64 be, .int .i64 e] 26
   replace B0 := B0.alloc B0.size (.cells #[.bool ln, .string lS, .int .i64 le, .bool bn, .string bS, .int .i64 be, .int .i64 e] 26)
   obtain ⟨xF10_0, xF10_1, xF10_2, xF10_3, xF10_4, xF10_5, xF10_6⟩ := F1.ce7
   go_wp2_with fail
   (with_reducible refine (h1 _).mono ?_)
   rintro r w1 ⟨rfl, hb1⟩
   clear xF10_0 xF10_1 xF10_2 xF10_3 xF10_4 xF10_5 xF10_6
   replace F1 := F1.keep hb1
   replace B0 := B0.trans (hb1.mono B0.size)
   clear hb1
   obtain ⟨xF11_0, xF11_1, xF11_2, xF11_3, xF11_4, xF11_5, xF11_6⟩ := F1.ce7
   go_wp2_with fail
   (with_reducible refine (h2 _).mono ?_)
   rintro r w2 ⟨rfl, hb2⟩
   clear xF11_0 xF11_1 xF11_2 xF11_3 xF11_4 xF11_5 xF11_6
   replace F1 := F1.keep hb2
   replace B0 := B0.trans (hb2.mono B0.size)
   clear hb2
   go_wp2
   go_ret
   exact ⟨rfl, B0⟩
  ·go_enter Tryz.func10, Tryz.ntmps10
   have B0 := Below.refl w.heap.size w
   have F1 := Blk.put (w) #[.bool ln, .string lS, .int .i64 le, .bool bn, .string bS, .int .i64 be, .int .i64 e] 26
   replace B0 := B0.alloc B0.size (.cells #[.bool ln, .string lS, .int .i64 le, .bool bn, .string bS, .int .i64 be, .int .i64 e] 26)
   obtain ⟨xF10_0, xF10_1, xF10_2, xF10_3, xF10_4, xF10_5, xF10_6⟩ := F1.ce7
   go_wp2_with fail
   (with_reducible refine (h1 _).mono ?_)
   rintro r w1 ⟨rfl, hb1⟩
   clear xF10_0 xF10_1 xF10_2 xF10_3 xF10_4 xF10_5 xF10_6
   replace F1 := F1.keep hb1
   replace B0 := B0.trans (hb1.mono B0.size)
   clear hb1
   obtain ⟨xF11_0, xF11_1, xF11_2, xF11_3, xF11_4, xF11_5, xF11_6⟩ := F1.ce7
   go_wp2_with fail
   (with_reducible refine (h2 _).mono ?_)
   rintro r w2 ⟨rfl, hb2⟩
   clear xF11_0 xF11_1 xF11_2 xF11_3 xF11_4 xF11_5 xF11_6
   replace F1 := F1.keep hb2
   replace B0 := B0.trans (hb2.mono B0.size)
   clear hb2
   obtain ⟨xF12_0, xF12_1, xF12_2, xF12_3, xF12_4, xF12_5, xF12_6⟩ := F1.ce7
   go_wp2_with fail
   (with_reducible refine (h3 _).mono ?_)
   rintro r w3 ⟨rfl, hb3⟩
   clear xF12_0 xF12_1 xF12_2 xF12_3 xF12_4 xF12_5 xF12_6
   replace F1 := F1.keep hb3
   replace B0 := B0.trans (hb3.mono B0.size)
   clear hb3
   go_wp2
   go_ret
   exact ⟨rfl, B0⟩

set_option maxRecDepth 10000 in
set_option maxHeartbeats 4000000 in
theorem rmiddle_1 (l : DY) (b : DY) (e : Int) (p : DY × Int) (q : DY × Int) (E_p : vM l 1 (e - 1) = p) (E_q : vM b 1 (e - 1) = q) (w : World) (ok_l : l.ok) (ok_b : b.ok) (e1 : -4096 ≤ e) (e2 : e ≤ 4096) (h_p : ¬ p.2 = 0) :
  Calls Tryz.prog 14 #[.agg #[.bool l.n, .string (bstr l.x), .int .i64 l.e, .bool b.n, .string (bstr b.x), .int .i64 b.e, .int .i64 e]] w fun r w' => r = .returned (.tuple #[.agg #[.bool false, .string { data := #[] }, .int .i64 0, .bool false, .string { data := #[] }, .int .i64 0], .int .i64 4]) ∧ Below w.heap.size w w' := by
 have h1 := fun W => ron l 1 (e - 1) W ok_l (by omega) (by omega) (by omega) (by omega)
 rw [E_p] at h1
 have h2 := fun W => ron b 1 (e - 1) W ok_b (by omega) (by omega) (by omega) (by omega)
 rw [E_q] at h2
 clear E_p E_q ok_l ok_b
 obtain ⟨ln, lX, le⟩ := l
 obtain ⟨bn, bX, be⟩ := b
 obtain ⟨⟨pn, pX, pe⟩, pr⟩ := p
 obtain ⟨⟨qn, qX, qe⟩, qr⟩ := q
 dsimp only at *
 generalize bstr lX = lS at *
 generalize bstr bX = bS at *
 generalize bstr pX = pS at *
 generalize bstr qX = qS at *
 have hu : (pr != 0) = true := by simpa using h_p
 clear h_p
 go_enter Tryz.func14, Tryz.ntmps14
 have B0 := Below.refl w.heap.size w
 have F1 := Blk.put (w) #[.bool ln, .string lS, .int .i64 le, .bool bn, .string bS, .int .i64 be, .int .i64 e] 26
 replace B0 := B0.alloc B0.size (.cells #[.bool ln, .string lS, .int .i64 le, .bool bn, .string bS, .int .i64 be, .int .i64 e] 26)
 have q_w_F2 : Hid (w.heap.size ≤ w.heap.size + 1) := Lib.hid (by omega)
 replace F1 := F1.allocd (.cells #[.bool false, .string { data := #[] }, .int .i64 0, .bool false, .string { data := #[] }, .int .i64 0] 28)
 have F2 := Blk.put ((w).alloc (.cells #[.bool ln, .string lS, .int .i64 le, .bool bn, .string bS, .int .i64 be, .int .i64 e] 26)) #[.bool false, .string { data := #[] }, .int .i64 0, .bool false, .string { data := #[] }, .int .i64 0] 28
 rw [show ((w).alloc (.cells #[.bool ln, .string lS, .int .i64 le, .bool bn, .string bS, .int .i64 be, .int .i64 e] 26)).heap.size = w.heap.size + 1 by simp] at F2
 replace B0 := B0.alloc B0.size (.cells #[.bool false, .string { data := #[] }, .int .i64 0, .bool false, .string { data := #[] }, .int .i64 0] 28)
 obtain ⟨xF10_0, xF10_1, xF10_2, xF10_3, xF10_4, xF10_5, xF10_6⟩ := F1.ce7
 go_wp2_with fail
 (with_reducible refine (h1 _).mono ?_)
 rintro r w1 ⟨rfl, hb1⟩
 clear xF10_0 xF10_1 xF10_2 xF10_3 xF10_4 xF10_5 xF10_6
 replace F1 := F1.keep hb1
 replace F2 := F2.keep hb1
 replace B0 := B0.trans (hb1.mono B0.size)
 clear hb1
 replace F1 := F1.allocd (.cells #[.bool pn, .string pS, .int .i64 pe] 24)
 replace F2 := F2.allocd (.cells #[.bool pn, .string pS, .int .i64 pe] 24)
 replace B0 := B0.alloc B0.size (.cells #[.bool pn, .string pS, .int .i64 pe] 24)
 obtain ⟨xF11_0, xF11_1, xF11_2, xF11_3, xF11_4, xF11_5, xF11_6⟩ := F1.ce7
 go_wp2_with fail
 (with_reducible refine (h2 _).mono ?_)
 rintro r w2 ⟨rfl, hb2⟩
 clear xF11_0 xF11_1 xF11_2 xF11_3 xF11_4 xF11_5 xF11_6
 replace F1 := F1.keep hb2
 replace F2 := F2.keep hb2
 replace B0 := B0.trans (hb2.mono B0.size)
 clear hb2
 clear F1
 replace F2 := F2.allocd (.cells #[.bool qn, .string qS, .int .i64 qe] 24)
 replace B0 := B0.alloc B0.size (.cells #[.bool qn, .string qS, .int .i64 qe] 24)
 obtain ⟨xF22_0, xF22_1, xF22_2, xF22_3, xF22_4, xF22_5⟩ := F2.ce6
 obtain ⟨xF22_0f, xF22_1f, xF22_2f, xF22_3f, xF22_4f, xF22_5f⟩ := F2.fr6
 replace F2 : Blk ((((((((w2).alloc (.cells #[.bool qn, .string qS, .int .i64 qe] 24)).setCell ⟨w.heap.size + 1, 0, none⟩ (.bool false)).setCell ⟨w.heap.size + 1, 1, none⟩ (.string { data := #[] })).setCell ⟨w.heap.size + 1, 2, none⟩ (.int .i64 0)).setCell ⟨w.heap.size + 1, 3, none⟩ (.bool false)).setCell ⟨w.heap.size + 1, 4, none⟩ (.string { data := #[] })).setCell ⟨w.heap.size + 1, 5, none⟩ (.int .i64 0)) (w.heap.size + 1) #[.bool false, .string { data := #[] }, .int .i64 0, .bool false, .string { data := #[] }, .int .i64 0] 28 := ((((((F2.setAt 0 (.bool false)).setAt 1 (.string { data := #[] })).setAt 2 (.int .i64 0)).setAt 3 (.bool false)).setAt 4 (.string { data := #[] })).setAt 5 (.int .i64 0))
 replace B0 := ((((((B0.setCell (p := ⟨w.heap.size + 1, 0, none⟩) q_w_F2.out (.bool false)).setCell (p := ⟨w.heap.size + 1, 1, none⟩) q_w_F2.out (.string { data := #[] })).setCell (p := ⟨w.heap.size + 1, 2, none⟩) q_w_F2.out (.int .i64 0)).setCell (p := ⟨w.heap.size + 1, 3, none⟩) q_w_F2.out (.bool false)).setCell (p := ⟨w.heap.size + 1, 4, none⟩) q_w_F2.out (.string { data := #[] })).setCell (p := ⟨w.heap.size + 1, 5, none⟩) q_w_F2.out (.int .i64 0))
 obtain ⟨xF23_0, xF23_1, xF23_2, xF23_3, xF23_4, xF23_5⟩ := F2.ce6
 go_wp2
 exact bodyPost_ret (v := .tuple #[.agg #[.bool false, .string { data := #[] }, .int .i64 0, .bool false, .string { data := #[] }, .int .i64 0], .int .i64 4]) (by simp [results, Tryz.results14, go_sem, xF23_0, xF23_1, xF23_2, xF23_3, xF23_4, xF23_5]) rfl ⟨rfl, B0⟩

set_option maxRecDepth 10000 in
set_option maxHeartbeats 4000000 in
theorem rmiddle_2 (l : DY) (b : DY) (e : Int) (p : DY × Int) (q : DY × Int) (E_p : vM l 1 (e - 1) = p) (E_q : vM b 1 (e - 1) = q) (w : World) (ok_l : l.ok) (ok_b : b.ok) (e1 : -4096 ≤ e) (e2 : e ≤ 4096) (h_p : p.2 = 0) (h_q : ¬ q.2 = 0) :
  Calls Tryz.prog 14 #[.agg #[.bool l.n, .string (bstr l.x), .int .i64 l.e, .bool b.n, .string (bstr b.x), .int .i64 b.e, .int .i64 e]] w fun r w' => r = .returned (.tuple #[.agg #[.bool false, .string { data := #[] }, .int .i64 0, .bool false, .string { data := #[] }, .int .i64 0], .int .i64 4]) ∧ Below w.heap.size w w' := by
 have h1 := fun W => ron l 1 (e - 1) W ok_l (by omega) (by omega) (by omega) (by omega)
 rw [E_p] at h1
 have h2 := fun W => ron b 1 (e - 1) W ok_b (by omega) (by omega) (by omega) (by omega)
 rw [E_q] at h2
 clear E_p E_q ok_l ok_b
 obtain ⟨ln, lX, le⟩ := l
 obtain ⟨bn, bX, be⟩ := b
 obtain ⟨⟨pn, pX, pe⟩, pr⟩ := p
 obtain ⟨⟨qn, qX, qe⟩, qr⟩ := q
 dsimp only at *
 generalize bstr lX = lS at *
 generalize bstr bX = bS at *
 generalize bstr pX = pS at *
 generalize bstr qX = qS at *
 have hu : (pr != 0) = false := by simp [h_p]
 have hv : (qr != 0) = true := by simpa using h_q
 clear h_p h_q
 go_enter Tryz.func14, Tryz.ntmps14
 have B0 := Below.refl w.heap.size w
 have F1 := Blk.put (w) #[.bool ln, .string lS, .int .i64 le, .bool bn, .string bS, .int .i64 be, .int .i64 e] 26
 replace B0 := B0.alloc B0.size (.cells #[.bool ln, .string lS, .int .i64 le, .bool bn, .string bS, .int .i64 be, .int .i64 e] 26)
 have q_w_F2 : Hid (w.heap.size ≤ w.heap.size + 1) := Lib.hid (by omega)
 replace F1 := F1.allocd (.cells #[.bool false, .string { data := #[] }, .int .i64 0, .bool false, .string { data := #[] }, .int .i64 0] 28)
 have F2 := Blk.put ((w).alloc (.cells #[.bool ln, .string lS, .int .i64 le, .bool bn, .string bS, .int .i64 be, .int .i64 e] 26)) #[.bool false, .string { data := #[] }, .int .i64 0, .bool false, .string { data := #[] }, .int .i64 0] 28
 rw [show ((w).alloc (.cells #[.bool ln, .string lS, .int .i64 le, .bool bn, .string bS, .int .i64 be, .int .i64 e] 26)).heap.size = w.heap.size + 1 by simp] at F2
 replace B0 := B0.alloc B0.size (.cells #[.bool false, .string { data := #[] }, .int .i64 0, .bool false, .string { data := #[] }, .int .i64 0] 28)
 obtain ⟨xF10_0, xF10_1, xF10_2, xF10_3, xF10_4, xF10_5, xF10_6⟩ := F1.ce7
 go_wp2_with fail
 (with_reducible refine (h1 _).mono ?_)
 rintro r w1 ⟨rfl, hb1⟩
 clear xF10_0 xF10_1 xF10_2 xF10_3 xF10_4 xF10_5 xF10_6
 replace F1 := F1.keep hb1
 replace F2 := F2.keep hb1
 replace B0 := B0.trans (hb1.mono B0.size)
 clear hb1
 replace F1 := F1.allocd (.cells #[.bool pn, .string pS, .int .i64 pe] 24)
 replace F2 := F2.allocd (.cells #[.bool pn, .string pS, .int .i64 pe] 24)
 replace B0 := B0.alloc B0.size (.cells #[.bool pn, .string pS, .int .i64 pe] 24)
 obtain ⟨xF11_0, xF11_1, xF11_2, xF11_3, xF11_4, xF11_5, xF11_6⟩ := F1.ce7
 go_wp2_with fail
 (with_reducible refine (h2 _).mono ?_)
 rintro r w2 ⟨rfl, hb2⟩
 clear xF11_0 xF11_1 xF11_2 xF11_3 xF11_4 xF11_5 xF11_6
 replace F1 := F1.keep hb2
 replace F2 := F2.keep hb2
 replace B0 := B0.trans (hb2.mono B0.size)
 clear hb2
 clear F1
 replace F2 := F2.allocd (.cells #[.bool qn, .string qS, .int .i64 qe] 24)
 replace B0 := B0.alloc B0.size (.cells #[.bool qn, .string qS, .int .i64 qe] 24)
 obtain ⟨xF22_0, xF22_1, xF22_2, xF22_3, xF22_4, xF22_5⟩ := F2.ce6
 obtain ⟨xF22_0f, xF22_1f, xF22_2f, xF22_3f, xF22_4f, xF22_5f⟩ := F2.fr6
 replace F2 : Blk ((((((((w2).alloc (.cells #[.bool qn, .string qS, .int .i64 qe] 24)).setCell ⟨w.heap.size + 1, 0, none⟩ (.bool false)).setCell ⟨w.heap.size + 1, 1, none⟩ (.string { data := #[] })).setCell ⟨w.heap.size + 1, 2, none⟩ (.int .i64 0)).setCell ⟨w.heap.size + 1, 3, none⟩ (.bool false)).setCell ⟨w.heap.size + 1, 4, none⟩ (.string { data := #[] })).setCell ⟨w.heap.size + 1, 5, none⟩ (.int .i64 0)) (w.heap.size + 1) #[.bool false, .string { data := #[] }, .int .i64 0, .bool false, .string { data := #[] }, .int .i64 0] 28 := ((((((F2.setAt 0 (.bool false)).setAt 1 (.string { data := #[] })).setAt 2 (.int .i64 0)).setAt 3 (.bool false)).setAt 4 (.string { data := #[] })).setAt 5 (.int .i64 0))
 replace B0 := ((((((B0.setCell (p := ⟨w.heap.size + 1, 0, none⟩) q_w_F2.out (.bool false)).setCell (p := ⟨w.heap.size + 1, 1, none⟩) q_w_F2.out (.string { data := #[] })).setCell (p := ⟨w.heap.size + 1, 2, none⟩) q_w_F2.out (.int .i64 0)).setCell (p := ⟨w.heap.size + 1, 3, none⟩) q_w_F2.out (.bool false)).setCell (p := ⟨w.heap.size + 1, 4, none⟩) q_w_F2.out (.string { data := #[] })).setCell (p := ⟨w.heap.size + 1, 5, none⟩) q_w_F2.out (.int .i64 0))
 obtain ⟨xF23_0, xF23_1, xF23_2, xF23_3, xF23_4, xF23_5⟩ := F2.ce6
 go_wp2
 exact bodyPost_ret (v := .tuple #[.agg #[.bool false, .string { data := #[] }, .int .i64 0, .bool false, .string { data := #[] }, .int .i64 0], .int .i64 4]) (by simp [results, Tryz.results14, go_sem, xF23_0, xF23_1, xF23_2, xF23_3, xF23_4, xF23_5]) rfl ⟨rfl, B0⟩

set_option maxRecDepth 10000 in
set_option maxHeartbeats 4000000 in
theorem rmiddle_3 (l : DY) (b : DY) (e : Int) (p : DY × Int) (q : DY × Int) (E_p : vM l 1 (e - 1) = p) (E_q : vM b 1 (e - 1) = q) (w : World) (ok_l : l.ok) (ok_b : b.ok) (e1 : -4096 ≤ e) (e2 : e ≤ 4096) (h_p : p.2 = 0) (h_q : q.2 = 0) :
  Calls Tryz.prog 14 #[.agg #[.bool l.n, .string (bstr l.x), .int .i64 l.e, .bool b.n, .string (bstr b.x), .int .i64 b.e, .int .i64 e]] w fun r w' => r = .returned (.tuple #[.agg #[.bool p.1.n, .string (bstr p.1.x), .int .i64 p.1.e, .bool q.1.n, .string (bstr q.1.x), .int .i64 q.1.e], .int .i64 0]) ∧ Below w.heap.size w w' := by
 have h1 := fun W => ron l 1 (e - 1) W ok_l (by omega) (by omega) (by omega) (by omega)
 rw [E_p] at h1
 have h2 := fun W => ron b 1 (e - 1) W ok_b (by omega) (by omega) (by omega) (by omega)
 rw [E_q] at h2
 clear E_p E_q ok_l ok_b
 obtain ⟨ln, lX, le⟩ := l
 obtain ⟨bn, bX, be⟩ := b
 obtain ⟨⟨pn, pX, pe⟩, pr⟩ := p
 obtain ⟨⟨qn, qX, qe⟩, qr⟩ := q
 dsimp only at *
 generalize bstr lX = lS at *
 generalize bstr bX = bS at *
 generalize bstr pX = pS at *
 generalize bstr qX = qS at *
 have hu : (pr != 0) = false := by simp [h_p]
 have hv : (qr != 0) = false := by simp [h_q]
 clear h_p h_q
 go_enter Tryz.func14, Tryz.ntmps14
 have B0 := Below.refl w.heap.size w
 have F1 := Blk.put (w) #[.bool ln, .string lS, .int .i64 le, .bool bn, .string bS, .int .i64 be, .int .i64 e] 26
 replace B0 := B0.alloc B0.size (.cells #[.bool ln, .string lS, .int .i64 le, .bool bn, .string bS, .int .i64 be, .int .i64 e] 26)
 have q_w_F2 : Hid (w.heap.size ≤ w.heap.size + 1) := Lib.hid (by omega)
 replace F1 := F1.allocd (.cells #[.bool false, .string { data := #[] }, .int .i64 0, .bool false, .string { data := #[] }, .int .i64 0] 28)
 have F2 := Blk.put ((w).alloc (.cells #[.bool ln, .string lS, .int .i64 le, .bool bn, .string bS, .int .i64 be, .int .i64 e] 26)) #[.bool false, .string { data := #[] }, .int .i64 0, .bool false, .string { data := #[] }, .int .i64 0] 28
 rw [show ((w).alloc (.cells #[.bool ln, .string lS, .int .i64 le, .bool bn, .string bS, .int .i64 be, .int .i64 e] 26)).heap.size = w.heap.size + 1 by simp] at F2
 replace B0 := B0.alloc B0.size (.cells #[.bool false, .string { data := #[] }, .int .i64 0, .bool false, .string { data := #[] }, .int .i64 0] 28)
 obtain ⟨xF10_0, xF10_1, xF10_2, xF10_3, xF10_4, xF10_5, xF10_6⟩ := F1.ce7
 go_wp2_with fail
 (with_reducible refine (h1 _).mono ?_)
 rintro r w1 ⟨rfl, hb1⟩
 clear xF10_0 xF10_1 xF10_2 xF10_3 xF10_4 xF10_5 xF10_6
 replace F1 := F1.keep hb1
 replace F2 := F2.keep hb1
 replace B0 := B0.trans (hb1.mono B0.size)
 clear hb1
 have q_F2_F4 : Hid (w.heap.size + 1 < w1.heap.size) := Lib.hid (by have := F2.lt; first | exact this | omega | (simp; done) | simpa using this)
 replace F1 := F1.allocd (.cells #[.bool pn, .string pS, .int .i64 pe] 24)
 replace F2 := F2.allocd (.cells #[.bool pn, .string pS, .int .i64 pe] 24)
 have F4 := Blk.put (w1) #[.bool pn, .string pS, .int .i64 pe] 24
 replace B0 := B0.alloc B0.size (.cells #[.bool pn, .string pS, .int .i64 pe] 24)
 obtain ⟨xF11_0, xF11_1, xF11_2, xF11_3, xF11_4, xF11_5, xF11_6⟩ := F1.ce7
 go_wp2_with fail
 (with_reducible refine (h2 _).mono ?_)
 rintro r w2 ⟨rfl, hb2⟩
 clear xF11_0 xF11_1 xF11_2 xF11_3 xF11_4 xF11_5 xF11_6
 replace F1 := F1.keep hb2
 replace F2 := F2.keep hb2
 replace F4 := F4.keep hb2
 replace B0 := B0.trans (hb2.mono B0.size)
 clear hb2
 have q_F2_F6 : Hid (w.heap.size + 1 < w2.heap.size) := Lib.hid (by have := F2.lt; first | exact this | omega | (simp; done) | simpa using this)
 clear F1
 replace F2 := F2.allocd (.cells #[.bool qn, .string qS, .int .i64 qe] 24)
 replace F4 := F4.allocd (.cells #[.bool qn, .string qS, .int .i64 qe] 24)
 have F6 := Blk.put (w2) #[.bool qn, .string qS, .int .i64 qe] 24
 replace B0 := B0.alloc B0.size (.cells #[.bool qn, .string qS, .int .i64 qe] 24)
 obtain ⟨xF42_0, xF42_1, xF42_2⟩ := F4.ce3
 obtain ⟨xF62_0, xF62_1, xF62_2⟩ := F6.ce3
 obtain ⟨xF22_0, xF22_1, xF22_2, xF22_3, xF22_4, xF22_5⟩ := F2.ce6
 obtain ⟨xF22_0f, xF22_1f, xF22_2f, xF22_3f, xF22_4f, xF22_5f⟩ := F2.fr6
 replace F4 := ((((((F4.far 0 (.bool pn) (Nat.ne_of_gt q_F2_F4.out)).far 1 (.string pS) (Nat.ne_of_gt q_F2_F4.out)).far 2 (.int .i64 pe) (Nat.ne_of_gt q_F2_F4.out)).far 3 (.bool qn) (Nat.ne_of_gt q_F2_F4.out)).far 4 (.string qS) (Nat.ne_of_gt q_F2_F4.out)).far 5 (.int .i64 qe) (Nat.ne_of_gt q_F2_F4.out))
 replace F6 := ((((((F6.far 0 (.bool pn) (Nat.ne_of_gt q_F2_F6.out)).far 1 (.string pS) (Nat.ne_of_gt q_F2_F6.out)).far 2 (.int .i64 pe) (Nat.ne_of_gt q_F2_F6.out)).far 3 (.bool qn) (Nat.ne_of_gt q_F2_F6.out)).far 4 (.string qS) (Nat.ne_of_gt q_F2_F6.out)).far 5 (.int .i64 qe) (Nat.ne_of_gt q_F2_F6.out))
 replace F2 : Blk ((((((((w2).alloc (.cells #[.bool qn, .string qS, .int .i64 qe] 24)).setCell ⟨w.heap.size + 1, 0, none⟩ (.bool pn)).setCell ⟨w.heap.size + 1, 1, none⟩ (.string pS)).setCell ⟨w.heap.size + 1, 2, none⟩ (.int .i64 pe)).setCell ⟨w.heap.size + 1, 3, none⟩ (.bool qn)).setCell ⟨w.heap.size + 1, 4, none⟩ (.string qS)).setCell ⟨w.heap.size + 1, 5, none⟩ (.int .i64 qe)) (w.heap.size + 1) #[.bool pn, .string pS, .int .i64 pe, .bool qn, .string qS, .int .i64 qe] 28 := ((((((F2.setAt 0 (.bool pn)).setAt 1 (.string pS)).setAt 2 (.int .i64 pe)).setAt 3 (.bool qn)).setAt 4 (.string qS)).setAt 5 (.int .i64 qe))
 replace B0 := ((((((B0.setCell (p := ⟨w.heap.size + 1, 0, none⟩) q_w_F2.out (.bool pn)).setCell (p := ⟨w.heap.size + 1, 1, none⟩) q_w_F2.out (.string pS)).setCell (p := ⟨w.heap.size + 1, 2, none⟩) q_w_F2.out (.int .i64 pe)).setCell (p := ⟨w.heap.size + 1, 3, none⟩) q_w_F2.out (.bool qn)).setCell (p := ⟨w.heap.size + 1, 4, none⟩) q_w_F2.out (.string qS)).setCell (p := ⟨w.heap.size + 1, 5, none⟩) q_w_F2.out (.int .i64 qe))
 obtain ⟨xF23_0, xF23_1, xF23_2, xF23_3, xF23_4, xF23_5⟩ := F2.ce6
 go_wp2
 exact bodyPost_ret (v := .tuple #[.agg #[.bool pn, .string pS, .int .i64 pe, .bool qn, .string qS, .int .i64 qe], .int .i64 0]) (by simp [results, Tryz.results14, go_sem, xF23_0, xF23_1, xF23_2, xF23_3, xF23_4, xF23_5]) rfl ⟨rfl, B0⟩

set_option maxRecDepth 10000 in
set_option maxHeartbeats 4000000 in
theorem redges_1 (l : DY) (b : DY) (e : Int) (p : DY × Int) (q : DY × Int) (E_p : vM l 1 e = p) (E_q : vM b 1 e = q) (w : World) (ok_l : l.ok) (ok_b : b.ok) (e1 : -4096 ≤ e) (e2 : e ≤ 4096) (h_p : ¬ p.2 = 0) :
  Calls Tryz.prog 33 #[.agg #[.bool l.n, .string (bstr l.x), .int .i64 l.e, .bool b.n, .string (bstr b.x), .int .i64 b.e, .int .i64 e]] w fun r w' => r = .returned (.tuple #[.agg #[.bool p.1.n, .string (bstr p.1.x), .int .i64 p.1.e], .agg #[.bool q.1.n, .string (bstr q.1.x), .int .i64 q.1.e], .int .i64 4]) ∧ Below w.heap.size w w' := by
 have h1 := fun W => ron l 1 e W ok_l (by omega) (by omega) (by omega) (by omega)
 rw [E_p] at h1
 have h2 := fun W => ron b 1 e W ok_b (by omega) (by omega) (by omega) (by omega)
 rw [E_q] at h2
 clear E_p E_q ok_l ok_b
 obtain ⟨ln, lX, le⟩ := l
 obtain ⟨bn, bX, be⟩ := b
 obtain ⟨⟨pn, pX, pe⟩, pr⟩ := p
 obtain ⟨⟨qn, qX, qe⟩, qr⟩ := q
 dsimp only at *
 generalize bstr lX = lS at *
 generalize bstr bX = bS at *
 generalize bstr pX = pS at *
 generalize bstr qX = qS at *
 have hu : (pr != 0) = true := by simpa using h_p
 clear h_p
 go_enter Tryz.func33, Tryz.ntmps33
 have B0 := Below.refl w.heap.size w
 have F1 := Blk.put (w) #[.bool ln, .string lS, .int .i64 le, .bool bn, .string bS, .int .i64 be, .int .i64 e] 26
 replace B0 := B0.alloc B0.size (.cells #[.bool ln, .string lS, .int .i64 le, .bool bn, .string bS, .int .i64 be, .int .i64 e] 26)
 have q_w_F2 : Hid (w.heap.size ≤ w.heap.size + 1) := Lib.hid (by omega)
 replace F1 := F1.allocd (.cells #[.bool false, .string { data := #[] }, .int .i64 0] 24)
 have F2 := Blk.put ((w).alloc (.cells #[.bool ln, .string lS, .int .i64 le, .bool bn, .string bS, .int .i64 be, .int .i64 e] 26)) #[.bool false, .string { data := #[] }, .int .i64 0] 24
 rw [show ((w).alloc (.cells #[.bool ln, .string lS, .int .i64 le, .bool bn, .string bS, .int .i64 be, .int .i64 e] 26)).heap.size = w.heap.size + 1 by simp] at F2
 replace B0 := B0.alloc B0.size (.cells #[.bool false, .string { data := #[] }, .int .i64 0] 24)
 have q_F2_F3 := Lib.hid (show w.heap.size + 1 < w.heap.size + 1 + 1 by omega)
 have q_w_F3 : Hid (w.heap.size ≤ w.heap.size + 1 + 1) := Lib.hid (by omega)
 replace F1 := F1.allocd (.cells #[.bool false, .string { data := #[] }, .int .i64 0] 24)
 replace F2 := F2.allocd (.cells #[.bool false, .string { data := #[] }, .int .i64 0] 24)
 have F3 := Blk.put (((w).alloc (.cells #[.bool ln, .string lS, .int .i64 le, .bool bn, .string bS, .int .i64 be, .int .i64 e] 26)).alloc (.cells #[.bool false, .string { data := #[] }, .int .i64 0] 24)) #[.bool false, .string { data := #[] }, .int .i64 0] 24
 rw [show (((w).alloc (.cells #[.bool ln, .string lS, .int .i64 le, .bool bn, .string bS, .int .i64 be, .int .i64 e] 26)).alloc (.cells #[.bool false, .string { data := #[] }, .int .i64 0] 24)).heap.size = w.heap.size + 1 + 1 by simp] at F3
 replace B0 := B0.alloc B0.size (.cells #[.bool false, .string { data := #[] }, .int .i64 0] 24)
 obtain ⟨xF10_0, xF10_1, xF10_2, xF10_3, xF10_4, xF10_5, xF10_6⟩ := F1.ce7
 go_wp2_with fail
 (with_reducible refine (h1 _).mono ?_)
 rintro r w1 ⟨rfl, hb1⟩
 clear xF10_0 xF10_1 xF10_2 xF10_3 xF10_4 xF10_5 xF10_6
 replace F1 := F1.keep hb1
 replace F2 := F2.keep hb1
 replace F3 := F3.keep hb1
 replace B0 := B0.trans (hb1.mono B0.size)
 clear hb1
 have q_F2_F5 : Hid (w.heap.size + 1 < w1.heap.size) := Lib.hid (by have := F2.lt; first | exact this | omega | (simp; done) | simpa using this)
 have q_F3_F5 : Hid (w.heap.size + 1 + 1 < w1.heap.size) := Lib.hid (by have := F3.lt; first | exact this | omega | (simp; done) | simpa using this)
 replace F1 := F1.allocd (.cells #[.bool pn, .string pS, .int .i64 pe] 24)
 replace F2 := F2.allocd (.cells #[.bool pn, .string pS, .int .i64 pe] 24)
 replace F3 := F3.allocd (.cells #[.bool pn, .string pS, .int .i64 pe] 24)
 have F5 := Blk.put (w1) #[.bool pn, .string pS, .int .i64 pe] 24
 replace B0 := B0.alloc B0.size (.cells #[.bool pn, .string pS, .int .i64 pe] 24)
 obtain ⟨xF11_0, xF11_1, xF11_2, xF11_3, xF11_4, xF11_5, xF11_6⟩ := F1.ce7
 go_wp2_with fail
 (with_reducible refine (h2 _).mono ?_)
 rintro r w2 ⟨rfl, hb2⟩
 clear xF11_0 xF11_1 xF11_2 xF11_3 xF11_4 xF11_5 xF11_6
 replace F1 := F1.keep hb2
 replace F2 := F2.keep hb2
 replace F3 := F3.keep hb2
 replace F5 := F5.keep hb2
 replace B0 := B0.trans (hb2.mono B0.size)
 clear hb2
 have q_F2_F7 : Hid (w.heap.size + 1 < w2.heap.size) := Lib.hid (by have := F2.lt; first | exact this | omega | (simp; done) | simpa using this)
 have q_F3_F7 : Hid (w.heap.size + 1 + 1 < w2.heap.size) := Lib.hid (by have := F3.lt; first | exact this | omega | (simp; done) | simpa using this)
 clear F1
 replace F2 := F2.allocd (.cells #[.bool qn, .string qS, .int .i64 qe] 24)
 replace F3 := F3.allocd (.cells #[.bool qn, .string qS, .int .i64 qe] 24)
 replace F5 := F5.allocd (.cells #[.bool qn, .string qS, .int .i64 qe] 24)
 have F7 := Blk.put (w2) #[.bool qn, .string qS, .int .i64 qe] 24
 replace B0 := B0.alloc B0.size (.cells #[.bool qn, .string qS, .int .i64 qe] 24)
 go_wp2_with fail
 refine wp_region_any (by kernel_rfl) ?_
 obtain ⟨xF52_0, xF52_1, xF52_2⟩ := F5.ce3
 obtain ⟨xF72_0, xF72_1, xF72_2⟩ := F7.ce3
 have hHeld : (fun w' : World => w'.cell? ⟨w1.heap.size, 0, none⟩ = some (.bool pn) ∧ w'.cell? ⟨w1.heap.size, 1, none⟩ = some (.string pS) ∧ w'.cell? ⟨w1.heap.size, 2, none⟩ = some (.int .i64 pe) ∧ w'.cell? ⟨w2.heap.size, 0, none⟩ = some (.bool qn) ∧ w'.cell? ⟨w2.heap.size, 1, none⟩ = some (.string qS) ∧ w'.cell? ⟨w2.heap.size, 2, none⟩ = some (.int .i64 qe)) ((w2).alloc (.cells #[.bool qn, .string qS, .int .i64 qe] 24)).drew := ⟨xF52_0, xF52_1, xF52_2, xF72_0, xF72_1, xF72_2⟩
 refine wpAny_of_held (S := fun w' : World => w'.cell? ⟨w1.heap.size, 0, none⟩ = some (.bool pn) ∧ w'.cell? ⟨w1.heap.size, 1, none⟩ = some (.string pS) ∧ w'.cell? ⟨w1.heap.size, 2, none⟩ = some (.int .i64 pe) ∧ w'.cell? ⟨w2.heap.size, 0, none⟩ = some (.bool qn) ∧ w'.cell? ⟨w2.heap.size, 1, none⟩ = some (.string qS) ∧ w'.cell? ⟨w2.heap.size, 2, none⟩ = some (.int .i64 qe)) _ _ _ ((w2).alloc (.cells #[.bool qn, .string qS, .int .i64 qe] 24)).drew ?_
 replace F2 := F2.drew
 replace F3 := F3.drew
 replace F5 := F5.drew
 replace F7 := F7.drew
 replace B0 := B0.drew
 generalize ((w2).alloc (.cells #[.bool qn, .string qS, .int .i64 qe] 24)).drew = v1 at *
 refine tkA 0 ?_
 (try dsimp only [Act.put]); (try go_frame)
 refine tkA 1 ?_
 (try dsimp only [Act.put]); (try go_frame)
 obtain ⟨xF24_0, xF24_1, xF24_2⟩ := F2.ce3
 obtain ⟨xF24_0f, xF24_1f, xF24_2f⟩ := F2.fr3
 refine wpAnyH_ready (rs := [2]) (by kernel_rfl) (by simp) ?_
 refine AllReadyH.cons rfl (fun K hK => ?_) AllReadyH.nil
 go_simp
 replace F3 := (((F3.far 0 (.bool pn) (Nat.ne_of_gt q_F2_F3.out)).far 1 (.string pS) (Nat.ne_of_gt q_F2_F3.out)).far 2 (.int .i64 pe) (Nat.ne_of_gt q_F2_F3.out))
 replace F5 := (((F5.far 0 (.bool pn) (Nat.ne_of_gt q_F2_F5.out)).far 1 (.string pS) (Nat.ne_of_gt q_F2_F5.out)).far 2 (.int .i64 pe) (Nat.ne_of_gt q_F2_F5.out))
 replace F7 := (((F7.far 0 (.bool pn) (Nat.ne_of_gt q_F2_F7.out)).far 1 (.string pS) (Nat.ne_of_gt q_F2_F7.out)).far 2 (.int .i64 pe) (Nat.ne_of_gt q_F2_F7.out))
 replace F2 : Blk ((((v1).setCell ⟨w.heap.size + 1, 0, none⟩ (.bool pn)).setCell ⟨w.heap.size + 1, 1, none⟩ (.string pS)).setCell ⟨w.heap.size + 1, 2, none⟩ (.int .i64 pe)) (w.heap.size + 1) #[.bool pn, .string pS, .int .i64 pe] 24 := (((F2.setAt 0 (.bool pn)).setAt 1 (.string pS)).setAt 2 (.int .i64 pe))
 replace B0 := (((B0.setCell (p := ⟨w.heap.size + 1, 0, none⟩) q_w_F2.out (.bool pn)).setCell (p := ⟨w.heap.size + 1, 1, none⟩) q_w_F2.out (.string pS)).setCell (p := ⟨w.heap.size + 1, 2, none⟩) q_w_F2.out (.int .i64 pe))
 clear xF52_0 xF52_1 xF52_2 xF72_0 xF72_1 xF72_2 xF24_0 xF24_1 xF24_2 xF24_0f xF24_1f xF24_2f
 obtain ⟨xF55_0, xF55_1, xF55_2⟩ := F5.ce3
 obtain ⟨xF75_0, xF75_1, xF75_2⟩ := F7.ce3
 refine hK.out _ _ ?_ (fun hHeld => ?_)
 ·exact ⟨xF55_0, xF55_1, xF55_2, xF75_0, xF75_1, xF75_2⟩
 clear hK K
 (try dsimp only [Act.put]); (try go_frame)
 obtain ⟨xF35_0, xF35_1, xF35_2⟩ := F3.ce3
 obtain ⟨xF35_0f, xF35_1f, xF35_2f⟩ := F3.fr3
 refine wpAnyH_ready (rs := [3]) (by kernel_rfl) (by simp) ?_
 refine AllReadyH.cons rfl (fun K hK => ?_) AllReadyH.nil
 go_simp
 replace F2 := (((F2.far 0 (.bool qn) (Nat.ne_of_lt q_F2_F3.out)).far 1 (.string qS) (Nat.ne_of_lt q_F2_F3.out)).far 2 (.int .i64 qe) (Nat.ne_of_lt q_F2_F3.out))
 replace F5 := (((F5.far 0 (.bool qn) (Nat.ne_of_gt q_F3_F5.out)).far 1 (.string qS) (Nat.ne_of_gt q_F3_F5.out)).far 2 (.int .i64 qe) (Nat.ne_of_gt q_F3_F5.out))
 replace F7 := (((F7.far 0 (.bool qn) (Nat.ne_of_gt q_F3_F7.out)).far 1 (.string qS) (Nat.ne_of_gt q_F3_F7.out)).far 2 (.int .i64 qe) (Nat.ne_of_gt q_F3_F7.out))
 replace F3 : Blk (((((((v1).setCell ⟨w.heap.size + 1, 0, none⟩ (.bool pn)).setCell ⟨w.heap.size + 1, 1, none⟩ (.string pS)).setCell ⟨w.heap.size + 1, 2, none⟩ (.int .i64 pe)).setCell ⟨w.heap.size + 1 + 1, 0, none⟩ (.bool qn)).setCell ⟨w.heap.size + 1 + 1, 1, none⟩ (.string qS)).setCell ⟨w.heap.size + 1 + 1, 2, none⟩ (.int .i64 qe)) (w.heap.size + 1 + 1) #[.bool qn, .string qS, .int .i64 qe] 24 := (((F3.setAt 0 (.bool qn)).setAt 1 (.string qS)).setAt 2 (.int .i64 qe))
 replace B0 := (((B0.setCell (p := ⟨w.heap.size + 1 + 1, 0, none⟩) q_w_F3.out (.bool qn)).setCell (p := ⟨w.heap.size + 1 + 1, 1, none⟩) q_w_F3.out (.string qS)).setCell (p := ⟨w.heap.size + 1 + 1, 2, none⟩) q_w_F3.out (.int .i64 qe))
 clear xF55_0 xF55_1 xF55_2 xF75_0 xF75_1 xF75_2 xF35_0 xF35_1 xF35_2 xF35_0f xF35_1f xF35_2f
 obtain ⟨xF56_0, xF56_1, xF56_2⟩ := F5.ce3
 obtain ⟨xF76_0, xF76_1, xF76_2⟩ := F7.ce3
 refine hK.out _ _ ?_ (fun hHeld => ?_)
 ·exact ⟨xF56_0, xF56_1, xF56_2, xF76_0, xF76_1, xF76_2⟩
 clear hK K
 (try dsimp only [Act.put]); (try go_frame)
 refine tkA 4 ?_
 (try dsimp only [Act.put]); (try go_frame)
 refine wpAnyH_done (by kernel_rfl) ?_ _
 try simp only [QCut]
 clear hHeld
 clear xF56_0 xF56_1 xF56_2 xF76_0 xF76_1 xF76_2
 obtain ⟨xF26_0, xF26_1, xF26_2⟩ := F2.ce3
 obtain ⟨xF36_0, xF36_1, xF36_2⟩ := F3.ce3
 go_wp2
 exact bodyPost_ret (v := .tuple #[.agg #[.bool pn, .string pS, .int .i64 pe], .agg #[.bool qn, .string qS, .int .i64 qe], .int .i64 4]) (by simp [results, Tryz.results33, go_sem, xF26_0, xF26_1, xF26_2, xF36_0, xF36_1, xF36_2]) rfl ⟨rfl, B0⟩

set_option maxRecDepth 10000 in
set_option maxHeartbeats 4000000 in
theorem redges_2 (l : DY) (b : DY) (e : Int) (p : DY × Int) (q : DY × Int) (E_p : vM l 1 e = p) (E_q : vM b 1 e = q) (w : World) (ok_l : l.ok) (ok_b : b.ok) (e1 : -4096 ≤ e) (e2 : e ≤ 4096) (h_p : p.2 = 0) (h_q : ¬ q.2 = 0) :
  Calls Tryz.prog 33 #[.agg #[.bool l.n, .string (bstr l.x), .int .i64 l.e, .bool b.n, .string (bstr b.x), .int .i64 b.e, .int .i64 e]] w fun r w' => r = .returned (.tuple #[.agg #[.bool p.1.n, .string (bstr p.1.x), .int .i64 p.1.e], .agg #[.bool q.1.n, .string (bstr q.1.x), .int .i64 q.1.e], .int .i64 4]) ∧ Below w.heap.size w w' := by
 have h1 := fun W => ron l 1 e W ok_l (by omega) (by omega) (by omega) (by omega)
 rw [E_p] at h1
 have h2 := fun W => ron b 1 e W ok_b (by omega) (by omega) (by omega) (by omega)
 rw [E_q] at h2
 clear E_p E_q ok_l ok_b
 obtain ⟨ln, lX, le⟩ := l
 obtain ⟨bn, bX, be⟩ := b
 obtain ⟨⟨pn, pX, pe⟩, pr⟩ := p
 obtain ⟨⟨qn, qX, qe⟩, qr⟩ := q
 dsimp only at *
 generalize bstr lX = lS at *
 generalize bstr bX = bS at *
 generalize bstr pX = pS at *
 generalize bstr qX = qS at *
 have hu : (pr != 0) = false := by simp [h_p]
 have hv : (qr != 0) = true := by simpa using h_q
 clear h_p h_q
 go_enter Tryz.func33, Tryz.ntmps33
 have B0 := Below.refl w.heap.size w
 have F1 := Blk.put (w) #[.bool ln, .string lS, .int .i64 le, .bool bn, .string bS, .int .i64 be, .int .i64 e] 26
 replace B0 := B0.alloc B0.size (.cells #[.bool ln, .string lS, .int .i64 le, .bool bn, .string bS, .int .i64 be, .int .i64 e] 26)
 have q_w_F2 : Hid (w.heap.size ≤ w.heap.size + 1) := Lib.hid (by omega)
 replace F1 := F1.allocd (.cells #[.bool false, .string { data := #[] }, .int .i64 0] 24)
 have F2 := Blk.put ((w).alloc (.cells #[.bool ln, .string lS, .int .i64 le, .bool bn, .string bS, .int .i64 be, .int .i64 e] 26)) #[.bool false, .string { data := #[] }, .int .i64 0] 24
 rw [show ((w).alloc (.cells #[.bool ln, .string lS, .int .i64 le, .bool bn, .string bS, .int .i64 be, .int .i64 e] 26)).heap.size = w.heap.size + 1 by simp] at F2
 replace B0 := B0.alloc B0.size (.cells #[.bool false, .string { data := #[] }, .int .i64 0] 24)
 have q_F2_F3 := Lib.hid (show w.heap.size + 1 < w.heap.size + 1 + 1 by omega)
 have q_w_F3 : Hid (w.heap.size ≤ w.heap.size + 1 + 1) := Lib.hid (by omega)
 replace F1 := F1.allocd (.cells #[.bool false, .string { data := #[] }, .int .i64 0] 24)
 replace F2 := F2.allocd (.cells #[.bool false, .string { data := #[] }, .int .i64 0] 24)
 have F3 := Blk.put (((w).alloc (.cells #[.bool ln, .string lS, .int .i64 le, .bool bn, .string bS, .int .i64 be, .int .i64 e] 26)).alloc (.cells #[.bool false, .string { data := #[] }, .int .i64 0] 24)) #[.bool false, .string { data := #[] }, .int .i64 0] 24
 rw [show (((w).alloc (.cells #[.bool ln, .string lS, .int .i64 le, .bool bn, .string bS, .int .i64 be, .int .i64 e] 26)).alloc (.cells #[.bool false, .string { data := #[] }, .int .i64 0] 24)).heap.size = w.heap.size + 1 + 1 by simp] at F3
 replace B0 := B0.alloc B0.size (.cells #[.bool false, .string { data := #[] }, .int .i64 0] 24)
 obtain ⟨xF10_0, xF10_1, xF10_2, xF10_3, xF10_4, xF10_5, xF10_6⟩ := F1.ce7
 go_wp2_with fail
 (with_reducible refine (h1 _).mono ?_)
 rintro r w1 ⟨rfl, hb1⟩
 clear xF10_0 xF10_1 xF10_2 xF10_3 xF10_4 xF10_5 xF10_6
 replace F1 := F1.keep hb1
 replace F2 := F2.keep hb1
 replace F3 := F3.keep hb1
 replace B0 := B0.trans (hb1.mono B0.size)
 clear hb1
 have q_F2_F5 : Hid (w.heap.size + 1 < w1.heap.size) := Lib.hid (by have := F2.lt; first | exact this | omega | (simp; done) | simpa using this)
 have q_F3_F5 : Hid (w.heap.size + 1 + 1 < w1.heap.size) := Lib.hid (by have := F3.lt; first | exact this | omega | (simp; done) | simpa using this)
 replace F1 := F1.allocd (.cells #[.bool pn, .string pS, .int .i64 pe] 24)
 replace F2 := F2.allocd (.cells #[.bool pn, .string pS, .int .i64 pe] 24)
 replace F3 := F3.allocd (.cells #[.bool pn, .string pS, .int .i64 pe] 24)
 have F5 := Blk.put (w1) #[.bool pn, .string pS, .int .i64 pe] 24
 replace B0 := B0.alloc B0.size (.cells #[.bool pn, .string pS, .int .i64 pe] 24)
 obtain ⟨xF11_0, xF11_1, xF11_2, xF11_3, xF11_4, xF11_5, xF11_6⟩ := F1.ce7
 go_wp2_with fail
 (with_reducible refine (h2 _).mono ?_)
 rintro r w2 ⟨rfl, hb2⟩
 clear xF11_0 xF11_1 xF11_2 xF11_3 xF11_4 xF11_5 xF11_6
 replace F1 := F1.keep hb2
 replace F2 := F2.keep hb2
 replace F3 := F3.keep hb2
 replace F5 := F5.keep hb2
 replace B0 := B0.trans (hb2.mono B0.size)
 clear hb2
 have q_F2_F7 : Hid (w.heap.size + 1 < w2.heap.size) := Lib.hid (by have := F2.lt; first | exact this | omega | (simp; done) | simpa using this)
 have q_F3_F7 : Hid (w.heap.size + 1 + 1 < w2.heap.size) := Lib.hid (by have := F3.lt; first | exact this | omega | (simp; done) | simpa using this)
 clear F1
 replace F2 := F2.allocd (.cells #[.bool qn, .string qS, .int .i64 qe] 24)
 replace F3 := F3.allocd (.cells #[.bool qn, .string qS, .int .i64 qe] 24)
 replace F5 := F5.allocd (.cells #[.bool qn, .string qS, .int .i64 qe] 24)
 have F7 := Blk.put (w2) #[.bool qn, .string qS, .int .i64 qe] 24
 replace B0 := B0.alloc B0.size (.cells #[.bool qn, .string qS, .int .i64 qe] 24)
 go_wp2_with fail
 refine wp_region_any (by kernel_rfl) ?_
 obtain ⟨xF52_0, xF52_1, xF52_2⟩ := F5.ce3
 obtain ⟨xF72_0, xF72_1, xF72_2⟩ := F7.ce3
 have hHeld : (fun w' : World => w'.cell? ⟨w1.heap.size, 0, none⟩ = some (.bool pn) ∧ w'.cell? ⟨w1.heap.size, 1, none⟩ = some (.string pS) ∧ w'.cell? ⟨w1.heap.size, 2, none⟩ = some (.int .i64 pe) ∧ w'.cell? ⟨w2.heap.size, 0, none⟩ = some (.bool qn) ∧ w'.cell? ⟨w2.heap.size, 1, none⟩ = some (.string qS) ∧ w'.cell? ⟨w2.heap.size, 2, none⟩ = some (.int .i64 qe)) ((w2).alloc (.cells #[.bool qn, .string qS, .int .i64 qe] 24)).drew := ⟨xF52_0, xF52_1, xF52_2, xF72_0, xF72_1, xF72_2⟩
 refine wpAny_of_held (S := fun w' : World => w'.cell? ⟨w1.heap.size, 0, none⟩ = some (.bool pn) ∧ w'.cell? ⟨w1.heap.size, 1, none⟩ = some (.string pS) ∧ w'.cell? ⟨w1.heap.size, 2, none⟩ = some (.int .i64 pe) ∧ w'.cell? ⟨w2.heap.size, 0, none⟩ = some (.bool qn) ∧ w'.cell? ⟨w2.heap.size, 1, none⟩ = some (.string qS) ∧ w'.cell? ⟨w2.heap.size, 2, none⟩ = some (.int .i64 qe)) _ _ _ ((w2).alloc (.cells #[.bool qn, .string qS, .int .i64 qe] 24)).drew ?_
 replace F2 := F2.drew
 replace F3 := F3.drew
 replace F5 := F5.drew
 replace F7 := F7.drew
 replace B0 := B0.drew
 generalize ((w2).alloc (.cells #[.bool qn, .string qS, .int .i64 qe] 24)).drew = v1 at *
 refine tkA 0 ?_
 (try dsimp only [Act.put]); (try go_frame)
 refine tkA 1 ?_
 (try dsimp only [Act.put]); (try go_frame)
 obtain ⟨xF24_0, xF24_1, xF24_2⟩ := F2.ce3
 obtain ⟨xF24_0f, xF24_1f, xF24_2f⟩ := F2.fr3
 refine wpAnyH_ready (rs := [2]) (by kernel_rfl) (by simp) ?_
 refine AllReadyH.cons rfl (fun K hK => ?_) AllReadyH.nil
 go_simp
 replace F3 := (((F3.far 0 (.bool pn) (Nat.ne_of_gt q_F2_F3.out)).far 1 (.string pS) (Nat.ne_of_gt q_F2_F3.out)).far 2 (.int .i64 pe) (Nat.ne_of_gt q_F2_F3.out))
 replace F5 := (((F5.far 0 (.bool pn) (Nat.ne_of_gt q_F2_F5.out)).far 1 (.string pS) (Nat.ne_of_gt q_F2_F5.out)).far 2 (.int .i64 pe) (Nat.ne_of_gt q_F2_F5.out))
 replace F7 := (((F7.far 0 (.bool pn) (Nat.ne_of_gt q_F2_F7.out)).far 1 (.string pS) (Nat.ne_of_gt q_F2_F7.out)).far 2 (.int .i64 pe) (Nat.ne_of_gt q_F2_F7.out))
 replace F2 : Blk ((((v1).setCell ⟨w.heap.size + 1, 0, none⟩ (.bool pn)).setCell ⟨w.heap.size + 1, 1, none⟩ (.string pS)).setCell ⟨w.heap.size + 1, 2, none⟩ (.int .i64 pe)) (w.heap.size + 1) #[.bool pn, .string pS, .int .i64 pe] 24 := (((F2.setAt 0 (.bool pn)).setAt 1 (.string pS)).setAt 2 (.int .i64 pe))
 replace B0 := (((B0.setCell (p := ⟨w.heap.size + 1, 0, none⟩) q_w_F2.out (.bool pn)).setCell (p := ⟨w.heap.size + 1, 1, none⟩) q_w_F2.out (.string pS)).setCell (p := ⟨w.heap.size + 1, 2, none⟩) q_w_F2.out (.int .i64 pe))
 clear xF52_0 xF52_1 xF52_2 xF72_0 xF72_1 xF72_2 xF24_0 xF24_1 xF24_2 xF24_0f xF24_1f xF24_2f
 obtain ⟨xF55_0, xF55_1, xF55_2⟩ := F5.ce3
 obtain ⟨xF75_0, xF75_1, xF75_2⟩ := F7.ce3
 refine hK.out _ _ ?_ (fun hHeld => ?_)
 ·exact ⟨xF55_0, xF55_1, xF55_2, xF75_0, xF75_1, xF75_2⟩
 clear hK K
 (try dsimp only [Act.put]); (try go_frame)
 obtain ⟨xF35_0, xF35_1, xF35_2⟩ := F3.ce3
 obtain ⟨xF35_0f, xF35_1f, xF35_2f⟩ := F3.fr3
 refine wpAnyH_ready (rs := [3]) (by kernel_rfl) (by simp) ?_
 refine AllReadyH.cons rfl (fun K hK => ?_) AllReadyH.nil
 go_simp
 replace F2 := (((F2.far 0 (.bool qn) (Nat.ne_of_lt q_F2_F3.out)).far 1 (.string qS) (Nat.ne_of_lt q_F2_F3.out)).far 2 (.int .i64 qe) (Nat.ne_of_lt q_F2_F3.out))
 replace F5 := (((F5.far 0 (.bool qn) (Nat.ne_of_gt q_F3_F5.out)).far 1 (.string qS) (Nat.ne_of_gt q_F3_F5.out)).far 2 (.int .i64 qe) (Nat.ne_of_gt q_F3_F5.out))
 replace F7 := (((F7.far 0 (.bool qn) (Nat.ne_of_gt q_F3_F7.out)).far 1 (.string qS) (Nat.ne_of_gt q_F3_F7.out)).far 2 (.int .i64 qe) (Nat.ne_of_gt q_F3_F7.out))
 replace F3 : Blk (((((((v1).setCell ⟨w.heap.size + 1, 0, none⟩ (.bool pn)).setCell ⟨w.heap.size + 1, 1, none⟩ (.string pS)).setCell ⟨w.heap.size + 1, 2, none⟩ (.int .i64 pe)).setCell ⟨w.heap.size + 1 + 1, 0, none⟩ (.bool qn)).setCell ⟨w.heap.size + 1 + 1, 1, none⟩ (.string qS)).setCell ⟨w.heap.size + 1 + 1, 2, none⟩ (.int .i64 qe)) (w.heap.size + 1 + 1) #[.bool qn, .string qS, .int .i64 qe] 24 := (((F3.setAt 0 (.bool qn)).setAt 1 (.string qS)).setAt 2 (.int .i64 qe))
 replace B0 := (((B0.setCell (p := ⟨w.heap.size + 1 + 1, 0, none⟩) q_w_F3.out (.bool qn)).setCell (p := ⟨w.heap.size + 1 + 1, 1, none⟩) q_w_F3.out (.string qS)).setCell (p := ⟨w.heap.size + 1 + 1, 2, none⟩) q_w_F3.out (.int .i64 qe))
 clear xF55_0 xF55_1 xF55_2 xF75_0 xF75_1 xF75_2 xF35_0 xF35_1 xF35_2 xF35_0f xF35_1f xF35_2f
 obtain ⟨xF56_0, xF56_1, xF56_2⟩ := F5.ce3
 obtain ⟨xF76_0, xF76_1, xF76_2⟩ := F7.ce3
 refine hK.out _ _ ?_ (fun hHeld => ?_)
 ·exact ⟨xF56_0, xF56_1, xF56_2, xF76_0, xF76_1, xF76_2⟩
 clear hK K
 (try dsimp only [Act.put]); (try go_frame)
 refine tkA 4 ?_
 (try dsimp only [Act.put]); (try go_frame)
 refine wpAnyH_done (by kernel_rfl) ?_ _
 try simp only [QCut]
 clear hHeld
 clear xF56_0 xF56_1 xF56_2 xF76_0 xF76_1 xF76_2
 obtain ⟨xF26_0, xF26_1, xF26_2⟩ := F2.ce3
 obtain ⟨xF36_0, xF36_1, xF36_2⟩ := F3.ce3
 go_wp2
 exact bodyPost_ret (v := .tuple #[.agg #[.bool pn, .string pS, .int .i64 pe], .agg #[.bool qn, .string qS, .int .i64 qe], .int .i64 4]) (by simp [results, Tryz.results33, go_sem, xF26_0, xF26_1, xF26_2, xF36_0, xF36_1, xF36_2]) rfl ⟨rfl, B0⟩

set_option maxRecDepth 10000 in
set_option maxHeartbeats 4000000 in
theorem redges_3 (l : DY) (b : DY) (e : Int) (p : DY × Int) (q : DY × Int) (E_p : vM l 1 e = p) (E_q : vM b 1 e = q) (w : World) (ok_l : l.ok) (ok_b : b.ok) (e1 : -4096 ≤ e) (e2 : e ≤ 4096) (h_p : p.2 = 0) (h_q : q.2 = 0) :
  Calls Tryz.prog 33 #[.agg #[.bool l.n, .string (bstr l.x), .int .i64 l.e, .bool b.n, .string (bstr b.x), .int .i64 b.e, .int .i64 e]] w fun r w' => r = .returned (.tuple #[.agg #[.bool p.1.n, .string (bstr p.1.x), .int .i64 p.1.e], .agg #[.bool q.1.n, .string (bstr q.1.x), .int .i64 q.1.e], .int .i64 0]) ∧ Below w.heap.size w w' := by
 have h1 := fun W => ron l 1 e W ok_l (by omega) (by omega) (by omega) (by omega)
 rw [E_p] at h1
 have h2 := fun W => ron b 1 e W ok_b (by omega) (by omega) (by omega) (by omega)
 rw [E_q] at h2
 clear E_p E_q ok_l ok_b
 obtain ⟨ln, lX, le⟩ := l
 obtain ⟨bn, bX, be⟩ := b
 obtain ⟨⟨pn, pX, pe⟩, pr⟩ := p
 obtain ⟨⟨qn, qX, qe⟩, qr⟩ := q
 dsimp only at *
 generalize bstr lX = lS at *
 generalize bstr bX = bS at *
 generalize bstr pX = pS at *
 generalize bstr qX = qS at *
 have hu : (pr != 0) = false := by simp [h_p]
 have hv : (qr != 0) = false := by simp [h_q]
 clear h_p h_q
 go_enter Tryz.func33, Tryz.ntmps33
 have B0 := Below.refl w.heap.size w
 have F1 := Blk.put (w) #[.bool ln, .string lS, .int .i64 le, .bool bn, .string bS, .int .i64 be, .int .i64 e] 26
 replace B0 := B0.alloc B0.size (.cells #[.bool ln, .string lS, .int .i64 le, .bool bn, .string bS, .int .i64 be, .int .i64 e] 26)
 have q_w_F2 : Hid (w.heap.size ≤ w.heap.size + 1) := Lib.hid (by omega)
 replace F1 := F1.allocd (.cells #[.bool false, .string { data := #[] }, .int .i64 0] 24)
 have F2 := Blk.put ((w).alloc (.cells #[.bool ln, .string lS, .int .i64 le, .bool bn, .string bS, .int .i64 be, .int .i64 e] 26)) #[.bool false, .string { data := #[] }, .int .i64 0] 24
 rw [show ((w).alloc (.cells #[.bool ln, .string lS, .int .i64 le, .bool bn, .string bS, .int .i64 be, .int .i64 e] 26)).heap.size = w.heap.size + 1 by simp] at F2
 replace B0 := B0.alloc B0.size (.cells #[.bool false, .string { data := #[] }, .int .i64 0] 24)
 have q_F2_F3 := Lib.hid (show w.heap.size + 1 < w.heap.size + 1 + 1 by omega)
 have q_w_F3 : Hid (w.heap.size ≤ w.heap.size + 1 + 1) := Lib.hid (by omega)
 replace F1 := F1.allocd (.cells #[.bool false, .string { data := #[] }, .int .i64 0] 24)
 replace F2 := F2.allocd (.cells #[.bool false, .string { data := #[] }, .int .i64 0] 24)
 have F3 := Blk.put (((w).alloc (.cells #[.bool ln, .string lS, .int .i64 le, .bool bn, .string bS, .int .i64 be, .int .i64 e] 26)).alloc (.cells #[.bool false, .string { data := #[] }, .int .i64 0] 24)) #[.bool false, .string { data := #[] }, .int .i64 0] 24
 rw [show (((w).alloc (.cells #[.bool ln, .string lS, .int .i64 le, .bool bn, .string bS, .int .i64 be, .int .i64 e] 26)).alloc (.cells #[.bool false, .string { data := #[] }, .int .i64 0] 24)).heap.size = w.heap.size + 1 + 1 by simp] at F3
 replace B0 := B0.alloc B0.size (.cells #[.bool false, .string { data := #[] }, .int .i64 0] 24)
 obtain ⟨xF10_0, xF10_1, xF10_2, xF10_3, xF10_4, xF10_5, xF10_6⟩ := F1.ce7
 go_wp2_with fail
 (with_reducible refine (h1 _).mono ?_)
 rintro r w1 ⟨rfl, hb1⟩
 clear xF10_0 xF10_1 xF10_2 xF10_3 xF10_4 xF10_5 xF10_6
 replace F1 := F1.keep hb1
 replace F2 := F2.keep hb1
 replace F3 := F3.keep hb1
 replace B0 := B0.trans (hb1.mono B0.size)
 clear hb1
 have q_F2_F5 : Hid (w.heap.size + 1 < w1.heap.size) := Lib.hid (by have := F2.lt; first | exact this | omega | (simp; done) | simpa using this)
 have q_F3_F5 : Hid (w.heap.size + 1 + 1 < w1.heap.size) := Lib.hid (by have := F3.lt; first | exact this | omega | (simp; done) | simpa using this)
 replace F1 := F1.allocd (.cells #[.bool pn, .string pS, .int .i64 pe] 24)
 replace F2 := F2.allocd (.cells #[.bool pn, .string pS, .int .i64 pe] 24)
 replace F3 := F3.allocd (.cells #[.bool pn, .string pS, .int .i64 pe] 24)
 have F5 := Blk.put (w1) #[.bool pn, .string pS, .int .i64 pe] 24
 replace B0 := B0.alloc B0.size (.cells #[.bool pn, .string pS, .int .i64 pe] 24)
 obtain ⟨xF11_0, xF11_1, xF11_2, xF11_3, xF11_4, xF11_5, xF11_6⟩ := F1.ce7
 go_wp2_with fail
 (with_reducible refine (h2 _).mono ?_)
 rintro r w2 ⟨rfl, hb2⟩
 clear xF11_0 xF11_1 xF11_2 xF11_3 xF11_4 xF11_5 xF11_6
 replace F1 := F1.keep hb2
 replace F2 := F2.keep hb2
 replace F3 := F3.keep hb2
 replace F5 := F5.keep hb2
 replace B0 := B0.trans (hb2.mono B0.size)
 clear hb2
 have q_F2_F7 : Hid (w.heap.size + 1 < w2.heap.size) := Lib.hid (by have := F2.lt; first | exact this | omega | (simp; done) | simpa using this)
 have q_F3_F7 : Hid (w.heap.size + 1 + 1 < w2.heap.size) := Lib.hid (by have := F3.lt; first | exact this | omega | (simp; done) | simpa using this)
 clear F1
 replace F2 := F2.allocd (.cells #[.bool qn, .string qS, .int .i64 qe] 24)
 replace F3 := F3.allocd (.cells #[.bool qn, .string qS, .int .i64 qe] 24)
 replace F5 := F5.allocd (.cells #[.bool qn, .string qS, .int .i64 qe] 24)
 have F7 := Blk.put (w2) #[.bool qn, .string qS, .int .i64 qe] 24
 replace B0 := B0.alloc B0.size (.cells #[.bool qn, .string qS, .int .i64 qe] 24)
 go_wp2_with fail
 refine wp_region_any (by kernel_rfl) ?_
 obtain ⟨xF52_0, xF52_1, xF52_2⟩ := F5.ce3
 obtain ⟨xF72_0, xF72_1, xF72_2⟩ := F7.ce3
 have hHeld : (fun w' : World => w'.cell? ⟨w1.heap.size, 0, none⟩ = some (.bool pn) ∧ w'.cell? ⟨w1.heap.size, 1, none⟩ = some (.string pS) ∧ w'.cell? ⟨w1.heap.size, 2, none⟩ = some (.int .i64 pe) ∧ w'.cell? ⟨w2.heap.size, 0, none⟩ = some (.bool qn) ∧ w'.cell? ⟨w2.heap.size, 1, none⟩ = some (.string qS) ∧ w'.cell? ⟨w2.heap.size, 2, none⟩ = some (.int .i64 qe)) ((w2).alloc (.cells #[.bool qn, .string qS, .int .i64 qe] 24)).drew := ⟨xF52_0, xF52_1, xF52_2, xF72_0, xF72_1, xF72_2⟩
 refine wpAny_of_held (S := fun w' : World => w'.cell? ⟨w1.heap.size, 0, none⟩ = some (.bool pn) ∧ w'.cell? ⟨w1.heap.size, 1, none⟩ = some (.string pS) ∧ w'.cell? ⟨w1.heap.size, 2, none⟩ = some (.int .i64 pe) ∧ w'.cell? ⟨w2.heap.size, 0, none⟩ = some (.bool qn) ∧ w'.cell? ⟨w2.heap.size, 1, none⟩ = some (.string qS) ∧ w'.cell? ⟨w2.heap.size, 2, none⟩ = some (.int .i64 qe)) _ _ _ ((w2).alloc (.cells #[.bool qn, .string qS, .int .i64 qe] 24)).drew ?_
 replace F2 := F2.drew
 replace F3 := F3.drew
 replace F5 := F5.drew
 replace F7 := F7.drew
 replace B0 := B0.drew
 generalize ((w2).alloc (.cells #[.bool qn, .string qS, .int .i64 qe] 24)).drew = v1 at *
 refine tkA 0 ?_
 (try dsimp only [Act.put]); (try go_frame)
 refine tkA 1 ?_
 (try dsimp only [Act.put]); (try go_frame)
 obtain ⟨xF24_0, xF24_1, xF24_2⟩ := F2.ce3
 obtain ⟨xF24_0f, xF24_1f, xF24_2f⟩ := F2.fr3
 refine wpAnyH_ready (rs := [2]) (by kernel_rfl) (by simp) ?_
 refine AllReadyH.cons rfl (fun K hK => ?_) AllReadyH.nil
 go_simp
 replace F3 := (((F3.far 0 (.bool pn) (Nat.ne_of_gt q_F2_F3.out)).far 1 (.string pS) (Nat.ne_of_gt q_F2_F3.out)).far 2 (.int .i64 pe) (Nat.ne_of_gt q_F2_F3.out))
 replace F5 := (((F5.far 0 (.bool pn) (Nat.ne_of_gt q_F2_F5.out)).far 1 (.string pS) (Nat.ne_of_gt q_F2_F5.out)).far 2 (.int .i64 pe) (Nat.ne_of_gt q_F2_F5.out))
 replace F7 := (((F7.far 0 (.bool pn) (Nat.ne_of_gt q_F2_F7.out)).far 1 (.string pS) (Nat.ne_of_gt q_F2_F7.out)).far 2 (.int .i64 pe) (Nat.ne_of_gt q_F2_F7.out))
 replace F2 : Blk ((((v1).setCell ⟨w.heap.size + 1, 0, none⟩ (.bool pn)).setCell ⟨w.heap.size + 1, 1, none⟩ (.string pS)).setCell ⟨w.heap.size + 1, 2, none⟩ (.int .i64 pe)) (w.heap.size + 1) #[.bool pn, .string pS, .int .i64 pe] 24 := (((F2.setAt 0 (.bool pn)).setAt 1 (.string pS)).setAt 2 (.int .i64 pe))
 replace B0 := (((B0.setCell (p := ⟨w.heap.size + 1, 0, none⟩) q_w_F2.out (.bool pn)).setCell (p := ⟨w.heap.size + 1, 1, none⟩) q_w_F2.out (.string pS)).setCell (p := ⟨w.heap.size + 1, 2, none⟩) q_w_F2.out (.int .i64 pe))
 clear xF52_0 xF52_1 xF52_2 xF72_0 xF72_1 xF72_2 xF24_0 xF24_1 xF24_2 xF24_0f xF24_1f xF24_2f
 obtain ⟨xF55_0, xF55_1, xF55_2⟩ := F5.ce3
 obtain ⟨xF75_0, xF75_1, xF75_2⟩ := F7.ce3
 refine hK.out _ _ ?_ (fun hHeld => ?_)
 ·exact ⟨xF55_0, xF55_1, xF55_2, xF75_0, xF75_1, xF75_2⟩
 clear hK K
 (try dsimp only [Act.put]); (try go_frame)
 obtain ⟨xF35_0, xF35_1, xF35_2⟩ := F3.ce3
 obtain ⟨xF35_0f, xF35_1f, xF35_2f⟩ := F3.fr3
 refine wpAnyH_ready (rs := [3]) (by kernel_rfl) (by simp) ?_
 refine AllReadyH.cons rfl (fun K hK => ?_) AllReadyH.nil
 go_simp
 replace F2 := (((F2.far 0 (.bool qn) (Nat.ne_of_lt q_F2_F3.out)).far 1 (.string qS) (Nat.ne_of_lt q_F2_F3.out)).far 2 (.int .i64 qe) (Nat.ne_of_lt q_F2_F3.out))
 replace F5 := (((F5.far 0 (.bool qn) (Nat.ne_of_gt q_F3_F5.out)).far 1 (.string qS) (Nat.ne_of_gt q_F3_F5.out)).far 2 (.int .i64 qe) (Nat.ne_of_gt q_F3_F5.out))
 replace F7 := (((F7.far 0 (.bool qn) (Nat.ne_of_gt q_F3_F7.out)).far 1 (.string qS) (Nat.ne_of_gt q_F3_F7.out)).far 2 (.int .i64 qe) (Nat.ne_of_gt q_F3_F7.out))
 replace F3 : Blk (((((((v1).setCell ⟨w.heap.size + 1, 0, none⟩ (.bool pn)).setCell ⟨w.heap.size + 1, 1, none⟩ (.string pS)).setCell ⟨w.heap.size + 1, 2, none⟩ (.int .i64 pe)).setCell ⟨w.heap.size + 1 + 1, 0, none⟩ (.bool qn)).setCell ⟨w.heap.size + 1 + 1, 1, none⟩ (.string qS)).setCell ⟨w.heap.size + 1 + 1, 2, none⟩ (.int .i64 qe)) (w.heap.size + 1 + 1) #[.bool qn, .string qS, .int .i64 qe] 24 := (((F3.setAt 0 (.bool qn)).setAt 1 (.string qS)).setAt 2 (.int .i64 qe))
 replace B0 := (((B0.setCell (p := ⟨w.heap.size + 1 + 1, 0, none⟩) q_w_F3.out (.bool qn)).setCell (p := ⟨w.heap.size + 1 + 1, 1, none⟩) q_w_F3.out (.string qS)).setCell (p := ⟨w.heap.size + 1 + 1, 2, none⟩) q_w_F3.out (.int .i64 qe))
 clear xF55_0 xF55_1 xF55_2 xF75_0 xF75_1 xF75_2 xF35_0 xF35_1 xF35_2 xF35_0f xF35_1f xF35_2f
 obtain ⟨xF56_0, xF56_1, xF56_2⟩ := F5.ce3
 obtain ⟨xF76_0, xF76_1, xF76_2⟩ := F7.ce3
 refine hK.out _ _ ?_ (fun hHeld => ?_)
 ·exact ⟨xF56_0, xF56_1, xF56_2, xF76_0, xF76_1, xF76_2⟩
 clear hK K
 (try dsimp only [Act.put]); (try go_frame)
 refine tkA 4 ?_
 (try dsimp only [Act.put]); (try go_frame)
 refine wpAnyH_done (by kernel_rfl) ?_ _
 try simp only [QCut]
 clear hHeld
 clear xF56_0 xF56_1 xF56_2 xF76_0 xF76_1 xF76_2
 obtain ⟨xF26_0, xF26_1, xF26_2⟩ := F2.ce3
 obtain ⟨xF36_0, xF36_1, xF36_2⟩ := F3.ce3
 go_wp2
 exact bodyPost_ret (v := .tuple #[.agg #[.bool pn, .string pS, .int .i64 pe], .agg #[.bool qn, .string qS, .int .i64 qe], .int .i64 0]) (by simp [results, Tryz.results33, go_sem, xF26_0, xF26_1, xF26_2, xF36_0, xF36_1, xF36_2]) rfl ⟨rfl, B0⟩

end Go.Proofs.YtfbkopepkklkjaaGreatDoor
