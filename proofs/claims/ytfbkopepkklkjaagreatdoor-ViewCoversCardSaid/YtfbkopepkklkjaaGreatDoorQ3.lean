/- Walks of the layer of Gausses, by a program (walk.py): part Q3. -/
import Derived.Test.YtfbkopepkklkjaaGreatDoorQ2
namespace Go.Proofs.YtfbkopepkklkjaaGreatDoor
open Go Go.RowKit Go.PlainAid Fil

set_option maxRecDepth 10000 in
set_option maxHeartbeats 4000000 in
theorem vat_1 (l : DY) (b : DY) (e : Int) (r : Int) (u : Int) (p : DY × Int) (E_p : vM l r (e - 1) = p) (w : World) (ok_l : l.ok) (e1 : -4096 ≤ e) (e2 : e ≤ 4096) (r1 : 0 ≤ r) (r2 : r ≤ 2) (h_p : ¬ p.2 = 0) (hT : Tab w) :
  Calls Tryz.prog 22 #[.agg #[.bool l.n, .string (bstr l.x), .int .i64 l.e, .bool b.n, .string (bstr b.x), .int .i64 b.e, .int .i64 e], .int .i64 r, .int .i64 u] w fun r w' => r = .returned (.tuple #[.agg #[.bool false, .string { data := #[] }, .int .i64 0, .bool false, .string { data := #[] }, .int .i64 0], .int .i64 p.2]) ∧ Below w.heap.size w w' := by
 have h1 := fun W hW => vmoved l r (e - 1) W ok_l (by omega) (by omega) (by omega) (by omega) hW
 rw [E_p] at h1
 clear E_p ok_l
 obtain ⟨ln, lX, le⟩ := l
 obtain ⟨bn, bX, be⟩ := b
 obtain ⟨⟨pn, pX, pe⟩, pr⟩ := p
 dsimp only at *
 generalize bstr lX = lS at *
 generalize bstr bX = bS at *
 generalize bstr pX = pS at *
 have hu : (pr != 0) = true := by simpa using h_p
 clear h_p
 go_enter Tryz.func22, Tryz.ntmps22
 have B0 := Below.refl w.heap.size w
 have F3 := Blk.put (w) #[.bool ln, .string lS, .int .i64 le, .bool bn, .string bS, .int .i64 be, .int .i64 e] 26
 replace B0 := B0.alloc B0.size (.cells #[.bool ln, .string lS, .int .i64 le, .bool bn, .string bS, .int .i64 be, .int .i64 e] 26)
 have q_w_F6 : Hid (w.heap.size ≤ w.heap.size + 1) := Lib.hid (by omega)
 replace F3 := F3.allocd (.cells #[.bool false, .string { data := #[] }, .int .i64 0, .bool false, .string { data := #[] }, .int .i64 0] 28)
 have F6 := Blk.put ((w).alloc (.cells #[.bool ln, .string lS, .int .i64 le, .bool bn, .string bS, .int .i64 be, .int .i64 e] 26)) #[.bool false, .string { data := #[] }, .int .i64 0, .bool false, .string { data := #[] }, .int .i64 0] 28
 rw [show ((w).alloc (.cells #[.bool ln, .string lS, .int .i64 le, .bool bn, .string bS, .int .i64 be, .int .i64 e] 26)).heap.size = w.heap.size + 1 by simp] at F6
 replace B0 := B0.alloc B0.size (.cells #[.bool false, .string { data := #[] }, .int .i64 0, .bool false, .string { data := #[] }, .int .i64 0] 28)
 obtain ⟨xF30_0, xF30_1, xF30_2, xF30_3, xF30_4, xF30_5, xF30_6⟩ := F3.ce7
 go_wp2_with fail
 (with_reducible refine (h1 _ (hT.below B0)).mono ?_)
 rintro r w1 ⟨rfl, hb1⟩
 clear xF30_0 xF30_1 xF30_2 xF30_3 xF30_4 xF30_5 xF30_6
 replace F3 := F3.keep hb1
 replace F6 := F6.keep hb1
 replace B0 := B0.trans (hb1.mono B0.size)
 clear hb1
 clear F3
 replace F6 := F6.allocd (.cells #[.bool pn, .string pS, .int .i64 pe] 24)
 replace B0 := B0.alloc B0.size (.cells #[.bool pn, .string pS, .int .i64 pe] 24)
 obtain ⟨xF61_0, xF61_1, xF61_2, xF61_3, xF61_4, xF61_5⟩ := F6.ce6
 obtain ⟨xF61_0f, xF61_1f, xF61_2f, xF61_3f, xF61_4f, xF61_5f⟩ := F6.fr6
 replace F6 : Blk ((((((((w1).alloc (.cells #[.bool pn, .string pS, .int .i64 pe] 24)).setCell ⟨w.heap.size + 1, 0, none⟩ (.bool false)).setCell ⟨w.heap.size + 1, 1, none⟩ (.string { data := #[] })).setCell ⟨w.heap.size + 1, 2, none⟩ (.int .i64 0)).setCell ⟨w.heap.size + 1, 3, none⟩ (.bool false)).setCell ⟨w.heap.size + 1, 4, none⟩ (.string { data := #[] })).setCell ⟨w.heap.size + 1, 5, none⟩ (.int .i64 0)) (w.heap.size + 1) #[.bool false, .string { data := #[] }, .int .i64 0, .bool false, .string { data := #[] }, .int .i64 0] 28 := ((((((F6.setAt 0 (.bool false)).setAt 1 (.string { data := #[] })).setAt 2 (.int .i64 0)).setAt 3 (.bool false)).setAt 4 (.string { data := #[] })).setAt 5 (.int .i64 0))
 replace B0 := ((((((B0.setCell (p := ⟨w.heap.size + 1, 0, none⟩) q_w_F6.out (.bool false)).setCell (p := ⟨w.heap.size + 1, 1, none⟩) q_w_F6.out (.string { data := #[] })).setCell (p := ⟨w.heap.size + 1, 2, none⟩) q_w_F6.out (.int .i64 0)).setCell (p := ⟨w.heap.size + 1, 3, none⟩) q_w_F6.out (.bool false)).setCell (p := ⟨w.heap.size + 1, 4, none⟩) q_w_F6.out (.string { data := #[] })).setCell (p := ⟨w.heap.size + 1, 5, none⟩) q_w_F6.out (.int .i64 0))
 obtain ⟨xF62_0, xF62_1, xF62_2, xF62_3, xF62_4, xF62_5⟩ := F6.ce6
 go_wp2
 exact bodyPost_ret (v := .tuple #[.agg #[.bool false, .string { data := #[] }, .int .i64 0, .bool false, .string { data := #[] }, .int .i64 0], .int .i64 pr]) (by simp [results, Tryz.results22, go_sem, xF62_0, xF62_1, xF62_2, xF62_3, xF62_4, xF62_5]) rfl ⟨rfl, B0⟩

set_option maxRecDepth 10000 in
set_option maxHeartbeats 4000000 in
theorem vat_2 (l : DY) (b : DY) (e : Int) (r : Int) (u : Int) (p : DY × Int) (q : DY × Int) (E_p : vM l r (e - 1) = p) (E_q : vM b u (e - 1) = q) (w : World) (ok_l : l.ok) (ok_b : b.ok) (e1 : -4096 ≤ e) (e2 : e ≤ 4096) (r1 : 0 ≤ r) (r2 : r ≤ 2) (u1 : 0 ≤ u) (u2 : u ≤ 2) (h_p : p.2 = 0) (h_q : ¬ q.2 = 0) (hT : Tab w) :
  Calls Tryz.prog 22 #[.agg #[.bool l.n, .string (bstr l.x), .int .i64 l.e, .bool b.n, .string (bstr b.x), .int .i64 b.e, .int .i64 e], .int .i64 r, .int .i64 u] w fun r w' => r = .returned (.tuple #[.agg #[.bool false, .string { data := #[] }, .int .i64 0, .bool false, .string { data := #[] }, .int .i64 0], .int .i64 q.2]) ∧ Below w.heap.size w w' := by
 have h1 := fun W hW => vmoved l r (e - 1) W ok_l (by omega) (by omega) (by omega) (by omega) hW
 rw [E_p] at h1
 have h2 := fun W hW => vmoved b u (e - 1) W ok_b (by omega) (by omega) (by omega) (by omega) hW
 rw [E_q] at h2
 clear E_p E_q ok_l ok_b
 obtain ⟨ln, lX, le⟩ := l
 obtain ⟨bn, bX, be⟩ := b
 obtain ⟨⟨pn, pX, pe⟩, pr⟩ := p
 obtain ⟨⟨qn, qX, qe⟩, qr⟩ := q
 dsimp only at *
 generalize bstr lX = lS at *
 generalize bstr bX = bS at *
 generalize bstr pX = pS at *
 generalize bstr qX = qS at *
 have hu : (pr != 0) = false := by simp [h_p]
 have hv : (qr != 0) = true := by simpa using h_q
 clear h_p h_q
 go_enter Tryz.func22, Tryz.ntmps22
 have B0 := Below.refl w.heap.size w
 have F3 := Blk.put (w) #[.bool ln, .string lS, .int .i64 le, .bool bn, .string bS, .int .i64 be, .int .i64 e] 26
 replace B0 := B0.alloc B0.size (.cells #[.bool ln, .string lS, .int .i64 le, .bool bn, .string bS, .int .i64 be, .int .i64 e] 26)
 have q_w_F6 : Hid (w.heap.size ≤ w.heap.size + 1) := Lib.hid (by omega)
 replace F3 := F3.allocd (.cells #[.bool false, .string { data := #[] }, .int .i64 0, .bool false, .string { data := #[] }, .int .i64 0] 28)
 have F6 := Blk.put ((w).alloc (.cells #[.bool ln, .string lS, .int .i64 le, .bool bn, .string bS, .int .i64 be, .int .i64 e] 26)) #[.bool false, .string { data := #[] }, .int .i64 0, .bool false, .string { data := #[] }, .int .i64 0] 28
 rw [show ((w).alloc (.cells #[.bool ln, .string lS, .int .i64 le, .bool bn, .string bS, .int .i64 be, .int .i64 e] 26)).heap.size = w.heap.size + 1 by simp] at F6
 replace B0 := B0.alloc B0.size (.cells #[.bool false, .string { data := #[] }, .int .i64 0, .bool false, .string { data := #[] }, .int .i64 0] 28)
 obtain ⟨xF30_0, xF30_1, xF30_2, xF30_3, xF30_4, xF30_5, xF30_6⟩ := F3.ce7
 go_wp2_with fail
 (with_reducible refine (h1 _ (hT.below B0)).mono ?_)
 rintro r w1 ⟨rfl, hb1⟩
 clear xF30_0 xF30_1 xF30_2 xF30_3 xF30_4 xF30_5 xF30_6
 replace F3 := F3.keep hb1
 replace F6 := F6.keep hb1
 replace B0 := B0.trans (hb1.mono B0.size)
 clear hb1
 replace F3 := F3.allocd (.cells #[.bool pn, .string pS, .int .i64 pe] 24)
 replace F6 := F6.allocd (.cells #[.bool pn, .string pS, .int .i64 pe] 24)
 replace B0 := B0.alloc B0.size (.cells #[.bool pn, .string pS, .int .i64 pe] 24)
 obtain ⟨xF31_0, xF31_1, xF31_2, xF31_3, xF31_4, xF31_5, xF31_6⟩ := F3.ce7
 go_wp2_with fail
 (with_reducible refine (h2 _ (hT.below B0)).mono ?_)
 rintro r w2 ⟨rfl, hb2⟩
 clear xF31_0 xF31_1 xF31_2 xF31_3 xF31_4 xF31_5 xF31_6
 replace F3 := F3.keep hb2
 replace F6 := F6.keep hb2
 replace B0 := B0.trans (hb2.mono B0.size)
 clear hb2
 clear F3
 replace F6 := F6.allocd (.cells #[.bool qn, .string qS, .int .i64 qe] 24)
 replace B0 := B0.alloc B0.size (.cells #[.bool qn, .string qS, .int .i64 qe] 24)
 obtain ⟨xF62_0, xF62_1, xF62_2, xF62_3, xF62_4, xF62_5⟩ := F6.ce6
 obtain ⟨xF62_0f, xF62_1f, xF62_2f, xF62_3f, xF62_4f, xF62_5f⟩ := F6.fr6
 replace F6 : Blk ((((((((w2).alloc (.cells #[.bool qn, .string qS, .int .i64 qe] 24)).setCell ⟨w.heap.size + 1, 0, none⟩ (.bool false)).setCell ⟨w.heap.size + 1, 1, none⟩ (.string { data := #[] })).setCell ⟨w.heap.size + 1, 2, none⟩ (.int .i64 0)).setCell ⟨w.heap.size + 1, 3, none⟩ (.bool false)).setCell ⟨w.heap.size + 1, 4, none⟩ (.string { data := #[] })).setCell ⟨w.heap.size + 1, 5, none⟩ (.int .i64 0)) (w.heap.size + 1) #[.bool false, .string { data := #[] }, .int .i64 0, .bool false, .string { data := #[] }, .int .i64 0] 28 := ((((((F6.setAt 0 (.bool false)).setAt 1 (.string { data := #[] })).setAt 2 (.int .i64 0)).setAt 3 (.bool false)).setAt 4 (.string { data := #[] })).setAt 5 (.int .i64 0))
 replace B0 := ((((((B0.setCell (p := ⟨w.heap.size + 1, 0, none⟩) q_w_F6.out (.bool false)).setCell (p := ⟨w.heap.size + 1, 1, none⟩) q_w_F6.out (.string { data := #[] })).setCell (p := ⟨w.heap.size + 1, 2, none⟩) q_w_F6.out (.int .i64 0)).setCell (p := ⟨w.heap.size + 1, 3, none⟩) q_w_F6.out (.bool false)).setCell (p := ⟨w.heap.size + 1, 4, none⟩) q_w_F6.out (.string { data := #[] })).setCell (p := ⟨w.heap.size + 1, 5, none⟩) q_w_F6.out (.int .i64 0))
 obtain ⟨xF63_0, xF63_1, xF63_2, xF63_3, xF63_4, xF63_5⟩ := F6.ce6
 go_wp2
 exact bodyPost_ret (v := .tuple #[.agg #[.bool false, .string { data := #[] }, .int .i64 0, .bool false, .string { data := #[] }, .int .i64 0], .int .i64 qr]) (by simp [results, Tryz.results22, go_sem, xF63_0, xF63_1, xF63_2, xF63_3, xF63_4, xF63_5]) rfl ⟨rfl, B0⟩

set_option maxRecDepth 10000 in
set_option maxHeartbeats 4000000 in
theorem vat_3 (l : DY) (b : DY) (e : Int) (r : Int) (u : Int) (p : DY × Int) (q : DY × Int) (E_p : vM l r (e - 1) = p) (E_q : vM b u (e - 1) = q) (w : World) (ok_l : l.ok) (ok_b : b.ok) (e1 : -4096 ≤ e) (e2 : e ≤ 4096) (r1 : 0 ≤ r) (r2 : r ≤ 2) (u1 : 0 ≤ u) (u2 : u ≤ 2) (h_p : p.2 = 0) (h_q : q.2 = 0) (hT : Tab w) :
  Calls Tryz.prog 22 #[.agg #[.bool l.n, .string (bstr l.x), .int .i64 l.e, .bool b.n, .string (bstr b.x), .int .i64 b.e, .int .i64 e], .int .i64 r, .int .i64 u] w fun r w' => r = .returned (.tuple #[.agg #[.bool p.1.n, .string (bstr p.1.x), .int .i64 p.1.e, .bool q.1.n, .string (bstr q.1.x), .int .i64 q.1.e], .int .i64 0]) ∧ Below w.heap.size w w' := by
 have h1 := fun W hW => vmoved l r (e - 1) W ok_l (by omega) (by omega) (by omega) (by omega) hW
 rw [E_p] at h1
 have h2 := fun W hW => vmoved b u (e - 1) W ok_b (by omega) (by omega) (by omega) (by omega) hW
 rw [E_q] at h2
 clear E_p E_q ok_l ok_b
 obtain ⟨ln, lX, le⟩ := l
 obtain ⟨bn, bX, be⟩ := b
 obtain ⟨⟨pn, pX, pe⟩, pr⟩ := p
 obtain ⟨⟨qn, qX, qe⟩, qr⟩ := q
 dsimp only at *
 generalize bstr lX = lS at *
 generalize bstr bX = bS at *
 generalize bstr pX = pS at *
 generalize bstr qX = qS at *
 have hu : (pr != 0) = false := by simp [h_p]
 have hv : (qr != 0) = false := by simp [h_q]
 clear h_p h_q
 go_enter Tryz.func22, Tryz.ntmps22
 have B0 := Below.refl w.heap.size w
 have F3 := Blk.put (w) #[.bool ln, .string lS, .int .i64 le, .bool bn, .string bS, .int .i64 be, .int .i64 e] 26
 replace B0 := B0.alloc B0.size (.cells #[.bool ln, .string lS, .int .i64 le, .bool bn, .string bS, .int .i64 be, .int .i64 e] 26)
 have q_w_F6 : Hid (w.heap.size ≤ w.heap.size + 1) := Lib.hid (by omega)
 replace F3 := F3.allocd (.cells #[.bool false, .string { data := #[] }, .int .i64 0, .bool false, .string { data := #[] }, .int .i64 0] 28)
 have F6 := Blk.put ((w).alloc (.cells #[.bool ln, .string lS, .int .i64 le, .bool bn, .string bS, .int .i64 be, .int .i64 e] 26)) #[.bool false, .string { data := #[] }, .int .i64 0, .bool false, .string { data := #[] }, .int .i64 0] 28
 rw [show ((w).alloc (.cells #[.bool ln, .string lS, .int .i64 le, .bool bn, .string bS, .int .i64 be, .int .i64 e] 26)).heap.size = w.heap.size + 1 by simp] at F6
 replace B0 := B0.alloc B0.size (.cells #[.bool false, .string { data := #[] }, .int .i64 0, .bool false, .string { data := #[] }, .int .i64 0] 28)
 obtain ⟨xF30_0, xF30_1, xF30_2, xF30_3, xF30_4, xF30_5, xF30_6⟩ := F3.ce7
 go_wp2_with fail
 (with_reducible refine (h1 _ (hT.below B0)).mono ?_)
 rintro r w1 ⟨rfl, hb1⟩
 clear xF30_0 xF30_1 xF30_2 xF30_3 xF30_4 xF30_5 xF30_6
 replace F3 := F3.keep hb1
 replace F6 := F6.keep hb1
 replace B0 := B0.trans (hb1.mono B0.size)
 clear hb1
 have q_F6_F8 : Hid (w.heap.size + 1 < w1.heap.size) := Lib.hid (by have := F6.lt; first | exact this | omega | (simp; done) | simpa using this)
 replace F3 := F3.allocd (.cells #[.bool pn, .string pS, .int .i64 pe] 24)
 replace F6 := F6.allocd (.cells #[.bool pn, .string pS, .int .i64 pe] 24)
 have F8 := Blk.put (w1) #[.bool pn, .string pS, .int .i64 pe] 24
 replace B0 := B0.alloc B0.size (.cells #[.bool pn, .string pS, .int .i64 pe] 24)
 obtain ⟨xF31_0, xF31_1, xF31_2, xF31_3, xF31_4, xF31_5, xF31_6⟩ := F3.ce7
 go_wp2_with fail
 (with_reducible refine (h2 _ (hT.below B0)).mono ?_)
 rintro r w2 ⟨rfl, hb2⟩
 clear xF31_0 xF31_1 xF31_2 xF31_3 xF31_4 xF31_5 xF31_6
 replace F3 := F3.keep hb2
 replace F6 := F6.keep hb2
 replace F8 := F8.keep hb2
 replace B0 := B0.trans (hb2.mono B0.size)
 clear hb2
 have q_F6_F10 : Hid (w.heap.size + 1 < w2.heap.size) := Lib.hid (by have := F6.lt; first | exact this | omega | (simp; done) | simpa using this)
 clear F3
 replace F6 := F6.allocd (.cells #[.bool qn, .string qS, .int .i64 qe] 24)
 replace F8 := F8.allocd (.cells #[.bool qn, .string qS, .int .i64 qe] 24)
 have F10 := Blk.put (w2) #[.bool qn, .string qS, .int .i64 qe] 24
 replace B0 := B0.alloc B0.size (.cells #[.bool qn, .string qS, .int .i64 qe] 24)
 obtain ⟨xF82_0, xF82_1, xF82_2⟩ := F8.ce3
 obtain ⟨xF102_0, xF102_1, xF102_2⟩ := F10.ce3
 obtain ⟨xF62_0, xF62_1, xF62_2, xF62_3, xF62_4, xF62_5⟩ := F6.ce6
 obtain ⟨xF62_0f, xF62_1f, xF62_2f, xF62_3f, xF62_4f, xF62_5f⟩ := F6.fr6
 replace F8 := ((((((F8.far 0 (.bool pn) (Nat.ne_of_gt q_F6_F8.out)).far 1 (.string pS) (Nat.ne_of_gt q_F6_F8.out)).far 2 (.int .i64 pe) (Nat.ne_of_gt q_F6_F8.out)).far 3 (.bool qn) (Nat.ne_of_gt q_F6_F8.out)).far 4 (.string qS) (Nat.ne_of_gt q_F6_F8.out)).far 5 (.int .i64 qe) (Nat.ne_of_gt q_F6_F8.out))
 replace F10 := ((((((F10.far 0 (.bool pn) (Nat.ne_of_gt q_F6_F10.out)).far 1 (.string pS) (Nat.ne_of_gt q_F6_F10.out)).far 2 (.int .i64 pe) (Nat.ne_of_gt q_F6_F10.out)).far 3 (.bool qn) (Nat.ne_of_gt q_F6_F10.out)).far 4 (.string qS) (Nat.ne_of_gt q_F6_F10.out)).far 5 (.int .i64 qe) (Nat.ne_of_gt q_F6_F10.out))
 replace F6 : Blk ((((((((w2).alloc (.cells #[.bool qn, .string qS, .int .i64 qe] 24)).setCell ⟨w.heap.size + 1, 0, none⟩ (.bool pn)).setCell ⟨w.heap.size + 1, 1, none⟩ (.string pS)).setCell ⟨w.heap.size + 1, 2, none⟩ (.int .i64 pe)).setCell ⟨w.heap.size + 1, 3, none⟩ (.bool qn)).setCell ⟨w.heap.size + 1, 4, none⟩ (.string qS)).setCell ⟨w.heap.size + 1, 5, none⟩ (.int .i64 qe)) (w.heap.size + 1) #[.bool pn, .string pS, .int .i64 pe, .bool qn, .string qS, .int .i64 qe] 28 := ((((((F6.setAt 0 (.bool pn)).setAt 1 (.string pS)).setAt 2 (.int .i64 pe)).setAt 3 (.bool qn)).setAt 4 (.string qS)).setAt 5 (.int .i64 qe))
 replace B0 := ((((((B0.setCell (p := ⟨w.heap.size + 1, 0, none⟩) q_w_F6.out (.bool pn)).setCell (p := ⟨w.heap.size + 1, 1, none⟩) q_w_F6.out (.string pS)).setCell (p := ⟨w.heap.size + 1, 2, none⟩) q_w_F6.out (.int .i64 pe)).setCell (p := ⟨w.heap.size + 1, 3, none⟩) q_w_F6.out (.bool qn)).setCell (p := ⟨w.heap.size + 1, 4, none⟩) q_w_F6.out (.string qS)).setCell (p := ⟨w.heap.size + 1, 5, none⟩) q_w_F6.out (.int .i64 qe))
 obtain ⟨xF63_0, xF63_1, xF63_2, xF63_3, xF63_4, xF63_5⟩ := F6.ce6
 go_wp2
 exact bodyPost_ret (v := .tuple #[.agg #[.bool pn, .string pS, .int .i64 pe, .bool qn, .string qS, .int .i64 qe], .int .i64 0]) (by simp [results, Tryz.results22, go_sem, xF63_0, xF63_1, xF63_2, xF63_3, xF63_4, xF63_5]) rfl ⟨rfl, B0⟩

theorem vM_err {d : DY} {n e : Int} (h : ¬ (vM d n e).2 = 0) : (vM d n e).2 = 4 := by
 rcases vM_e d n e with k | k
 ·exact absurd k h
 ·rw [k]

theorem vat (l b : DY) (e r u : Int) (w : World) (hl : l.ok) (hb : b.ok) (e1 : -4096 ≤ e) (e2 : e ≤ 4096) (r1 : 0 ≤ r) (r2 : r ≤ 2) (u1 : 0 ≤ u) (u2 : u ≤ 2) (hT : Tab w) :
  Calls Tryz.prog 22 #[.agg #[.bool l.n, .string (bstr l.x), .int .i64 l.e, .bool b.n, .string (bstr b.x), .int .i64 b.e, .int .i64 e], .int .i64 r, .int .i64 u] w fun r' w' => r' = .returned (.tuple #[.agg #[.bool (gB (vM l r (e - 1)) (vM b u (e - 1))).1.re.n, .string (bstr (gB (vM l r (e - 1)) (vM b u (e - 1))).1.re.x), .int .i64 (gB (vM l r (e - 1)) (vM b u (e - 1))).1.re.e, .bool (gB (vM l r (e - 1)) (vM b u (e - 1))).1.im.n, .string (bstr (gB (vM l r (e - 1)) (vM b u (e - 1))).1.im.x), .int .i64 (gB (vM l r (e - 1)) (vM b u (e - 1))).1.im.e], .int .i64 (gB (vM l r (e - 1)) (vM b u (e - 1))).2]) ∧ Below w.heap.size w w' := by
 by_cases hp : (vM l r (e - 1)).2 = 0
 ·by_cases hq : (vM b u (e - 1)).2 = 0
  ·rw [gB_yes hp hq]
   exact vat_3 l b e r u _ _ rfl rfl w hl hb e1 e2 r1 r2 u1 u2 hp hq hT
  ·rw [gB_no (fun k => hq k.2), show bstr GY.zero.re.x = { data := #[] } from bstr_zero, show bstr GY.zero.im.x = { data := #[] } from bstr_zero]
   have h := vat_2 l b e r u _ _ rfl rfl w hl hb e1 e2 r1 r2 u1 u2 hp hq hT
   rw [vM_err hq] at h
   exact h
 ·rw [gB_no (fun k => hp k.1), show bstr GY.zero.re.x = { data := #[] } from bstr_zero, show bstr GY.zero.im.x = { data := #[] } from bstr_zero]
  have h := vat_1 l b e r u _ rfl w hl e1 e2 r1 r2 hp hT
  rw [vM_err hp] at h
  exact h

set_option maxRecDepth 10000 in
set_option maxHeartbeats 4000000 in
theorem vmiddle_w (l : DY) (b : DY) (e : Int) (R : GY × Int) (E_R : gB (vM l 1 (e - 1)) (vM b 1 (e - 1)) = R) (w : World) (ok_l : l.ok) (ok_b : b.ok) (e1 : -4096 ≤ e) (e2 : e ≤ 4096) (hT : Tab w) :
  Calls Tryz.prog 6 #[.agg #[.bool l.n, .string (bstr l.x), .int .i64 l.e, .bool b.n, .string (bstr b.x), .int .i64 b.e, .int .i64 e]] w fun r w' => r = .returned (.tuple #[.agg #[.bool R.1.re.n, .string (bstr R.1.re.x), .int .i64 R.1.re.e, .bool R.1.im.n, .string (bstr R.1.im.x), .int .i64 R.1.im.e], .int .i64 R.2]) ∧ Below w.heap.size w w' := by
 have h1 := fun W => vright_ok l b e W ok_l ok_b e1 e2
 have h2 := fun W hW => vat l b e 1 1 W ok_l ok_b e1 e2 (by omega) (by omega) (by omega) (by omega) hW
 rw [E_R] at h2
 clear E_R ok_l ok_b
 obtain ⟨ln, lX, le⟩ := l
 obtain ⟨bn, bX, be⟩ := b
 obtain ⟨⟨⟨Rn, RX, Re⟩, ⟨Rm, RY, Rf⟩⟩, Rr⟩ := R
 dsimp only at *
 generalize bstr lX = lS at *
 generalize bstr bX = bS at *
 generalize bstr RX = RS at *
 generalize bstr RY = RT at *
 clear e1 e2
 go_enter Tryz.func6, Tryz.ntmps6
 have B0 := Below.refl w.heap.size w
 have F1 := Blk.put (w) #[.bool ln, .string lS, .int .i64 le, .bool bn, .string bS, .int .i64 be, .int .i64 e] 26
 replace B0 := B0.alloc B0.size (.cells #[.bool ln, .string lS, .int .i64 le, .bool bn, .string bS, .int .i64 be, .int .i64 e] 26)
 have q_w_F2 : Hid (w.heap.size ≤ w.heap.size + 1) := Lib.hid (by omega)
 replace F1 := F1.allocd (.cells #[.bool false, .string { data := #[] }, .int .i64 0, .bool false, .string { data := #[] }, .int .i64 0] 28)
 have F2 := Blk.put ((w).alloc (.cells #[.bool ln, .string lS, .int .i64 le, .bool bn, .string bS, .int .i64 be, .int .i64 e] 26)) #[.bool false, .string { data := #[] }, .int .i64 0, .bool false, .string { data := #[] }, .int .i64 0] 28
 rw [show ((w).alloc (.cells #[.bool ln, .string lS, .int .i64 le, .bool bn, .string bS, .int .i64 be, .int .i64 e] 26)).heap.size = w.heap.size + 1 by simp] at F2
 replace B0 := B0.alloc B0.size (.cells #[.bool false, .string { data := #[] }, .int .i64 0, .bool false, .string { data := #[] }, .int .i64 0] 28)
 obtain ⟨xF10_0, xF10_1, xF10_2, xF10_3, xF10_4, xF10_5, xF10_6⟩ := F1.ce7
 go_wp2_with fail
 (with_reducible refine (h1 _).mono ?_)
 rintro r w1 ⟨rfl, hb1⟩
 clear xF10_0 xF10_1 xF10_2 xF10_3 xF10_4 xF10_5 xF10_6
 replace F1 := F1.keep hb1
 replace F2 := F2.keep hb1
 replace B0 := B0.trans (hb1.mono B0.size)
 clear hb1
 obtain ⟨xF11_0, xF11_1, xF11_2, xF11_3, xF11_4, xF11_5, xF11_6⟩ := F1.ce7
 go_wp2_with fail
 (with_reducible refine (h2 _ (hT.below B0)).mono ?_)
 rintro r w2 ⟨rfl, hb2⟩
 clear xF11_0 xF11_1 xF11_2 xF11_3 xF11_4 xF11_5 xF11_6
 replace F1 := F1.keep hb2
 replace F2 := F2.keep hb2
 replace B0 := B0.trans (hb2.mono B0.size)
 clear hb2
 obtain ⟨xF22_0, xF22_1, xF22_2, xF22_3, xF22_4, xF22_5⟩ := F2.ce6
 obtain ⟨xF22_0f, xF22_1f, xF22_2f, xF22_3f, xF22_4f, xF22_5f⟩ := F2.fr6
 clear F1
 replace F2 : Blk (((((((w2).setCell ⟨w.heap.size + 1, 0, none⟩ (.bool Rn)).setCell ⟨w.heap.size + 1, 1, none⟩ (.string RS)).setCell ⟨w.heap.size + 1, 2, none⟩ (.int .i64 Re)).setCell ⟨w.heap.size + 1, 3, none⟩ (.bool Rm)).setCell ⟨w.heap.size + 1, 4, none⟩ (.string RT)).setCell ⟨w.heap.size + 1, 5, none⟩ (.int .i64 Rf)) (w.heap.size + 1) #[.bool Rn, .string RS, .int .i64 Re, .bool Rm, .string RT, .int .i64 Rf] 28 := ((((((F2.setAt 0 (.bool Rn)).setAt 1 (.string RS)).setAt 2 (.int .i64 Re)).setAt 3 (.bool Rm)).setAt 4 (.string RT)).setAt 5 (.int .i64 Rf))
 replace B0 := ((((((B0.setCell (p := ⟨w.heap.size + 1, 0, none⟩) q_w_F2.out (.bool Rn)).setCell (p := ⟨w.heap.size + 1, 1, none⟩) q_w_F2.out (.string RS)).setCell (p := ⟨w.heap.size + 1, 2, none⟩) q_w_F2.out (.int .i64 Re)).setCell (p := ⟨w.heap.size + 1, 3, none⟩) q_w_F2.out (.bool Rm)).setCell (p := ⟨w.heap.size + 1, 4, none⟩) q_w_F2.out (.string RT)).setCell (p := ⟨w.heap.size + 1, 5, none⟩) q_w_F2.out (.int .i64 Rf))
 obtain ⟨xF23_0, xF23_1, xF23_2, xF23_3, xF23_4, xF23_5⟩ := F2.ce6
 go_wp2
 exact bodyPost_ret (v := .tuple #[.agg #[.bool Rn, .string RS, .int .i64 Re, .bool Rm, .string RT, .int .i64 Rf], .int .i64 Rr]) (by simp [results, Tryz.results6, go_sem, xF23_0, xF23_1, xF23_2, xF23_3, xF23_4, xF23_5]) rfl ⟨rfl, B0⟩

/-- the middle -/
def sqMid (s : SQ) : GY × Int := gB (vM s.l 1 (s.e - 1)) (vM s.b 1 (s.e - 1))
theorem vmiddle (s : SQ) (w : World) (h : s.ok) (hT : Tab w) :
  Calls Tryz.prog 6 #[.agg #[.bool s.l.n, .string (bstr s.l.x), .int .i64 s.l.e, .bool s.b.n, .string (bstr s.b.x), .int .i64 s.b.e, .int .i64 s.e]] w fun r w' => r = .returned (.tuple #[.agg #[.bool (sqMid s).1.re.n, .string (bstr (sqMid s).1.re.x), .int .i64 (sqMid s).1.re.e, .bool (sqMid s).1.im.n, .string (bstr (sqMid s).1.im.x), .int .i64 (sqMid s).1.im.e], .int .i64 (sqMid s).2]) ∧ Below w.heap.size w w' :=
 vmiddle_w s.l s.b s.e _ rfl w h.1 h.2.1 h.2.2.1 h.2.2.2 hT

set_option maxRecDepth 10000 in
set_option maxHeartbeats 4000000 in
theorem vcell_1 (g : GY) (e : Int) (a : Int) (d : Int) (c : Int) (r : Int) (p : DY × Int) (E_p : vM g.re (2 * c - a) (e - 1) = p) (w : World) (ok_g : g.ok) (e1 : -4096 ≤ e) (e2 : e ≤ 4096) (a1 : 1 ≤ a) (a2 : a ≤ 65536) (d1 : 1 ≤ d) (d2 : d ≤ 65536) (c1 : 0 ≤ c) (c2 : c < a) (r1 : 0 ≤ r) (r2 : r < d) (h_p : ¬ p.2 = 0) (hT : Tab w) :
  Calls Tryz.prog 31 #[.agg #[.bool g.re.n, .string (bstr g.re.x), .int .i64 g.re.e, .bool g.im.n, .string (bstr g.im.x), .int .i64 g.im.e, .int .i64 e, .int .i64 a, .int .i64 d], .int .i64 c, .int .i64 r] w fun r w' => r = .returned (.tuple #[.agg #[.bool false, .string { data := #[] }, .int .i64 0, .bool false, .string { data := #[] }, .int .i64 0, .int .i64 0], .int .i64 p.2]) ∧ Below w.heap.size w w' := by
 have h0 := fun W => vcheck_ok g e a d W ok_g e1 e2 a1 a2 d1 d2
 have h1 := fun W hW => vmoved g.re (2 * c - a) (e - 1) W ok_g.1 (by omega) (by omega) (by omega) (by omega) hW
 rw [E_p] at h1
 clear E_p ok_g
 obtain ⟨⟨gn, gX, ge⟩, ⟨gm, gY, gf⟩⟩ := g
 obtain ⟨⟨pn, pX, pe⟩, pr⟩ := p
 dsimp only at *
 generalize bstr gX = gS at *
 generalize bstr gY = gT at *
 generalize bstr pX = pS at *
 have hu : (pr != 0) = true := by simpa using h_p
 clear h_p
 go_enter Tryz.func31, Tryz.ntmps31
 have B0 := Below.refl w.heap.size w
 have F3 := Blk.put (w) #[.bool gn, .string gS, .int .i64 ge, .bool gm, .string gT, .int .i64 gf, .int .i64 e, .int .i64 a, .int .i64 d] 74
 replace B0 := B0.alloc B0.size (.cells #[.bool gn, .string gS, .int .i64 ge, .bool gm, .string gT, .int .i64 gf, .int .i64 e, .int .i64 a, .int .i64 d] 74)
 have q_w_F6 : Hid (w.heap.size ≤ w.heap.size + 1) := Lib.hid (by omega)
 replace F3 := F3.allocd (.cells #[.bool false, .string { data := #[] }, .int .i64 0, .bool false, .string { data := #[] }, .int .i64 0, .int .i64 0] 26)
 have F6 := Blk.put ((w).alloc (.cells #[.bool gn, .string gS, .int .i64 ge, .bool gm, .string gT, .int .i64 gf, .int .i64 e, .int .i64 a, .int .i64 d] 74)) #[.bool false, .string { data := #[] }, .int .i64 0, .bool false, .string { data := #[] }, .int .i64 0, .int .i64 0] 26
 rw [show ((w).alloc (.cells #[.bool gn, .string gS, .int .i64 ge, .bool gm, .string gT, .int .i64 gf, .int .i64 e, .int .i64 a, .int .i64 d] 74)).heap.size = w.heap.size + 1 by simp] at F6
 replace B0 := B0.alloc B0.size (.cells #[.bool false, .string { data := #[] }, .int .i64 0, .bool false, .string { data := #[] }, .int .i64 0, .int .i64 0] 26)
 obtain ⟨xF30_0, xF30_1, xF30_2, xF30_3, xF30_4, xF30_5, xF30_6, xF30_7, xF30_8⟩ := F3.ce9
 go_wp2_with fail
 (with_reducible refine (h0 _).mono ?_)
 rintro r w1 ⟨rfl, hb1⟩
 clear xF30_0 xF30_1 xF30_2 xF30_3 xF30_4 xF30_5 xF30_6 xF30_7 xF30_8
 replace F3 := F3.keep hb1
 replace F6 := F6.keep hb1
 replace B0 := B0.trans (hb1.mono B0.size)
 clear hb1
 obtain ⟨xF31_0, xF31_1, xF31_2, xF31_3, xF31_4, xF31_5, xF31_6, xF31_7, xF31_8⟩ := F3.ce9
 go_wp2_with fail
 (with_reducible refine (h1 _ (hT.below B0)).mono ?_)
 rintro r w2 ⟨rfl, hb2⟩
 clear xF31_0 xF31_1 xF31_2 xF31_3 xF31_4 xF31_5 xF31_6 xF31_7 xF31_8
 replace F3 := F3.keep hb2
 replace F6 := F6.keep hb2
 replace B0 := B0.trans (hb2.mono B0.size)
 clear hb2
 clear F3
 replace F6 := F6.allocd (.cells #[.bool pn, .string pS, .int .i64 pe] 24)
 replace B0 := B0.alloc B0.size (.cells #[.bool pn, .string pS, .int .i64 pe] 24)
 obtain ⟨xF62_0, xF62_1, xF62_2, xF62_3, xF62_4, xF62_5, xF62_6⟩ := F6.ce7
 obtain ⟨xF62_0f, xF62_1f, xF62_2f, xF62_3f, xF62_4f, xF62_5f, xF62_6f⟩ := F6.fr7
 replace F6 : Blk (((((((((w2).alloc (.cells #[.bool pn, .string pS, .int .i64 pe] 24)).setCell ⟨w.heap.size + 1, 0, none⟩ (.bool false)).setCell ⟨w.heap.size + 1, 1, none⟩ (.string { data := #[] })).setCell ⟨w.heap.size + 1, 2, none⟩ (.int .i64 0)).setCell ⟨w.heap.size + 1, 3, none⟩ (.bool false)).setCell ⟨w.heap.size + 1, 4, none⟩ (.string { data := #[] })).setCell ⟨w.heap.size + 1, 5, none⟩ (.int .i64 0)).setCell ⟨w.heap.size + 1, 6, none⟩ (.int .i64 0)) (w.heap.size + 1) #[.bool false, .string { data := #[] }, .int .i64 0, .bool false, .string { data := #[] }, .int .i64 0, .int .i64 0] 26 := (((((((F6.setAt 0 (.bool false)).setAt 1 (.string { data := #[] })).setAt 2 (.int .i64 0)).setAt 3 (.bool false)).setAt 4 (.string { data := #[] })).setAt 5 (.int .i64 0)).setAt 6 (.int .i64 0))
 replace B0 := (((((((B0.setCell (p := ⟨w.heap.size + 1, 0, none⟩) q_w_F6.out (.bool false)).setCell (p := ⟨w.heap.size + 1, 1, none⟩) q_w_F6.out (.string { data := #[] })).setCell (p := ⟨w.heap.size + 1, 2, none⟩) q_w_F6.out (.int .i64 0)).setCell (p := ⟨w.heap.size + 1, 3, none⟩) q_w_F6.out (.bool false)).setCell (p := ⟨w.heap.size + 1, 4, none⟩) q_w_F6.out (.string { data := #[] })).setCell (p := ⟨w.heap.size + 1, 5, none⟩) q_w_F6.out (.int .i64 0)).setCell (p := ⟨w.heap.size + 1, 6, none⟩) q_w_F6.out (.int .i64 0))
 obtain ⟨xF63_0, xF63_1, xF63_2, xF63_3, xF63_4, xF63_5, xF63_6⟩ := F6.ce7
 go_wp2
 exact bodyPost_ret (v := .tuple #[.agg #[.bool false, .string { data := #[] }, .int .i64 0, .bool false, .string { data := #[] }, .int .i64 0, .int .i64 0], .int .i64 pr]) (by simp [results, Tryz.results31, go_sem, xF63_0, xF63_1, xF63_2, xF63_3, xF63_4, xF63_5, xF63_6]) rfl ⟨rfl, B0⟩

set_option maxRecDepth 10000 in
set_option maxHeartbeats 4000000 in
theorem vcell_2 (g : GY) (e : Int) (a : Int) (d : Int) (c : Int) (r : Int) (p : DY × Int) (q : DY × Int) (E_p : vM g.re (2 * c - a) (e - 1) = p) (E_q : vM g.im (d - 2 * r - 2) (e - 1) = q) (w : World) (ok_g : g.ok) (e1 : -4096 ≤ e) (e2 : e ≤ 4096) (a1 : 1 ≤ a) (a2 : a ≤ 65536) (d1 : 1 ≤ d) (d2 : d ≤ 65536) (c1 : 0 ≤ c) (c2 : c < a) (r1 : 0 ≤ r) (r2 : r < d) (h_p : p.2 = 0) (h_q : ¬ q.2 = 0) (hT : Tab w) :
  Calls Tryz.prog 31 #[.agg #[.bool g.re.n, .string (bstr g.re.x), .int .i64 g.re.e, .bool g.im.n, .string (bstr g.im.x), .int .i64 g.im.e, .int .i64 e, .int .i64 a, .int .i64 d], .int .i64 c, .int .i64 r] w fun r w' => r = .returned (.tuple #[.agg #[.bool false, .string { data := #[] }, .int .i64 0, .bool false, .string { data := #[] }, .int .i64 0, .int .i64 0], .int .i64 q.2]) ∧ Below w.heap.size w w' := by
 have h0 := fun W => vcheck_ok g e a d W ok_g e1 e2 a1 a2 d1 d2
 have h1 := fun W hW => vmoved g.re (2 * c - a) (e - 1) W ok_g.1 (by omega) (by omega) (by omega) (by omega) hW
 rw [E_p] at h1
 have h2 := fun W hW => vmoved g.im (d - 2 * r - 2) (e - 1) W ok_g.2 (by omega) (by omega) (by omega) (by omega) hW
 rw [E_q] at h2
 clear E_p E_q ok_g
 obtain ⟨⟨gn, gX, ge⟩, ⟨gm, gY, gf⟩⟩ := g
 obtain ⟨⟨pn, pX, pe⟩, pr⟩ := p
 obtain ⟨⟨qn, qX, qe⟩, qr⟩ := q
 dsimp only at *
 generalize bstr gX = gS at *
 generalize bstr gY = gT at *
 generalize bstr pX = pS at *
 generalize bstr qX = qS at *
 have hu : (pr != 0) = false := by simp [h_p]
 have hv : (qr != 0) = true := by simpa using h_q
 clear h_p h_q
 go_enter Tryz.func31, Tryz.ntmps31
 have B0 := Below.refl w.heap.size w
 have F3 := Blk.put (w) #[.bool gn, .string gS, .int .i64 ge, .bool gm, .string gT, .int .i64 gf, .int .i64 e, .int .i64 a, .int .i64 d] 74
 replace B0 := B0.alloc B0.size (.cells #[.bool gn, .string gS, .int .i64 ge, .bool gm, .string gT, .int .i64 gf, .int .i64 e, .int .i64 a, .int .i64 d] 74)
 have q_w_F6 : Hid (w.heap.size ≤ w.heap.size + 1) := Lib.hid (by omega)
 replace F3 := F3.allocd (.cells #[.bool false, .string { data := #[] }, .int .i64 0, .bool false, .string { data := #[] }, .int .i64 0, .int .i64 0] 26)
 have F6 := Blk.put ((w).alloc (.cells #[.bool gn, .string gS, .int .i64 ge, .bool gm, .string gT, .int .i64 gf, .int .i64 e, .int .i64 a, .int .i64 d] 74)) #[.bool false, .string { data := #[] }, .int .i64 0, .bool false, .string { data := #[] }, .int .i64 0, .int .i64 0] 26
 rw [show ((w).alloc (.cells #[.bool gn, .string gS, .int .i64 ge, .bool gm, .string gT, .int .i64 gf, .int .i64 e, .int .i64 a, .int .i64 d] 74)).heap.size = w.heap.size + 1 by simp] at F6
 replace B0 := B0.alloc B0.size (.cells #[.bool false, .string { data := #[] }, .int .i64 0, .bool false, .string { data := #[] }, .int .i64 0, .int .i64 0] 26)
 obtain ⟨xF30_0, xF30_1, xF30_2, xF30_3, xF30_4, xF30_5, xF30_6, xF30_7, xF30_8⟩ := F3.ce9
 go_wp2_with fail
 (with_reducible refine (h0 _).mono ?_)
 rintro r w1 ⟨rfl, hb1⟩
 clear xF30_0 xF30_1 xF30_2 xF30_3 xF30_4 xF30_5 xF30_6 xF30_7 xF30_8
 replace F3 := F3.keep hb1
 replace F6 := F6.keep hb1
 replace B0 := B0.trans (hb1.mono B0.size)
 clear hb1
 obtain ⟨xF31_0, xF31_1, xF31_2, xF31_3, xF31_4, xF31_5, xF31_6, xF31_7, xF31_8⟩ := F3.ce9
 go_wp2_with fail
 (with_reducible refine (h1 _ (hT.below B0)).mono ?_)
 rintro r w2 ⟨rfl, hb2⟩
 clear xF31_0 xF31_1 xF31_2 xF31_3 xF31_4 xF31_5 xF31_6 xF31_7 xF31_8
 replace F3 := F3.keep hb2
 replace F6 := F6.keep hb2
 replace B0 := B0.trans (hb2.mono B0.size)
 clear hb2
 replace F3 := F3.allocd (.cells #[.bool pn, .string pS, .int .i64 pe] 24)
 replace F6 := F6.allocd (.cells #[.bool pn, .string pS, .int .i64 pe] 24)
 replace B0 := B0.alloc B0.size (.cells #[.bool pn, .string pS, .int .i64 pe] 24)
 obtain ⟨xF32_0, xF32_1, xF32_2, xF32_3, xF32_4, xF32_5, xF32_6, xF32_7, xF32_8⟩ := F3.ce9
 go_wp2_with fail
 (with_reducible refine (h2 _ (hT.below B0)).mono ?_)
 rintro r w3 ⟨rfl, hb3⟩
 clear xF32_0 xF32_1 xF32_2 xF32_3 xF32_4 xF32_5 xF32_6 xF32_7 xF32_8
 replace F3 := F3.keep hb3
 replace F6 := F6.keep hb3
 replace B0 := B0.trans (hb3.mono B0.size)
 clear hb3
 clear F3
 replace F6 := F6.allocd (.cells #[.bool qn, .string qS, .int .i64 qe] 24)
 replace B0 := B0.alloc B0.size (.cells #[.bool qn, .string qS, .int .i64 qe] 24)
 obtain ⟨xF63_0, xF63_1, xF63_2, xF63_3, xF63_4, xF63_5, xF63_6⟩ := F6.ce7
 obtain ⟨xF63_0f, xF63_1f, xF63_2f, xF63_3f, xF63_4f, xF63_5f, xF63_6f⟩ := F6.fr7
 replace F6 : Blk (((((((((w3).alloc (.cells #[.bool qn, .string qS, .int .i64 qe] 24)).setCell ⟨w.heap.size + 1, 0, none⟩ (.bool false)).setCell ⟨w.heap.size + 1, 1, none⟩ (.string { data := #[] })).setCell ⟨w.heap.size + 1, 2, none⟩ (.int .i64 0)).setCell ⟨w.heap.size + 1, 3, none⟩ (.bool false)).setCell ⟨w.heap.size + 1, 4, none⟩ (.string { data := #[] })).setCell ⟨w.heap.size + 1, 5, none⟩ (.int .i64 0)).setCell ⟨w.heap.size + 1, 6, none⟩ (.int .i64 0)) (w.heap.size + 1) #[.bool false, .string { data := #[] }, .int .i64 0, .bool false, .string { data := #[] }, .int .i64 0, .int .i64 0] 26 := (((((((F6.setAt 0 (.bool false)).setAt 1 (.string { data := #[] })).setAt 2 (.int .i64 0)).setAt 3 (.bool false)).setAt 4 (.string { data := #[] })).setAt 5 (.int .i64 0)).setAt 6 (.int .i64 0))
 replace B0 := (((((((B0.setCell (p := ⟨w.heap.size + 1, 0, none⟩) q_w_F6.out (.bool false)).setCell (p := ⟨w.heap.size + 1, 1, none⟩) q_w_F6.out (.string { data := #[] })).setCell (p := ⟨w.heap.size + 1, 2, none⟩) q_w_F6.out (.int .i64 0)).setCell (p := ⟨w.heap.size + 1, 3, none⟩) q_w_F6.out (.bool false)).setCell (p := ⟨w.heap.size + 1, 4, none⟩) q_w_F6.out (.string { data := #[] })).setCell (p := ⟨w.heap.size + 1, 5, none⟩) q_w_F6.out (.int .i64 0)).setCell (p := ⟨w.heap.size + 1, 6, none⟩) q_w_F6.out (.int .i64 0))
 obtain ⟨xF64_0, xF64_1, xF64_2, xF64_3, xF64_4, xF64_5, xF64_6⟩ := F6.ce7
 go_wp2
 exact bodyPost_ret (v := .tuple #[.agg #[.bool false, .string { data := #[] }, .int .i64 0, .bool false, .string { data := #[] }, .int .i64 0, .int .i64 0], .int .i64 qr]) (by simp [results, Tryz.results31, go_sem, xF64_0, xF64_1, xF64_2, xF64_3, xF64_4, xF64_5, xF64_6]) rfl ⟨rfl, B0⟩

set_option maxRecDepth 10000 in
set_option maxHeartbeats 4000000 in
theorem vcell_3 (g : GY) (e : Int) (a : Int) (d : Int) (c : Int) (r : Int) (p : DY × Int) (q : DY × Int) (E_p : vM g.re (2 * c - a) (e - 1) = p) (E_q : vM g.im (d - 2 * r - 2) (e - 1) = q) (w : World) (ok_g : g.ok) (e1 : -4096 ≤ e) (e2 : e ≤ 4096) (a1 : 1 ≤ a) (a2 : a ≤ 65536) (d1 : 1 ≤ d) (d2 : d ≤ 65536) (c1 : 0 ≤ c) (c2 : c < a) (r1 : 0 ≤ r) (r2 : r < d) (h_p : p.2 = 0) (h_q : q.2 = 0) (hT : Tab w) :
  Calls Tryz.prog 31 #[.agg #[.bool g.re.n, .string (bstr g.re.x), .int .i64 g.re.e, .bool g.im.n, .string (bstr g.im.x), .int .i64 g.im.e, .int .i64 e, .int .i64 a, .int .i64 d], .int .i64 c, .int .i64 r] w fun r w' => r = .returned (.tuple #[.agg #[.bool p.1.n, .string (bstr p.1.x), .int .i64 p.1.e, .bool q.1.n, .string (bstr q.1.x), .int .i64 q.1.e, .int .i64 e], .int .i64 0]) ∧ Below w.heap.size w w' := by
 have h0 := fun W => vcheck_ok g e a d W ok_g e1 e2 a1 a2 d1 d2
 have h1 := fun W hW => vmoved g.re (2 * c - a) (e - 1) W ok_g.1 (by omega) (by omega) (by omega) (by omega) hW
 rw [E_p] at h1
 have h2 := fun W hW => vmoved g.im (d - 2 * r - 2) (e - 1) W ok_g.2 (by omega) (by omega) (by omega) (by omega) hW
 rw [E_q] at h2
 clear E_p E_q ok_g
 obtain ⟨⟨gn, gX, ge⟩, ⟨gm, gY, gf⟩⟩ := g
 obtain ⟨⟨pn, pX, pe⟩, pr⟩ := p
 obtain ⟨⟨qn, qX, qe⟩, qr⟩ := q
 dsimp only at *
 generalize bstr gX = gS at *
 generalize bstr gY = gT at *
 generalize bstr pX = pS at *
 generalize bstr qX = qS at *
 have hu : (pr != 0) = false := by simp [h_p]
 have hv : (qr != 0) = false := by simp [h_q]
 clear h_p h_q
 go_enter Tryz.func31, Tryz.ntmps31
 have B0 := Below.refl w.heap.size w
 have F3 := Blk.put (w) #[.bool gn, .string gS, .int .i64 ge, .bool gm, .string gT, .int .i64 gf, .int .i64 e, .int .i64 a, .int .i64 d] 74
 replace B0 := B0.alloc B0.size (.cells #[.bool gn, .string gS, .int .i64 ge, .bool gm, .string gT, .int .i64 gf, .int .i64 e, .int .i64 a, .int .i64 d] 74)
 have q_F3_F6 := Lib.hid (show w.heap.size < w.heap.size + 1 by omega)
 have q_w_F6 : Hid (w.heap.size ≤ w.heap.size + 1) := Lib.hid (by omega)
 replace F3 := F3.allocd (.cells #[.bool false, .string { data := #[] }, .int .i64 0, .bool false, .string { data := #[] }, .int .i64 0, .int .i64 0] 26)
 have F6 := Blk.put ((w).alloc (.cells #[.bool gn, .string gS, .int .i64 ge, .bool gm, .string gT, .int .i64 gf, .int .i64 e, .int .i64 a, .int .i64 d] 74)) #[.bool false, .string { data := #[] }, .int .i64 0, .bool false, .string { data := #[] }, .int .i64 0, .int .i64 0] 26
 rw [show ((w).alloc (.cells #[.bool gn, .string gS, .int .i64 ge, .bool gm, .string gT, .int .i64 gf, .int .i64 e, .int .i64 a, .int .i64 d] 74)).heap.size = w.heap.size + 1 by simp] at F6
 replace B0 := B0.alloc B0.size (.cells #[.bool false, .string { data := #[] }, .int .i64 0, .bool false, .string { data := #[] }, .int .i64 0, .int .i64 0] 26)
 obtain ⟨xF30_0, xF30_1, xF30_2, xF30_3, xF30_4, xF30_5, xF30_6, xF30_7, xF30_8⟩ := F3.ce9
 go_wp2_with fail
 (with_reducible refine (h0 _).mono ?_)
 rintro r w1 ⟨rfl, hb1⟩
 clear xF30_0 xF30_1 xF30_2 xF30_3 xF30_4 xF30_5 xF30_6 xF30_7 xF30_8
 replace F3 := F3.keep hb1
 replace F6 := F6.keep hb1
 replace B0 := B0.trans (hb1.mono B0.size)
 clear hb1
 obtain ⟨xF31_0, xF31_1, xF31_2, xF31_3, xF31_4, xF31_5, xF31_6, xF31_7, xF31_8⟩ := F3.ce9
 go_wp2_with fail
 (with_reducible refine (h1 _ (hT.below B0)).mono ?_)
 rintro r w2 ⟨rfl, hb2⟩
 clear xF31_0 xF31_1 xF31_2 xF31_3 xF31_4 xF31_5 xF31_6 xF31_7 xF31_8
 replace F3 := F3.keep hb2
 replace F6 := F6.keep hb2
 replace B0 := B0.trans (hb2.mono B0.size)
 clear hb2
 have q_F6_F8 : Hid (w.heap.size + 1 < w2.heap.size) := Lib.hid (by have := F6.lt; first | exact this | omega | (simp; done) | simpa using this)
 replace F3 := F3.allocd (.cells #[.bool pn, .string pS, .int .i64 pe] 24)
 replace F6 := F6.allocd (.cells #[.bool pn, .string pS, .int .i64 pe] 24)
 have F8 := Blk.put (w2) #[.bool pn, .string pS, .int .i64 pe] 24
 replace B0 := B0.alloc B0.size (.cells #[.bool pn, .string pS, .int .i64 pe] 24)
 obtain ⟨xF32_0, xF32_1, xF32_2, xF32_3, xF32_4, xF32_5, xF32_6, xF32_7, xF32_8⟩ := F3.ce9
 go_wp2_with fail
 (with_reducible refine (h2 _ (hT.below B0)).mono ?_)
 rintro r w3 ⟨rfl, hb3⟩
 clear xF32_0 xF32_1 xF32_2 xF32_3 xF32_4 xF32_5 xF32_6 xF32_7 xF32_8
 replace F3 := F3.keep hb3
 replace F6 := F6.keep hb3
 replace F8 := F8.keep hb3
 replace B0 := B0.trans (hb3.mono B0.size)
 clear hb3
 have q_F6_F10 : Hid (w.heap.size + 1 < w3.heap.size) := Lib.hid (by have := F6.lt; first | exact this | omega | (simp; done) | simpa using this)
 replace F3 := F3.allocd (.cells #[.bool qn, .string qS, .int .i64 qe] 24)
 replace F6 := F6.allocd (.cells #[.bool qn, .string qS, .int .i64 qe] 24)
 replace F8 := F8.allocd (.cells #[.bool qn, .string qS, .int .i64 qe] 24)
 have F10 := Blk.put (w3) #[.bool qn, .string qS, .int .i64 qe] 24
 replace B0 := B0.alloc B0.size (.cells #[.bool qn, .string qS, .int .i64 qe] 24)
 obtain ⟨xF83_0, xF83_1, xF83_2⟩ := F8.ce3
 obtain ⟨xF103_0, xF103_1, xF103_2⟩ := F10.ce3
 obtain ⟨xF33_0, xF33_1, xF33_2, xF33_3, xF33_4, xF33_5, xF33_6, xF33_7, xF33_8⟩ := F3.ce9
 obtain ⟨xF63_0, xF63_1, xF63_2, xF63_3, xF63_4, xF63_5, xF63_6⟩ := F6.ce7
 obtain ⟨xF63_0f, xF63_1f, xF63_2f, xF63_3f, xF63_4f, xF63_5f, xF63_6f⟩ := F6.fr7
 replace F3 := (((((((F3.far 0 (.bool pn) (Nat.ne_of_lt q_F3_F6.out)).far 1 (.string pS) (Nat.ne_of_lt q_F3_F6.out)).far 2 (.int .i64 pe) (Nat.ne_of_lt q_F3_F6.out)).far 3 (.bool qn) (Nat.ne_of_lt q_F3_F6.out)).far 4 (.string qS) (Nat.ne_of_lt q_F3_F6.out)).far 5 (.int .i64 qe) (Nat.ne_of_lt q_F3_F6.out)).far 6 (.int .i64 e) (Nat.ne_of_lt q_F3_F6.out))
 replace F8 := (((((((F8.far 0 (.bool pn) (Nat.ne_of_gt q_F6_F8.out)).far 1 (.string pS) (Nat.ne_of_gt q_F6_F8.out)).far 2 (.int .i64 pe) (Nat.ne_of_gt q_F6_F8.out)).far 3 (.bool qn) (Nat.ne_of_gt q_F6_F8.out)).far 4 (.string qS) (Nat.ne_of_gt q_F6_F8.out)).far 5 (.int .i64 qe) (Nat.ne_of_gt q_F6_F8.out)).far 6 (.int .i64 e) (Nat.ne_of_gt q_F6_F8.out))
 replace F10 := (((((((F10.far 0 (.bool pn) (Nat.ne_of_gt q_F6_F10.out)).far 1 (.string pS) (Nat.ne_of_gt q_F6_F10.out)).far 2 (.int .i64 pe) (Nat.ne_of_gt q_F6_F10.out)).far 3 (.bool qn) (Nat.ne_of_gt q_F6_F10.out)).far 4 (.string qS) (Nat.ne_of_gt q_F6_F10.out)).far 5 (.int .i64 qe) (Nat.ne_of_gt q_F6_F10.out)).far 6 (.int .i64 e) (Nat.ne_of_gt q_F6_F10.out))
 replace F6 : Blk (((((((((w3).alloc (.cells #[.bool qn, .string qS, .int .i64 qe] 24)).setCell ⟨w.heap.size + 1, 0, none⟩ (.bool pn)).setCell ⟨w.heap.size + 1, 1, none⟩ (.string pS)).setCell ⟨w.heap.size + 1, 2, none⟩ (.int .i64 pe)).setCell ⟨w.heap.size + 1, 3, none⟩ (.bool qn)).setCell ⟨w.heap.size + 1, 4, none⟩ (.string qS)).setCell ⟨w.heap.size + 1, 5, none⟩ (.int .i64 qe)).setCell ⟨w.heap.size + 1, 6, none⟩ (.int .i64 e)) (w.heap.size + 1) #[.bool pn, .string pS, .int .i64 pe, .bool qn, .string qS, .int .i64 qe, .int .i64 e] 26 := (((((((F6.setAt 0 (.bool pn)).setAt 1 (.string pS)).setAt 2 (.int .i64 pe)).setAt 3 (.bool qn)).setAt 4 (.string qS)).setAt 5 (.int .i64 qe)).setAt 6 (.int .i64 e))
 replace B0 := (((((((B0.setCell (p := ⟨w.heap.size + 1, 0, none⟩) q_w_F6.out (.bool pn)).setCell (p := ⟨w.heap.size + 1, 1, none⟩) q_w_F6.out (.string pS)).setCell (p := ⟨w.heap.size + 1, 2, none⟩) q_w_F6.out (.int .i64 pe)).setCell (p := ⟨w.heap.size + 1, 3, none⟩) q_w_F6.out (.bool qn)).setCell (p := ⟨w.heap.size + 1, 4, none⟩) q_w_F6.out (.string qS)).setCell (p := ⟨w.heap.size + 1, 5, none⟩) q_w_F6.out (.int .i64 qe)).setCell (p := ⟨w.heap.size + 1, 6, none⟩) q_w_F6.out (.int .i64 e))
 obtain ⟨xF64_0, xF64_1, xF64_2, xF64_3, xF64_4, xF64_5, xF64_6⟩ := F6.ce7
 go_wp2
 exact bodyPost_ret (v := .tuple #[.agg #[.bool pn, .string pS, .int .i64 pe, .bool qn, .string qS, .int .i64 qe, .int .i64 e], .int .i64 0]) (by simp [results, Tryz.results31, go_sem, xF64_0, xF64_1, xF64_2, xF64_3, xF64_4, xF64_5, xF64_6]) rfl ⟨rfl, B0⟩

theorem vcell (g : GY) (e a d c r : Int) (w : World) (hg : g.ok) (e1 : -4096 ≤ e) (e2 : e ≤ 4096) (a1 : 1 ≤ a) (a2 : a ≤ 65536) (d1 : 1 ≤ d) (d2 : d ≤ 65536) (c1 : 0 ≤ c) (c2 : c < a) (r1 : 0 ≤ r) (r2 : r < d) (hT : Tab w) :
  Calls Tryz.prog 31 #[.agg #[.bool g.re.n, .string (bstr g.re.x), .int .i64 g.re.e, .bool g.im.n, .string (bstr g.im.x), .int .i64 g.im.e, .int .i64 e, .int .i64 a, .int .i64 d], .int .i64 c, .int .i64 r] w fun r' w' => r' = .returned (.tuple #[.agg #[.bool (sB (vM g.re (2 * c - a) (e - 1)) (vM g.im (d - 2 * r - 2) (e - 1)) e).1.l.n, .string (bstr (sB (vM g.re (2 * c - a) (e - 1)) (vM g.im (d - 2 * r - 2) (e - 1)) e).1.l.x), .int .i64 (sB (vM g.re (2 * c - a) (e - 1)) (vM g.im (d - 2 * r - 2) (e - 1)) e).1.l.e, .bool (sB (vM g.re (2 * c - a) (e - 1)) (vM g.im (d - 2 * r - 2) (e - 1)) e).1.b.n, .string (bstr (sB (vM g.re (2 * c - a) (e - 1)) (vM g.im (d - 2 * r - 2) (e - 1)) e).1.b.x), .int .i64 (sB (vM g.re (2 * c - a) (e - 1)) (vM g.im (d - 2 * r - 2) (e - 1)) e).1.b.e, .int .i64 (sB (vM g.re (2 * c - a) (e - 1)) (vM g.im (d - 2 * r - 2) (e - 1)) e).1.e], .int .i64 (sB (vM g.re (2 * c - a) (e - 1)) (vM g.im (d - 2 * r - 2) (e - 1)) e).2]) ∧ Below w.heap.size w w' := by
 by_cases hp : (vM g.re (2 * c - a) (e - 1)).2 = 0
 ·by_cases hq : (vM g.im (d - 2 * r - 2) (e - 1)).2 = 0
  ·rw [sB_yes hp hq]
   exact vcell_3 g e a d c r _ _ rfl rfl w hg e1 e2 a1 a2 d1 d2 c1 c2 r1 r2 hp hq hT
  ·rw [sB_no (fun k => hq k.2), show bstr SQ.zero.l.x = { data := #[] } from bstr_zero, show bstr SQ.zero.b.x = { data := #[] } from bstr_zero]
   have h := vcell_2 g e a d c r _ _ rfl rfl w hg e1 e2 a1 a2 d1 d2 c1 c2 r1 r2 hp hq hT
   rw [vM_err hq] at h
   exact h
 ·rw [sB_no (fun k => hp k.1), show bstr SQ.zero.l.x = { data := #[] } from bstr_zero, show bstr SQ.zero.b.x = { data := #[] } from bstr_zero]
  have h := vcell_1 g e a d c r _ rfl w hg e1 e2 a1 a2 d1 d2 c1 c2 r1 r2 hp hT
  rw [vM_err hp] at h
  exact h

end Go.Proofs.YtfbkopepkklkjaaGreatDoor
