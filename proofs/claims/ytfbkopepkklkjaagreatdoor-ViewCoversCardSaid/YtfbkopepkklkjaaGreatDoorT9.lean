/- The reference of layer 24: Corners, Parts. -/
import Derived.Test.YtfbkopepkklkjaaGreatDoorT7
import Derived.Test.YtfbkopepkklkjaaGreatDoorQ0
namespace Go.Proofs.YtfbkopepkklkjaaGreatDoor
open Go Go.RowKit Go.PlainAid Fil

section
variable {P : Program} {ops : Array Oper} {rest : List Oper} {op : Oper} {a : Act} {w : World} {Q : Exit → Act → World → Prop}
theorem run_build_row (w : World) (t e : TypeId) (n k : Nat) (Z C : Array Value) (ps : Array (Nat × Value)) (hz : ∀ w, (zeroValue t).run P w = .ok (.agg Z) w) (hu : P.underlying t = some (.array n e)) (hk : ∀ w, (sizeOf e).run P w = .ok k w)
  (hf : Instr.fill (fun i => some (i * k, k)) Z ps.toList = some C) : (Instr.build t ps).run P w = .ok (.agg C) w := by
 unfold Instr.build
 simp [Sem.run_bind, hz, run_underlying hu, hk, Value.cells, hf]
theorem wpList_build (hgd : op.guard = none) (t e : TypeId) (n k : Nat) (Z C : Array Value) (parts : Array (Nat × Operand)) (ps : List (Nat × Value)) (ho : op.op = .build t parts) (hp : (parts.map fun x => (x.1, a.eval x.2)).toList = ps)
  (hz : ∀ w, (zeroValue t).run P w = .ok (.agg Z) w) (hu : P.underlying t = some (.array n e)) (hk : ∀ w, (sizeOf e).run P w = .ok k w) (hf : Instr.fill (fun i => some (i * k, k)) Z ps = some C)
  (h : wpList P ops Q rest (a.put op.dst (.agg C)) w) : wpList P ops Q (op :: rest) a w :=
 wpList_val hgd (.agg C) (by
  have hb := run_build_row w t e n k Z C (parts.map fun x => (x.1, a.eval x.2)) hz hu hk (by rw [hp]; exact hf)
  unfold execOp
  rw [ho]
  simp only [Sem.run_bind, hb, Result.andThen_ok, Sem.run_pure]) h
end

set_option maxRecDepth 100000 in
set_option maxHeartbeats 8000000 in
theorem rcorners_1 (l : DY) (b : DY) (e : Int) (p : DY) (q : DY) (E_p : (vM l 1 e).1 = p) (E_q : (vM b 1 e).1 = q) (w : World) (ok_l : l.ok) (ok_b : b.ok) (e1 : -4096 ≤ e) (e2 : e ≤ 4096) (hp : ¬ (vM l 1 e).2 = 0) :
  Calls Tryz.prog 13 #[.agg #[.bool l.n, .string (bstr l.x), .int .i64 l.e, .bool b.n, .string (bstr b.x), .int .i64 b.e, .int .i64 e]] w fun r w' => r = .returned (.tuple #[.agg #[.bool false, .string { data := #[] }, .int .i64 0, .bool false, .string { data := #[] }, .int .i64 0, .bool false, .string { data := #[] }, .int .i64 0, .bool false, .string { data := #[] }, .int .i64 0, .bool false, .string { data := #[] }, .int .i64 0, .bool false, .string { data := #[] }, .int .i64 0, .bool false, .string { data := #[] }, .int .i64 0, .bool false, .string { data := #[] }, .int .i64 0], .int .i64 4]) ∧ Below w.heap.size w w' := by
 have h1 := fun W => redges_1 l b e _ _ rfl rfl W ok_l ok_b e1 e2 hp
 rw [E_p] at h1
 rw [E_q] at h1
 clear E_p E_q ok_l ok_b
 obtain ⟨ln, lX, le⟩ := l
 obtain ⟨bn, bX, be⟩ := b
 obtain ⟨pn, pX, pe⟩ := p
 obtain ⟨qn, qX, qe⟩ := q
 dsimp only at *
 generalize bstr lX = lS at *
 generalize bstr bX = bS at *
 generalize bstr pX = pS at *
 generalize bstr qX = qS at *
 clear hp e1 e2
 go_enter Tryz.func13, Tryz.ntmps13
 have B0 := Below.refl w.heap.size w
 have F1 := Blk.put (w) #[.bool ln, .string lS, .int .i64 le, .bool bn, .string bS, .int .i64 be, .int .i64 e] 26
 replace B0 := B0.alloc B0.size (.cells #[.bool ln, .string lS, .int .i64 le, .bool bn, .string bS, .int .i64 be, .int .i64 e] 26)
 have q_w_F2 : Hid (w.heap.size ≤ w.heap.size + 1) := Lib.hid (by omega)
 replace F1 := F1.allocd (.cells #[.bool false, .string { data := #[] }, .int .i64 0, .bool false, .string { data := #[] }, .int .i64 0, .bool false, .string { data := #[] }, .int .i64 0, .bool false, .string { data := #[] }, .int .i64 0, .bool false, .string { data := #[] }, .int .i64 0, .bool false, .string { data := #[] }, .int .i64 0, .bool false, .string { data := #[] }, .int .i64 0, .bool false, .string { data := #[] }, .int .i64 0] 29)
 have F2 := Blk.put ((w).alloc (.cells #[.bool ln, .string lS, .int .i64 le, .bool bn, .string bS, .int .i64 be, .int .i64 e] 26)) #[.bool false, .string { data := #[] }, .int .i64 0, .bool false, .string { data := #[] }, .int .i64 0, .bool false, .string { data := #[] }, .int .i64 0, .bool false, .string { data := #[] }, .int .i64 0, .bool false, .string { data := #[] }, .int .i64 0, .bool false, .string { data := #[] }, .int .i64 0, .bool false, .string { data := #[] }, .int .i64 0, .bool false, .string { data := #[] }, .int .i64 0] 29
 rw [show ((w).alloc (.cells #[.bool ln, .string lS, .int .i64 le, .bool bn, .string bS, .int .i64 be, .int .i64 e] 26)).heap.size = w.heap.size + 1 by simp] at F2
 replace B0 := B0.alloc B0.size (.cells #[.bool false, .string { data := #[] }, .int .i64 0, .bool false, .string { data := #[] }, .int .i64 0, .bool false, .string { data := #[] }, .int .i64 0, .bool false, .string { data := #[] }, .int .i64 0, .bool false, .string { data := #[] }, .int .i64 0, .bool false, .string { data := #[] }, .int .i64 0, .bool false, .string { data := #[] }, .int .i64 0, .bool false, .string { data := #[] }, .int .i64 0] 29)
 obtain ⟨xF10_0, xF10_1, xF10_2, xF10_3, xF10_4, xF10_5, xF10_6⟩ := F1.ce7
 go_wp2_with fail
 (with_reducible refine (h1 _).mono ?_)
 rintro r w1 ⟨rfl, hb1⟩
 clear xF10_0 xF10_1 xF10_2 xF10_3 xF10_4 xF10_5 xF10_6
 replace F1 := F1.keep hb1
 replace F2 := F2.keep hb1
 replace B0 := B0.trans (hb1.mono B0.size)
 clear hb1
 clear F1
 replace F2 := F2.allocd (.cells #[.bool pn, .string pS, .int .i64 pe] 24)
 replace B0 := B0.alloc B0.size (.cells #[.bool pn, .string pS, .int .i64 pe] 24)
 replace F2 := F2.allocd (.cells #[.bool qn, .string qS, .int .i64 qe] 24)
 replace B0 := B0.alloc B0.size (.cells #[.bool qn, .string qS, .int .i64 qe] 24)
 go_upto_region 3 with fail
 refine wp_region_lit ?_
 refine wpList_zero rfl _ _ _ _ _ rfl Tryz.zeroValue29 Tryz.underlying29 Tryz.sizeOf28 ?_
 (try dsimp only [Act.put]); (try go_frame)
 refine wpList_move rfl _ (.inl rfl) (.int .i64 4) rfl ?_
 (try dsimp only [Act.put]); (try go_frame)
 refine wpList_store_row rfl _ _ _ rfl (w.heap.size + 1) _ _ rfl rfl F2 (by kernel_rfl) rfl (by simp [Value.oneCell']) ?_
 (try dsimp only [Act.put]); (try go_frame)
 replace F2 := F2.inRow #[.bool false, .string { data := #[] }, .int .i64 0, .bool false, .string { data := #[] }, .int .i64 0, .bool false, .string { data := #[] }, .int .i64 0, .bool false, .string { data := #[] }, .int .i64 0, .bool false, .string { data := #[] }, .int .i64 0, .bool false, .string { data := #[] }, .int .i64 0, .bool false, .string { data := #[] }, .int .i64 0, .bool false, .string { data := #[] }, .int .i64 0]
 replace B0 := below_setRow B0 q_w_F2.out #[.bool false, .string { data := #[] }, .int .i64 0, .bool false, .string { data := #[] }, .int .i64 0, .bool false, .string { data := #[] }, .int .i64 0, .bool false, .string { data := #[] }, .int .i64 0, .bool false, .string { data := #[] }, .int .i64 0, .bool false, .string { data := #[] }, .int .i64 0, .bool false, .string { data := #[] }, .int .i64 0, .bool false, .string { data := #[] }, .int .i64 0]
 refine wpList_move rfl _ (.inr rfl) (.int .i64 4) rfl ?_
 (try dsimp only [Act.put]); (try go_frame)
 go_wp2
 exact bodyPost_ret (results_row Tryz.results13 (w.heap.size + 1) _ _ _ _ rfl rfl F2 Tryz.underlying29 (by kernel_rfl)) rfl ⟨rfl, B0⟩

set_option maxRecDepth 100000 in
set_option maxHeartbeats 8000000 in
theorem rcorners_2 (l : DY) (b : DY) (e : Int) (p : DY) (q : DY) (E_p : (vM l 1 e).1 = p) (E_q : (vM b 1 e).1 = q) (w : World) (ok_l : l.ok) (ok_b : b.ok) (e1 : -4096 ≤ e) (e2 : e ≤ 4096) (hp : (vM l 1 e).2 = 0) (hq : ¬ (vM b 1 e).2 = 0) :
  Calls Tryz.prog 13 #[.agg #[.bool l.n, .string (bstr l.x), .int .i64 l.e, .bool b.n, .string (bstr b.x), .int .i64 b.e, .int .i64 e]] w fun r w' => r = .returned (.tuple #[.agg #[.bool false, .string { data := #[] }, .int .i64 0, .bool false, .string { data := #[] }, .int .i64 0, .bool false, .string { data := #[] }, .int .i64 0, .bool false, .string { data := #[] }, .int .i64 0, .bool false, .string { data := #[] }, .int .i64 0, .bool false, .string { data := #[] }, .int .i64 0, .bool false, .string { data := #[] }, .int .i64 0, .bool false, .string { data := #[] }, .int .i64 0], .int .i64 4]) ∧ Below w.heap.size w w' := by
 have h1 := fun W => redges_2 l b e _ _ rfl rfl W ok_l ok_b e1 e2 hp hq
 rw [E_p] at h1
 rw [E_q] at h1
 clear E_p E_q ok_l ok_b
 obtain ⟨ln, lX, le⟩ := l
 obtain ⟨bn, bX, be⟩ := b
 obtain ⟨pn, pX, pe⟩ := p
 obtain ⟨qn, qX, qe⟩ := q
 dsimp only at *
 generalize bstr lX = lS at *
 generalize bstr bX = bS at *
 generalize bstr pX = pS at *
 generalize bstr qX = qS at *
 clear hp e1 e2 hq
 go_enter Tryz.func13, Tryz.ntmps13
 have B0 := Below.refl w.heap.size w
 have F1 := Blk.put (w) #[.bool ln, .string lS, .int .i64 le, .bool bn, .string bS, .int .i64 be, .int .i64 e] 26
 replace B0 := B0.alloc B0.size (.cells #[.bool ln, .string lS, .int .i64 le, .bool bn, .string bS, .int .i64 be, .int .i64 e] 26)
 have q_w_F2 : Hid (w.heap.size ≤ w.heap.size + 1) := Lib.hid (by omega)
 replace F1 := F1.allocd (.cells #[.bool false, .string { data := #[] }, .int .i64 0, .bool false, .string { data := #[] }, .int .i64 0, .bool false, .string { data := #[] }, .int .i64 0, .bool false, .string { data := #[] }, .int .i64 0, .bool false, .string { data := #[] }, .int .i64 0, .bool false, .string { data := #[] }, .int .i64 0, .bool false, .string { data := #[] }, .int .i64 0, .bool false, .string { data := #[] }, .int .i64 0] 29)
 have F2 := Blk.put ((w).alloc (.cells #[.bool ln, .string lS, .int .i64 le, .bool bn, .string bS, .int .i64 be, .int .i64 e] 26)) #[.bool false, .string { data := #[] }, .int .i64 0, .bool false, .string { data := #[] }, .int .i64 0, .bool false, .string { data := #[] }, .int .i64 0, .bool false, .string { data := #[] }, .int .i64 0, .bool false, .string { data := #[] }, .int .i64 0, .bool false, .string { data := #[] }, .int .i64 0, .bool false, .string { data := #[] }, .int .i64 0, .bool false, .string { data := #[] }, .int .i64 0] 29
 rw [show ((w).alloc (.cells #[.bool ln, .string lS, .int .i64 le, .bool bn, .string bS, .int .i64 be, .int .i64 e] 26)).heap.size = w.heap.size + 1 by simp] at F2
 replace B0 := B0.alloc B0.size (.cells #[.bool false, .string { data := #[] }, .int .i64 0, .bool false, .string { data := #[] }, .int .i64 0, .bool false, .string { data := #[] }, .int .i64 0, .bool false, .string { data := #[] }, .int .i64 0, .bool false, .string { data := #[] }, .int .i64 0, .bool false, .string { data := #[] }, .int .i64 0, .bool false, .string { data := #[] }, .int .i64 0, .bool false, .string { data := #[] }, .int .i64 0] 29)
 obtain ⟨xF10_0, xF10_1, xF10_2, xF10_3, xF10_4, xF10_5, xF10_6⟩ := F1.ce7
 go_wp2_with fail
 (with_reducible refine (h1 _).mono ?_)
 rintro r w1 ⟨rfl, hb1⟩
 clear xF10_0 xF10_1 xF10_2 xF10_3 xF10_4 xF10_5 xF10_6
 replace F1 := F1.keep hb1
 replace F2 := F2.keep hb1
 replace B0 := B0.trans (hb1.mono B0.size)
 clear hb1
 clear F1
 replace F2 := F2.allocd (.cells #[.bool pn, .string pS, .int .i64 pe] 24)
 replace B0 := B0.alloc B0.size (.cells #[.bool pn, .string pS, .int .i64 pe] 24)
 replace F2 := F2.allocd (.cells #[.bool qn, .string qS, .int .i64 qe] 24)
 replace B0 := B0.alloc B0.size (.cells #[.bool qn, .string qS, .int .i64 qe] 24)
 go_upto_region 3 with fail
 refine wp_region_lit ?_
 refine wpList_zero rfl _ _ _ _ _ rfl Tryz.zeroValue29 Tryz.underlying29 Tryz.sizeOf28 ?_
 (try dsimp only [Act.put]); (try go_frame)
 refine wpList_move rfl _ (.inl rfl) (.int .i64 4) rfl ?_
 (try dsimp only [Act.put]); (try go_frame)
 refine wpList_store_row rfl _ _ _ rfl (w.heap.size + 1) _ _ rfl rfl F2 (by kernel_rfl) rfl (by simp [Value.oneCell']) ?_
 (try dsimp only [Act.put]); (try go_frame)
 replace F2 := F2.inRow #[.bool false, .string { data := #[] }, .int .i64 0, .bool false, .string { data := #[] }, .int .i64 0, .bool false, .string { data := #[] }, .int .i64 0, .bool false, .string { data := #[] }, .int .i64 0, .bool false, .string { data := #[] }, .int .i64 0, .bool false, .string { data := #[] }, .int .i64 0, .bool false, .string { data := #[] }, .int .i64 0, .bool false, .string { data := #[] }, .int .i64 0]
 replace B0 := below_setRow B0 q_w_F2.out #[.bool false, .string { data := #[] }, .int .i64 0, .bool false, .string { data := #[] }, .int .i64 0, .bool false, .string { data := #[] }, .int .i64 0, .bool false, .string { data := #[] }, .int .i64 0, .bool false, .string { data := #[] }, .int .i64 0, .bool false, .string { data := #[] }, .int .i64 0, .bool false, .string { data := #[] }, .int .i64 0, .bool false, .string { data := #[] }, .int .i64 0]
 refine wpList_move rfl _ (.inr rfl) (.int .i64 4) rfl ?_
 (try dsimp only [Act.put]); (try go_frame)
 go_wp2
 exact bodyPost_ret (results_row Tryz.results13 (w.heap.size + 1) _ _ _ _ rfl rfl F2 Tryz.underlying29 (by kernel_rfl)) rfl ⟨rfl, B0⟩

set_option maxRecDepth 100000 in
set_option maxHeartbeats 8000000 in
theorem rcorners_3 (l : DY) (b : DY) (e : Int) (p : DY) (q : DY) (E_p : (vM l 1 e).1 = p) (E_q : (vM b 1 e).1 = q) (w : World) (ok_l : l.ok) (ok_b : b.ok) (e1 : -4096 ≤ e) (e2 : e ≤ 4096) (hp : (vM l 1 e).2 = 0) (hq : (vM b 1 e).2 = 0) :
  Calls Tryz.prog 13 #[.agg #[.bool l.n, .string (bstr l.x), .int .i64 l.e, .bool b.n, .string (bstr b.x), .int .i64 b.e, .int .i64 e]] w fun r w' => r = .returned (.tuple #[.agg #[.bool l.n, .string (bstr l.x), .int .i64 l.e, .bool b.n, .string (bstr b.x), .int .i64 b.e, .bool p.n, .string (bstr p.x), .int .i64 p.e, .bool b.n, .string (bstr b.x), .int .i64 b.e, .bool l.n, .string (bstr l.x), .int .i64 l.e, .bool q.n, .string (bstr q.x), .int .i64 q.e, .bool p.n, .string (bstr p.x), .int .i64 p.e, .bool q.n, .string (bstr q.x), .int .i64 q.e], .int .i64 0]) ∧ Below w.heap.size w w' := by
 have h1 := fun W => redges_3 l b e _ _ rfl rfl W ok_l ok_b e1 e2 hp hq
 rw [E_p] at h1
 rw [E_q] at h1
 clear E_p E_q ok_l ok_b
 obtain ⟨ln, lX, le⟩ := l
 obtain ⟨bn, bX, be⟩ := b
 obtain ⟨pn, pX, pe⟩ := p
 obtain ⟨qn, qX, qe⟩ := q
 dsimp only at *
 generalize bstr lX = lS at *
 generalize bstr bX = bS at *
 generalize bstr pX = pS at *
 generalize bstr qX = qS at *
 clear hp e1 e2 hq
 go_enter Tryz.func13, Tryz.ntmps13
 have B0 := Below.refl w.heap.size w
 have F1 := Blk.put (w) #[.bool ln, .string lS, .int .i64 le, .bool bn, .string bS, .int .i64 be, .int .i64 e] 26
 replace B0 := B0.alloc B0.size (.cells #[.bool ln, .string lS, .int .i64 le, .bool bn, .string bS, .int .i64 be, .int .i64 e] 26)
 have q_F1_F2 := Lib.hid (show w.heap.size < w.heap.size + 1 by omega)
 have q_w_F2 : Hid (w.heap.size ≤ w.heap.size + 1) := Lib.hid (by omega)
 replace F1 := F1.allocd (.cells #[.bool false, .string { data := #[] }, .int .i64 0, .bool false, .string { data := #[] }, .int .i64 0, .bool false, .string { data := #[] }, .int .i64 0, .bool false, .string { data := #[] }, .int .i64 0, .bool false, .string { data := #[] }, .int .i64 0, .bool false, .string { data := #[] }, .int .i64 0, .bool false, .string { data := #[] }, .int .i64 0, .bool false, .string { data := #[] }, .int .i64 0] 29)
 have F2 := Blk.put ((w).alloc (.cells #[.bool ln, .string lS, .int .i64 le, .bool bn, .string bS, .int .i64 be, .int .i64 e] 26)) #[.bool false, .string { data := #[] }, .int .i64 0, .bool false, .string { data := #[] }, .int .i64 0, .bool false, .string { data := #[] }, .int .i64 0, .bool false, .string { data := #[] }, .int .i64 0, .bool false, .string { data := #[] }, .int .i64 0, .bool false, .string { data := #[] }, .int .i64 0, .bool false, .string { data := #[] }, .int .i64 0, .bool false, .string { data := #[] }, .int .i64 0] 29
 rw [show ((w).alloc (.cells #[.bool ln, .string lS, .int .i64 le, .bool bn, .string bS, .int .i64 be, .int .i64 e] 26)).heap.size = w.heap.size + 1 by simp] at F2
 replace B0 := B0.alloc B0.size (.cells #[.bool false, .string { data := #[] }, .int .i64 0, .bool false, .string { data := #[] }, .int .i64 0, .bool false, .string { data := #[] }, .int .i64 0, .bool false, .string { data := #[] }, .int .i64 0, .bool false, .string { data := #[] }, .int .i64 0, .bool false, .string { data := #[] }, .int .i64 0, .bool false, .string { data := #[] }, .int .i64 0, .bool false, .string { data := #[] }, .int .i64 0] 29)
 obtain ⟨xF10_0, xF10_1, xF10_2, xF10_3, xF10_4, xF10_5, xF10_6⟩ := F1.ce7
 go_wp2_with fail
 (with_reducible refine (h1 _).mono ?_)
 rintro r w1 ⟨rfl, hb1⟩
 clear xF10_0 xF10_1 xF10_2 xF10_3 xF10_4 xF10_5 xF10_6
 replace F1 := F1.keep hb1
 replace F2 := F2.keep hb1
 replace B0 := B0.trans (hb1.mono B0.size)
 clear hb1
 have q_F2_F4 : Hid (w.heap.size + 1 < w1.heap.size) := Lib.hid (by have := F2.lt; first | exact this | omega | (simp; done) | simpa using this)
 replace F1 := F1.allocd (.cells #[.bool pn, .string pS, .int .i64 pe] 24)
 replace F2 := F2.allocd (.cells #[.bool pn, .string pS, .int .i64 pe] 24)
 have F4 := Blk.put (w1) #[.bool pn, .string pS, .int .i64 pe] 24
 replace B0 := B0.alloc B0.size (.cells #[.bool pn, .string pS, .int .i64 pe] 24)
 have q_F2_F5 : Hid (w.heap.size + 1 < w1.heap.size + 1) := Lib.hid (by have := F2.lt; first | exact this | omega | (simp; done) | simpa using this)
 replace F1 := F1.allocd (.cells #[.bool qn, .string qS, .int .i64 qe] 24)
 replace F2 := F2.allocd (.cells #[.bool qn, .string qS, .int .i64 qe] 24)
 replace F4 := F4.allocd (.cells #[.bool qn, .string qS, .int .i64 qe] 24)
 have F5 := Blk.put ((w1).alloc (.cells #[.bool pn, .string pS, .int .i64 pe] 24)) #[.bool qn, .string qS, .int .i64 qe] 24
 rw [show ((w1).alloc (.cells #[.bool pn, .string pS, .int .i64 pe] 24)).heap.size = w1.heap.size + 1 by simp] at F5
 replace B0 := B0.alloc B0.size (.cells #[.bool qn, .string qS, .int .i64 qe] 24)
 go_upto_region 4 with fail
 refine wp_region_lit ?_
 refine wpList_val rfl (.pointer (some ⟨w.heap.size, 0, none⟩)) (by go_simp; try with_reducible rfl) ?_
 (try dsimp only [Act.put]); (try go_frame)
 obtain ⟨xF11_0, xF11_1, xF11_2, xF11_3, xF11_4, xF11_5, xF11_6⟩ := F1.ce7
 refine wpList_val rfl (.agg #[.bool ln, .string lS, .int .i64 le]) (by go_simp; try with_reducible rfl) ?_
 (try dsimp only [Act.put]); (try go_frame)
 refine wpList_val rfl (.pointer (some ⟨w.heap.size, 3, none⟩)) (by go_simp; try with_reducible rfl) ?_
 (try dsimp only [Act.put]); (try go_frame)
 refine wpList_val rfl (.agg #[.bool bn, .string bS, .int .i64 be]) (by go_simp; try with_reducible rfl) ?_
 (try dsimp only [Act.put]); (try go_frame)
 refine wpList_val rfl (.agg #[.bool ln, .string lS, .int .i64 le, .bool bn, .string bS, .int .i64 be]) (by go_simp; try with_reducible rfl) ?_
 (try dsimp only [Act.put]); (try go_frame)
 obtain ⟨xF41_0, xF41_1, xF41_2⟩ := F4.ce3
 refine wpList_val rfl (.agg #[.bool pn, .string pS, .int .i64 pe]) (by go_simp; try with_reducible rfl) ?_
 (try dsimp only [Act.put]); (try go_frame)
 refine wpList_val rfl (.pointer (some ⟨w.heap.size, 3, none⟩)) (by go_simp; try with_reducible rfl) ?_
 (try dsimp only [Act.put]); (try go_frame)
 refine wpList_val rfl (.agg #[.bool bn, .string bS, .int .i64 be]) (by go_simp; try with_reducible rfl) ?_
 (try dsimp only [Act.put]); (try go_frame)
 refine wpList_val rfl (.agg #[.bool pn, .string pS, .int .i64 pe, .bool bn, .string bS, .int .i64 be]) (by go_simp; try with_reducible rfl) ?_
 (try dsimp only [Act.put]); (try go_frame)
 refine wpList_val rfl (.pointer (some ⟨w.heap.size, 0, none⟩)) (by go_simp; try with_reducible rfl) ?_
 (try dsimp only [Act.put]); (try go_frame)
 refine wpList_val rfl (.agg #[.bool ln, .string lS, .int .i64 le]) (by go_simp; try with_reducible rfl) ?_
 (try dsimp only [Act.put]); (try go_frame)
 obtain ⟨xF51_0, xF51_1, xF51_2⟩ := F5.ce3
 refine wpList_val rfl (.agg #[.bool qn, .string qS, .int .i64 qe]) (by go_simp; try with_reducible rfl) ?_
 (try dsimp only [Act.put]); (try go_frame)
 refine wpList_val rfl (.agg #[.bool ln, .string lS, .int .i64 le, .bool qn, .string qS, .int .i64 qe]) (by go_simp; try with_reducible rfl) ?_
 (try dsimp only [Act.put]); (try go_frame)
 refine wpList_val rfl (.agg #[.bool pn, .string pS, .int .i64 pe]) (by go_simp; try with_reducible rfl) ?_
 (try dsimp only [Act.put]); (try go_frame)
 refine wpList_val rfl (.agg #[.bool qn, .string qS, .int .i64 qe]) (by go_simp; try with_reducible rfl) ?_
 (try dsimp only [Act.put]); (try go_frame)
 refine wpList_val rfl (.agg #[.bool pn, .string pS, .int .i64 pe, .bool qn, .string qS, .int .i64 qe]) (by go_simp; try with_reducible rfl) ?_
 (try dsimp only [Act.put]); (try go_frame)
 refine wpList_build rfl _ _ _ _ _ #[.bool ln, .string lS, .int .i64 le, .bool bn, .string bS, .int .i64 be, .bool pn, .string pS, .int .i64 pe, .bool bn, .string bS, .int .i64 be, .bool ln, .string lS, .int .i64 le, .bool qn, .string qS, .int .i64 qe, .bool pn, .string pS, .int .i64 pe, .bool qn, .string qS, .int .i64 qe] _ [(0, .agg #[.bool ln, .string lS, .int .i64 le, .bool bn, .string bS, .int .i64 be]), (1, .agg #[.bool pn, .string pS, .int .i64 pe, .bool bn, .string bS, .int .i64 be]), (2, .agg #[.bool ln, .string lS, .int .i64 le, .bool qn, .string qS, .int .i64 qe]), (3, .agg #[.bool pn, .string pS, .int .i64 pe, .bool qn, .string qS, .int .i64 qe])] rfl (by go_simp; try with_reducible rfl) Tryz.zeroValue29 Tryz.underlying29 Tryz.sizeOf28 (by kernel_rfl) ?_
 (try dsimp only [Act.put]); (try go_frame)
 refine wpList_store_row rfl _ _ _ rfl (w.heap.size + 1) _ _ rfl rfl F2 (by kernel_rfl) rfl (by simp [Value.oneCell']) ?_
 (try dsimp only [Act.put]); (try go_frame)
 replace F1 := F1.outRow #[.bool ln, .string lS, .int .i64 le, .bool bn, .string bS, .int .i64 be, .bool pn, .string pS, .int .i64 pe, .bool bn, .string bS, .int .i64 be, .bool ln, .string lS, .int .i64 le, .bool qn, .string qS, .int .i64 qe, .bool pn, .string pS, .int .i64 pe, .bool qn, .string qS, .int .i64 qe] (Nat.ne_of_lt q_F1_F2.out)
 replace F4 := F4.outRow #[.bool ln, .string lS, .int .i64 le, .bool bn, .string bS, .int .i64 be, .bool pn, .string pS, .int .i64 pe, .bool bn, .string bS, .int .i64 be, .bool ln, .string lS, .int .i64 le, .bool qn, .string qS, .int .i64 qe, .bool pn, .string pS, .int .i64 pe, .bool qn, .string qS, .int .i64 qe] (Nat.ne_of_gt q_F2_F4.out)
 replace F5 := F5.outRow #[.bool ln, .string lS, .int .i64 le, .bool bn, .string bS, .int .i64 be, .bool pn, .string pS, .int .i64 pe, .bool bn, .string bS, .int .i64 be, .bool ln, .string lS, .int .i64 le, .bool qn, .string qS, .int .i64 qe, .bool pn, .string pS, .int .i64 pe, .bool qn, .string qS, .int .i64 qe] (Nat.ne_of_gt q_F2_F5.out)
 replace F2 := F2.inRow #[.bool ln, .string lS, .int .i64 le, .bool bn, .string bS, .int .i64 be, .bool pn, .string pS, .int .i64 pe, .bool bn, .string bS, .int .i64 be, .bool ln, .string lS, .int .i64 le, .bool qn, .string qS, .int .i64 qe, .bool pn, .string pS, .int .i64 pe, .bool qn, .string qS, .int .i64 qe]
 replace B0 := below_setRow B0 q_w_F2.out #[.bool ln, .string lS, .int .i64 le, .bool bn, .string bS, .int .i64 be, .bool pn, .string pS, .int .i64 pe, .bool bn, .string bS, .int .i64 be, .bool ln, .string lS, .int .i64 le, .bool qn, .string qS, .int .i64 qe, .bool pn, .string pS, .int .i64 pe, .bool qn, .string qS, .int .i64 qe]
 refine wpList_move rfl _ (.inr rfl) (.int .i64 0) rfl ?_
 (try dsimp only [Act.put]); (try go_frame)
 go_wp2
 exact bodyPost_ret (results_row Tryz.results13 (w.heap.size + 1) _ _ _ _ rfl rfl F2 Tryz.underlying29 (by kernel_rfl)) rfl ⟨rfl, B0⟩

end Go.Proofs.YtfbkopepkklkjaaGreatDoor
