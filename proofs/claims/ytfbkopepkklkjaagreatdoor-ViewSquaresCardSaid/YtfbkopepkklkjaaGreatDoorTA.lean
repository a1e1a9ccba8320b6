/- Walks of the layer of Gausses, by a program (walk.py): part TA. -/
import Derived.Test.YtfbkopepkklkjaaGreatDoorT9
namespace Go.Proofs.YtfbkopepkklkjaaGreatDoor
open Go Go.RowKit Go.PlainAid Fil

set_option maxRecDepth 100000 in
set_option maxHeartbeats 8000000 in
theorem rparts_low (l : DY) (b : DY) (w : World)  :
    Calls Tryz.prog 15 #[.agg #[.bool l.n, .string (bstr l.x), .int .i64 l.e, .bool b.n, .string (bstr b.x), .int .i64 b.e, .int .i64 (-4096)]] w fun r w' => r = .returned (.tuple #[.agg #[.bool false, .string { data := #[] }, .int .i64 0, .bool false, .string { data := #[] }, .int .i64 0, .int .i64 0, .bool false, .string { data := #[] }, .int .i64 0, .bool false, .string { data := #[] }, .int .i64 0, .int .i64 0, .bool false, .string { data := #[] }, .int .i64 0, .bool false, .string { data := #[] }, .int .i64 0, .int .i64 0, .bool false, .string { data := #[] }, .int .i64 0, .bool false, .string { data := #[] }, .int .i64 0, .int .i64 0], .int .i64 240]) ∧ Below w.heap.size w w' := by
  obtain ⟨ln, lX, le⟩ := l
  obtain ⟨bn, bX, be⟩ := b
  dsimp only at *
  generalize bstr lX = lS at *
  generalize bstr bX = bS at *
  go_enter Tryz.func15, Tryz.ntmps15
  have B0 := Below.refl w.heap.size w
  have F1 := Blk.put (w) #[.bool ln, .string lS, .int .i64 le, .bool bn, .string bS, .int .i64 be, .int .i64 (-4096)] 26
  replace B0 := B0.alloc B0.size (.cells #[.bool ln, .string lS, .int .i64 le, .bool bn, .string bS, .int .i64 be, .int .i64 (-4096)] 26)
  have q_F1_F2 := Lib.hid (show w.heap.size < w.heap.size + 1 by omega)
  have q_w_F2 : Hid (w.heap.size ≤ w.heap.size + 1) := Lib.hid (by omega)
  replace F1 := F1.allocd (.cells #[.bool false, .string { data := #[] }, .int .i64 0, .bool false, .string { data := #[] }, .int .i64 0, .int .i64 0, .bool false, .string { data := #[] }, .int .i64 0, .bool false, .string { data := #[] }, .int .i64 0, .int .i64 0, .bool false, .string { data := #[] }, .int .i64 0, .bool false, .string { data := #[] }, .int .i64 0, .int .i64 0, .bool false, .string { data := #[] }, .int .i64 0, .bool false, .string { data := #[] }, .int .i64 0, .int .i64 0] 37)
  have F2 := Blk.put ((w).alloc (.cells #[.bool ln, .string lS, .int .i64 le, .bool bn, .string bS, .int .i64 be, .int .i64 (-4096)] 26)) #[.bool false, .string { data := #[] }, .int .i64 0, .bool false, .string { data := #[] }, .int .i64 0, .int .i64 0, .bool false, .string { data := #[] }, .int .i64 0, .bool false, .string { data := #[] }, .int .i64 0, .int .i64 0, .bool false, .string { data := #[] }, .int .i64 0, .bool false, .string { data := #[] }, .int .i64 0, .int .i64 0, .bool false, .string { data := #[] }, .int .i64 0, .bool false, .string { data := #[] }, .int .i64 0, .int .i64 0] 37
  rw [show ((w).alloc (.cells #[.bool ln, .string lS, .int .i64 le, .bool bn, .string bS, .int .i64 be, .int .i64 (-4096)] 26)).heap.size = w.heap.size + 1 by simp] at F2
  replace B0 := B0.alloc B0.size (.cells #[.bool false, .string { data := #[] }, .int .i64 0, .bool false, .string { data := #[] }, .int .i64 0, .int .i64 0, .bool false, .string { data := #[] }, .int .i64 0, .bool false, .string { data := #[] }, .int .i64 0, .int .i64 0, .bool false, .string { data := #[] }, .int .i64 0, .bool false, .string { data := #[] }, .int .i64 0, .int .i64 0, .bool false, .string { data := #[] }, .int .i64 0, .bool false, .string { data := #[] }, .int .i64 0, .int .i64 0] 37)
  obtain ⟨xF10_0, xF10_1, xF10_2, xF10_3, xF10_4, xF10_5, xF10_6⟩ := F1.ce7
  go_upto_region 2 with fail
  clear xF10_0 xF10_1 xF10_2 xF10_3 xF10_4 xF10_5 xF10_6
  refine wp_region_lit ?_
  refine wpList_zero rfl _ _ _ _ _ rfl Tryz.zeroValue37 Tryz.underlying37 Tryz.sizeOf26 ?_
  (try dsimp only [Act.put]); (try go_frame)
  refine wpList_store_row rfl _ _ _ rfl (w.heap.size + 1) _ _ rfl rfl F2 (by kernel_rfl) rfl (by simp [Value.oneCell']) ?_
  (try dsimp only [Act.put]); (try go_frame)
  replace F1 := F1.outRow #[.bool false, .string { data := #[] }, .int .i64 0, .bool false, .string { data := #[] }, .int .i64 0, .int .i64 0, .bool false, .string { data := #[] }, .int .i64 0, .bool false, .string { data := #[] }, .int .i64 0, .int .i64 0, .bool false, .string { data := #[] }, .int .i64 0, .bool false, .string { data := #[] }, .int .i64 0, .int .i64 0, .bool false, .string { data := #[] }, .int .i64 0, .bool false, .string { data := #[] }, .int .i64 0, .int .i64 0] (Nat.ne_of_lt q_F1_F2.out)
  replace F2 := F2.inRow #[.bool false, .string { data := #[] }, .int .i64 0, .bool false, .string { data := #[] }, .int .i64 0, .int .i64 0, .bool false, .string { data := #[] }, .int .i64 0, .bool false, .string { data := #[] }, .int .i64 0, .int .i64 0, .bool false, .string { data := #[] }, .int .i64 0, .bool false, .string { data := #[] }, .int .i64 0, .int .i64 0, .bool false, .string { data := #[] }, .int .i64 0, .bool false, .string { data := #[] }, .int .i64 0, .int .i64 0]
  replace B0 := below_setRow B0 q_w_F2.out #[.bool false, .string { data := #[] }, .int .i64 0, .bool false, .string { data := #[] }, .int .i64 0, .int .i64 0, .bool false, .string { data := #[] }, .int .i64 0, .bool false, .string { data := #[] }, .int .i64 0, .int .i64 0, .bool false, .string { data := #[] }, .int .i64 0, .bool false, .string { data := #[] }, .int .i64 0, .int .i64 0, .bool false, .string { data := #[] }, .int .i64 0, .bool false, .string { data := #[] }, .int .i64 0, .int .i64 0]
  refine wpList_move rfl _ (.inr rfl) (.int .i64 240) rfl ?_
  (try dsimp only [Act.put]); (try go_frame)
  go_wp2
  exact bodyPost_ret (results_row Tryz.results15 (w.heap.size + 1) _ _ _ _ rfl rfl F2 Tryz.underlying37 (by kernel_rfl)) rfl ⟨rfl, B0⟩

set_option maxRecDepth 100000 in
set_option maxHeartbeats 8000000 in
theorem rparts_1 (l : DY) (b : DY) (e : Int) (w : World) (ok_l : l.ok) (ok_b : b.ok) (e1 : -4096 < e) (e2 : e ≤ 4096) (hp : ¬ (vM l 1 (e - 1)).2 = 0) :
    Calls Tryz.prog 15 #[.agg #[.bool l.n, .string (bstr l.x), .int .i64 l.e, .bool b.n, .string (bstr b.x), .int .i64 b.e, .int .i64 e]] w fun r w' => r = .returned (.tuple #[.agg #[.bool false, .string { data := #[] }, .int .i64 0, .bool false, .string { data := #[] }, .int .i64 0, .int .i64 0, .bool false, .string { data := #[] }, .int .i64 0, .bool false, .string { data := #[] }, .int .i64 0, .int .i64 0, .bool false, .string { data := #[] }, .int .i64 0, .bool false, .string { data := #[] }, .int .i64 0, .int .i64 0, .bool false, .string { data := #[] }, .int .i64 0, .bool false, .string { data := #[] }, .int .i64 0, .int .i64 0], .int .i64 4]) ∧ Below w.heap.size w w' := by
  have h1 := fun W => rmiddle_1 l b e _ _ rfl rfl W ok_l ok_b (by omega) e2 hp
  have he4 : ¬ e = -4096 := by omega
  have nf := decide_eq_false he4
  clear ok_l ok_b
  obtain ⟨ln, lX, le⟩ := l
  obtain ⟨bn, bX, be⟩ := b
  dsimp only at *
  generalize bstr lX = lS at *
  generalize bstr bX = bS at *
  clear hp
  go_enter Tryz.func15, Tryz.ntmps15
  have B0 := Below.refl w.heap.size w
  have F1 := Blk.put (w) #[.bool ln, .string lS, .int .i64 le, .bool bn, .string bS, .int .i64 be, .int .i64 e] 26
  replace B0 := B0.alloc B0.size (.cells #[.bool ln, .string lS, .int .i64 le, .bool bn, .string bS, .int .i64 be, .int .i64 e] 26)
  have q_w_F2 : Hid (w.heap.size ≤ w.heap.size + 1) := Lib.hid (by omega)
  replace F1 := F1.allocd (.cells #[.bool false, .string { data := #[] }, .int .i64 0, .bool false, .string { data := #[] }, .int .i64 0, .int .i64 0, .bool false, .string { data := #[] }, .int .i64 0, .bool false, .string { data := #[] }, .int .i64 0, .int .i64 0, .bool false, .string { data := #[] }, .int .i64 0, .bool false, .string { data := #[] }, .int .i64 0, .int .i64 0, .bool false, .string { data := #[] }, .int .i64 0, .bool false, .string { data := #[] }, .int .i64 0, .int .i64 0] 37)
  have F2 := Blk.put ((w).alloc (.cells #[.bool ln, .string lS, .int .i64 le, .bool bn, .string bS, .int .i64 be, .int .i64 e] 26)) #[.bool false, .string { data := #[] }, .int .i64 0, .bool false, .string { data := #[] }, .int .i64 0, .int .i64 0, .bool false, .string { data := #[] }, .int .i64 0, .bool false, .string { data := #[] }, .int .i64 0, .int .i64 0, .bool false, .string { data := #[] }, .int .i64 0, .bool false, .string { data := #[] }, .int .i64 0, .int .i64 0, .bool false, .string { data := #[] }, .int .i64 0, .bool false, .string { data := #[] }, .int .i64 0, .int .i64 0] 37
  rw [show ((w).alloc (.cells #[.bool ln, .string lS, .int .i64 le, .bool bn, .string bS, .int .i64 be, .int .i64 e] 26)).heap.size = w.heap.size + 1 by simp] at F2
  replace B0 := B0.alloc B0.size (.cells #[.bool false, .string { data := #[] }, .int .i64 0, .bool false, .string { data := #[] }, .int .i64 0, .int .i64 0, .bool false, .string { data := #[] }, .int .i64 0, .bool false, .string { data := #[] }, .int .i64 0, .int .i64 0, .bool false, .string { data := #[] }, .int .i64 0, .bool false, .string { data := #[] }, .int .i64 0, .int .i64 0, .bool false, .string { data := #[] }, .int .i64 0, .bool false, .string { data := #[] }, .int .i64 0, .int .i64 0] 37)
  obtain ⟨xF10_0, xF10_1, xF10_2, xF10_3, xF10_4, xF10_5, xF10_6⟩ := F1.ce7
  go_wp2_with fail
  (with_reducible refine (h1 _).mono ?_)
  rintro r w1 ⟨rfl, hb1⟩
  clear xF10_0 xF10_1 xF10_2 xF10_3 xF10_4 xF10_5 xF10_6
  replace F1 := F1.keep hb1
  replace F2 := F2.keep hb1
  replace B0 := B0.trans (hb1.mono B0.size)
  clear hb1
  clear F1
  replace F2 := F2.allocd (.cells #[.bool false, .string { data := #[] }, .int .i64 0, .bool false, .string { data := #[] }, .int .i64 0] 28)
  replace B0 := B0.alloc B0.size (.cells #[.bool false, .string { data := #[] }, .int .i64 0, .bool false, .string { data := #[] }, .int .i64 0] 28)
  go_upto_region 5 with fail
  refine wp_region_lit ?_
  refine wpList_zero rfl _ _ _ _ _ rfl Tryz.zeroValue37 Tryz.underlying37 Tryz.sizeOf26 ?_
  (try dsimp only [Act.put]); (try go_frame)
  refine wpList_move rfl _ (.inl rfl) (.int .i64 4) rfl ?_
  (try dsimp only [Act.put]); (try go_frame)
  refine wpList_store_row rfl _ _ _ rfl (w.heap.size + 1) _ _ rfl rfl F2 (by kernel_rfl) rfl (by simp [Value.oneCell']) ?_
  (try dsimp only [Act.put]); (try go_frame)
  replace F2 := F2.inRow #[.bool false, .string { data := #[] }, .int .i64 0, .bool false, .string { data := #[] }, .int .i64 0, .int .i64 0, .bool false, .string { data := #[] }, .int .i64 0, .bool false, .string { data := #[] }, .int .i64 0, .int .i64 0, .bool false, .string { data := #[] }, .int .i64 0, .bool false, .string { data := #[] }, .int .i64 0, .int .i64 0, .bool false, .string { data := #[] }, .int .i64 0, .bool false, .string { data := #[] }, .int .i64 0, .int .i64 0]
  replace B0 := below_setRow B0 q_w_F2.out #[.bool false, .string { data := #[] }, .int .i64 0, .bool false, .string { data := #[] }, .int .i64 0, .int .i64 0, .bool false, .string { data := #[] }, .int .i64 0, .bool false, .string { data := #[] }, .int .i64 0, .int .i64 0, .bool false, .string { data := #[] }, .int .i64 0, .bool false, .string { data := #[] }, .int .i64 0, .int .i64 0, .bool false, .string { data := #[] }, .int .i64 0, .bool false, .string { data := #[] }, .int .i64 0, .int .i64 0]
  refine wpList_move rfl _ (.inr rfl) (.int .i64 4) rfl ?_
  (try dsimp only [Act.put]); (try go_frame)
  go_wp2
  exact bodyPost_ret (results_row Tryz.results15 (w.heap.size + 1) _ _ _ _ rfl rfl F2 Tryz.underlying37 (by kernel_rfl)) rfl ⟨rfl, B0⟩

set_option maxRecDepth 100000 in
set_option maxHeartbeats 8000000 in
theorem rparts_2 (l : DY) (b : DY) (e : Int) (w : World) (ok_l : l.ok) (ok_b : b.ok) (e1 : -4096 < e) (e2 : e ≤ 4096) (hp : (vM l 1 (e - 1)).2 = 0) (hq : ¬ (vM b 1 (e - 1)).2 = 0) :
    Calls Tryz.prog 15 #[.agg #[.bool l.n, .string (bstr l.x), .int .i64 l.e, .bool b.n, .string (bstr b.x), .int .i64 b.e, .int .i64 e]] w fun r w' => r = .returned (.tuple #[.agg #[.bool false, .string { data := #[] }, .int .i64 0, .bool false, .string { data := #[] }, .int .i64 0, .int .i64 0, .bool false, .string { data := #[] }, .int .i64 0, .bool false, .string { data := #[] }, .int .i64 0, .int .i64 0, .bool false, .string { data := #[] }, .int .i64 0, .bool false, .string { data := #[] }, .int .i64 0, .int .i64 0, .bool false, .string { data := #[] }, .int .i64 0, .bool false, .string { data := #[] }, .int .i64 0, .int .i64 0], .int .i64 4]) ∧ Below w.heap.size w w' := by
  have h1 := fun W => rmiddle_2 l b e _ _ rfl rfl W ok_l ok_b (by omega) e2 hp hq
  have he4 : ¬ e = -4096 := by omega
  have nf := decide_eq_false he4
  clear ok_l ok_b
  obtain ⟨ln, lX, le⟩ := l
  obtain ⟨bn, bX, be⟩ := b
  dsimp only at *
  generalize bstr lX = lS at *
  generalize bstr bX = bS at *
  clear hp hq
  go_enter Tryz.func15, Tryz.ntmps15
  have B0 := Below.refl w.heap.size w
  have F1 := Blk.put (w) #[.bool ln, .string lS, .int .i64 le, .bool bn, .string bS, .int .i64 be, .int .i64 e] 26
  replace B0 := B0.alloc B0.size (.cells #[.bool ln, .string lS, .int .i64 le, .bool bn, .string bS, .int .i64 be, .int .i64 e] 26)
  have q_w_F2 : Hid (w.heap.size ≤ w.heap.size + 1) := Lib.hid (by omega)
  replace F1 := F1.allocd (.cells #[.bool false, .string { data := #[] }, .int .i64 0, .bool false, .string { data := #[] }, .int .i64 0, .int .i64 0, .bool false, .string { data := #[] }, .int .i64 0, .bool false, .string { data := #[] }, .int .i64 0, .int .i64 0, .bool false, .string { data := #[] }, .int .i64 0, .bool false, .string { data := #[] }, .int .i64 0, .int .i64 0, .bool false, .string { data := #[] }, .int .i64 0, .bool false, .string { data := #[] }, .int .i64 0, .int .i64 0] 37)
  have F2 := Blk.put ((w).alloc (.cells #[.bool ln, .string lS, .int .i64 le, .bool bn, .string bS, .int .i64 be, .int .i64 e] 26)) #[.bool false, .string { data := #[] }, .int .i64 0, .bool false, .string { data := #[] }, .int .i64 0, .int .i64 0, .bool false, .string { data := #[] }, .int .i64 0, .bool false, .string { data := #[] }, .int .i64 0, .int .i64 0, .bool false, .string { data := #[] }, .int .i64 0, .bool false, .string { data := #[] }, .int .i64 0, .int .i64 0, .bool false, .string { data := #[] }, .int .i64 0, .bool false, .string { data := #[] }, .int .i64 0, .int .i64 0] 37
  rw [show ((w).alloc (.cells #[.bool ln, .string lS, .int .i64 le, .bool bn, .string bS, .int .i64 be, .int .i64 e] 26)).heap.size = w.heap.size + 1 by simp] at F2
  replace B0 := B0.alloc B0.size (.cells #[.bool false, .string { data := #[] }, .int .i64 0, .bool false, .string { data := #[] }, .int .i64 0, .int .i64 0, .bool false, .string { data := #[] }, .int .i64 0, .bool false, .string { data := #[] }, .int .i64 0, .int .i64 0, .bool false, .string { data := #[] }, .int .i64 0, .bool false, .string { data := #[] }, .int .i64 0, .int .i64 0, .bool false, .string { data := #[] }, .int .i64 0, .bool false, .string { data := #[] }, .int .i64 0, .int .i64 0] 37)
  obtain ⟨xF10_0, xF10_1, xF10_2, xF10_3, xF10_4, xF10_5, xF10_6⟩ := F1.ce7
  go_wp2_with fail
  (with_reducible refine (h1 _).mono ?_)
  rintro r w1 ⟨rfl, hb1⟩
  clear xF10_0 xF10_1 xF10_2 xF10_3 xF10_4 xF10_5 xF10_6
  replace F1 := F1.keep hb1
  replace F2 := F2.keep hb1
  replace B0 := B0.trans (hb1.mono B0.size)
  clear hb1
  clear F1
  replace F2 := F2.allocd (.cells #[.bool false, .string { data := #[] }, .int .i64 0, .bool false, .string { data := #[] }, .int .i64 0] 28)
  replace B0 := B0.alloc B0.size (.cells #[.bool false, .string { data := #[] }, .int .i64 0, .bool false, .string { data := #[] }, .int .i64 0] 28)
  go_upto_region 5 with fail
  refine wp_region_lit ?_
  refine wpList_zero rfl _ _ _ _ _ rfl Tryz.zeroValue37 Tryz.underlying37 Tryz.sizeOf26 ?_
  (try dsimp only [Act.put]); (try go_frame)
  refine wpList_move rfl _ (.inl rfl) (.int .i64 4) rfl ?_
  (try dsimp only [Act.put]); (try go_frame)
  refine wpList_store_row rfl _ _ _ rfl (w.heap.size + 1) _ _ rfl rfl F2 (by kernel_rfl) rfl (by simp [Value.oneCell']) ?_
  (try dsimp only [Act.put]); (try go_frame)
  replace F2 := F2.inRow #[.bool false, .string { data := #[] }, .int .i64 0, .bool false, .string { data := #[] }, .int .i64 0, .int .i64 0, .bool false, .string { data := #[] }, .int .i64 0, .bool false, .string { data := #[] }, .int .i64 0, .int .i64 0, .bool false, .string { data := #[] }, .int .i64 0, .bool false, .string { data := #[] }, .int .i64 0, .int .i64 0, .bool false, .string { data := #[] }, .int .i64 0, .bool false, .string { data := #[] }, .int .i64 0, .int .i64 0]
  replace B0 := below_setRow B0 q_w_F2.out #[.bool false, .string { data := #[] }, .int .i64 0, .bool false, .string { data := #[] }, .int .i64 0, .int .i64 0, .bool false, .string { data := #[] }, .int .i64 0, .bool false, .string { data := #[] }, .int .i64 0, .int .i64 0, .bool false, .string { data := #[] }, .int .i64 0, .bool false, .string { data := #[] }, .int .i64 0, .int .i64 0, .bool false, .string { data := #[] }, .int .i64 0, .bool false, .string { data := #[] }, .int .i64 0, .int .i64 0]
  refine wpList_move rfl _ (.inr rfl) (.int .i64 4) rfl ?_
  (try dsimp only [Act.put]); (try go_frame)
  go_wp2
  exact bodyPost_ret (results_row Tryz.results15 (w.heap.size + 1) _ _ _ _ rfl rfl F2 Tryz.underlying37 (by kernel_rfl)) rfl ⟨rfl, B0⟩

set_option maxRecDepth 100000 in
set_option maxHeartbeats 8000000 in
theorem rparts_3 (l : DY) (b : DY) (e : Int) (E : Int) (m : DY) (n : DY) (E_E : e - 1 = E) (E_m : (vM l 1 (e - 1)).1 = m) (E_n : (vM b 1 (e - 1)).1 = n) (w : World) (ok_l : l.ok) (ok_b : b.ok) (e1 : -4096 < e) (e2 : e ≤ 4096) (hp : (vM l 1 (e - 1)).2 = 0) (hq : (vM b 1 (e - 1)).2 = 0) :
    Calls Tryz.prog 15 #[.agg #[.bool l.n, .string (bstr l.x), .int .i64 l.e, .bool b.n, .string (bstr b.x), .int .i64 b.e, .int .i64 e]] w fun r w' => r = .returned (.tuple #[.agg #[.bool l.n, .string (bstr l.x), .int .i64 l.e, .bool b.n, .string (bstr b.x), .int .i64 b.e, .int .i64 E, .bool m.n, .string (bstr m.x), .int .i64 m.e, .bool b.n, .string (bstr b.x), .int .i64 b.e, .int .i64 E, .bool l.n, .string (bstr l.x), .int .i64 l.e, .bool n.n, .string (bstr n.x), .int .i64 n.e, .int .i64 E, .bool m.n, .string (bstr m.x), .int .i64 m.e, .bool n.n, .string (bstr n.x), .int .i64 n.e, .int .i64 E], .int .i64 0]) ∧ Below w.heap.size w w' := by
  have h1 := fun W => rmiddle_3 l b e _ _ rfl rfl W ok_l ok_b (by omega) e2 hp hq
  rw [E_m] at h1
  rw [E_n] at h1
  have hE := E_E
  have he4 : ¬ e = -4096 := by omega
  have nf := decide_eq_false he4
  clear E_E E_m E_n ok_l ok_b
  obtain ⟨ln, lX, le⟩ := l
  obtain ⟨bn, bX, be⟩ := b
  obtain ⟨mn, mX, me⟩ := m
  obtain ⟨nn, nX, ne⟩ := n
  dsimp only at *
  generalize bstr lX = lS at *
  generalize bstr bX = bS at *
  generalize bstr mX = mS at *
  generalize bstr nX = nS at *
  clear hp hq
  go_enter Tryz.func15, Tryz.ntmps15
  have B0 := Below.refl w.heap.size w
  have F1 := Blk.put (w) #[.bool ln, .string lS, .int .i64 le, .bool bn, .string bS, .int .i64 be, .int .i64 e] 26
  replace B0 := B0.alloc B0.size (.cells #[.bool ln, .string lS, .int .i64 le, .bool bn, .string bS, .int .i64 be, .int .i64 e] 26)
  have q_F1_F2 := Lib.hid (show w.heap.size < w.heap.size + 1 by omega)
  have q_w_F2 : Hid (w.heap.size ≤ w.heap.size + 1) := Lib.hid (by omega)
  replace F1 := F1.allocd (.cells #[.bool false, .string { data := #[] }, .int .i64 0, .bool false, .string { data := #[] }, .int .i64 0, .int .i64 0, .bool false, .string { data := #[] }, .int .i64 0, .bool false, .string { data := #[] }, .int .i64 0, .int .i64 0, .bool false, .string { data := #[] }, .int .i64 0, .bool false, .string { data := #[] }, .int .i64 0, .int .i64 0, .bool false, .string { data := #[] }, .int .i64 0, .bool false, .string { data := #[] }, .int .i64 0, .int .i64 0] 37)
  have F2 := Blk.put ((w).alloc (.cells #[.bool ln, .string lS, .int .i64 le, .bool bn, .string bS, .int .i64 be, .int .i64 e] 26)) #[.bool false, .string { data := #[] }, .int .i64 0, .bool false, .string { data := #[] }, .int .i64 0, .int .i64 0, .bool false, .string { data := #[] }, .int .i64 0, .bool false, .string { data := #[] }, .int .i64 0, .int .i64 0, .bool false, .string { data := #[] }, .int .i64 0, .bool false, .string { data := #[] }, .int .i64 0, .int .i64 0, .bool false, .string { data := #[] }, .int .i64 0, .bool false, .string { data := #[] }, .int .i64 0, .int .i64 0] 37
  rw [show ((w).alloc (.cells #[.bool ln, .string lS, .int .i64 le, .bool bn, .string bS, .int .i64 be, .int .i64 e] 26)).heap.size = w.heap.size + 1 by simp] at F2
  replace B0 := B0.alloc B0.size (.cells #[.bool false, .string { data := #[] }, .int .i64 0, .bool false, .string { data := #[] }, .int .i64 0, .int .i64 0, .bool false, .string { data := #[] }, .int .i64 0, .bool false, .string { data := #[] }, .int .i64 0, .int .i64 0, .bool false, .string { data := #[] }, .int .i64 0, .bool false, .string { data := #[] }, .int .i64 0, .int .i64 0, .bool false, .string { data := #[] }, .int .i64 0, .bool false, .string { data := #[] }, .int .i64 0, .int .i64 0] 37)
  obtain ⟨xF10_0, xF10_1, xF10_2, xF10_3, xF10_4, xF10_5, xF10_6⟩ := F1.ce7
  go_wp2_with fail
  (with_reducible refine (h1 _).mono ?_)
  rintro r w1 ⟨rfl, hb1⟩
  clear xF10_0 xF10_1 xF10_2 xF10_3 xF10_4 xF10_5 xF10_6
  replace F1 := F1.keep hb1
  replace F2 := F2.keep hb1
  replace B0 := B0.trans (hb1.mono B0.size)
  clear hb1
  have q_F2_F4 : Hid (w.heap.size + 1 < w1.heap.size) := Lib.hid (by have := F2.lt; first | exact this | omega | (simp; done) | simpa using this)
  replace F1 := F1.allocd (.cells #[.bool mn, .string mS, .int .i64 me, .bool nn, .string nS, .int .i64 ne] 28)
  replace F2 := F2.allocd (.cells #[.bool mn, .string mS, .int .i64 me, .bool nn, .string nS, .int .i64 ne] 28)
  have F4 := Blk.put (w1) #[.bool mn, .string mS, .int .i64 me, .bool nn, .string nS, .int .i64 ne] 28
  replace B0 := B0.alloc B0.size (.cells #[.bool mn, .string mS, .int .i64 me, .bool nn, .string nS, .int .i64 ne] 28)
  obtain ⟨xF11_0, xF11_1, xF11_2, xF11_3, xF11_4, xF11_5, xF11_6⟩ := F1.ce7
  go_upto_region 7 with fail
  clear xF11_0 xF11_1 xF11_2 xF11_3 xF11_4 xF11_5 xF11_6
  refine wp_region_lit ?_
  refine wpList_val rfl (.pointer (some ⟨w.heap.size, 0, none⟩)) (by go_simp; try with_reducible rfl) ?_
  (try dsimp only [Act.put]); (try go_frame)
  obtain ⟨xF11_0, xF11_1, xF11_2, xF11_3, xF11_4, xF11_5, xF11_6⟩ := F1.ce7
  refine wpList_val rfl (.agg #[.bool ln, .string lS, .int .i64 le]) (by go_simp; try with_reducible rfl) ?_
  (try dsimp only [Act.put]); (try go_frame)
  refine wpList_val rfl (.pointer (some ⟨w.heap.size, 3, none⟩)) (by go_simp; try with_reducible rfl) ?_
  (try dsimp only [Act.put]); (try go_frame)
  refine wpList_val rfl (.agg #[.bool bn, .string bS, .int .i64 be]) (by go_simp; try with_reducible rfl) ?_
  (try dsimp only [Act.put]); (try go_frame)
  refine wpList_move rfl _ (.inl rfl) (.int .i64 E) rfl ?_
  (try dsimp only [Act.put]); (try go_frame)
  refine wpList_val rfl (.agg #[.bool ln, .string lS, .int .i64 le, .bool bn, .string bS, .int .i64 be, .int .i64 E]) (by go_simp; try with_reducible rfl) ?_
  (try dsimp only [Act.put]); (try go_frame)
  refine wpList_val rfl (.pointer (some ⟨w1.heap.size, 0, none⟩)) (by go_simp; try with_reducible rfl) ?_
  (try dsimp only [Act.put]); (try go_frame)
  obtain ⟨xF41_0, xF41_1, xF41_2, xF41_3, xF41_4, xF41_5⟩ := F4.ce6
  refine wpList_val rfl (.agg #[.bool mn, .string mS, .int .i64 me]) (by go_simp; try with_reducible rfl) ?_
  (try dsimp only [Act.put]); (try go_frame)
  refine wpList_val rfl (.pointer (some ⟨w.heap.size, 3, none⟩)) (by go_simp; try with_reducible rfl) ?_
  (try dsimp only [Act.put]); (try go_frame)
  refine wpList_val rfl (.agg #[.bool bn, .string bS, .int .i64 be]) (by go_simp; try with_reducible rfl) ?_
  (try dsimp only [Act.put]); (try go_frame)
  refine wpList_move rfl _ (.inl rfl) (.int .i64 E) rfl ?_
  (try dsimp only [Act.put]); (try go_frame)
  refine wpList_val rfl (.agg #[.bool mn, .string mS, .int .i64 me, .bool bn, .string bS, .int .i64 be, .int .i64 E]) (by go_simp; try with_reducible rfl) ?_
  (try dsimp only [Act.put]); (try go_frame)
  refine wpList_val rfl (.pointer (some ⟨w.heap.size, 0, none⟩)) (by go_simp; try with_reducible rfl) ?_
  (try dsimp only [Act.put]); (try go_frame)
  refine wpList_val rfl (.agg #[.bool ln, .string lS, .int .i64 le]) (by go_simp; try with_reducible rfl) ?_
  (try dsimp only [Act.put]); (try go_frame)
  refine wpList_val rfl (.pointer (some ⟨w1.heap.size, 3, none⟩)) (by go_simp; try with_reducible rfl) ?_
  (try dsimp only [Act.put]); (try go_frame)
  refine wpList_val rfl (.agg #[.bool nn, .string nS, .int .i64 ne]) (by go_simp; try with_reducible rfl) ?_
  (try dsimp only [Act.put]); (try go_frame)
  refine wpList_move rfl _ (.inl rfl) (.int .i64 E) rfl ?_
  (try dsimp only [Act.put]); (try go_frame)
  refine wpList_val rfl (.agg #[.bool ln, .string lS, .int .i64 le, .bool nn, .string nS, .int .i64 ne, .int .i64 E]) (by go_simp; try with_reducible rfl) ?_
  (try dsimp only [Act.put]); (try go_frame)
  refine wpList_val rfl (.pointer (some ⟨w1.heap.size, 0, none⟩)) (by go_simp; try with_reducible rfl) ?_
  (try dsimp only [Act.put]); (try go_frame)
  refine wpList_val rfl (.agg #[.bool mn, .string mS, .int .i64 me]) (by go_simp; try with_reducible rfl) ?_
  (try dsimp only [Act.put]); (try go_frame)
  refine wpList_val rfl (.pointer (some ⟨w1.heap.size, 3, none⟩)) (by go_simp; try with_reducible rfl) ?_
  (try dsimp only [Act.put]); (try go_frame)
  refine wpList_val rfl (.agg #[.bool nn, .string nS, .int .i64 ne]) (by go_simp; try with_reducible rfl) ?_
  (try dsimp only [Act.put]); (try go_frame)
  refine wpList_move rfl _ (.inl rfl) (.int .i64 E) rfl ?_
  (try dsimp only [Act.put]); (try go_frame)
  refine wpList_val rfl (.agg #[.bool mn, .string mS, .int .i64 me, .bool nn, .string nS, .int .i64 ne, .int .i64 E]) (by go_simp; try with_reducible rfl) ?_
  (try dsimp only [Act.put]); (try go_frame)
  refine wpList_build rfl _ _ _ _ _ #[.bool ln, .string lS, .int .i64 le, .bool bn, .string bS, .int .i64 be, .int .i64 E, .bool mn, .string mS, .int .i64 me, .bool bn, .string bS, .int .i64 be, .int .i64 E, .bool ln, .string lS, .int .i64 le, .bool nn, .string nS, .int .i64 ne, .int .i64 E, .bool mn, .string mS, .int .i64 me, .bool nn, .string nS, .int .i64 ne, .int .i64 E] _ [(0, .agg #[.bool ln, .string lS, .int .i64 le, .bool bn, .string bS, .int .i64 be, .int .i64 E]), (1, .agg #[.bool mn, .string mS, .int .i64 me, .bool bn, .string bS, .int .i64 be, .int .i64 E]), (2, .agg #[.bool ln, .string lS, .int .i64 le, .bool nn, .string nS, .int .i64 ne, .int .i64 E]), (3, .agg #[.bool mn, .string mS, .int .i64 me, .bool nn, .string nS, .int .i64 ne, .int .i64 E])] rfl (by go_simp; try with_reducible rfl) Tryz.zeroValue37 Tryz.underlying37 Tryz.sizeOf26 (by kernel_rfl) ?_
  (try dsimp only [Act.put]); (try go_frame)
  refine wpList_store_row rfl _ _ _ rfl (w.heap.size + 1) _ _ rfl rfl F2 (by kernel_rfl) rfl (by simp [Value.oneCell']) ?_
  (try dsimp only [Act.put]); (try go_frame)
  replace F1 := F1.outRow #[.bool ln, .string lS, .int .i64 le, .bool bn, .string bS, .int .i64 be, .int .i64 E, .bool mn, .string mS, .int .i64 me, .bool bn, .string bS, .int .i64 be, .int .i64 E, .bool ln, .string lS, .int .i64 le, .bool nn, .string nS, .int .i64 ne, .int .i64 E, .bool mn, .string mS, .int .i64 me, .bool nn, .string nS, .int .i64 ne, .int .i64 E] (Nat.ne_of_lt q_F1_F2.out)
  replace F4 := F4.outRow #[.bool ln, .string lS, .int .i64 le, .bool bn, .string bS, .int .i64 be, .int .i64 E, .bool mn, .string mS, .int .i64 me, .bool bn, .string bS, .int .i64 be, .int .i64 E, .bool ln, .string lS, .int .i64 le, .bool nn, .string nS, .int .i64 ne, .int .i64 E, .bool mn, .string mS, .int .i64 me, .bool nn, .string nS, .int .i64 ne, .int .i64 E] (Nat.ne_of_gt q_F2_F4.out)
  replace F2 := F2.inRow #[.bool ln, .string lS, .int .i64 le, .bool bn, .string bS, .int .i64 be, .int .i64 E, .bool mn, .string mS, .int .i64 me, .bool bn, .string bS, .int .i64 be, .int .i64 E, .bool ln, .string lS, .int .i64 le, .bool nn, .string nS, .int .i64 ne, .int .i64 E, .bool mn, .string mS, .int .i64 me, .bool nn, .string nS, .int .i64 ne, .int .i64 E]
  replace B0 := below_setRow B0 q_w_F2.out #[.bool ln, .string lS, .int .i64 le, .bool bn, .string bS, .int .i64 be, .int .i64 E, .bool mn, .string mS, .int .i64 me, .bool bn, .string bS, .int .i64 be, .int .i64 E, .bool ln, .string lS, .int .i64 le, .bool nn, .string nS, .int .i64 ne, .int .i64 E, .bool mn, .string mS, .int .i64 me, .bool nn, .string nS, .int .i64 ne, .int .i64 E]
  refine wpList_move rfl _ (.inr rfl) (.int .i64 0) rfl ?_
  (try dsimp only [Act.put]); (try go_frame)
  go_wp2
  exact bodyPost_ret (results_row Tryz.results15 (w.heap.size + 1) _ _ _ _ rfl rfl F2 Tryz.underlying37 (by kernel_rfl)) rfl ⟨rfl, B0⟩

end Go.Proofs.YtfbkopepkklkjaaGreatDoor
