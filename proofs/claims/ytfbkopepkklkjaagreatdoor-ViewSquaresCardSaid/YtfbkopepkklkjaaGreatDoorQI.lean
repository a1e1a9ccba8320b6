/- Walks of the layer of Gausses, by a program (walk.py): part QI. -/
import Derived.Test.YtfbkopepkklkjaaGreatDoorQ7
namespace Go.Proofs.YtfbkopepkklkjaaGreatDoor
open Go Go.RowKit Go.PlainAid Fil

theorem put_mid7 {w : World} {b : Nat} {cs : Array Value} {t : TypeId} (h : Blk w b cs t) (o : Nat) (v0 v1 v2 v3 v4 v5 v6 : Value) (new : Array Value) (hn : (cs.toList.take o ++ [v0, v1, v2, v3, v4, v5, v6] ++ cs.toList.drop (o + 7)).toArray = new) (hs : o + 7 ≤ cs.size) : (((((((w).setCell ⟨b, o, none⟩ v0).setCell ⟨b, o + 1, none⟩ v1).setCell ⟨b, o + 2, none⟩ v2).setCell ⟨b, o + 3, none⟩ v3).setCell ⟨b, o + 4, none⟩ v4).setCell ⟨b, o + 5, none⟩ v5).setCell ⟨b, o + 6, none⟩ v6 = w.setRow b new := by
  subst hn
  have h1 := setCells_row [v0, v1, v2, v3, v4, v5, v6] o cs w h
  rw [spl_eq _ _ _ (by simpa using hs)] at h1
  exact h1

set_option maxRecDepth 100000 in
set_option maxHeartbeats 8000000 in
theorem vparts_bad (l : DRw) (b : DRw) (e : Int) (w : World) (ok_l : l.fit) (ok_b : b.fit) (h : sqB l b e = false) :
    Calls Tryz.prog 8 #[.agg #[.bool l.n, .string l.s, .int .i64 l.e, .bool b.n, .string b.s, .int .i64 b.e, .int .i64 e]] w fun r w' => r = .returned (.tuple #[.agg #[.bool false, .string { data := #[] }, .int .i64 0, .bool false, .string { data := #[] }, .int .i64 0, .int .i64 0, .bool false, .string { data := #[] }, .int .i64 0, .bool false, .string { data := #[] }, .int .i64 0, .int .i64 0, .bool false, .string { data := #[] }, .int .i64 0, .bool false, .string { data := #[] }, .int .i64 0, .int .i64 0, .bool false, .string { data := #[] }, .int .i64 0, .bool false, .string { data := #[] }, .int .i64 0, .int .i64 0], .int .i64 240]) ∧ Below w.heap.size w w' := by
  have h1 := fun W => vright_any l b e W ok_l ok_b
  rw [if_neg (by rw [h]; decide)] at h1
  clear ok_l ok_b
  obtain ⟨ln, lS, le⟩ := l
  obtain ⟨bn, bS, be⟩ := b
  dsimp only at *
  clear h
  go_enter Tryz.func8, Tryz.ntmps8
  have B0 := Below.refl w.heap.size w
  have F1 := Blk.put (w) #[.bool ln, .string lS, .int .i64 le, .bool bn, .string bS, .int .i64 be, .int .i64 e] 26
  replace B0 := B0.alloc B0.size (.cells #[.bool ln, .string lS, .int .i64 le, .bool bn, .string bS, .int .i64 be, .int .i64 e] 26)
  have q_w_F2 : Hid (w.heap.size ≤ w.heap.size + 1) := Lib.hid (by omega)
  replace F1 := F1.allocd (.cells #[.bool false, .string { data := #[] }, .int .i64 0, .bool false, .string { data := #[] }, .int .i64 0, .int .i64 0, .bool false, .string { data := #[] }, .int .i64 0, .bool false, .string { data := #[] }, .int .i64 0, .int .i64 0, .bool false, .string { data := #[] }, .int .i64 0, .bool false, .string { data := #[] }, .int .i64 0, .int .i64 0, .bool false, .string { data := #[] }, .int .i64 0, .bool false, .string { data := #[] }, .int .i64 0, .int .i64 0] 37)
  have F2 := Blk.put ((w).alloc (.cells #[.bool ln, .string lS, .int .i64 le, .bool bn, .string bS, .int .i64 be, .int .i64 e] 26)) #[.bool false, .string { data := #[] }, .int .i64 0, .bool false, .string { data := #[] }, .int .i64 0, .int .i64 0, .bool false, .string { data := #[] }, .int .i64 0, .bool false, .string { data := #[] }, .int .i64 0, .int .i64 0, .bool false, .string { data := #[] }, .int .i64 0, .bool false, .string { data := #[] }, .int .i64 0, .int .i64 0, .bool false, .string { data := #[] }, .int .i64 0, .bool false, .string { data := #[] }, .int .i64 0, .int .i64 0] 37
  rw [show ((w).alloc (.cells #[.bool ln, .string lS, .int .i64 le, .bool bn, .string bS, .int .i64 be, .int .i64 e] 26)).heap.size = w.heap.size + 1 by simp] at F2
  replace B0 := B0.alloc B0.size (.cells #[.bool false, .string { data := #[] }, .int .i64 0, .bool false, .string { data := #[] }, .int .i64 0, .int .i64 0, .bool false, .string { data := #[] }, .int .i64 0, .bool false, .string { data := #[] }, .int .i64 0, .int .i64 0, .bool false, .string { data := #[] }, .int .i64 0, .bool false, .string { data := #[] }, .int .i64 0, .int .i64 0, .bool false, .string { data := #[] }, .int .i64 0, .bool false, .string { data := #[] }, .int .i64 0, .int .i64 0] 37)
  obtain ⟨xF10_0, xF10_1, xF10_2, xF10_3, xF10_4, xF10_5, xF10_6⟩ := F1.ce7
  go_wp2_with fail
  (with_reducible refine (h1 _).mono ?_)
  rintro r w1 ⟨rfl, hb1⟩
  clear xF10_0 xF10_1 xF10_2 xF10_3 xF10_4 xF10_5 xF10_6
  replace F1 := F1.keep hb1
  replace F2 := F2.keep hb1
  replace B0 := B0.trans (hb1.mono B0.size)
  clear hb1
  go_upto_region 2 with fail
  refine wp_region_lit ?_
  refine wpList_zero rfl _ _ _ _ _ rfl Tryz.zeroValue37 Tryz.underlying37 Tryz.sizeOf26 ?_
  (try dsimp only [Act.put]); (try go_frame)
  refine wpList_store_row rfl _ _ _ rfl (w.heap.size + 1) _ _ rfl rfl F2 (by kernel_rfl) rfl (by simp [Value.oneCell']) ?_
  (try dsimp only [Act.put]); (try go_frame)
  clear F1
  replace F2 := F2.inRow #[.bool false, .string { data := #[] }, .int .i64 0, .bool false, .string { data := #[] }, .int .i64 0, .int .i64 0, .bool false, .string { data := #[] }, .int .i64 0, .bool false, .string { data := #[] }, .int .i64 0, .int .i64 0, .bool false, .string { data := #[] }, .int .i64 0, .bool false, .string { data := #[] }, .int .i64 0, .int .i64 0, .bool false, .string { data := #[] }, .int .i64 0, .bool false, .string { data := #[] }, .int .i64 0, .int .i64 0]
  replace B0 := below_setRow B0 q_w_F2.out #[.bool false, .string { data := #[] }, .int .i64 0, .bool false, .string { data := #[] }, .int .i64 0, .int .i64 0, .bool false, .string { data := #[] }, .int .i64 0, .bool false, .string { data := #[] }, .int .i64 0, .int .i64 0, .bool false, .string { data := #[] }, .int .i64 0, .bool false, .string { data := #[] }, .int .i64 0, .int .i64 0, .bool false, .string { data := #[] }, .int .i64 0, .bool false, .string { data := #[] }, .int .i64 0, .int .i64 0]
  refine wpList_move rfl _ (.inr rfl) (.int .i64 240) rfl ?_
  (try dsimp only [Act.put]); (try go_frame)
  go_wp2
  exact bodyPost_ret (results_row Tryz.results8 (w.heap.size + 1) _ _ _ _ rfl rfl F2 Tryz.underlying37 (by kernel_rfl)) rfl ⟨rfl, B0⟩

set_option maxRecDepth 100000 in
set_option maxHeartbeats 8000000 in
theorem vparts_low (l : DY) (b : DY) (w : World) (ok_l : l.ok) (ok_b : b.ok)  :
    Calls Tryz.prog 8 #[.agg #[.bool l.n, .string (bstr l.x), .int .i64 l.e, .bool b.n, .string (bstr b.x), .int .i64 b.e, .int .i64 (-4096)]] w fun r w' => r = .returned (.tuple #[.agg #[.bool false, .string { data := #[] }, .int .i64 0, .bool false, .string { data := #[] }, .int .i64 0, .int .i64 0, .bool false, .string { data := #[] }, .int .i64 0, .bool false, .string { data := #[] }, .int .i64 0, .int .i64 0, .bool false, .string { data := #[] }, .int .i64 0, .bool false, .string { data := #[] }, .int .i64 0, .int .i64 0, .bool false, .string { data := #[] }, .int .i64 0, .bool false, .string { data := #[] }, .int .i64 0, .int .i64 0], .int .i64 240]) ∧ Below w.heap.size w w' := by
  have h1 := fun W => vright_ok l b (-4096) W ok_l ok_b (by omega) (by omega)
  clear ok_l ok_b
  obtain ⟨ln, lX, le⟩ := l
  obtain ⟨bn, bX, be⟩ := b
  dsimp only at *
  generalize bstr lX = lS at *
  generalize bstr bX = bS at *
  go_enter Tryz.func8, Tryz.ntmps8
  have B0 := Below.refl w.heap.size w
  have F1 := Blk.put (w) #[.bool ln, .string lS, .int .i64 le, .bool bn, .string bS, .int .i64 be, .int .i64 (-4096)] 26
  replace B0 := B0.alloc B0.size (.cells #[.bool ln, .string lS, .int .i64 le, .bool bn, .string bS, .int .i64 be, .int .i64 (-4096)] 26)
  have q_F1_F2 := Lib.hid (show w.heap.size < w.heap.size + 1 by omega)
  have q_w_F2 : Hid (w.heap.size ≤ w.heap.size + 1) := Lib.hid (by omega)
  replace F1 := F1.allocd (.cells #[.bool false, .string { data := #[] }, .int .i64 0, .bool false, .string { data := #[] }, .int .i64 0, .int .i64 0, .bool false, .string { data := #[] }, .int .i64 0, .bool false, .string { data := #[] }, .int .i64 0, .int .i64 0, .bool false, .string { data := #[] }, .int .i64 0, .bool false, .string { data := #[] }, .int .i64 0, .int .i64 0, .bool false, .string { data := #[] }, .int .i64 0, .bool false, .string { data := #[] }, .int .i64 0, .int .i64 0] 37)
  have F2 := Blk.put ((w).alloc (.cells #[.bool ln, .string lS, .int .i64 le, .bool bn, .string bS, .int .i64 be, .int .i64 (-4096)] 26)) #[.bool false, .string { data := #[] }, .int .i64 0, .bool false, .string { data := #[] }, .int .i64 0, .int .i64 0, .bool false, .string { data := #[] }, .int .i64 0, .bool false, .string { data := #[] }, .int .i64 0, .int .i64 0, .bool false, .string { data := #[] }, .int .i64 0, .bool false, .string { data := #[] }, .int .i64 0, .int .i64 0, .bool false, .string { data := #[] }, .int .i64 0, .bool false, .string { data := #[] }, .int .i64 0, .int .i64 0] 37
  rw [show ((w).alloc (.cells #[.bool ln, .string lS, .int .i64 le, .bool bn, .string bS, .int .i64 be, .int .i64 (-4096)] 26)).heap.size = w.heap.size + 1 by simp] at F2
  replace B0 := B0.alloc B0.size (.cells #[.bool false, .string { data := #[] }, .int .i64 0, .bool false, .string { data := #[] }, .int .i64 0, .int .i64 0, .bool false, .string { data := #[] }, .int .i64 0, .bool false, .string { data := #[] }, .int .i64 0, .int .i64 0, .bool false, .string { data := #[] }, .int .i64 0, .bool false, .string { data := #[] }, .int .i64 0, .int .i64 0, .bool false, .string { data := #[] }, .int .i64 0, .bool false, .string { data := #[] }, .int .i64 0, .int .i64 0] 37)
  obtain ⟨xF10_0, xF10_1, xF10_2, xF10_3, xF10_4, xF10_5, xF10_6⟩ := F1.ce7
  go_wp2_with fail
  (with_reducible refine (h1 _).mono ?_)
  rintro r w1 ⟨rfl, hb1⟩
  clear xF10_0 xF10_1 xF10_2 xF10_3 xF10_4 xF10_5 xF10_6
  replace F1 := F1.keep hb1
  replace F2 := F2.keep hb1
  replace B0 := B0.trans (hb1.mono B0.size)
  clear hb1
  obtain ⟨xF11_0, xF11_1, xF11_2, xF11_3, xF11_4, xF11_5, xF11_6⟩ := F1.ce7
  go_upto_region 2 with fail
  clear xF11_0 xF11_1 xF11_2 xF11_3 xF11_4 xF11_5 xF11_6
  refine wp_region_lit ?_
  refine wpList_zero rfl _ _ _ _ _ rfl Tryz.zeroValue37 Tryz.underlying37 Tryz.sizeOf26 ?_
  (try dsimp only [Act.put]); (try go_frame)
  refine wpList_store_row rfl _ _ _ rfl (w.heap.size + 1) _ _ rfl rfl F2 (by kernel_rfl) rfl (by simp [Value.oneCell']) ?_
  (try dsimp only [Act.put]); (try go_frame)
  replace F1 := F1.outRow #[.bool false, .string { data := #[] }, .int .i64 0, .bool false, .string { data := #[] }, .int .i64 0, .int .i64 0, .bool false, .string { data := #[] }, .int .i64 0, .bool false, .string { data := #[] }, .int .i64 0, .int .i64 0, .bool false, .string { data := #[] }, .int .i64 0, .bool false, .string { data := #[] }, .int .i64 0, .int .i64 0, .bool false, .string { data := #[] }, .int .i64 0, .bool false, .string { data := #[] }, .int .i64 0, .int .i64 0] (Nat.ne_of_lt q_F1_F2.out)
  replace F2 := F2.inRow #[.bool false, .string { data := #[] }, .int .i64 0, .bool false, .string { data := #[] }, .int .i64 0, .int .i64 0, .bool false, .string { data := #[] }, .int .i64 0, .bool false, .string { data := #[] }, .int .i64 0, .int .i64 0, .bool false, .string { data := #[] }, .int .i64 0, .bool false, .string { data := #[] }, .int .i64 0, .int .i64 0, .bool false, .string { data := #[] }, .int .i64 0, .bool false, .string { data := #[] }, .int .i64 0, .int .i64 0]
  replace B0 := below_setRow B0 q_w_F2.out #[.bool false, .string { data := #[] }, .int .i64 0, .bool false, .string { data := #[] }, .int .i64 0, .int .i64 0, .bool false, .string { data := #[] }, .int .i64 0, .bool false, .string { data := #[] }, .int .i64 0, .int .i64 0, .bool false, .string { data := #[] }, .int .i64 0, .bool false, .string { data := #[] }, .int .i64 0, .int .i64 0, .bool false, .string { data := #[] }, .int .i64 0, .bool false, .string { data := #[] }, .int .i64 0, .int .i64 0]
  refine wpList_move rfl _ (.inr rfl) (.int .i64 240) rfl ?_
  (try dsimp only [Act.put]); (try go_frame)
  go_wp2
  exact bodyPost_ret (results_row Tryz.results8 (w.heap.size + 1) _ _ _ _ rfl rfl F2 Tryz.underlying37 (by kernel_rfl)) rfl ⟨rfl, B0⟩

set_option maxRecDepth 100000 in
set_option maxHeartbeats 8000000 in
theorem vparts_0 (l : DY) (b : DY) (e : Int) (E : Int) (m : DY) (n : DY) (E_E : e - 1 = E) (E_m : (vM l 1 (e - 1)).1 = m) (E_n : (vM b 1 (e - 1)).1 = n) (w : World) (ok_l : l.ok) (ok_b : b.ok) (e1 : -4096 < e) (e2 : e ≤ 4096) (hp : (vM l 1 (e - 1)).2 = 0) (hq : (vM b 1 (e - 1)).2 = 0) (hT : Tab w) :
    Calls Tryz.prog 8 #[.agg #[.bool l.n, .string (bstr l.x), .int .i64 l.e, .bool b.n, .string (bstr b.x), .int .i64 b.e, .int .i64 e]] w fun r w' => r = .returned (.tuple #[.agg #[.bool l.n, .string (bstr l.x), .int .i64 l.e, .bool b.n, .string (bstr b.x), .int .i64 b.e, .int .i64 E, .bool m.n, .string (bstr m.x), .int .i64 m.e, .bool b.n, .string (bstr b.x), .int .i64 b.e, .int .i64 E, .bool l.n, .string (bstr l.x), .int .i64 l.e, .bool n.n, .string (bstr n.x), .int .i64 n.e, .int .i64 E, .bool m.n, .string (bstr m.x), .int .i64 m.e, .bool n.n, .string (bstr n.x), .int .i64 n.e, .int .i64 E], .int .i64 0]) ∧ Below w.heap.size w w' := by
  have h1 := fun W => vright_ok l b e W ok_l ok_b (by omega) e2
  have a0 := fun W hW => vat_00 l b e W ok_l ok_b (by omega) e2 hW
  have a1 := fun W hW => vat_P10 l b e W ok_l ok_b (by omega) e2 hp hW
  rw [E_m] at a1
  have a2 := fun W hW => vat_P01 l b e W ok_l ok_b (by omega) e2 hq hW
  rw [E_n] at a2
  have a3 := fun W hW => vat_P11 l b e W ok_l ok_b (by omega) e2 hp hq hW
  rw [E_m] at a3
  rw [E_n] at a3
  have hE := E_E
  have he4 : ¬ e = -4096 := by omega
  have nf := decide_eq_false he4
  clear E_E E_m E_n ok_l ok_b
  obtain ⟨ln, lX, le⟩ := l
  obtain ⟨bn, bX, be⟩ := b
  obtain ⟨mn, mX, me⟩ := m
  obtain ⟨nn, nX, ne⟩ := n
  dsimp only at *
  generalize bstr lX = lS at *
  generalize bstr bX = bS at *
  generalize bstr mX = mS at *
  generalize bstr nX = nS at *
  clear hp hq
  go_enter Tryz.func8, Tryz.ntmps8
  have B0 := Below.refl w.heap.size w
  have F1 := Blk.put (w) #[.bool ln, .string lS, .int .i64 le, .bool bn, .string bS, .int .i64 be, .int .i64 e] 26
  replace B0 := B0.alloc B0.size (.cells #[.bool ln, .string lS, .int .i64 le, .bool bn, .string bS, .int .i64 be, .int .i64 e] 26)
  have q_F1_F2 := Lib.hid (show w.heap.size < w.heap.size + 1 by omega)
  have q_w_F2 : Hid (w.heap.size ≤ w.heap.size + 1) := Lib.hid (by omega)
  replace F1 := F1.allocd (.cells #[.bool false, .string { data := #[] }, .int .i64 0, .bool false, .string { data := #[] }, .int .i64 0, .int .i64 0, .bool false, .string { data := #[] }, .int .i64 0, .bool false, .string { data := #[] }, .int .i64 0, .int .i64 0, .bool false, .string { data := #[] }, .int .i64 0, .bool false, .string { data := #[] }, .int .i64 0, .int .i64 0, .bool false, .string { data := #[] }, .int .i64 0, .bool false, .string { data := #[] }, .int .i64 0, .int .i64 0] 37)
  have F2 := Blk.put ((w).alloc (.cells #[.bool ln, .string lS, .int .i64 le, .bool bn, .string bS, .int .i64 be, .int .i64 e] 26)) #[.bool false, .string { data := #[] }, .int .i64 0, .bool false, .string { data := #[] }, .int .i64 0, .int .i64 0, .bool false, .string { data := #[] }, .int .i64 0, .bool false, .string { data := #[] }, .int .i64 0, .int .i64 0, .bool false, .string { data := #[] }, .int .i64 0, .bool false, .string { data := #[] }, .int .i64 0, .int .i64 0, .bool false, .string { data := #[] }, .int .i64 0, .bool false, .string { data := #[] }, .int .i64 0, .int .i64 0] 37
  rw [show ((w).alloc (.cells #[.bool ln, .string lS, .int .i64 le, .bool bn, .string bS, .int .i64 be, .int .i64 e] 26)).heap.size = w.heap.size + 1 by simp] at F2
  replace B0 := B0.alloc B0.size (.cells #[.bool false, .string { data := #[] }, .int .i64 0, .bool false, .string { data := #[] }, .int .i64 0, .int .i64 0, .bool false, .string { data := #[] }, .int .i64 0, .bool false, .string { data := #[] }, .int .i64 0, .int .i64 0, .bool false, .string { data := #[] }, .int .i64 0, .bool false, .string { data := #[] }, .int .i64 0, .int .i64 0, .bool false, .string { data := #[] }, .int .i64 0, .bool false, .string { data := #[] }, .int .i64 0, .int .i64 0] 37)
  obtain ⟨xF10_0, xF10_1, xF10_2, xF10_3, xF10_4, xF10_5, xF10_6⟩ := F1.ce7
  go_wp2_with fail
  (with_reducible refine (h1 _).mono ?_)
  rintro r w1 ⟨rfl, hb1⟩
  clear xF10_0 xF10_1 xF10_2 xF10_3 xF10_4 xF10_5 xF10_6
  replace F1 := F1.keep hb1
  replace F2 := F2.keep hb1
  replace B0 := B0.trans (hb1.mono B0.size)
  clear hb1
  obtain ⟨xF11_0, xF11_1, xF11_2, xF11_3, xF11_4, xF11_5, xF11_6⟩ := F1.ce7
  have q_F1_F4 : Hid (w.heap.size < w1.heap.size) := Lib.hid (by have := F1.lt; first | exact this | omega | (simp; done) | simpa using this)
  have q_F2_F4 : Hid (w.heap.size + 1 < w1.heap.size) := Lib.hid (by have := F2.lt; first | exact this | omega | (simp; done) | simpa using this)
  have q_w_F4 : Hid (w.heap.size ≤ w1.heap.size) := Lib.hid (by have := B0.size; first | exact this | omega | (simp; done) | simpa using this)
  replace F1 := F1.allocd (.cells #[.bool false, .string { data := #[] }, .int .i64 0, .bool false, .string { data := #[] }, .int .i64 0, .int .i64 0, .bool false, .string { data := #[] }, .int .i64 0, .bool false, .string { data := #[] }, .int .i64 0, .int .i64 0, .bool false, .string { data := #[] }, .int .i64 0, .bool false, .string { data := #[] }, .int .i64 0, .int .i64 0, .bool false, .string { data := #[] }, .int .i64 0, .bool false, .string { data := #[] }, .int .i64 0, .int .i64 0] 37)
  replace F2 := F2.allocd (.cells #[.bool false, .string { data := #[] }, .int .i64 0, .bool false, .string { data := #[] }, .int .i64 0, .int .i64 0, .bool false, .string { data := #[] }, .int .i64 0, .bool false, .string { data := #[] }, .int .i64 0, .int .i64 0, .bool false, .string { data := #[] }, .int .i64 0, .bool false, .string { data := #[] }, .int .i64 0, .int .i64 0, .bool false, .string { data := #[] }, .int .i64 0, .bool false, .string { data := #[] }, .int .i64 0, .int .i64 0] 37)
  have F4 := Blk.put (w1) #[.bool false, .string { data := #[] }, .int .i64 0, .bool false, .string { data := #[] }, .int .i64 0, .int .i64 0, .bool false, .string { data := #[] }, .int .i64 0, .bool false, .string { data := #[] }, .int .i64 0, .int .i64 0, .bool false, .string { data := #[] }, .int .i64 0, .bool false, .string { data := #[] }, .int .i64 0, .int .i64 0, .bool false, .string { data := #[] }, .int .i64 0, .bool false, .string { data := #[] }, .int .i64 0, .int .i64 0] 37
  replace B0 := B0.alloc B0.size (.cells #[.bool false, .string { data := #[] }, .int .i64 0, .bool false, .string { data := #[] }, .int .i64 0, .int .i64 0, .bool false, .string { data := #[] }, .int .i64 0, .bool false, .string { data := #[] }, .int .i64 0, .int .i64 0, .bool false, .string { data := #[] }, .int .i64 0, .bool false, .string { data := #[] }, .int .i64 0, .int .i64 0, .bool false, .string { data := #[] }, .int .i64 0, .bool false, .string { data := #[] }, .int .i64 0, .int .i64 0] 37)
  go_wp2_with fail
  clear xF11_0 xF11_1 xF11_2 xF11_3 xF11_4 xF11_5 xF11_6
  refine wp_loop_rounds 5 ?_
  rw [rounds_succ]
  obtain ⟨xF11_0, xF11_1, xF11_2, xF11_3, xF11_4, xF11_5, xF11_6⟩ := F1.ce7
  go_wp2_with fail
  (with_reducible refine (a0 _ (hT.below B0)).mono ?_)
  rintro r w2 ⟨rfl, hb2⟩
  clear xF11_0 xF11_1 xF11_2 xF11_3 xF11_4 xF11_5 xF11_6
  replace F1 := F1.keep hb2
  replace F2 := F2.keep hb2
  replace F4 := F4.keep hb2
  replace B0 := B0.trans (hb2.mono B0.size)
  clear hb2
  have q_F4_F6r0 : Hid (w1.heap.size < w2.heap.size) := Lib.hid (by have := F4.lt; first | exact this | omega | (simp; done) | simpa using this)
  replace F1 := F1.allocd (.cells #[.bool ln, .string lS, .int .i64 le, .bool bn, .string bS, .int .i64 be] 28)
  replace F2 := F2.allocd (.cells #[.bool ln, .string lS, .int .i64 le, .bool bn, .string bS, .int .i64 be] 28)
  replace F4 := F4.allocd (.cells #[.bool ln, .string lS, .int .i64 le, .bool bn, .string bS, .int .i64 be] 28)
  have F6r0 := Blk.put (w2) #[.bool ln, .string lS, .int .i64 le, .bool bn, .string bS, .int .i64 be] 28
  replace B0 := B0.alloc B0.size (.cells #[.bool ln, .string lS, .int .i64 le, .bool bn, .string bS, .int .i64 be] 28)
  obtain ⟨xF6r02_0, xF6r02_1, xF6r02_2, xF6r02_3, xF6r02_4, xF6r02_5⟩ := F6r0.ce6
  obtain ⟨xF12_0, xF12_1, xF12_2, xF12_3, xF12_4, xF12_5, xF12_6⟩ := F1.ce7
  have yF42_0 : ((w2).alloc (.cells #[.bool ln, .string lS, .int .i64 le, .bool bn, .string bS, .int .i64 be] 28)).cell? ⟨w1.heap.size, 0, none⟩ = some (.bool false) := F4.at 0 (by simp)
  have yF42_0f : ((w2).alloc (.cells #[.bool ln, .string lS, .int .i64 le, .bool bn, .string bS, .int .i64 be] 28)).frozen? ⟨w1.heap.size, 0, none⟩ = false := F4.free 0
  have yF42_1 : ((w2).alloc (.cells #[.bool ln, .string lS, .int .i64 le, .bool bn, .string bS, .int .i64 be] 28)).cell? ⟨w1.heap.size, 1, none⟩ = some (.string { data := #[] }) := F4.at 1 (by simp)
  have yF42_1f : ((w2).alloc (.cells #[.bool ln, .string lS, .int .i64 le, .bool bn, .string bS, .int .i64 be] 28)).frozen? ⟨w1.heap.size, 1, none⟩ = false := F4.free 1
  have yF42_2 : ((w2).alloc (.cells #[.bool ln, .string lS, .int .i64 le, .bool bn, .string bS, .int .i64 be] 28)).cell? ⟨w1.heap.size, 2, none⟩ = some (.int .i64 0) := F4.at 2 (by simp)
  have yF42_2f : ((w2).alloc (.cells #[.bool ln, .string lS, .int .i64 le, .bool bn, .string bS, .int .i64 be] 28)).frozen? ⟨w1.heap.size, 2, none⟩ = false := F4.free 2
  have yF42_3 : ((w2).alloc (.cells #[.bool ln, .string lS, .int .i64 le, .bool bn, .string bS, .int .i64 be] 28)).cell? ⟨w1.heap.size, 3, none⟩ = some (.bool false) := F4.at 3 (by simp)
  have yF42_3f : ((w2).alloc (.cells #[.bool ln, .string lS, .int .i64 le, .bool bn, .string bS, .int .i64 be] 28)).frozen? ⟨w1.heap.size, 3, none⟩ = false := F4.free 3
  have yF42_4 : ((w2).alloc (.cells #[.bool ln, .string lS, .int .i64 le, .bool bn, .string bS, .int .i64 be] 28)).cell? ⟨w1.heap.size, 4, none⟩ = some (.string { data := #[] }) := F4.at 4 (by simp)
  have yF42_4f : ((w2).alloc (.cells #[.bool ln, .string lS, .int .i64 le, .bool bn, .string bS, .int .i64 be] 28)).frozen? ⟨w1.heap.size, 4, none⟩ = false := F4.free 4
  have yF42_5 : ((w2).alloc (.cells #[.bool ln, .string lS, .int .i64 le, .bool bn, .string bS, .int .i64 be] 28)).cell? ⟨w1.heap.size, 5, none⟩ = some (.int .i64 0) := F4.at 5 (by simp)
  have yF42_5f : ((w2).alloc (.cells #[.bool ln, .string lS, .int .i64 le, .bool bn, .string bS, .int .i64 be] 28)).frozen? ⟨w1.heap.size, 5, none⟩ = false := F4.free 5
  have yF42_6 : ((w2).alloc (.cells #[.bool ln, .string lS, .int .i64 le, .bool bn, .string bS, .int .i64 be] 28)).cell? ⟨w1.heap.size, 6, none⟩ = some (.int .i64 0) := F4.at 6 (by simp)
  have yF42_6f : ((w2).alloc (.cells #[.bool ln, .string lS, .int .i64 le, .bool bn, .string bS, .int .i64 be] 28)).frozen? ⟨w1.heap.size, 6, none⟩ = false := F4.free 6
  have hch2 : ((((((((w2).alloc (.cells #[.bool ln, .string lS, .int .i64 le, .bool bn, .string bS, .int .i64 be] 28)).setCell ⟨w1.heap.size, 0, none⟩ (.bool ln)).setCell ⟨w1.heap.size, 1, none⟩ (.string lS)).setCell ⟨w1.heap.size, 2, none⟩ (.int .i64 le)).setCell ⟨w1.heap.size, 3, none⟩ (.bool bn)).setCell ⟨w1.heap.size, 4, none⟩ (.string bS)).setCell ⟨w1.heap.size, 5, none⟩ (.int .i64 be)).setCell ⟨w1.heap.size, 6, none⟩ (.int .i64 E) = ((w2).alloc (.cells #[.bool ln, .string lS, .int .i64 le, .bool bn, .string bS, .int .i64 be] 28)).setRow (w1.heap.size) #[.bool ln, .string lS, .int .i64 le, .bool bn, .string bS, .int .i64 be, .int .i64 E, .bool false, .string { data := #[] }, .int .i64 0, .bool false, .string { data := #[] }, .int .i64 0, .int .i64 0, .bool false, .string { data := #[] }, .int .i64 0, .bool false, .string { data := #[] }, .int .i64 0, .int .i64 0, .bool false, .string { data := #[] }, .int .i64 0, .bool false, .string { data := #[] }, .int .i64 0, .int .i64 0] := put_mid7 F4 0 (.bool ln) (.string lS) (.int .i64 le) (.bool bn) (.string bS) (.int .i64 be) (.int .i64 E) _ rfl (by simp)
  replace F1 : Blk (((((((((w2).alloc (.cells #[.bool ln, .string lS, .int .i64 le, .bool bn, .string bS, .int .i64 be] 28)).setCell ⟨w1.heap.size, 0, none⟩ (.bool ln)).setCell ⟨w1.heap.size, 1, none⟩ (.string lS)).setCell ⟨w1.heap.size, 2, none⟩ (.int .i64 le)).setCell ⟨w1.heap.size, 3, none⟩ (.bool bn)).setCell ⟨w1.heap.size, 4, none⟩ (.string bS)).setCell ⟨w1.heap.size, 5, none⟩ (.int .i64 be)).setCell ⟨w1.heap.size, 6, none⟩ (.int .i64 E)) (w.heap.size) #[.bool ln, .string lS, .int .i64 le, .bool bn, .string bS, .int .i64 be, .int .i64 e] 26 := by rw [hch2]; exact F1.outRow #[.bool ln, .string lS, .int .i64 le, .bool bn, .string bS, .int .i64 be, .int .i64 E, .bool false, .string { data := #[] }, .int .i64 0, .bool false, .string { data := #[] }, .int .i64 0, .int .i64 0, .bool false, .string { data := #[] }, .int .i64 0, .bool false, .string { data := #[] }, .int .i64 0, .int .i64 0, .bool false, .string { data := #[] }, .int .i64 0, .bool false, .string { data := #[] }, .int .i64 0, .int .i64 0] (Nat.ne_of_lt q_F1_F4.out)
  replace F2 : Blk (((((((((w2).alloc (.cells #[.bool ln, .string lS, .int .i64 le, .bool bn, .string bS, .int .i64 be] 28)).setCell ⟨w1.heap.size, 0, none⟩ (.bool ln)).setCell ⟨w1.heap.size, 1, none⟩ (.string lS)).setCell ⟨w1.heap.size, 2, none⟩ (.int .i64 le)).setCell ⟨w1.heap.size, 3, none⟩ (.bool bn)).setCell ⟨w1.heap.size, 4, none⟩ (.string bS)).setCell ⟨w1.heap.size, 5, none⟩ (.int .i64 be)).setCell ⟨w1.heap.size, 6, none⟩ (.int .i64 E)) (w.heap.size + 1) #[.bool false, .string { data := #[] }, .int .i64 0, .bool false, .string { data := #[] }, .int .i64 0, .int .i64 0, .bool false, .string { data := #[] }, .int .i64 0, .bool false, .string { data := #[] }, .int .i64 0, .int .i64 0, .bool false, .string { data := #[] }, .int .i64 0, .bool false, .string { data := #[] }, .int .i64 0, .int .i64 0, .bool false, .string { data := #[] }, .int .i64 0, .bool false, .string { data := #[] }, .int .i64 0, .int .i64 0] 37 := by rw [hch2]; exact F2.outRow #[.bool ln, .string lS, .int .i64 le, .bool bn, .string bS, .int .i64 be, .int .i64 E, .bool false, .string { data := #[] }, .int .i64 0, .bool false, .string { data := #[] }, .int .i64 0, .int .i64 0, .bool false, .string { data := #[] }, .int .i64 0, .bool false, .string { data := #[] }, .int .i64 0, .int .i64 0, .bool false, .string { data := #[] }, .int .i64 0, .bool false, .string { data := #[] }, .int .i64 0, .int .i64 0] (Nat.ne_of_lt q_F2_F4.out)
  replace F6r0 : Blk (((((((((w2).alloc (.cells #[.bool ln, .string lS, .int .i64 le, .bool bn, .string bS, .int .i64 be] 28)).setCell ⟨w1.heap.size, 0, none⟩ (.bool ln)).setCell ⟨w1.heap.size, 1, none⟩ (.string lS)).setCell ⟨w1.heap.size, 2, none⟩ (.int .i64 le)).setCell ⟨w1.heap.size, 3, none⟩ (.bool bn)).setCell ⟨w1.heap.size, 4, none⟩ (.string bS)).setCell ⟨w1.heap.size, 5, none⟩ (.int .i64 be)).setCell ⟨w1.heap.size, 6, none⟩ (.int .i64 E)) (w2.heap.size) #[.bool ln, .string lS, .int .i64 le, .bool bn, .string bS, .int .i64 be] 28 := by rw [hch2]; exact F6r0.outRow #[.bool ln, .string lS, .int .i64 le, .bool bn, .string bS, .int .i64 be, .int .i64 E, .bool false, .string { data := #[] }, .int .i64 0, .bool false, .string { data := #[] }, .int .i64 0, .int .i64 0, .bool false, .string { data := #[] }, .int .i64 0, .bool false, .string { data := #[] }, .int .i64 0, .int .i64 0, .bool false, .string { data := #[] }, .int .i64 0, .bool false, .string { data := #[] }, .int .i64 0, .int .i64 0] (Nat.ne_of_gt q_F4_F6r0.out)
  replace F4 : Blk (((((((((w2).alloc (.cells #[.bool ln, .string lS, .int .i64 le, .bool bn, .string bS, .int .i64 be] 28)).setCell ⟨w1.heap.size, 0, none⟩ (.bool ln)).setCell ⟨w1.heap.size, 1, none⟩ (.string lS)).setCell ⟨w1.heap.size, 2, none⟩ (.int .i64 le)).setCell ⟨w1.heap.size, 3, none⟩ (.bool bn)).setCell ⟨w1.heap.size, 4, none⟩ (.string bS)).setCell ⟨w1.heap.size, 5, none⟩ (.int .i64 be)).setCell ⟨w1.heap.size, 6, none⟩ (.int .i64 E)) (w1.heap.size) #[.bool ln, .string lS, .int .i64 le, .bool bn, .string bS, .int .i64 be, .int .i64 E, .bool false, .string { data := #[] }, .int .i64 0, .bool false, .string { data := #[] }, .int .i64 0, .int .i64 0, .bool false, .string { data := #[] }, .int .i64 0, .bool false, .string { data := #[] }, .int .i64 0, .int .i64 0, .bool false, .string { data := #[] }, .int .i64 0, .bool false, .string { data := #[] }, .int .i64 0, .int .i64 0] 37 := by rw [hch2]; exact F4.inRow #[.bool ln, .string lS, .int .i64 le, .bool bn, .string bS, .int .i64 be, .int .i64 E, .bool false, .string { data := #[] }, .int .i64 0, .bool false, .string { data := #[] }, .int .i64 0, .int .i64 0, .bool false, .string { data := #[] }, .int .i64 0, .bool false, .string { data := #[] }, .int .i64 0, .int .i64 0, .bool false, .string { data := #[] }, .int .i64 0, .bool false, .string { data := #[] }, .int .i64 0, .int .i64 0]
  replace B0 : Below w.heap.size w (((((((((w2).alloc (.cells #[.bool ln, .string lS, .int .i64 le, .bool bn, .string bS, .int .i64 be] 28)).setCell ⟨w1.heap.size, 0, none⟩ (.bool ln)).setCell ⟨w1.heap.size, 1, none⟩ (.string lS)).setCell ⟨w1.heap.size, 2, none⟩ (.int .i64 le)).setCell ⟨w1.heap.size, 3, none⟩ (.bool bn)).setCell ⟨w1.heap.size, 4, none⟩ (.string bS)).setCell ⟨w1.heap.size, 5, none⟩ (.int .i64 be)).setCell ⟨w1.heap.size, 6, none⟩ (.int .i64 E)) := by rw [hch2]; exact below_setRow B0 q_w_F4.out #[.bool ln, .string lS, .int .i64 le, .bool bn, .string bS, .int .i64 be, .int .i64 E, .bool false, .string { data := #[] }, .int .i64 0, .bool false, .string { data := #[] }, .int .i64 0, .int .i64 0, .bool false, .string { data := #[] }, .int .i64 0, .bool false, .string { data := #[] }, .int .i64 0, .int .i64 0, .bool false, .string { data := #[] }, .int .i64 0, .bool false, .string { data := #[] }, .int .i64 0, .int .i64 0]
  clear hch2
  go_wp2_with fail
  clear xF6r02_0 xF6r02_1 xF6r02_2 xF6r02_3 xF6r02_4 xF6r02_5 xF12_0 xF12_1 xF12_2 xF12_3 xF12_4 xF12_5 xF12_6 yF42_0 yF42_0f yF42_1 yF42_1f yF42_2 yF42_2f yF42_3 yF42_3f yF42_4 yF42_4f yF42_5 yF42_5f yF42_6 yF42_6f
  rw [rounds_succ]
  obtain ⟨xF13_0, xF13_1, xF13_2, xF13_3, xF13_4, xF13_5, xF13_6⟩ := F1.ce7
  go_wp2_with fail
  (with_reducible refine (a1 _ (hT.below B0)).mono ?_)
  rintro r w3 ⟨rfl, hb3⟩
  clear xF13_0 xF13_1 xF13_2 xF13_3 xF13_4 xF13_5 xF13_6
  replace F1 := F1.keep hb3
  replace F2 := F2.keep hb3
  replace F4 := F4.keep hb3
  replace F6r0 := F6r0.keep hb3
  replace B0 := B0.trans (hb3.mono B0.size)
  clear hb3
  have q_F4_F6r1 : Hid (w1.heap.size < w3.heap.size) := Lib.hid (by have := F4.lt; first | exact this | omega | (simp; done) | simpa using this)
  replace F1 := F1.allocd (.cells #[.bool mn, .string mS, .int .i64 me, .bool bn, .string bS, .int .i64 be] 28)
  replace F2 := F2.allocd (.cells #[.bool mn, .string mS, .int .i64 me, .bool bn, .string bS, .int .i64 be] 28)
  replace F4 := F4.allocd (.cells #[.bool mn, .string mS, .int .i64 me, .bool bn, .string bS, .int .i64 be] 28)
  clear F6r0
  have F6r1 := Blk.put (w3) #[.bool mn, .string mS, .int .i64 me, .bool bn, .string bS, .int .i64 be] 28
  replace B0 := B0.alloc B0.size (.cells #[.bool mn, .string mS, .int .i64 me, .bool bn, .string bS, .int .i64 be] 28)
  obtain ⟨xF6r14_0, xF6r14_1, xF6r14_2, xF6r14_3, xF6r14_4, xF6r14_5⟩ := F6r1.ce6
  obtain ⟨xF14_0, xF14_1, xF14_2, xF14_3, xF14_4, xF14_5, xF14_6⟩ := F1.ce7
  have yF44_7 : ((w3).alloc (.cells #[.bool mn, .string mS, .int .i64 me, .bool bn, .string bS, .int .i64 be] 28)).cell? ⟨w1.heap.size, 7, none⟩ = some (.bool false) := F4.at 7 (by simp)
  have yF44_7f : ((w3).alloc (.cells #[.bool mn, .string mS, .int .i64 me, .bool bn, .string bS, .int .i64 be] 28)).frozen? ⟨w1.heap.size, 7, none⟩ = false := F4.free 7
  have yF44_8 : ((w3).alloc (.cells #[.bool mn, .string mS, .int .i64 me, .bool bn, .string bS, .int .i64 be] 28)).cell? ⟨w1.heap.size, 8, none⟩ = some (.string { data := #[] }) := F4.at 8 (by simp)
  have yF44_8f : ((w3).alloc (.cells #[.bool mn, .string mS, .int .i64 me, .bool bn, .string bS, .int .i64 be] 28)).frozen? ⟨w1.heap.size, 8, none⟩ = false := F4.free 8
  have yF44_9 : ((w3).alloc (.cells #[.bool mn, .string mS, .int .i64 me, .bool bn, .string bS, .int .i64 be] 28)).cell? ⟨w1.heap.size, 9, none⟩ = some (.int .i64 0) := F4.at 9 (by simp)
  have yF44_9f : ((w3).alloc (.cells #[.bool mn, .string mS, .int .i64 me, .bool bn, .string bS, .int .i64 be] 28)).frozen? ⟨w1.heap.size, 9, none⟩ = false := F4.free 9
  have yF44_10 : ((w3).alloc (.cells #[.bool mn, .string mS, .int .i64 me, .bool bn, .string bS, .int .i64 be] 28)).cell? ⟨w1.heap.size, 10, none⟩ = some (.bool false) := F4.at 10 (by simp)
  have yF44_10f : ((w3).alloc (.cells #[.bool mn, .string mS, .int .i64 me, .bool bn, .string bS, .int .i64 be] 28)).frozen? ⟨w1.heap.size, 10, none⟩ = false := F4.free 10
  have yF44_11 : ((w3).alloc (.cells #[.bool mn, .string mS, .int .i64 me, .bool bn, .string bS, .int .i64 be] 28)).cell? ⟨w1.heap.size, 11, none⟩ = some (.string { data := #[] }) := F4.at 11 (by simp)
  have yF44_11f : ((w3).alloc (.cells #[.bool mn, .string mS, .int .i64 me, .bool bn, .string bS, .int .i64 be] 28)).frozen? ⟨w1.heap.size, 11, none⟩ = false := F4.free 11
  have yF44_12 : ((w3).alloc (.cells #[.bool mn, .string mS, .int .i64 me, .bool bn, .string bS, .int .i64 be] 28)).cell? ⟨w1.heap.size, 12, none⟩ = some (.int .i64 0) := F4.at 12 (by simp)
  have yF44_12f : ((w3).alloc (.cells #[.bool mn, .string mS, .int .i64 me, .bool bn, .string bS, .int .i64 be] 28)).frozen? ⟨w1.heap.size, 12, none⟩ = false := F4.free 12
  have yF44_13 : ((w3).alloc (.cells #[.bool mn, .string mS, .int .i64 me, .bool bn, .string bS, .int .i64 be] 28)).cell? ⟨w1.heap.size, 13, none⟩ = some (.int .i64 0) := F4.at 13 (by simp)
  have yF44_13f : ((w3).alloc (.cells #[.bool mn, .string mS, .int .i64 me, .bool bn, .string bS, .int .i64 be] 28)).frozen? ⟨w1.heap.size, 13, none⟩ = false := F4.free 13
  have hch3 : ((((((((w3).alloc (.cells #[.bool mn, .string mS, .int .i64 me, .bool bn, .string bS, .int .i64 be] 28)).setCell ⟨w1.heap.size, 7, none⟩ (.bool mn)).setCell ⟨w1.heap.size, 8, none⟩ (.string mS)).setCell ⟨w1.heap.size, 9, none⟩ (.int .i64 me)).setCell ⟨w1.heap.size, 10, none⟩ (.bool bn)).setCell ⟨w1.heap.size, 11, none⟩ (.string bS)).setCell ⟨w1.heap.size, 12, none⟩ (.int .i64 be)).setCell ⟨w1.heap.size, 13, none⟩ (.int .i64 E) = ((w3).alloc (.cells #[.bool mn, .string mS, .int .i64 me, .bool bn, .string bS, .int .i64 be] 28)).setRow (w1.heap.size) #[.bool ln, .string lS, .int .i64 le, .bool bn, .string bS, .int .i64 be, .int .i64 E, .bool mn, .string mS, .int .i64 me, .bool bn, .string bS, .int .i64 be, .int .i64 E, .bool false, .string { data := #[] }, .int .i64 0, .bool false, .string { data := #[] }, .int .i64 0, .int .i64 0, .bool false, .string { data := #[] }, .int .i64 0, .bool false, .string { data := #[] }, .int .i64 0, .int .i64 0] := put_mid7 F4 7 (.bool mn) (.string mS) (.int .i64 me) (.bool bn) (.string bS) (.int .i64 be) (.int .i64 E) _ rfl (by simp)
  replace F1 : Blk (((((((((w3).alloc (.cells #[.bool mn, .string mS, .int .i64 me, .bool bn, .string bS, .int .i64 be] 28)).setCell ⟨w1.heap.size, 7, none⟩ (.bool mn)).setCell ⟨w1.heap.size, 8, none⟩ (.string mS)).setCell ⟨w1.heap.size, 9, none⟩ (.int .i64 me)).setCell ⟨w1.heap.size, 10, none⟩ (.bool bn)).setCell ⟨w1.heap.size, 11, none⟩ (.string bS)).setCell ⟨w1.heap.size, 12, none⟩ (.int .i64 be)).setCell ⟨w1.heap.size, 13, none⟩ (.int .i64 E)) (w.heap.size) #[.bool ln, .string lS, .int .i64 le, .bool bn, .string bS, .int .i64 be, .int .i64 e] 26 := by rw [hch3]; exact F1.outRow #[.bool ln, .string lS, .int .i64 le, .bool bn, .string bS, .int .i64 be, .int .i64 E, .bool mn, .string mS, .int .i64 me, .bool bn, .string bS, .int .i64 be, .int .i64 E, .bool false, .string { data := #[] }, .int .i64 0, .bool false, .string { data := #[] }, .int .i64 0, .int .i64 0, .bool false, .string { data := #[] }, .int .i64 0, .bool false, .string { data := #[] }, .int .i64 0, .int .i64 0] (Nat.ne_of_lt q_F1_F4.out)
  replace F2 : Blk (((((((((w3).alloc (.cells #[.bool mn, .string mS, .int .i64 me, .bool bn, .string bS, .int .i64 be] 28)).setCell ⟨w1.heap.size, 7, none⟩ (.bool mn)).setCell ⟨w1.heap.size, 8, none⟩ (.string mS)).setCell ⟨w1.heap.size, 9, none⟩ (.int .i64 me)).setCell ⟨w1.heap.size, 10, none⟩ (.bool bn)).setCell ⟨w1.heap.size, 11, none⟩ (.string bS)).setCell ⟨w1.heap.size, 12, none⟩ (.int .i64 be)).setCell ⟨w1.heap.size, 13, none⟩ (.int .i64 E)) (w.heap.size + 1) #[.bool false, .string { data := #[] }, .int .i64 0, .bool false, .string { data := #[] }, .int .i64 0, .int .i64 0, .bool false, .string { data := #[] }, .int .i64 0, .bool false, .string { data := #[] }, .int .i64 0, .int .i64 0, .bool false, .string { data := #[] }, .int .i64 0, .bool false, .string { data := #[] }, .int .i64 0, .int .i64 0, .bool false, .string { data := #[] }, .int .i64 0, .bool false, .string { data := #[] }, .int .i64 0, .int .i64 0] 37 := by rw [hch3]; exact F2.outRow #[.bool ln, .string lS, .int .i64 le, .bool bn, .string bS, .int .i64 be, .int .i64 E, .bool mn, .string mS, .int .i64 me, .bool bn, .string bS, .int .i64 be, .int .i64 E, .bool false, .string { data := #[] }, .int .i64 0, .bool false, .string { data := #[] }, .int .i64 0, .int .i64 0, .bool false, .string { data := #[] }, .int .i64 0, .bool false, .string { data := #[] }, .int .i64 0, .int .i64 0] (Nat.ne_of_lt q_F2_F4.out)
  replace F6r1 : Blk (((((((((w3).alloc (.cells #[.bool mn, .string mS, .int .i64 me, .bool bn, .string bS, .int .i64 be] 28)).setCell ⟨w1.heap.size, 7, none⟩ (.bool mn)).setCell ⟨w1.heap.size, 8, none⟩ (.string mS)).setCell ⟨w1.heap.size, 9, none⟩ (.int .i64 me)).setCell ⟨w1.heap.size, 10, none⟩ (.bool bn)).setCell ⟨w1.heap.size, 11, none⟩ (.string bS)).setCell ⟨w1.heap.size, 12, none⟩ (.int .i64 be)).setCell ⟨w1.heap.size, 13, none⟩ (.int .i64 E)) (w3.heap.size) #[.bool mn, .string mS, .int .i64 me, .bool bn, .string bS, .int .i64 be] 28 := by rw [hch3]; exact F6r1.outRow #[.bool ln, .string lS, .int .i64 le, .bool bn, .string bS, .int .i64 be, .int .i64 E, .bool mn, .string mS, .int .i64 me, .bool bn, .string bS, .int .i64 be, .int .i64 E, .bool false, .string { data := #[] }, .int .i64 0, .bool false, .string { data := #[] }, .int .i64 0, .int .i64 0, .bool false, .string { data := #[] }, .int .i64 0, .bool false, .string { data := #[] }, .int .i64 0, .int .i64 0] (Nat.ne_of_gt q_F4_F6r1.out)
  replace F4 : Blk (((((((((w3).alloc (.cells #[.bool mn, .string mS, .int .i64 me, .bool bn, .string bS, .int .i64 be] 28)).setCell ⟨w1.heap.size, 7, none⟩ (.bool mn)).setCell ⟨w1.heap.size, 8, none⟩ (.string mS)).setCell ⟨w1.heap.size, 9, none⟩ (.int .i64 me)).setCell ⟨w1.heap.size, 10, none⟩ (.bool bn)).setCell ⟨w1.heap.size, 11, none⟩ (.string bS)).setCell ⟨w1.heap.size, 12, none⟩ (.int .i64 be)).setCell ⟨w1.heap.size, 13, none⟩ (.int .i64 E)) (w1.heap.size) #[.bool ln, .string lS, .int .i64 le, .bool bn, .string bS, .int .i64 be, .int .i64 E, .bool mn, .string mS, .int .i64 me, .bool bn, .string bS, .int .i64 be, .int .i64 E, .bool false, .string { data := #[] }, .int .i64 0, .bool false, .string { data := #[] }, .int .i64 0, .int .i64 0, .bool false, .string { data := #[] }, .int .i64 0, .bool false, .string { data := #[] }, .int .i64 0, .int .i64 0] 37 := by rw [hch3]; exact F4.inRow #[.bool ln, .string lS, .int .i64 le, .bool bn, .string bS, .int .i64 be, .int .i64 E, .bool mn, .string mS, .int .i64 me, .bool bn, .string bS, .int .i64 be, .int .i64 E, .bool false, .string { data := #[] }, .int .i64 0, .bool false, .string { data := #[] }, .int .i64 0, .int .i64 0, .bool false, .string { data := #[] }, .int .i64 0, .bool false, .string { data := #[] }, .int .i64 0, .int .i64 0]
  replace B0 : Below w.heap.size w (((((((((w3).alloc (.cells #[.bool mn, .string mS, .int .i64 me, .bool bn, .string bS, .int .i64 be] 28)).setCell ⟨w1.heap.size, 7, none⟩ (.bool mn)).setCell ⟨w1.heap.size, 8, none⟩ (.string mS)).setCell ⟨w1.heap.size, 9, none⟩ (.int .i64 me)).setCell ⟨w1.heap.size, 10, none⟩ (.bool bn)).setCell ⟨w1.heap.size, 11, none⟩ (.string bS)).setCell ⟨w1.heap.size, 12, none⟩ (.int .i64 be)).setCell ⟨w1.heap.size, 13, none⟩ (.int .i64 E)) := by rw [hch3]; exact below_setRow B0 q_w_F4.out #[.bool ln, .string lS, .int .i64 le, .bool bn, .string bS, .int .i64 be, .int .i64 E, .bool mn, .string mS, .int .i64 me, .bool bn, .string bS, .int .i64 be, .int .i64 E, .bool false, .string { data := #[] }, .int .i64 0, .bool false, .string { data := #[] }, .int .i64 0, .int .i64 0, .bool false, .string { data := #[] }, .int .i64 0, .bool false, .string { data := #[] }, .int .i64 0, .int .i64 0]
  clear hch3
  go_wp2_with fail
  clear xF6r14_0 xF6r14_1 xF6r14_2 xF6r14_3 xF6r14_4 xF6r14_5 xF14_0 xF14_1 xF14_2 xF14_3 xF14_4 xF14_5 xF14_6 yF44_7 yF44_7f yF44_8 yF44_8f yF44_9 yF44_9f yF44_10 yF44_10f yF44_11 yF44_11f yF44_12 yF44_12f yF44_13 yF44_13f
  rw [rounds_succ]
  obtain ⟨xF15_0, xF15_1, xF15_2, xF15_3, xF15_4, xF15_5, xF15_6⟩ := F1.ce7
  go_wp2_with fail
  (with_reducible refine (a2 _ (hT.below B0)).mono ?_)
  rintro r w4 ⟨rfl, hb4⟩
  clear xF15_0 xF15_1 xF15_2 xF15_3 xF15_4 xF15_5 xF15_6
  replace F1 := F1.keep hb4
  replace F2 := F2.keep hb4
  replace F4 := F4.keep hb4
  replace F6r1 := F6r1.keep hb4
  replace B0 := B0.trans (hb4.mono B0.size)
  clear hb4
  have q_F4_F6r2 : Hid (w1.heap.size < w4.heap.size) := Lib.hid (by have := F4.lt; first | exact this | omega | (simp; done) | simpa using this)
  replace F1 := F1.allocd (.cells #[.bool ln, .string lS, .int .i64 le, .bool nn, .string nS, .int .i64 ne] 28)
  replace F2 := F2.allocd (.cells #[.bool ln, .string lS, .int .i64 le, .bool nn, .string nS, .int .i64 ne] 28)
  replace F4 := F4.allocd (.cells #[.bool ln, .string lS, .int .i64 le, .bool nn, .string nS, .int .i64 ne] 28)
  clear F6r1
  have F6r2 := Blk.put (w4) #[.bool ln, .string lS, .int .i64 le, .bool nn, .string nS, .int .i64 ne] 28
  replace B0 := B0.alloc B0.size (.cells #[.bool ln, .string lS, .int .i64 le, .bool nn, .string nS, .int .i64 ne] 28)
  obtain ⟨xF6r26_0, xF6r26_1, xF6r26_2, xF6r26_3, xF6r26_4, xF6r26_5⟩ := F6r2.ce6
  obtain ⟨xF16_0, xF16_1, xF16_2, xF16_3, xF16_4, xF16_5, xF16_6⟩ := F1.ce7
  have yF46_14 : ((w4).alloc (.cells #[.bool ln, .string lS, .int .i64 le, .bool nn, .string nS, .int .i64 ne] 28)).cell? ⟨w1.heap.size, 14, none⟩ = some (.bool false) := F4.at 14 (by simp)
  have yF46_14f : ((w4).alloc (.cells #[.bool ln, .string lS, .int .i64 le, .bool nn, .string nS, .int .i64 ne] 28)).frozen? ⟨w1.heap.size, 14, none⟩ = false := F4.free 14
  have yF46_15 : ((w4).alloc (.cells #[.bool ln, .string lS, .int .i64 le, .bool nn, .string nS, .int .i64 ne] 28)).cell? ⟨w1.heap.size, 15, none⟩ = some (.string { data := #[] }) := F4.at 15 (by simp)
  have yF46_15f : ((w4).alloc (.cells #[.bool ln, .string lS, .int .i64 le, .bool nn, .string nS, .int .i64 ne] 28)).frozen? ⟨w1.heap.size, 15, none⟩ = false := F4.free 15
  have yF46_16 : ((w4).alloc (.cells #[.bool ln, .string lS, .int .i64 le, .bool nn, .string nS, .int .i64 ne] 28)).cell? ⟨w1.heap.size, 16, none⟩ = some (.int .i64 0) := F4.at 16 (by simp)
  have yF46_16f : ((w4).alloc (.cells #[.bool ln, .string lS, .int .i64 le, .bool nn, .string nS, .int .i64 ne] 28)).frozen? ⟨w1.heap.size, 16, none⟩ = false := F4.free 16
  have yF46_17 : ((w4).alloc (.cells #[.bool ln, .string lS, .int .i64 le, .bool nn, .string nS, .int .i64 ne] 28)).cell? ⟨w1.heap.size, 17, none⟩ = some (.bool false) := F4.at 17 (by simp)
  have yF46_17f : ((w4).alloc (.cells #[.bool ln, .string lS, .int .i64 le, .bool nn, .string nS, .int .i64 ne] 28)).frozen? ⟨w1.heap.size, 17, none⟩ = false := F4.free 17
  have yF46_18 : ((w4).alloc (.cells #[.bool ln, .string lS, .int .i64 le, .bool nn, .string nS, .int .i64 ne] 28)).cell? ⟨w1.heap.size, 18, none⟩ = some (.string { data := #[] }) := F4.at 18 (by simp)
  have yF46_18f : ((w4).alloc (.cells #[.bool ln, .string lS, .int .i64 le, .bool nn, .string nS, .int .i64 ne] 28)).frozen? ⟨w1.heap.size, 18, none⟩ = false := F4.free 18
  have yF46_19 : ((w4).alloc (.cells #[.bool ln, .string lS, .int .i64 le, .bool nn, .string nS, .int .i64 ne] 28)).cell? ⟨w1.heap.size, 19, none⟩ = some (.int .i64 0) := F4.at 19 (by simp)
  have yF46_19f : ((w4).alloc (.cells #[.bool ln, .string lS, .int .i64 le, .bool nn, .string nS, .int .i64 ne] 28)).frozen? ⟨w1.heap.size, 19, none⟩ = false := F4.free 19
  have yF46_20 : ((w4).alloc (.cells #[.bool ln, .string lS, .int .i64 le, .bool nn, .string nS, .int .i64 ne] 28)).cell? ⟨w1.heap.size, 20, none⟩ = some (.int .i64 0) := F4.at 20 (by simp)
  have yF46_20f : ((w4).alloc (.cells #[.bool ln, .string lS, .int .i64 le, .bool nn, .string nS, .int .i64 ne] 28)).frozen? ⟨w1.heap.size, 20, none⟩ = false := F4.free 20
  have hch4 : ((((((((w4).alloc (.cells #[.bool ln, .string lS, .int .i64 le, .bool nn, .string nS, .int .i64 ne] 28)).setCell ⟨w1.heap.size, 14, none⟩ (.bool ln)).setCell ⟨w1.heap.size, 15, none⟩ (.string lS)).setCell ⟨w1.heap.size, 16, none⟩ (.int .i64 le)).setCell ⟨w1.heap.size, 17, none⟩ (.bool nn)).setCell ⟨w1.heap.size, 18, none⟩ (.string nS)).setCell ⟨w1.heap.size, 19, none⟩ (.int .i64 ne)).setCell ⟨w1.heap.size, 20, none⟩ (.int .i64 E) = ((w4).alloc (.cells #[.bool ln, .string lS, .int .i64 le, .bool nn, .string nS, .int .i64 ne] 28)).setRow (w1.heap.size) #[.bool ln, .string lS, .int .i64 le, .bool bn, .string bS, .int .i64 be, .int .i64 E, .bool mn, .string mS, .int .i64 me, .bool bn, .string bS, .int .i64 be, .int .i64 E, .bool ln, .string lS, .int .i64 le, .bool nn, .string nS, .int .i64 ne, .int .i64 E, .bool false, .string { data := #[] }, .int .i64 0, .bool false, .string { data := #[] }, .int .i64 0, .int .i64 0] := put_mid7 F4 14 (.bool ln) (.string lS) (.int .i64 le) (.bool nn) (.string nS) (.int .i64 ne) (.int .i64 E) _ rfl (by simp)
  replace F1 : Blk (((((((((w4).alloc (.cells #[.bool ln, .string lS, .int .i64 le, .bool nn, .string nS, .int .i64 ne] 28)).setCell ⟨w1.heap.size, 14, none⟩ (.bool ln)).setCell ⟨w1.heap.size, 15, none⟩ (.string lS)).setCell ⟨w1.heap.size, 16, none⟩ (.int .i64 le)).setCell ⟨w1.heap.size, 17, none⟩ (.bool nn)).setCell ⟨w1.heap.size, 18, none⟩ (.string nS)).setCell ⟨w1.heap.size, 19, none⟩ (.int .i64 ne)).setCell ⟨w1.heap.size, 20, none⟩ (.int .i64 E)) (w.heap.size) #[.bool ln, .string lS, .int .i64 le, .bool bn, .string bS, .int .i64 be, .int .i64 e] 26 := by rw [hch4]; exact F1.outRow #[.bool ln, .string lS, .int .i64 le, .bool bn, .string bS, .int .i64 be, .int .i64 E, .bool mn, .string mS, .int .i64 me, .bool bn, .string bS, .int .i64 be, .int .i64 E, .bool ln, .string lS, .int .i64 le, .bool nn, .string nS, .int .i64 ne, .int .i64 E, .bool false, .string { data := #[] }, .int .i64 0, .bool false, .string { data := #[] }, .int .i64 0, .int .i64 0] (Nat.ne_of_lt q_F1_F4.out)
  replace F2 : Blk (((((((((w4).alloc (.cells #[.bool ln, .string lS, .int .i64 le, .bool nn, .string nS, .int .i64 ne] 28)).setCell ⟨w1.heap.size, 14, none⟩ (.bool ln)).setCell ⟨w1.heap.size, 15, none⟩ (.string lS)).setCell ⟨w1.heap.size, 16, none⟩ (.int .i64 le)).setCell ⟨w1.heap.size, 17, none⟩ (.bool nn)).setCell ⟨w1.heap.size, 18, none⟩ (.string nS)).setCell ⟨w1.heap.size, 19, none⟩ (.int .i64 ne)).setCell ⟨w1.heap.size, 20, none⟩ (.int .i64 E)) (w.heap.size + 1) #[.bool false, .string { data := #[] }, .int .i64 0, .bool false, .string { data := #[] }, .int .i64 0, .int .i64 0, .bool false, .string { data := #[] }, .int .i64 0, .bool false, .string { data := #[] }, .int .i64 0, .int .i64 0, .bool false, .string { data := #[] }, .int .i64 0, .bool false, .string { data := #[] }, .int .i64 0, .int .i64 0, .bool false, .string { data := #[] }, .int .i64 0, .bool false, .string { data := #[] }, .int .i64 0, .int .i64 0] 37 := by rw [hch4]; exact F2.outRow #[.bool ln, .string lS, .int .i64 le, .bool bn, .string bS, .int .i64 be, .int .i64 E, .bool mn, .string mS, .int .i64 me, .bool bn, .string bS, .int .i64 be, .int .i64 E, .bool ln, .string lS, .int .i64 le, .bool nn, .string nS, .int .i64 ne, .int .i64 E, .bool false, .string { data := #[] }, .int .i64 0, .bool false, .string { data := #[] }, .int .i64 0, .int .i64 0] (Nat.ne_of_lt q_F2_F4.out)
  replace F6r2 : Blk (((((((((w4).alloc (.cells #[.bool ln, .string lS, .int .i64 le, .bool nn, .string nS, .int .i64 ne] 28)).setCell ⟨w1.heap.size, 14, none⟩ (.bool ln)).setCell ⟨w1.heap.size, 15, none⟩ (.string lS)).setCell ⟨w1.heap.size, 16, none⟩ (.int .i64 le)).setCell ⟨w1.heap.size, 17, none⟩ (.bool nn)).setCell ⟨w1.heap.size, 18, none⟩ (.string nS)).setCell ⟨w1.heap.size, 19, none⟩ (.int .i64 ne)).setCell ⟨w1.heap.size, 20, none⟩ (.int .i64 E)) (w4.heap.size) #[.bool ln, .string lS, .int .i64 le, .bool nn, .string nS, .int .i64 ne] 28 := by rw [hch4]; exact F6r2.outRow #[.bool ln, .string lS, .int .i64 le, .bool bn, .string bS, .int .i64 be, .int .i64 E, .bool mn, .string mS, .int .i64 me, .bool bn, .string bS, .int .i64 be, .int .i64 E, .bool ln, .string lS, .int .i64 le, .bool nn, .string nS, .int .i64 ne, .int .i64 E, .bool false, .string { data := #[] }, .int .i64 0, .bool false, .string { data := #[] }, .int .i64 0, .int .i64 0] (Nat.ne_of_gt q_F4_F6r2.out)
  replace F4 : Blk (((((((((w4).alloc (.cells #[.bool ln, .string lS, .int .i64 le, .bool nn, .string nS, .int .i64 ne] 28)).setCell ⟨w1.heap.size, 14, none⟩ (.bool ln)).setCell ⟨w1.heap.size, 15, none⟩ (.string lS)).setCell ⟨w1.heap.size, 16, none⟩ (.int .i64 le)).setCell ⟨w1.heap.size, 17, none⟩ (.bool nn)).setCell ⟨w1.heap.size, 18, none⟩ (.string nS)).setCell ⟨w1.heap.size, 19, none⟩ (.int .i64 ne)).setCell ⟨w1.heap.size, 20, none⟩ (.int .i64 E)) (w1.heap.size) #[.bool ln, .string lS, .int .i64 le, .bool bn, .string bS, .int .i64 be, .int .i64 E, .bool mn, .string mS, .int .i64 me, .bool bn, .string bS, .int .i64 be, .int .i64 E, .bool ln, .string lS, .int .i64 le, .bool nn, .string nS, .int .i64 ne, .int .i64 E, .bool false, .string { data := #[] }, .int .i64 0, .bool false, .string { data := #[] }, .int .i64 0, .int .i64 0] 37 := by rw [hch4]; exact F4.inRow #[.bool ln, .string lS, .int .i64 le, .bool bn, .string bS, .int .i64 be, .int .i64 E, .bool mn, .string mS, .int .i64 me, .bool bn, .string bS, .int .i64 be, .int .i64 E, .bool ln, .string lS, .int .i64 le, .bool nn, .string nS, .int .i64 ne, .int .i64 E, .bool false, .string { data := #[] }, .int .i64 0, .bool false, .string { data := #[] }, .int .i64 0, .int .i64 0]
  replace B0 : Below w.heap.size w (((((((((w4).alloc (.cells #[.bool ln, .string lS, .int .i64 le, .bool nn, .string nS, .int .i64 ne] 28)).setCell ⟨w1.heap.size, 14, none⟩ (.bool ln)).setCell ⟨w1.heap.size, 15, none⟩ (.string lS)).setCell ⟨w1.heap.size, 16, none⟩ (.int .i64 le)).setCell ⟨w1.heap.size, 17, none⟩ (.bool nn)).setCell ⟨w1.heap.size, 18, none⟩ (.string nS)).setCell ⟨w1.heap.size, 19, none⟩ (.int .i64 ne)).setCell ⟨w1.heap.size, 20, none⟩ (.int .i64 E)) := by rw [hch4]; exact below_setRow B0 q_w_F4.out #[.bool ln, .string lS, .int .i64 le, .bool bn, .string bS, .int .i64 be, .int .i64 E, .bool mn, .string mS, .int .i64 me, .bool bn, .string bS, .int .i64 be, .int .i64 E, .bool ln, .string lS, .int .i64 le, .bool nn, .string nS, .int .i64 ne, .int .i64 E, .bool false, .string { data := #[] }, .int .i64 0, .bool false, .string { data := #[] }, .int .i64 0, .int .i64 0]
  clear hch4
  go_wp2_with fail
  clear xF6r26_0 xF6r26_1 xF6r26_2 xF6r26_3 xF6r26_4 xF6r26_5 xF16_0 xF16_1 xF16_2 xF16_3 xF16_4 xF16_5 xF16_6 yF46_14 yF46_14f yF46_15 yF46_15f yF46_16 yF46_16f yF46_17 yF46_17f yF46_18 yF46_18f yF46_19 yF46_19f yF46_20 yF46_20f
  rw [rounds_succ]
  obtain ⟨xF17_0, xF17_1, xF17_2, xF17_3, xF17_4, xF17_5, xF17_6⟩ := F1.ce7
  go_wp2_with fail
  (with_reducible refine (a3 _ (hT.below B0)).mono ?_)
  rintro r w5 ⟨rfl, hb5⟩
  clear xF17_0 xF17_1 xF17_2 xF17_3 xF17_4 xF17_5 xF17_6
  replace F1 := F1.keep hb5
  replace F2 := F2.keep hb5
  replace F4 := F4.keep hb5
  replace F6r2 := F6r2.keep hb5
  replace B0 := B0.trans (hb5.mono B0.size)
  clear hb5
  have q_F2_F6r3 : Hid (w.heap.size + 1 < w5.heap.size) := Lib.hid (by have := F2.lt; first | exact this | omega | (simp; done) | simpa using this)
  have q_F4_F6r3 : Hid (w1.heap.size < w5.heap.size) := Lib.hid (by have := F4.lt; first | exact this | omega | (simp; done) | simpa using this)
  replace F1 := F1.allocd (.cells #[.bool mn, .string mS, .int .i64 me, .bool nn, .string nS, .int .i64 ne] 28)
  replace F2 := F2.allocd (.cells #[.bool mn, .string mS, .int .i64 me, .bool nn, .string nS, .int .i64 ne] 28)
  replace F4 := F4.allocd (.cells #[.bool mn, .string mS, .int .i64 me, .bool nn, .string nS, .int .i64 ne] 28)
  clear F6r2
  have F6r3 := Blk.put (w5) #[.bool mn, .string mS, .int .i64 me, .bool nn, .string nS, .int .i64 ne] 28
  replace B0 := B0.alloc B0.size (.cells #[.bool mn, .string mS, .int .i64 me, .bool nn, .string nS, .int .i64 ne] 28)
  obtain ⟨xF6r38_0, xF6r38_1, xF6r38_2, xF6r38_3, xF6r38_4, xF6r38_5⟩ := F6r3.ce6
  obtain ⟨xF18_0, xF18_1, xF18_2, xF18_3, xF18_4, xF18_5, xF18_6⟩ := F1.ce7
  have yF48_21 : ((w5).alloc (.cells #[.bool mn, .string mS, .int .i64 me, .bool nn, .string nS, .int .i64 ne] 28)).cell? ⟨w1.heap.size, 21, none⟩ = some (.bool false) := F4.at 21 (by simp)
  have yF48_21f : ((w5).alloc (.cells #[.bool mn, .string mS, .int .i64 me, .bool nn, .string nS, .int .i64 ne] 28)).frozen? ⟨w1.heap.size, 21, none⟩ = false := F4.free 21
  have yF48_22 : ((w5).alloc (.cells #[.bool mn, .string mS, .int .i64 me, .bool nn, .string nS, .int .i64 ne] 28)).cell? ⟨w1.heap.size, 22, none⟩ = some (.string { data := #[] }) := F4.at 22 (by simp)
  have yF48_22f : ((w5).alloc (.cells #[.bool mn, .string mS, .int .i64 me, .bool nn, .string nS, .int .i64 ne] 28)).frozen? ⟨w1.heap.size, 22, none⟩ = false := F4.free 22
  have yF48_23 : ((w5).alloc (.cells #[.bool mn, .string mS, .int .i64 me, .bool nn, .string nS, .int .i64 ne] 28)).cell? ⟨w1.heap.size, 23, none⟩ = some (.int .i64 0) := F4.at 23 (by simp)
  have yF48_23f : ((w5).alloc (.cells #[.bool mn, .string mS, .int .i64 me, .bool nn, .string nS, .int .i64 ne] 28)).frozen? ⟨w1.heap.size, 23, none⟩ = false := F4.free 23
  have yF48_24 : ((w5).alloc (.cells #[.bool mn, .string mS, .int .i64 me, .bool nn, .string nS, .int .i64 ne] 28)).cell? ⟨w1.heap.size, 24, none⟩ = some (.bool false) := F4.at 24 (by simp)
  have yF48_24f : ((w5).alloc (.cells #[.bool mn, .string mS, .int .i64 me, .bool nn, .string nS, .int .i64 ne] 28)).frozen? ⟨w1.heap.size, 24, none⟩ = false := F4.free 24
  have yF48_25 : ((w5).alloc (.cells #[.bool mn, .string mS, .int .i64 me, .bool nn, .string nS, .int .i64 ne] 28)).cell? ⟨w1.heap.size, 25, none⟩ = some (.string { data := #[] }) := F4.at 25 (by simp)
  have yF48_25f : ((w5).alloc (.cells #[.bool mn, .string mS, .int .i64 me, .bool nn, .string nS, .int .i64 ne] 28)).frozen? ⟨w1.heap.size, 25, none⟩ = false := F4.free 25
  have yF48_26 : ((w5).alloc (.cells #[.bool mn, .string mS, .int .i64 me, .bool nn, .string nS, .int .i64 ne] 28)).cell? ⟨w1.heap.size, 26, none⟩ = some (.int .i64 0) := F4.at 26 (by simp)
  have yF48_26f : ((w5).alloc (.cells #[.bool mn, .string mS, .int .i64 me, .bool nn, .string nS, .int .i64 ne] 28)).frozen? ⟨w1.heap.size, 26, none⟩ = false := F4.free 26
  have yF48_27 : ((w5).alloc (.cells #[.bool mn, .string mS, .int .i64 me, .bool nn, .string nS, .int .i64 ne] 28)).cell? ⟨w1.heap.size, 27, none⟩ = some (.int .i64 0) := F4.at 27 (by simp)
  have yF48_27f : ((w5).alloc (.cells #[.bool mn, .string mS, .int .i64 me, .bool nn, .string nS, .int .i64 ne] 28)).frozen? ⟨w1.heap.size, 27, none⟩ = false := F4.free 27
  have hch5 : ((((((((w5).alloc (.cells #[.bool mn, .string mS, .int .i64 me, .bool nn, .string nS, .int .i64 ne] 28)).setCell ⟨w1.heap.size, 21, none⟩ (.bool mn)).setCell ⟨w1.heap.size, 22, none⟩ (.string mS)).setCell ⟨w1.heap.size, 23, none⟩ (.int .i64 me)).setCell ⟨w1.heap.size, 24, none⟩ (.bool nn)).setCell ⟨w1.heap.size, 25, none⟩ (.string nS)).setCell ⟨w1.heap.size, 26, none⟩ (.int .i64 ne)).setCell ⟨w1.heap.size, 27, none⟩ (.int .i64 E) = ((w5).alloc (.cells #[.bool mn, .string mS, .int .i64 me, .bool nn, .string nS, .int .i64 ne] 28)).setRow (w1.heap.size) #[.bool ln, .string lS, .int .i64 le, .bool bn, .string bS, .int .i64 be, .int .i64 E, .bool mn, .string mS, .int .i64 me, .bool bn, .string bS, .int .i64 be, .int .i64 E, .bool ln, .string lS, .int .i64 le, .bool nn, .string nS, .int .i64 ne, .int .i64 E, .bool mn, .string mS, .int .i64 me, .bool nn, .string nS, .int .i64 ne, .int .i64 E] := put_mid7 F4 21 (.bool mn) (.string mS) (.int .i64 me) (.bool nn) (.string nS) (.int .i64 ne) (.int .i64 E) _ rfl (by simp)
  replace F1 : Blk (((((((((w5).alloc (.cells #[.bool mn, .string mS, .int .i64 me, .bool nn, .string nS, .int .i64 ne] 28)).setCell ⟨w1.heap.size, 21, none⟩ (.bool mn)).setCell ⟨w1.heap.size, 22, none⟩ (.string mS)).setCell ⟨w1.heap.size, 23, none⟩ (.int .i64 me)).setCell ⟨w1.heap.size, 24, none⟩ (.bool nn)).setCell ⟨w1.heap.size, 25, none⟩ (.string nS)).setCell ⟨w1.heap.size, 26, none⟩ (.int .i64 ne)).setCell ⟨w1.heap.size, 27, none⟩ (.int .i64 E)) (w.heap.size) #[.bool ln, .string lS, .int .i64 le, .bool bn, .string bS, .int .i64 be, .int .i64 e] 26 := by rw [hch5]; exact F1.outRow #[.bool ln, .string lS, .int .i64 le, .bool bn, .string bS, .int .i64 be, .int .i64 E, .bool mn, .string mS, .int .i64 me, .bool bn, .string bS, .int .i64 be, .int .i64 E, .bool ln, .string lS, .int .i64 le, .bool nn, .string nS, .int .i64 ne, .int .i64 E, .bool mn, .string mS, .int .i64 me, .bool nn, .string nS, .int .i64 ne, .int .i64 E] (Nat.ne_of_lt q_F1_F4.out)
  replace F2 : Blk (((((((((w5).alloc (.cells #[.bool mn, .string mS, .int .i64 me, .bool nn, .string nS, .int .i64 ne] 28)).setCell ⟨w1.heap.size, 21, none⟩ (.bool mn)).setCell ⟨w1.heap.size, 22, none⟩ (.string mS)).setCell ⟨w1.heap.size, 23, none⟩ (.int .i64 me)).setCell ⟨w1.heap.size, 24, none⟩ (.bool nn)).setCell ⟨w1.heap.size, 25, none⟩ (.string nS)).setCell ⟨w1.heap.size, 26, none⟩ (.int .i64 ne)).setCell ⟨w1.heap.size, 27, none⟩ (.int .i64 E)) (w.heap.size + 1) #[.bool false, .string { data := #[] }, .int .i64 0, .bool false, .string { data := #[] }, .int .i64 0, .int .i64 0, .bool false, .string { data := #[] }, .int .i64 0, .bool false, .string { data := #[] }, .int .i64 0, .int .i64 0, .bool false, .string { data := #[] }, .int .i64 0, .bool false, .string { data := #[] }, .int .i64 0, .int .i64 0, .bool false, .string { data := #[] }, .int .i64 0, .bool false, .string { data := #[] }, .int .i64 0, .int .i64 0] 37 := by rw [hch5]; exact F2.outRow #[.bool ln, .string lS, .int .i64 le, .bool bn, .string bS, .int .i64 be, .int .i64 E, .bool mn, .string mS, .int .i64 me, .bool bn, .string bS, .int .i64 be, .int .i64 E, .bool ln, .string lS, .int .i64 le, .bool nn, .string nS, .int .i64 ne, .int .i64 E, .bool mn, .string mS, .int .i64 me, .bool nn, .string nS, .int .i64 ne, .int .i64 E] (Nat.ne_of_lt q_F2_F4.out)
  replace F6r3 : Blk (((((((((w5).alloc (.cells #[.bool mn, .string mS, .int .i64 me, .bool nn, .string nS, .int .i64 ne] 28)).setCell ⟨w1.heap.size, 21, none⟩ (.bool mn)).setCell ⟨w1.heap.size, 22, none⟩ (.string mS)).setCell ⟨w1.heap.size, 23, none⟩ (.int .i64 me)).setCell ⟨w1.heap.size, 24, none⟩ (.bool nn)).setCell ⟨w1.heap.size, 25, none⟩ (.string nS)).setCell ⟨w1.heap.size, 26, none⟩ (.int .i64 ne)).setCell ⟨w1.heap.size, 27, none⟩ (.int .i64 E)) (w5.heap.size) #[.bool mn, .string mS, .int .i64 me, .bool nn, .string nS, .int .i64 ne] 28 := by rw [hch5]; exact F6r3.outRow #[.bool ln, .string lS, .int .i64 le, .bool bn, .string bS, .int .i64 be, .int .i64 E, .bool mn, .string mS, .int .i64 me, .bool bn, .string bS, .int .i64 be, .int .i64 E, .bool ln, .string lS, .int .i64 le, .bool nn, .string nS, .int .i64 ne, .int .i64 E, .bool mn, .string mS, .int .i64 me, .bool nn, .string nS, .int .i64 ne, .int .i64 E] (Nat.ne_of_gt q_F4_F6r3.out)
  replace F4 : Blk (((((((((w5).alloc (.cells #[.bool mn, .string mS, .int .i64 me, .bool nn, .string nS, .int .i64 ne] 28)).setCell ⟨w1.heap.size, 21, none⟩ (.bool mn)).setCell ⟨w1.heap.size, 22, none⟩ (.string mS)).setCell ⟨w1.heap.size, 23, none⟩ (.int .i64 me)).setCell ⟨w1.heap.size, 24, none⟩ (.bool nn)).setCell ⟨w1.heap.size, 25, none⟩ (.string nS)).setCell ⟨w1.heap.size, 26, none⟩ (.int .i64 ne)).setCell ⟨w1.heap.size, 27, none⟩ (.int .i64 E)) (w1.heap.size) #[.bool ln, .string lS, .int .i64 le, .bool bn, .string bS, .int .i64 be, .int .i64 E, .bool mn, .string mS, .int .i64 me, .bool bn, .string bS, .int .i64 be, .int .i64 E, .bool ln, .string lS, .int .i64 le, .bool nn, .string nS, .int .i64 ne, .int .i64 E, .bool mn, .string mS, .int .i64 me, .bool nn, .string nS, .int .i64 ne, .int .i64 E] 37 := by rw [hch5]; exact F4.inRow #[.bool ln, .string lS, .int .i64 le, .bool bn, .string bS, .int .i64 be, .int .i64 E, .bool mn, .string mS, .int .i64 me, .bool bn, .string bS, .int .i64 be, .int .i64 E, .bool ln, .string lS, .int .i64 le, .bool nn, .string nS, .int .i64 ne, .int .i64 E, .bool mn, .string mS, .int .i64 me, .bool nn, .string nS, .int .i64 ne, .int .i64 E]
  replace B0 : Below w.heap.size w (((((((((w5).alloc (.cells #[.bool mn, .string mS, .int .i64 me, .bool nn, .string nS, .int .i64 ne] 28)).setCell ⟨w1.heap.size, 21, none⟩ (.bool mn)).setCell ⟨w1.heap.size, 22, none⟩ (.string mS)).setCell ⟨w1.heap.size, 23, none⟩ (.int .i64 me)).setCell ⟨w1.heap.size, 24, none⟩ (.bool nn)).setCell ⟨w1.heap.size, 25, none⟩ (.string nS)).setCell ⟨w1.heap.size, 26, none⟩ (.int .i64 ne)).setCell ⟨w1.heap.size, 27, none⟩ (.int .i64 E)) := by rw [hch5]; exact below_setRow B0 q_w_F4.out #[.bool ln, .string lS, .int .i64 le, .bool bn, .string bS, .int .i64 be, .int .i64 E, .bool mn, .string mS, .int .i64 me, .bool bn, .string bS, .int .i64 be, .int .i64 E, .bool ln, .string lS, .int .i64 le, .bool nn, .string nS, .int .i64 ne, .int .i64 E, .bool mn, .string mS, .int .i64 me, .bool nn, .string nS, .int .i64 ne, .int .i64 E]
  clear hch5
  go_wp2_with fail
  clear xF6r38_0 xF6r38_1 xF6r38_2 xF6r38_3 xF6r38_4 xF6r38_5 xF18_0 xF18_1 xF18_2 xF18_3 xF18_4 xF18_5 xF18_6 yF48_21 yF48_21f yF48_22 yF48_22f yF48_23 yF48_23f yF48_24 yF48_24f yF48_25 yF48_25f yF48_26 yF48_26f yF48_27 yF48_27f
  generalize ((((((((w5).alloc (.cells #[.bool mn, .string mS, .int .i64 me, .bool nn, .string nS, .int .i64 ne] 28)).setCell ⟨w1.heap.size, 21, none⟩ (.bool mn)).setCell ⟨w1.heap.size, 22, none⟩ (.string mS)).setCell ⟨w1.heap.size, 23, none⟩ (.int .i64 me)).setCell ⟨w1.heap.size, 24, none⟩ (.bool nn)).setCell ⟨w1.heap.size, 25, none⟩ (.string nS)).setCell ⟨w1.heap.size, 26, none⟩ (.int .i64 ne)).setCell ⟨w1.heap.size, 27, none⟩ (.int .i64 E) = v1 at *
  go_wp2_with fail
  rw [rounds_succ]
  go_upto_region 12 with fail
  refine wp_region_lit ?_
  refine wpList_load_row rfl _ _ rfl (w1.heap.size) _ _ _ rfl F4 Tryz.underlying37 (by kernel_rfl) ?_
  (try dsimp only [Act.put]); (try go_frame)
  refine wpList_store_row rfl _ _ _ rfl (w.heap.size + 1) _ _ rfl rfl F2 (by kernel_rfl) rfl (by simp [Value.oneCell']) ?_
  (try dsimp only [Act.put]); (try go_frame)
  replace F1 := F1.outRow #[.bool ln, .string lS, .int .i64 le, .bool bn, .string bS, .int .i64 be, .int .i64 E, .bool mn, .string mS, .int .i64 me, .bool bn, .string bS, .int .i64 be, .int .i64 E, .bool ln, .string lS, .int .i64 le, .bool nn, .string nS, .int .i64 ne, .int .i64 E, .bool mn, .string mS, .int .i64 me, .bool nn, .string nS, .int .i64 ne, .int .i64 E] (Nat.ne_of_lt q_F1_F2.out)
  replace F4 := F4.outRow #[.bool ln, .string lS, .int .i64 le, .bool bn, .string bS, .int .i64 be, .int .i64 E, .bool mn, .string mS, .int .i64 me, .bool bn, .string bS, .int .i64 be, .int .i64 E, .bool ln, .string lS, .int .i64 le, .bool nn, .string nS, .int .i64 ne, .int .i64 E, .bool mn, .string mS, .int .i64 me, .bool nn, .string nS, .int .i64 ne, .int .i64 E] (Nat.ne_of_gt q_F2_F4.out)
  replace F6r3 := F6r3.outRow #[.bool ln, .string lS, .int .i64 le, .bool bn, .string bS, .int .i64 be, .int .i64 E, .bool mn, .string mS, .int .i64 me, .bool bn, .string bS, .int .i64 be, .int .i64 E, .bool ln, .string lS, .int .i64 le, .bool nn, .string nS, .int .i64 ne, .int .i64 E, .bool mn, .string mS, .int .i64 me, .bool nn, .string nS, .int .i64 ne, .int .i64 E] (Nat.ne_of_gt q_F2_F6r3.out)
  replace F2 := F2.inRow #[.bool ln, .string lS, .int .i64 le, .bool bn, .string bS, .int .i64 be, .int .i64 E, .bool mn, .string mS, .int .i64 me, .bool bn, .string bS, .int .i64 be, .int .i64 E, .bool ln, .string lS, .int .i64 le, .bool nn, .string nS, .int .i64 ne, .int .i64 E, .bool mn, .string mS, .int .i64 me, .bool nn, .string nS, .int .i64 ne, .int .i64 E]
  replace B0 := below_setRow B0 q_w_F2.out #[.bool ln, .string lS, .int .i64 le, .bool bn, .string bS, .int .i64 be, .int .i64 E, .bool mn, .string mS, .int .i64 me, .bool bn, .string bS, .int .i64 be, .int .i64 E, .bool ln, .string lS, .int .i64 le, .bool nn, .string nS, .int .i64 ne, .int .i64 E, .bool mn, .string mS, .int .i64 me, .bool nn, .string nS, .int .i64 ne, .int .i64 E]
  refine wpList_move rfl _ (.inr rfl) (.int .i64 0) rfl ?_
  (try dsimp only [Act.put]); (try go_frame)
  go_wp2
  exact bodyPost_ret (results_row Tryz.results8 (w.heap.size + 1) _ _ _ _ rfl rfl F2 Tryz.underlying37 (by kernel_rfl)) rfl ⟨rfl, B0⟩

set_option maxRecDepth 100000 in
set_option maxHeartbeats 8000000 in
theorem vparts_1 (l : DY) (b : DY) (e : Int) (E : Int) (E_E : e - 1 = E) (w : World) (ok_l : l.ok) (ok_b : b.ok) (e1 : -4096 < e) (e2 : e ≤ 4096) (hp : ¬ (vM l 1 (e - 1)).2 = 0) (hT : Tab w) :
    Calls Tryz.prog 8 #[.agg #[.bool l.n, .string (bstr l.x), .int .i64 l.e, .bool b.n, .string (bstr b.x), .int .i64 b.e, .int .i64 e]] w fun r w' => r = .returned (.tuple #[.agg #[.bool false, .string { data := #[] }, .int .i64 0, .bool false, .string { data := #[] }, .int .i64 0, .int .i64 0, .bool false, .string { data := #[] }, .int .i64 0, .bool false, .string { data := #[] }, .int .i64 0, .int .i64 0, .bool false, .string { data := #[] }, .int .i64 0, .bool false, .string { data := #[] }, .int .i64 0, .int .i64 0, .bool false, .string { data := #[] }, .int .i64 0, .bool false, .string { data := #[] }, .int .i64 0, .int .i64 0], .int .i64 4]) ∧ Below w.heap.size w w' := by
  have h1 := fun W => vright_ok l b e W ok_l ok_b (by omega) e2
  have a0 := fun W hW => vat_00 l b e W ok_l ok_b (by omega) e2 hW
  have hx := fun W hW => vat_Px l b e W ok_l ok_b (by omega) e2 hp hW
  have hE := E_E
  have he4 : ¬ e = -4096 := by omega
  have nf := decide_eq_false he4
  clear E_E ok_l ok_b
  obtain ⟨ln, lX, le⟩ := l
  obtain ⟨bn, bX, be⟩ := b
  dsimp only at *
  generalize bstr lX = lS at *
  generalize bstr bX = bS at *
  clear hp
  go_enter Tryz.func8, Tryz.ntmps8
  have B0 := Below.refl w.heap.size w
  have F1 := Blk.put (w) #[.bool ln, .string lS, .int .i64 le, .bool bn, .string bS, .int .i64 be, .int .i64 e] 26
  replace B0 := B0.alloc B0.size (.cells #[.bool ln, .string lS, .int .i64 le, .bool bn, .string bS, .int .i64 be, .int .i64 e] 26)
  have q_w_F2 : Hid (w.heap.size ≤ w.heap.size + 1) := Lib.hid (by omega)
  replace F1 := F1.allocd (.cells #[.bool false, .string { data := #[] }, .int .i64 0, .bool false, .string { data := #[] }, .int .i64 0, .int .i64 0, .bool false, .string { data := #[] }, .int .i64 0, .bool false, .string { data := #[] }, .int .i64 0, .int .i64 0, .bool false, .string { data := #[] }, .int .i64 0, .bool false, .string { data := #[] }, .int .i64 0, .int .i64 0, .bool false, .string { data := #[] }, .int .i64 0, .bool false, .string { data := #[] }, .int .i64 0, .int .i64 0] 37)
  have F2 := Blk.put ((w).alloc (.cells #[.bool ln, .string lS, .int .i64 le, .bool bn, .string bS, .int .i64 be, .int .i64 e] 26)) #[.bool false, .string { data := #[] }, .int .i64 0, .bool false, .string { data := #[] }, .int .i64 0, .int .i64 0, .bool false, .string { data := #[] }, .int .i64 0, .bool false, .string { data := #[] }, .int .i64 0, .int .i64 0, .bool false, .string { data := #[] }, .int .i64 0, .bool false, .string { data := #[] }, .int .i64 0, .int .i64 0, .bool false, .string { data := #[] }, .int .i64 0, .bool false, .string { data := #[] }, .int .i64 0, .int .i64 0] 37
  rw [show ((w).alloc (.cells #[.bool ln, .string lS, .int .i64 le, .bool bn, .string bS, .int .i64 be, .int .i64 e] 26)).heap.size = w.heap.size + 1 by simp] at F2
  replace B0 := B0.alloc B0.size (.cells #[.bool false, .string { data := #[] }, .int .i64 0, .bool false, .string { data := #[] }, .int .i64 0, .int .i64 0, .bool false, .string { data := #[] }, .int .i64 0, .bool false, .string { data := #[] }, .int .i64 0, .int .i64 0, .bool false, .string { data := #[] }, .int .i64 0, .bool false, .string { data := #[] }, .int .i64 0, .int .i64 0, .bool false, .string { data := #[] }, .int .i64 0, .bool false, .string { data := #[] }, .int .i64 0, .int .i64 0] 37)
  obtain ⟨xF10_0, xF10_1, xF10_2, xF10_3, xF10_4, xF10_5, xF10_6⟩ := F1.ce7
  go_wp2_with fail
  (with_reducible refine (h1 _).mono ?_)
  rintro r w1 ⟨rfl, hb1⟩
  clear xF10_0 xF10_1 xF10_2 xF10_3 xF10_4 xF10_5 xF10_6
  replace F1 := F1.keep hb1
  replace F2 := F2.keep hb1
  replace B0 := B0.trans (hb1.mono B0.size)
  clear hb1
  obtain ⟨xF11_0, xF11_1, xF11_2, xF11_3, xF11_4, xF11_5, xF11_6⟩ := F1.ce7
  have q_F1_F4 : Hid (w.heap.size < w1.heap.size) := Lib.hid (by have := F1.lt; first | exact this | omega | (simp; done) | simpa using this)
  have q_F2_F4 : Hid (w.heap.size + 1 < w1.heap.size) := Lib.hid (by have := F2.lt; first | exact this | omega | (simp; done) | simpa using this)
  have q_w_F4 : Hid (w.heap.size ≤ w1.heap.size) := Lib.hid (by have := B0.size; first | exact this | omega | (simp; done) | simpa using this)
  replace F1 := F1.allocd (.cells #[.bool false, .string { data := #[] }, .int .i64 0, .bool false, .string { data := #[] }, .int .i64 0, .int .i64 0, .bool false, .string { data := #[] }, .int .i64 0, .bool false, .string { data := #[] }, .int .i64 0, .int .i64 0, .bool false, .string { data := #[] }, .int .i64 0, .bool false, .string { data := #[] }, .int .i64 0, .int .i64 0, .bool false, .string { data := #[] }, .int .i64 0, .bool false, .string { data := #[] }, .int .i64 0, .int .i64 0] 37)
  replace F2 := F2.allocd (.cells #[.bool false, .string { data := #[] }, .int .i64 0, .bool false, .string { data := #[] }, .int .i64 0, .int .i64 0, .bool false, .string { data := #[] }, .int .i64 0, .bool false, .string { data := #[] }, .int .i64 0, .int .i64 0, .bool false, .string { data := #[] }, .int .i64 0, .bool false, .string { data := #[] }, .int .i64 0, .int .i64 0, .bool false, .string { data := #[] }, .int .i64 0, .bool false, .string { data := #[] }, .int .i64 0, .int .i64 0] 37)
  have F4 := Blk.put (w1) #[.bool false, .string { data := #[] }, .int .i64 0, .bool false, .string { data := #[] }, .int .i64 0, .int .i64 0, .bool false, .string { data := #[] }, .int .i64 0, .bool false, .string { data := #[] }, .int .i64 0, .int .i64 0, .bool false, .string { data := #[] }, .int .i64 0, .bool false, .string { data := #[] }, .int .i64 0, .int .i64 0, .bool false, .string { data := #[] }, .int .i64 0, .bool false, .string { data := #[] }, .int .i64 0, .int .i64 0] 37
  replace B0 := B0.alloc B0.size (.cells #[.bool false, .string { data := #[] }, .int .i64 0, .bool false, .string { data := #[] }, .int .i64 0, .int .i64 0, .bool false, .string { data := #[] }, .int .i64 0, .bool false, .string { data := #[] }, .int .i64 0, .int .i64 0, .bool false, .string { data := #[] }, .int .i64 0, .bool false, .string { data := #[] }, .int .i64 0, .int .i64 0, .bool false, .string { data := #[] }, .int .i64 0, .bool false, .string { data := #[] }, .int .i64 0, .int .i64 0] 37)
  go_wp2_with fail
  clear xF11_0 xF11_1 xF11_2 xF11_3 xF11_4 xF11_5 xF11_6
  refine wp_loop_rounds 5 ?_
  rw [rounds_succ]
  obtain ⟨xF11_0, xF11_1, xF11_2, xF11_3, xF11_4, xF11_5, xF11_6⟩ := F1.ce7
  go_wp2_with fail
  (with_reducible refine (a0 _ (hT.below B0)).mono ?_)
  rintro r w2 ⟨rfl, hb2⟩
  clear xF11_0 xF11_1 xF11_2 xF11_3 xF11_4 xF11_5 xF11_6
  replace F1 := F1.keep hb2
  replace F2 := F2.keep hb2
  replace F4 := F4.keep hb2
  replace B0 := B0.trans (hb2.mono B0.size)
  clear hb2
  have q_F4_F6r0 : Hid (w1.heap.size < w2.heap.size) := Lib.hid (by have := F4.lt; first | exact this | omega | (simp; done) | simpa using this)
  replace F1 := F1.allocd (.cells #[.bool ln, .string lS, .int .i64 le, .bool bn, .string bS, .int .i64 be] 28)
  replace F2 := F2.allocd (.cells #[.bool ln, .string lS, .int .i64 le, .bool bn, .string bS, .int .i64 be] 28)
  replace F4 := F4.allocd (.cells #[.bool ln, .string lS, .int .i64 le, .bool bn, .string bS, .int .i64 be] 28)
  have F6r0 := Blk.put (w2) #[.bool ln, .string lS, .int .i64 le, .bool bn, .string bS, .int .i64 be] 28
  replace B0 := B0.alloc B0.size (.cells #[.bool ln, .string lS, .int .i64 le, .bool bn, .string bS, .int .i64 be] 28)
  obtain ⟨xF6r02_0, xF6r02_1, xF6r02_2, xF6r02_3, xF6r02_4, xF6r02_5⟩ := F6r0.ce6
  obtain ⟨xF12_0, xF12_1, xF12_2, xF12_3, xF12_4, xF12_5, xF12_6⟩ := F1.ce7
  have yF42_0 : ((w2).alloc (.cells #[.bool ln, .string lS, .int .i64 le, .bool bn, .string bS, .int .i64 be] 28)).cell? ⟨w1.heap.size, 0, none⟩ = some (.bool false) := F4.at 0 (by simp)
  have yF42_0f : ((w2).alloc (.cells #[.bool ln, .string lS, .int .i64 le, .bool bn, .string bS, .int .i64 be] 28)).frozen? ⟨w1.heap.size, 0, none⟩ = false := F4.free 0
  have yF42_1 : ((w2).alloc (.cells #[.bool ln, .string lS, .int .i64 le, .bool bn, .string bS, .int .i64 be] 28)).cell? ⟨w1.heap.size, 1, none⟩ = some (.string { data := #[] }) := F4.at 1 (by simp)
  have yF42_1f : ((w2).alloc (.cells #[.bool ln, .string lS, .int .i64 le, .bool bn, .string bS, .int .i64 be] 28)).frozen? ⟨w1.heap.size, 1, none⟩ = false := F4.free 1
  have yF42_2 : ((w2).alloc (.cells #[.bool ln, .string lS, .int .i64 le, .bool bn, .string bS, .int .i64 be] 28)).cell? ⟨w1.heap.size, 2, none⟩ = some (.int .i64 0) := F4.at 2 (by simp)
  have yF42_2f : ((w2).alloc (.cells #[.bool ln, .string lS, .int .i64 le, .bool bn, .string bS, .int .i64 be] 28)).frozen? ⟨w1.heap.size, 2, none⟩ = false := F4.free 2
  have yF42_3 : ((w2).alloc (.cells #[.bool ln, .string lS, .int .i64 le, .bool bn, .string bS, .int .i64 be] 28)).cell? ⟨w1.heap.size, 3, none⟩ = some (.bool false) := F4.at 3 (by simp)
  have yF42_3f : ((w2).alloc (.cells #[.bool ln, .string lS, .int .i64 le, .bool bn, .string bS, .int .i64 be] 28)).frozen? ⟨w1.heap.size, 3, none⟩ = false := F4.free 3
  have yF42_4 : ((w2).alloc (.cells #[.bool ln, .string lS, .int .i64 le, .bool bn, .string bS, .int .i64 be] 28)).cell? ⟨w1.heap.size, 4, none⟩ = some (.string { data := #[] }) := F4.at 4 (by simp)
  have yF42_4f : ((w2).alloc (.cells #[.bool ln, .string lS, .int .i64 le, .bool bn, .string bS, .int .i64 be] 28)).frozen? ⟨w1.heap.size, 4, none⟩ = false := F4.free 4
  have yF42_5 : ((w2).alloc (.cells #[.bool ln, .string lS, .int .i64 le, .bool bn, .string bS, .int .i64 be] 28)).cell? ⟨w1.heap.size, 5, none⟩ = some (.int .i64 0) := F4.at 5 (by simp)
  have yF42_5f : ((w2).alloc (.cells #[.bool ln, .string lS, .int .i64 le, .bool bn, .string bS, .int .i64 be] 28)).frozen? ⟨w1.heap.size, 5, none⟩ = false := F4.free 5
  have yF42_6 : ((w2).alloc (.cells #[.bool ln, .string lS, .int .i64 le, .bool bn, .string bS, .int .i64 be] 28)).cell? ⟨w1.heap.size, 6, none⟩ = some (.int .i64 0) := F4.at 6 (by simp)
  have yF42_6f : ((w2).alloc (.cells #[.bool ln, .string lS, .int .i64 le, .bool bn, .string bS, .int .i64 be] 28)).frozen? ⟨w1.heap.size, 6, none⟩ = false := F4.free 6
  have hch2 : ((((((((w2).alloc (.cells #[.bool ln, .string lS, .int .i64 le, .bool bn, .string bS, .int .i64 be] 28)).setCell ⟨w1.heap.size, 0, none⟩ (.bool ln)).setCell ⟨w1.heap.size, 1, none⟩ (.string lS)).setCell ⟨w1.heap.size, 2, none⟩ (.int .i64 le)).setCell ⟨w1.heap.size, 3, none⟩ (.bool bn)).setCell ⟨w1.heap.size, 4, none⟩ (.string bS)).setCell ⟨w1.heap.size, 5, none⟩ (.int .i64 be)).setCell ⟨w1.heap.size, 6, none⟩ (.int .i64 E) = ((w2).alloc (.cells #[.bool ln, .string lS, .int .i64 le, .bool bn, .string bS, .int .i64 be] 28)).setRow (w1.heap.size) #[.bool ln, .string lS, .int .i64 le, .bool bn, .string bS, .int .i64 be, .int .i64 E, .bool false, .string { data := #[] }, .int .i64 0, .bool false, .string { data := #[] }, .int .i64 0, .int .i64 0, .bool false, .string { data := #[] }, .int .i64 0, .bool false, .string { data := #[] }, .int .i64 0, .int .i64 0, .bool false, .string { data := #[] }, .int .i64 0, .bool false, .string { data := #[] }, .int .i64 0, .int .i64 0] := put_mid7 F4 0 (.bool ln) (.string lS) (.int .i64 le) (.bool bn) (.string bS) (.int .i64 be) (.int .i64 E) _ rfl (by simp)
  replace F1 : Blk (((((((((w2).alloc (.cells #[.bool ln, .string lS, .int .i64 le, .bool bn, .string bS, .int .i64 be] 28)).setCell ⟨w1.heap.size, 0, none⟩ (.bool ln)).setCell ⟨w1.heap.size, 1, none⟩ (.string lS)).setCell ⟨w1.heap.size, 2, none⟩ (.int .i64 le)).setCell ⟨w1.heap.size, 3, none⟩ (.bool bn)).setCell ⟨w1.heap.size, 4, none⟩ (.string bS)).setCell ⟨w1.heap.size, 5, none⟩ (.int .i64 be)).setCell ⟨w1.heap.size, 6, none⟩ (.int .i64 E)) (w.heap.size) #[.bool ln, .string lS, .int .i64 le, .bool bn, .string bS, .int .i64 be, .int .i64 e] 26 := by rw [hch2]; exact F1.outRow #[.bool ln, .string lS, .int .i64 le, .bool bn, .string bS, .int .i64 be, .int .i64 E, .bool false, .string { data := #[] }, .int .i64 0, .bool false, .string { data := #[] }, .int .i64 0, .int .i64 0, .bool false, .string { data := #[] }, .int .i64 0, .bool false, .string { data := #[] }, .int .i64 0, .int .i64 0, .bool false, .string { data := #[] }, .int .i64 0, .bool false, .string { data := #[] }, .int .i64 0, .int .i64 0] (Nat.ne_of_lt q_F1_F4.out)
  replace F2 : Blk (((((((((w2).alloc (.cells #[.bool ln, .string lS, .int .i64 le, .bool bn, .string bS, .int .i64 be] 28)).setCell ⟨w1.heap.size, 0, none⟩ (.bool ln)).setCell ⟨w1.heap.size, 1, none⟩ (.string lS)).setCell ⟨w1.heap.size, 2, none⟩ (.int .i64 le)).setCell ⟨w1.heap.size, 3, none⟩ (.bool bn)).setCell ⟨w1.heap.size, 4, none⟩ (.string bS)).setCell ⟨w1.heap.size, 5, none⟩ (.int .i64 be)).setCell ⟨w1.heap.size, 6, none⟩ (.int .i64 E)) (w.heap.size + 1) #[.bool false, .string { data := #[] }, .int .i64 0, .bool false, .string { data := #[] }, .int .i64 0, .int .i64 0, .bool false, .string { data := #[] }, .int .i64 0, .bool false, .string { data := #[] }, .int .i64 0, .int .i64 0, .bool false, .string { data := #[] }, .int .i64 0, .bool false, .string { data := #[] }, .int .i64 0, .int .i64 0, .bool false, .string { data := #[] }, .int .i64 0, .bool false, .string { data := #[] }, .int .i64 0, .int .i64 0] 37 := by rw [hch2]; exact F2.outRow #[.bool ln, .string lS, .int .i64 le, .bool bn, .string bS, .int .i64 be, .int .i64 E, .bool false, .string { data := #[] }, .int .i64 0, .bool false, .string { data := #[] }, .int .i64 0, .int .i64 0, .bool false, .string { data := #[] }, .int .i64 0, .bool false, .string { data := #[] }, .int .i64 0, .int .i64 0, .bool false, .string { data := #[] }, .int .i64 0, .bool false, .string { data := #[] }, .int .i64 0, .int .i64 0] (Nat.ne_of_lt q_F2_F4.out)
  replace F6r0 : Blk (((((((((w2).alloc (.cells #[.bool ln, .string lS, .int .i64 le, .bool bn, .string bS, .int .i64 be] 28)).setCell ⟨w1.heap.size, 0, none⟩ (.bool ln)).setCell ⟨w1.heap.size, 1, none⟩ (.string lS)).setCell ⟨w1.heap.size, 2, none⟩ (.int .i64 le)).setCell ⟨w1.heap.size, 3, none⟩ (.bool bn)).setCell ⟨w1.heap.size, 4, none⟩ (.string bS)).setCell ⟨w1.heap.size, 5, none⟩ (.int .i64 be)).setCell ⟨w1.heap.size, 6, none⟩ (.int .i64 E)) (w2.heap.size) #[.bool ln, .string lS, .int .i64 le, .bool bn, .string bS, .int .i64 be] 28 := by rw [hch2]; exact F6r0.outRow #[.bool ln, .string lS, .int .i64 le, .bool bn, .string bS, .int .i64 be, .int .i64 E, .bool false, .string { data := #[] }, .int .i64 0, .bool false, .string { data := #[] }, .int .i64 0, .int .i64 0, .bool false, .string { data := #[] }, .int .i64 0, .bool false, .string { data := #[] }, .int .i64 0, .int .i64 0, .bool false, .string { data := #[] }, .int .i64 0, .bool false, .string { data := #[] }, .int .i64 0, .int .i64 0] (Nat.ne_of_gt q_F4_F6r0.out)
  replace F4 : Blk (((((((((w2).alloc (.cells #[.bool ln, .string lS, .int .i64 le, .bool bn, .string bS, .int .i64 be] 28)).setCell ⟨w1.heap.size, 0, none⟩ (.bool ln)).setCell ⟨w1.heap.size, 1, none⟩ (.string lS)).setCell ⟨w1.heap.size, 2, none⟩ (.int .i64 le)).setCell ⟨w1.heap.size, 3, none⟩ (.bool bn)).setCell ⟨w1.heap.size, 4, none⟩ (.string bS)).setCell ⟨w1.heap.size, 5, none⟩ (.int .i64 be)).setCell ⟨w1.heap.size, 6, none⟩ (.int .i64 E)) (w1.heap.size) #[.bool ln, .string lS, .int .i64 le, .bool bn, .string bS, .int .i64 be, .int .i64 E, .bool false, .string { data := #[] }, .int .i64 0, .bool false, .string { data := #[] }, .int .i64 0, .int .i64 0, .bool false, .string { data := #[] }, .int .i64 0, .bool false, .string { data := #[] }, .int .i64 0, .int .i64 0, .bool false, .string { data := #[] }, .int .i64 0, .bool false, .string { data := #[] }, .int .i64 0, .int .i64 0] 37 := by rw [hch2]; exact F4.inRow #[.bool ln, .string lS, .int .i64 le, .bool bn, .string bS, .int .i64 be, .int .i64 E, .bool false, .string { data := #[] }, .int .i64 0, .bool false, .string { data := #[] }, .int .i64 0, .int .i64 0, .bool false, .string { data := #[] }, .int .i64 0, .bool false, .string { data := #[] }, .int .i64 0, .int .i64 0, .bool false, .string { data := #[] }, .int .i64 0, .bool false, .string { data := #[] }, .int .i64 0, .int .i64 0]
  replace B0 : Below w.heap.size w (((((((((w2).alloc (.cells #[.bool ln, .string lS, .int .i64 le, .bool bn, .string bS, .int .i64 be] 28)).setCell ⟨w1.heap.size, 0, none⟩ (.bool ln)).setCell ⟨w1.heap.size, 1, none⟩ (.string lS)).setCell ⟨w1.heap.size, 2, none⟩ (.int .i64 le)).setCell ⟨w1.heap.size, 3, none⟩ (.bool bn)).setCell ⟨w1.heap.size, 4, none⟩ (.string bS)).setCell ⟨w1.heap.size, 5, none⟩ (.int .i64 be)).setCell ⟨w1.heap.size, 6, none⟩ (.int .i64 E)) := by rw [hch2]; exact below_setRow B0 q_w_F4.out #[.bool ln, .string lS, .int .i64 le, .bool bn, .string bS, .int .i64 be, .int .i64 E, .bool false, .string { data := #[] }, .int .i64 0, .bool false, .string { data := #[] }, .int .i64 0, .int .i64 0, .bool false, .string { data := #[] }, .int .i64 0, .bool false, .string { data := #[] }, .int .i64 0, .int .i64 0, .bool false, .string { data := #[] }, .int .i64 0, .bool false, .string { data := #[] }, .int .i64 0, .int .i64 0]
  clear hch2
  go_wp2_with fail
  clear xF6r02_0 xF6r02_1 xF6r02_2 xF6r02_3 xF6r02_4 xF6r02_5 xF12_0 xF12_1 xF12_2 xF12_3 xF12_4 xF12_5 xF12_6 yF42_0 yF42_0f yF42_1 yF42_1f yF42_2 yF42_2f yF42_3 yF42_3f yF42_4 yF42_4f yF42_5 yF42_5f yF42_6 yF42_6f
  rw [rounds_succ]
  obtain ⟨xF13_0, xF13_1, xF13_2, xF13_3, xF13_4, xF13_5, xF13_6⟩ := F1.ce7
  go_wp2_with fail
  (with_reducible refine (hx _ (hT.below B0)).mono ?_)
  rintro r w3 ⟨rfl, hb3⟩
  clear xF13_0 xF13_1 xF13_2 xF13_3 xF13_4 xF13_5 xF13_6
  replace F1 := F1.keep hb3
  replace F2 := F2.keep hb3
  replace F4 := F4.keep hb3
  replace F6r0 := F6r0.keep hb3
  replace B0 := B0.trans (hb3.mono B0.size)
  clear hb3
  clear F1
  replace F2 := F2.allocd (.cells #[.bool false, .string { data := #[] }, .int .i64 0, .bool false, .string { data := #[] }, .int .i64 0] 28)
  clear F4
  clear F6r0
  replace B0 := B0.alloc B0.size (.cells #[.bool false, .string { data := #[] }, .int .i64 0, .bool false, .string { data := #[] }, .int .i64 0] 28)
  go_upto_region 9 with fail
  refine wp_region_lit ?_
  refine wpList_zero rfl _ _ _ _ _ rfl Tryz.zeroValue37 Tryz.underlying37 Tryz.sizeOf26 ?_
  (try dsimp only [Act.put]); (try go_frame)
  refine wpList_move rfl _ (.inl rfl) (.int .i64 4) rfl ?_
  (try dsimp only [Act.put]); (try go_frame)
  refine wpList_store_row rfl _ _ _ rfl (w.heap.size + 1) _ _ rfl rfl F2 (by kernel_rfl) rfl (by simp [Value.oneCell']) ?_
  (try dsimp only [Act.put]); (try go_frame)
  replace F2 := F2.inRow #[.bool false, .string { data := #[] }, .int .i64 0, .bool false, .string { data := #[] }, .int .i64 0, .int .i64 0, .bool false, .string { data := #[] }, .int .i64 0, .bool false, .string { data := #[] }, .int .i64 0, .int .i64 0, .bool false, .string { data := #[] }, .int .i64 0, .bool false, .string { data := #[] }, .int .i64 0, .int .i64 0, .bool false, .string { data := #[] }, .int .i64 0, .bool false, .string { data := #[] }, .int .i64 0, .int .i64 0]
  replace B0 := below_setRow B0 q_w_F2.out #[.bool false, .string { data := #[] }, .int .i64 0, .bool false, .string { data := #[] }, .int .i64 0, .int .i64 0, .bool false, .string { data := #[] }, .int .i64 0, .bool false, .string { data := #[] }, .int .i64 0, .int .i64 0, .bool false, .string { data := #[] }, .int .i64 0, .bool false, .string { data := #[] }, .int .i64 0, .int .i64 0, .bool false, .string { data := #[] }, .int .i64 0, .bool false, .string { data := #[] }, .int .i64 0, .int .i64 0]
  refine wpList_move rfl _ (.inr rfl) (.int .i64 4) rfl ?_
  (try dsimp only [Act.put]); (try go_frame)
  go_wp2
  exact bodyPost_ret (results_row Tryz.results8 (w.heap.size + 1) _ _ _ _ rfl rfl F2 Tryz.underlying37 (by kernel_rfl)) rfl ⟨rfl, B0⟩

set_option maxRecDepth 100000 in
set_option maxHeartbeats 8000000 in
theorem vparts_2 (l : DY) (b : DY) (e : Int) (E : Int) (m : DY) (E_E : e - 1 = E) (E_m : (vM l 1 (e - 1)).1 = m) (w : World) (ok_l : l.ok) (ok_b : b.ok) (e1 : -4096 < e) (e2 : e ≤ 4096) (hp : (vM l 1 (e - 1)).2 = 0) (hq : ¬ (vM b 1 (e - 1)).2 = 0) (hT : Tab w) :
    Calls Tryz.prog 8 #[.agg #[.bool l.n, .string (bstr l.x), .int .i64 l.e, .bool b.n, .string (bstr b.x), .int .i64 b.e, .int .i64 e]] w fun r w' => r = .returned (.tuple #[.agg #[.bool false, .string { data := #[] }, .int .i64 0, .bool false, .string { data := #[] }, .int .i64 0, .int .i64 0, .bool false, .string { data := #[] }, .int .i64 0, .bool false, .string { data := #[] }, .int .i64 0, .int .i64 0, .bool false, .string { data := #[] }, .int .i64 0, .bool false, .string { data := #[] }, .int .i64 0, .int .i64 0, .bool false, .string { data := #[] }, .int .i64 0, .bool false, .string { data := #[] }, .int .i64 0, .int .i64 0], .int .i64 4]) ∧ Below w.heap.size w w' := by
  have h1 := fun W => vright_ok l b e W ok_l ok_b (by omega) e2
  have a0 := fun W hW => vat_00 l b e W ok_l ok_b (by omega) e2 hW
  have a1 := fun W hW => vat_P10 l b e W ok_l ok_b (by omega) e2 hp hW
  rw [E_m] at a1
  have hx := fun W hW => vat_Py l b e W ok_l ok_b (by omega) e2 hq hW
  have hE := E_E
  have he4 : ¬ e = -4096 := by omega
  have nf := decide_eq_false he4
  clear E_E E_m ok_l ok_b
  obtain ⟨ln, lX, le⟩ := l
  obtain ⟨bn, bX, be⟩ := b
  obtain ⟨mn, mX, me⟩ := m
  dsimp only at *
  generalize bstr lX = lS at *
  generalize bstr bX = bS at *
  generalize bstr mX = mS at *
  clear hp hq
  go_enter Tryz.func8, Tryz.ntmps8
  have B0 := Below.refl w.heap.size w
  have F1 := Blk.put (w) #[.bool ln, .string lS, .int .i64 le, .bool bn, .string bS, .int .i64 be, .int .i64 e] 26
  replace B0 := B0.alloc B0.size (.cells #[.bool ln, .string lS, .int .i64 le, .bool bn, .string bS, .int .i64 be, .int .i64 e] 26)
  have q_w_F2 : Hid (w.heap.size ≤ w.heap.size + 1) := Lib.hid (by omega)
  replace F1 := F1.allocd (.cells #[.bool false, .string { data := #[] }, .int .i64 0, .bool false, .string { data := #[] }, .int .i64 0, .int .i64 0, .bool false, .string { data := #[] }, .int .i64 0, .bool false, .string { data := #[] }, .int .i64 0, .int .i64 0, .bool false, .string { data := #[] }, .int .i64 0, .bool false, .string { data := #[] }, .int .i64 0, .int .i64 0, .bool false, .string { data := #[] }, .int .i64 0, .bool false, .string { data := #[] }, .int .i64 0, .int .i64 0] 37)
  have F2 := Blk.put ((w).alloc (.cells #[.bool ln, .string lS, .int .i64 le, .bool bn, .string bS, .int .i64 be, .int .i64 e] 26)) #[.bool false, .string { data := #[] }, .int .i64 0, .bool false, .string { data := #[] }, .int .i64 0, .int .i64 0, .bool false, .string { data := #[] }, .int .i64 0, .bool false, .string { data := #[] }, .int .i64 0, .int .i64 0, .bool false, .string { data := #[] }, .int .i64 0, .bool false, .string { data := #[] }, .int .i64 0, .int .i64 0, .bool false, .string { data := #[] }, .int .i64 0, .bool false, .string { data := #[] }, .int .i64 0, .int .i64 0] 37
  rw [show ((w).alloc (.cells #[.bool ln, .string lS, .int .i64 le, .bool bn, .string bS, .int .i64 be, .int .i64 e] 26)).heap.size = w.heap.size + 1 by simp] at F2
  replace B0 := B0.alloc B0.size (.cells #[.bool false, .string { data := #[] }, .int .i64 0, .bool false, .string { data := #[] }, .int .i64 0, .int .i64 0, .bool false, .string { data := #[] }, .int .i64 0, .bool false, .string { data := #[] }, .int .i64 0, .int .i64 0, .bool false, .string { data := #[] }, .int .i64 0, .bool false, .string { data := #[] }, .int .i64 0, .int .i64 0, .bool false, .string { data := #[] }, .int .i64 0, .bool false, .string { data := #[] }, .int .i64 0, .int .i64 0] 37)
  obtain ⟨xF10_0, xF10_1, xF10_2, xF10_3, xF10_4, xF10_5, xF10_6⟩ := F1.ce7
  go_wp2_with fail
  (with_reducible refine (h1 _).mono ?_)
  rintro r w1 ⟨rfl, hb1⟩
  clear xF10_0 xF10_1 xF10_2 xF10_3 xF10_4 xF10_5 xF10_6
  replace F1 := F1.keep hb1
  replace F2 := F2.keep hb1
  replace B0 := B0.trans (hb1.mono B0.size)
  clear hb1
  obtain ⟨xF11_0, xF11_1, xF11_2, xF11_3, xF11_4, xF11_5, xF11_6⟩ := F1.ce7
  have q_F1_F4 : Hid (w.heap.size < w1.heap.size) := Lib.hid (by have := F1.lt; first | exact this | omega | (simp; done) | simpa using this)
  have q_F2_F4 : Hid (w.heap.size + 1 < w1.heap.size) := Lib.hid (by have := F2.lt; first | exact this | omega | (simp; done) | simpa using this)
  have q_w_F4 : Hid (w.heap.size ≤ w1.heap.size) := Lib.hid (by have := B0.size; first | exact this | omega | (simp; done) | simpa using this)
  replace F1 := F1.allocd (.cells #[.bool false, .string { data := #[] }, .int .i64 0, .bool false, .string { data := #[] }, .int .i64 0, .int .i64 0, .bool false, .string { data := #[] }, .int .i64 0, .bool false, .string { data := #[] }, .int .i64 0, .int .i64 0, .bool false, .string { data := #[] }, .int .i64 0, .bool false, .string { data := #[] }, .int .i64 0, .int .i64 0, .bool false, .string { data := #[] }, .int .i64 0, .bool false, .string { data := #[] }, .int .i64 0, .int .i64 0] 37)
  replace F2 := F2.allocd (.cells #[.bool false, .string { data := #[] }, .int .i64 0, .bool false, .string { data := #[] }, .int .i64 0, .int .i64 0, .bool false, .string { data := #[] }, .int .i64 0, .bool false, .string { data := #[] }, .int .i64 0, .int .i64 0, .bool false, .string { data := #[] }, .int .i64 0, .bool false, .string { data := #[] }, .int .i64 0, .int .i64 0, .bool false, .string { data := #[] }, .int .i64 0, .bool false, .string { data := #[] }, .int .i64 0, .int .i64 0] 37)
  have F4 := Blk.put (w1) #[.bool false, .string { data := #[] }, .int .i64 0, .bool false, .string { data := #[] }, .int .i64 0, .int .i64 0, .bool false, .string { data := #[] }, .int .i64 0, .bool false, .string { data := #[] }, .int .i64 0, .int .i64 0, .bool false, .string { data := #[] }, .int .i64 0, .bool false, .string { data := #[] }, .int .i64 0, .int .i64 0, .bool false, .string { data := #[] }, .int .i64 0, .bool false, .string { data := #[] }, .int .i64 0, .int .i64 0] 37
  replace B0 := B0.alloc B0.size (.cells #[.bool false, .string { data := #[] }, .int .i64 0, .bool false, .string { data := #[] }, .int .i64 0, .int .i64 0, .bool false, .string { data := #[] }, .int .i64 0, .bool false, .string { data := #[] }, .int .i64 0, .int .i64 0, .bool false, .string { data := #[] }, .int .i64 0, .bool false, .string { data := #[] }, .int .i64 0, .int .i64 0, .bool false, .string { data := #[] }, .int .i64 0, .bool false, .string { data := #[] }, .int .i64 0, .int .i64 0] 37)
  go_wp2_with fail
  clear xF11_0 xF11_1 xF11_2 xF11_3 xF11_4 xF11_5 xF11_6
  refine wp_loop_rounds 5 ?_
  rw [rounds_succ]
  obtain ⟨xF11_0, xF11_1, xF11_2, xF11_3, xF11_4, xF11_5, xF11_6⟩ := F1.ce7
  go_wp2_with fail
  (with_reducible refine (a0 _ (hT.below B0)).mono ?_)
  rintro r w2 ⟨rfl, hb2⟩
  clear xF11_0 xF11_1 xF11_2 xF11_3 xF11_4 xF11_5 xF11_6
  replace F1 := F1.keep hb2
  replace F2 := F2.keep hb2
  replace F4 := F4.keep hb2
  replace B0 := B0.trans (hb2.mono B0.size)
  clear hb2
  have q_F4_F6r0 : Hid (w1.heap.size < w2.heap.size) := Lib.hid (by have := F4.lt; first | exact this | omega | (simp; done) | simpa using this)
  replace F1 := F1.allocd (.cells #[.bool ln, .string lS, .int .i64 le, .bool bn, .string bS, .int .i64 be] 28)
  replace F2 := F2.allocd (.cells #[.bool ln, .string lS, .int .i64 le, .bool bn, .string bS, .int .i64 be] 28)
  replace F4 := F4.allocd (.cells #[.bool ln, .string lS, .int .i64 le, .bool bn, .string bS, .int .i64 be] 28)
  have F6r0 := Blk.put (w2) #[.bool ln, .string lS, .int .i64 le, .bool bn, .string bS, .int .i64 be] 28
  replace B0 := B0.alloc B0.size (.cells #[.bool ln, .string lS, .int .i64 le, .bool bn, .string bS, .int .i64 be] 28)
  obtain ⟨xF6r02_0, xF6r02_1, xF6r02_2, xF6r02_3, xF6r02_4, xF6r02_5⟩ := F6r0.ce6
  obtain ⟨xF12_0, xF12_1, xF12_2, xF12_3, xF12_4, xF12_5, xF12_6⟩ := F1.ce7
  have yF42_0 : ((w2).alloc (.cells #[.bool ln, .string lS, .int .i64 le, .bool bn, .string bS, .int .i64 be] 28)).cell? ⟨w1.heap.size, 0, none⟩ = some (.bool false) := F4.at 0 (by simp)
  have yF42_0f : ((w2).alloc (.cells #[.bool ln, .string lS, .int .i64 le, .bool bn, .string bS, .int .i64 be] 28)).frozen? ⟨w1.heap.size, 0, none⟩ = false := F4.free 0
  have yF42_1 : ((w2).alloc (.cells #[.bool ln, .string lS, .int .i64 le, .bool bn, .string bS, .int .i64 be] 28)).cell? ⟨w1.heap.size, 1, none⟩ = some (.string { data := #[] }) := F4.at 1 (by simp)
  have yF42_1f : ((w2).alloc (.cells #[.bool ln, .string lS, .int .i64 le, .bool bn, .string bS, .int .i64 be] 28)).frozen? ⟨w1.heap.size, 1, none⟩ = false := F4.free 1
  have yF42_2 : ((w2).alloc (.cells #[.bool ln, .string lS, .int .i64 le, .bool bn, .string bS, .int .i64 be] 28)).cell? ⟨w1.heap.size, 2, none⟩ = some (.int .i64 0) := F4.at 2 (by simp)
  have yF42_2f : ((w2).alloc (.cells #[.bool ln, .string lS, .int .i64 le, .bool bn, .string bS, .int .i64 be] 28)).frozen? ⟨w1.heap.size, 2, none⟩ = false := F4.free 2
  have yF42_3 : ((w2).alloc (.cells #[.bool ln, .string lS, .int .i64 le, .bool bn, .string bS, .int .i64 be] 28)).cell? ⟨w1.heap.size, 3, none⟩ = some (.bool false) := F4.at 3 (by simp)
  have yF42_3f : ((w2).alloc (.cells #[.bool ln, .string lS, .int .i64 le, .bool bn, .string bS, .int .i64 be] 28)).frozen? ⟨w1.heap.size, 3, none⟩ = false := F4.free 3
  have yF42_4 : ((w2).alloc (.cells #[.bool ln, .string lS, .int .i64 le, .bool bn, .string bS, .int .i64 be] 28)).cell? ⟨w1.heap.size, 4, none⟩ = some (.string { data := #[] }) := F4.at 4 (by simp)
  have yF42_4f : ((w2).alloc (.cells #[.bool ln, .string lS, .int .i64 le, .bool bn, .string bS, .int .i64 be] 28)).frozen? ⟨w1.heap.size, 4, none⟩ = false := F4.free 4
  have yF42_5 : ((w2).alloc (.cells #[.bool ln, .string lS, .int .i64 le, .bool bn, .string bS, .int .i64 be] 28)).cell? ⟨w1.heap.size, 5, none⟩ = some (.int .i64 0) := F4.at 5 (by simp)
  have yF42_5f : ((w2).alloc (.cells #[.bool ln, .string lS, .int .i64 le, .bool bn, .string bS, .int .i64 be] 28)).frozen? ⟨w1.heap.size, 5, none⟩ = false := F4.free 5
  have yF42_6 : ((w2).alloc (.cells #[.bool ln, .string lS, .int .i64 le, .bool bn, .string bS, .int .i64 be] 28)).cell? ⟨w1.heap.size, 6, none⟩ = some (.int .i64 0) := F4.at 6 (by simp)
  have yF42_6f : ((w2).alloc (.cells #[.bool ln, .string lS, .int .i64 le, .bool bn, .string bS, .int .i64 be] 28)).frozen? ⟨w1.heap.size, 6, none⟩ = false := F4.free 6
  have hch2 : ((((((((w2).alloc (.cells #[.bool ln, .string lS, .int .i64 le, .bool bn, .string bS, .int .i64 be] 28)).setCell ⟨w1.heap.size, 0, none⟩ (.bool ln)).setCell ⟨w1.heap.size, 1, none⟩ (.string lS)).setCell ⟨w1.heap.size, 2, none⟩ (.int .i64 le)).setCell ⟨w1.heap.size, 3, none⟩ (.bool bn)).setCell ⟨w1.heap.size, 4, none⟩ (.string bS)).setCell ⟨w1.heap.size, 5, none⟩ (.int .i64 be)).setCell ⟨w1.heap.size, 6, none⟩ (.int .i64 E) = ((w2).alloc (.cells #[.bool ln, .string lS, .int .i64 le, .bool bn, .string bS, .int .i64 be] 28)).setRow (w1.heap.size) #[.bool ln, .string lS, .int .i64 le, .bool bn, .string bS, .int .i64 be, .int .i64 E, .bool false, .string { data := #[] }, .int .i64 0, .bool false, .string { data := #[] }, .int .i64 0, .int .i64 0, .bool false, .string { data := #[] }, .int .i64 0, .bool false, .string { data := #[] }, .int .i64 0, .int .i64 0, .bool false, .string { data := #[] }, .int .i64 0, .bool false, .string { data := #[] }, .int .i64 0, .int .i64 0] := put_mid7 F4 0 (.bool ln) (.string lS) (.int .i64 le) (.bool bn) (.string bS) (.int .i64 be) (.int .i64 E) _ rfl (by simp)
  replace F1 : Blk (((((((((w2).alloc (.cells #[.bool ln, .string lS, .int .i64 le, .bool bn, .string bS, .int .i64 be] 28)).setCell ⟨w1.heap.size, 0, none⟩ (.bool ln)).setCell ⟨w1.heap.size, 1, none⟩ (.string lS)).setCell ⟨w1.heap.size, 2, none⟩ (.int .i64 le)).setCell ⟨w1.heap.size, 3, none⟩ (.bool bn)).setCell ⟨w1.heap.size, 4, none⟩ (.string bS)).setCell ⟨w1.heap.size, 5, none⟩ (.int .i64 be)).setCell ⟨w1.heap.size, 6, none⟩ (.int .i64 E)) (w.heap.size) #[.bool ln, .string lS, .int .i64 le, .bool bn, .string bS, .int .i64 be, .int .i64 e] 26 := by rw [hch2]; exact F1.outRow #[.bool ln, .string lS, .int .i64 le, .bool bn, .string bS, .int .i64 be, .int .i64 E, .bool false, .string { data := #[] }, .int .i64 0, .bool false, .string { data := #[] }, .int .i64 0, .int .i64 0, .bool false, .string { data := #[] }, .int .i64 0, .bool false, .string { data := #[] }, .int .i64 0, .int .i64 0, .bool false, .string { data := #[] }, .int .i64 0, .bool false, .string { data := #[] }, .int .i64 0, .int .i64 0] (Nat.ne_of_lt q_F1_F4.out)
  replace F2 : Blk (((((((((w2).alloc (.cells #[.bool ln, .string lS, .int .i64 le, .bool bn, .string bS, .int .i64 be] 28)).setCell ⟨w1.heap.size, 0, none⟩ (.bool ln)).setCell ⟨w1.heap.size, 1, none⟩ (.string lS)).setCell ⟨w1.heap.size, 2, none⟩ (.int .i64 le)).setCell ⟨w1.heap.size, 3, none⟩ (.bool bn)).setCell ⟨w1.heap.size, 4, none⟩ (.string bS)).setCell ⟨w1.heap.size, 5, none⟩ (.int .i64 be)).setCell ⟨w1.heap.size, 6, none⟩ (.int .i64 E)) (w.heap.size + 1) #[.bool false, .string { data := #[] }, .int .i64 0, .bool false, .string { data := #[] }, .int .i64 0, .int .i64 0, .bool false, .string { data := #[] }, .int .i64 0, .bool false, .string { data := #[] }, .int .i64 0, .int .i64 0, .bool false, .string { data := #[] }, .int .i64 0, .bool false, .string { data := #[] }, .int .i64 0, .int .i64 0, .bool false, .string { data := #[] }, .int .i64 0, .bool false, .string { data := #[] }, .int .i64 0, .int .i64 0] 37 := by rw [hch2]; exact F2.outRow #[.bool ln, .string lS, .int .i64 le, .bool bn, .string bS, .int .i64 be, .int .i64 E, .bool false, .string { data := #[] }, .int .i64 0, .bool false, .string { data := #[] }, .int .i64 0, .int .i64 0, .bool false, .string { data := #[] }, .int .i64 0, .bool false, .string { data := #[] }, .int .i64 0, .int .i64 0, .bool false, .string { data := #[] }, .int .i64 0, .bool false, .string { data := #[] }, .int .i64 0, .int .i64 0] (Nat.ne_of_lt q_F2_F4.out)
  replace F6r0 : Blk (((((((((w2).alloc (.cells #[.bool ln, .string lS, .int .i64 le, .bool bn, .string bS, .int .i64 be] 28)).setCell ⟨w1.heap.size, 0, none⟩ (.bool ln)).setCell ⟨w1.heap.size, 1, none⟩ (.string lS)).setCell ⟨w1.heap.size, 2, none⟩ (.int .i64 le)).setCell ⟨w1.heap.size, 3, none⟩ (.bool bn)).setCell ⟨w1.heap.size, 4, none⟩ (.string bS)).setCell ⟨w1.heap.size, 5, none⟩ (.int .i64 be)).setCell ⟨w1.heap.size, 6, none⟩ (.int .i64 E)) (w2.heap.size) #[.bool ln, .string lS, .int .i64 le, .bool bn, .string bS, .int .i64 be] 28 := by rw [hch2]; exact F6r0.outRow #[.bool ln, .string lS, .int .i64 le, .bool bn, .string bS, .int .i64 be, .int .i64 E, .bool false, .string { data := #[] }, .int .i64 0, .bool false, .string { data := #[] }, .int .i64 0, .int .i64 0, .bool false, .string { data := #[] }, .int .i64 0, .bool false, .string { data := #[] }, .int .i64 0, .int .i64 0, .bool false, .string { data := #[] }, .int .i64 0, .bool false, .string { data := #[] }, .int .i64 0, .int .i64 0] (Nat.ne_of_gt q_F4_F6r0.out)
  replace F4 : Blk (((((((((w2).alloc (.cells #[.bool ln, .string lS, .int .i64 le, .bool bn, .string bS, .int .i64 be] 28)).setCell ⟨w1.heap.size, 0, none⟩ (.bool ln)).setCell ⟨w1.heap.size, 1, none⟩ (.string lS)).setCell ⟨w1.heap.size, 2, none⟩ (.int .i64 le)).setCell ⟨w1.heap.size, 3, none⟩ (.bool bn)).setCell ⟨w1.heap.size, 4, none⟩ (.string bS)).setCell ⟨w1.heap.size, 5, none⟩ (.int .i64 be)).setCell ⟨w1.heap.size, 6, none⟩ (.int .i64 E)) (w1.heap.size) #[.bool ln, .string lS, .int .i64 le, .bool bn, .string bS, .int .i64 be, .int .i64 E, .bool false, .string { data := #[] }, .int .i64 0, .bool false, .string { data := #[] }, .int .i64 0, .int .i64 0, .bool false, .string { data := #[] }, .int .i64 0, .bool false, .string { data := #[] }, .int .i64 0, .int .i64 0, .bool false, .string { data := #[] }, .int .i64 0, .bool false, .string { data := #[] }, .int .i64 0, .int .i64 0] 37 := by rw [hch2]; exact F4.inRow #[.bool ln, .string lS, .int .i64 le, .bool bn, .string bS, .int .i64 be, .int .i64 E, .bool false, .string { data := #[] }, .int .i64 0, .bool false, .string { data := #[] }, .int .i64 0, .int .i64 0, .bool false, .string { data := #[] }, .int .i64 0, .bool false, .string { data := #[] }, .int .i64 0, .int .i64 0, .bool false, .string { data := #[] }, .int .i64 0, .bool false, .string { data := #[] }, .int .i64 0, .int .i64 0]
  replace B0 : Below w.heap.size w (((((((((w2).alloc (.cells #[.bool ln, .string lS, .int .i64 le, .bool bn, .string bS, .int .i64 be] 28)).setCell ⟨w1.heap.size, 0, none⟩ (.bool ln)).setCell ⟨w1.heap.size, 1, none⟩ (.string lS)).setCell ⟨w1.heap.size, 2, none⟩ (.int .i64 le)).setCell ⟨w1.heap.size, 3, none⟩ (.bool bn)).setCell ⟨w1.heap.size, 4, none⟩ (.string bS)).setCell ⟨w1.heap.size, 5, none⟩ (.int .i64 be)).setCell ⟨w1.heap.size, 6, none⟩ (.int .i64 E)) := by rw [hch2]; exact below_setRow B0 q_w_F4.out #[.bool ln, .string lS, .int .i64 le, .bool bn, .string bS, .int .i64 be, .int .i64 E, .bool false, .string { data := #[] }, .int .i64 0, .bool false, .string { data := #[] }, .int .i64 0, .int .i64 0, .bool false, .string { data := #[] }, .int .i64 0, .bool false, .string { data := #[] }, .int .i64 0, .int .i64 0, .bool false, .string { data := #[] }, .int .i64 0, .bool false, .string { data := #[] }, .int .i64 0, .int .i64 0]
  clear hch2
  go_wp2_with fail
  clear xF6r02_0 xF6r02_1 xF6r02_2 xF6r02_3 xF6r02_4 xF6r02_5 xF12_0 xF12_1 xF12_2 xF12_3 xF12_4 xF12_5 xF12_6 yF42_0 yF42_0f yF42_1 yF42_1f yF42_2 yF42_2f yF42_3 yF42_3f yF42_4 yF42_4f yF42_5 yF42_5f yF42_6 yF42_6f
  rw [rounds_succ]
  obtain ⟨xF13_0, xF13_1, xF13_2, xF13_3, xF13_4, xF13_5, xF13_6⟩ := F1.ce7
  go_wp2_with fail
  (with_reducible refine (a1 _ (hT.below B0)).mono ?_)
  rintro r w3 ⟨rfl, hb3⟩
  clear xF13_0 xF13_1 xF13_2 xF13_3 xF13_4 xF13_5 xF13_6
  replace F1 := F1.keep hb3
  replace F2 := F2.keep hb3
  replace F4 := F4.keep hb3
  replace F6r0 := F6r0.keep hb3
  replace B0 := B0.trans (hb3.mono B0.size)
  clear hb3
  have q_F4_F6r1 : Hid (w1.heap.size < w3.heap.size) := Lib.hid (by have := F4.lt; first | exact this | omega | (simp; done) | simpa using this)
  replace F1 := F1.allocd (.cells #[.bool mn, .string mS, .int .i64 me, .bool bn, .string bS, .int .i64 be] 28)
  replace F2 := F2.allocd (.cells #[.bool mn, .string mS, .int .i64 me, .bool bn, .string bS, .int .i64 be] 28)
  replace F4 := F4.allocd (.cells #[.bool mn, .string mS, .int .i64 me, .bool bn, .string bS, .int .i64 be] 28)
  clear F6r0
  have F6r1 := Blk.put (w3) #[.bool mn, .string mS, .int .i64 me, .bool bn, .string bS, .int .i64 be] 28
  replace B0 := B0.alloc B0.size (.cells #[.bool mn, .string mS, .int .i64 me, .bool bn, .string bS, .int .i64 be] 28)
  obtain ⟨xF6r14_0, xF6r14_1, xF6r14_2, xF6r14_3, xF6r14_4, xF6r14_5⟩ := F6r1.ce6
  obtain ⟨xF14_0, xF14_1, xF14_2, xF14_3, xF14_4, xF14_5, xF14_6⟩ := F1.ce7
  have yF44_7 : ((w3).alloc (.cells #[.bool mn, .string mS, .int .i64 me, .bool bn, .string bS, .int .i64 be] 28)).cell? ⟨w1.heap.size, 7, none⟩ = some (.bool false) := F4.at 7 (by simp)
  have yF44_7f : ((w3).alloc (.cells #[.bool mn, .string mS, .int .i64 me, .bool bn, .string bS, .int .i64 be] 28)).frozen? ⟨w1.heap.size, 7, none⟩ = false := F4.free 7
  have yF44_8 : ((w3).alloc (.cells #[.bool mn, .string mS, .int .i64 me, .bool bn, .string bS, .int .i64 be] 28)).cell? ⟨w1.heap.size, 8, none⟩ = some (.string { data := #[] }) := F4.at 8 (by simp)
  have yF44_8f : ((w3).alloc (.cells #[.bool mn, .string mS, .int .i64 me, .bool bn, .string bS, .int .i64 be] 28)).frozen? ⟨w1.heap.size, 8, none⟩ = false := F4.free 8
  have yF44_9 : ((w3).alloc (.cells #[.bool mn, .string mS, .int .i64 me, .bool bn, .string bS, .int .i64 be] 28)).cell? ⟨w1.heap.size, 9, none⟩ = some (.int .i64 0) := F4.at 9 (by simp)
  have yF44_9f : ((w3).alloc (.cells #[.bool mn, .string mS, .int .i64 me, .bool bn, .string bS, .int .i64 be] 28)).frozen? ⟨w1.heap.size, 9, none⟩ = false := F4.free 9
  have yF44_10 : ((w3).alloc (.cells #[.bool mn, .string mS, .int .i64 me, .bool bn, .string bS, .int .i64 be] 28)).cell? ⟨w1.heap.size, 10, none⟩ = some (.bool false) := F4.at 10 (by simp)
  have yF44_10f : ((w3).alloc (.cells #[.bool mn, .string mS, .int .i64 me, .bool bn, .string bS, .int .i64 be] 28)).frozen? ⟨w1.heap.size, 10, none⟩ = false := F4.free 10
  have yF44_11 : ((w3).alloc (.cells #[.bool mn, .string mS, .int .i64 me, .bool bn, .string bS, .int .i64 be] 28)).cell? ⟨w1.heap.size, 11, none⟩ = some (.string { data := #[] }) := F4.at 11 (by simp)
  have yF44_11f : ((w3).alloc (.cells #[.bool mn, .string mS, .int .i64 me, .bool bn, .string bS, .int .i64 be] 28)).frozen? ⟨w1.heap.size, 11, none⟩ = false := F4.free 11
  have yF44_12 : ((w3).alloc (.cells #[.bool mn, .string mS, .int .i64 me, .bool bn, .string bS, .int .i64 be] 28)).cell? ⟨w1.heap.size, 12, none⟩ = some (.int .i64 0) := F4.at 12 (by simp)
  have yF44_12f : ((w3).alloc (.cells #[.bool mn, .string mS, .int .i64 me, .bool bn, .string bS, .int .i64 be] 28)).frozen? ⟨w1.heap.size, 12, none⟩ = false := F4.free 12
  have yF44_13 : ((w3).alloc (.cells #[.bool mn, .string mS, .int .i64 me, .bool bn, .string bS, .int .i64 be] 28)).cell? ⟨w1.heap.size, 13, none⟩ = some (.int .i64 0) := F4.at 13 (by simp)
  have yF44_13f : ((w3).alloc (.cells #[.bool mn, .string mS, .int .i64 me, .bool bn, .string bS, .int .i64 be] 28)).frozen? ⟨w1.heap.size, 13, none⟩ = false := F4.free 13
  have hch3 : ((((((((w3).alloc (.cells #[.bool mn, .string mS, .int .i64 me, .bool bn, .string bS, .int .i64 be] 28)).setCell ⟨w1.heap.size, 7, none⟩ (.bool mn)).setCell ⟨w1.heap.size, 8, none⟩ (.string mS)).setCell ⟨w1.heap.size, 9, none⟩ (.int .i64 me)).setCell ⟨w1.heap.size, 10, none⟩ (.bool bn)).setCell ⟨w1.heap.size, 11, none⟩ (.string bS)).setCell ⟨w1.heap.size, 12, none⟩ (.int .i64 be)).setCell ⟨w1.heap.size, 13, none⟩ (.int .i64 E) = ((w3).alloc (.cells #[.bool mn, .string mS, .int .i64 me, .bool bn, .string bS, .int .i64 be] 28)).setRow (w1.heap.size) #[.bool ln, .string lS, .int .i64 le, .bool bn, .string bS, .int .i64 be, .int .i64 E, .bool mn, .string mS, .int .i64 me, .bool bn, .string bS, .int .i64 be, .int .i64 E, .bool false, .string { data := #[] }, .int .i64 0, .bool false, .string { data := #[] }, .int .i64 0, .int .i64 0, .bool false, .string { data := #[] }, .int .i64 0, .bool false, .string { data := #[] }, .int .i64 0, .int .i64 0] := put_mid7 F4 7 (.bool mn) (.string mS) (.int .i64 me) (.bool bn) (.string bS) (.int .i64 be) (.int .i64 E) _ rfl (by simp)
  replace F1 : Blk (((((((((w3).alloc (.cells #[.bool mn, .string mS, .int .i64 me, .bool bn, .string bS, .int .i64 be] 28)).setCell ⟨w1.heap.size, 7, none⟩ (.bool mn)).setCell ⟨w1.heap.size, 8, none⟩ (.string mS)).setCell ⟨w1.heap.size, 9, none⟩ (.int .i64 me)).setCell ⟨w1.heap.size, 10, none⟩ (.bool bn)).setCell ⟨w1.heap.size, 11, none⟩ (.string bS)).setCell ⟨w1.heap.size, 12, none⟩ (.int .i64 be)).setCell ⟨w1.heap.size, 13, none⟩ (.int .i64 E)) (w.heap.size) #[.bool ln, .string lS, .int .i64 le, .bool bn, .string bS, .int .i64 be, .int .i64 e] 26 := by rw [hch3]; exact F1.outRow #[.bool ln, .string lS, .int .i64 le, .bool bn, .string bS, .int .i64 be, .int .i64 E, .bool mn, .string mS, .int .i64 me, .bool bn, .string bS, .int .i64 be, .int .i64 E, .bool false, .string { data := #[] }, .int .i64 0, .bool false, .string { data := #[] }, .int .i64 0, .int .i64 0, .bool false, .string { data := #[] }, .int .i64 0, .bool false, .string { data := #[] }, .int .i64 0, .int .i64 0] (Nat.ne_of_lt q_F1_F4.out)
  replace F2 : Blk (((((((((w3).alloc (.cells #[.bool mn, .string mS, .int .i64 me, .bool bn, .string bS, .int .i64 be] 28)).setCell ⟨w1.heap.size, 7, none⟩ (.bool mn)).setCell ⟨w1.heap.size, 8, none⟩ (.string mS)).setCell ⟨w1.heap.size, 9, none⟩ (.int .i64 me)).setCell ⟨w1.heap.size, 10, none⟩ (.bool bn)).setCell ⟨w1.heap.size, 11, none⟩ (.string bS)).setCell ⟨w1.heap.size, 12, none⟩ (.int .i64 be)).setCell ⟨w1.heap.size, 13, none⟩ (.int .i64 E)) (w.heap.size + 1) #[.bool false, .string { data := #[] }, .int .i64 0, .bool false, .string { data := #[] }, .int .i64 0, .int .i64 0, .bool false, .string { data := #[] }, .int .i64 0, .bool false, .string { data := #[] }, .int .i64 0, .int .i64 0, .bool false, .string { data := #[] }, .int .i64 0, .bool false, .string { data := #[] }, .int .i64 0, .int .i64 0, .bool false, .string { data := #[] }, .int .i64 0, .bool false, .string { data := #[] }, .int .i64 0, .int .i64 0] 37 := by rw [hch3]; exact F2.outRow #[.bool ln, .string lS, .int .i64 le, .bool bn, .string bS, .int .i64 be, .int .i64 E, .bool mn, .string mS, .int .i64 me, .bool bn, .string bS, .int .i64 be, .int .i64 E, .bool false, .string { data := #[] }, .int .i64 0, .bool false, .string { data := #[] }, .int .i64 0, .int .i64 0, .bool false, .string { data := #[] }, .int .i64 0, .bool false, .string { data := #[] }, .int .i64 0, .int .i64 0] (Nat.ne_of_lt q_F2_F4.out)
  replace F6r1 : Blk (((((((((w3).alloc (.cells #[.bool mn, .string mS, .int .i64 me, .bool bn, .string bS, .int .i64 be] 28)).setCell ⟨w1.heap.size, 7, none⟩ (.bool mn)).setCell ⟨w1.heap.size, 8, none⟩ (.string mS)).setCell ⟨w1.heap.size, 9, none⟩ (.int .i64 me)).setCell ⟨w1.heap.size, 10, none⟩ (.bool bn)).setCell ⟨w1.heap.size, 11, none⟩ (.string bS)).setCell ⟨w1.heap.size, 12, none⟩ (.int .i64 be)).setCell ⟨w1.heap.size, 13, none⟩ (.int .i64 E)) (w3.heap.size) #[.bool mn, .string mS, .int .i64 me, .bool bn, .string bS, .int .i64 be] 28 := by rw [hch3]; exact F6r1.outRow #[.bool ln, .string lS, .int .i64 le, .bool bn, .string bS, .int .i64 be, .int .i64 E, .bool mn, .string mS, .int .i64 me, .bool bn, .string bS, .int .i64 be, .int .i64 E, .bool false, .string { data := #[] }, .int .i64 0, .bool false, .string { data := #[] }, .int .i64 0, .int .i64 0, .bool false, .string { data := #[] }, .int .i64 0, .bool false, .string { data := #[] }, .int .i64 0, .int .i64 0] (Nat.ne_of_gt q_F4_F6r1.out)
  replace F4 : Blk (((((((((w3).alloc (.cells #[.bool mn, .string mS, .int .i64 me, .bool bn, .string bS, .int .i64 be] 28)).setCell ⟨w1.heap.size, 7, none⟩ (.bool mn)).setCell ⟨w1.heap.size, 8, none⟩ (.string mS)).setCell ⟨w1.heap.size, 9, none⟩ (.int .i64 me)).setCell ⟨w1.heap.size, 10, none⟩ (.bool bn)).setCell ⟨w1.heap.size, 11, none⟩ (.string bS)).setCell ⟨w1.heap.size, 12, none⟩ (.int .i64 be)).setCell ⟨w1.heap.size, 13, none⟩ (.int .i64 E)) (w1.heap.size) #[.bool ln, .string lS, .int .i64 le, .bool bn, .string bS, .int .i64 be, .int .i64 E, .bool mn, .string mS, .int .i64 me, .bool bn, .string bS, .int .i64 be, .int .i64 E, .bool false, .string { data := #[] }, .int .i64 0, .bool false, .string { data := #[] }, .int .i64 0, .int .i64 0, .bool false, .string { data := #[] }, .int .i64 0, .bool false, .string { data := #[] }, .int .i64 0, .int .i64 0] 37 := by rw [hch3]; exact F4.inRow #[.bool ln, .string lS, .int .i64 le, .bool bn, .string bS, .int .i64 be, .int .i64 E, .bool mn, .string mS, .int .i64 me, .bool bn, .string bS, .int .i64 be, .int .i64 E, .bool false, .string { data := #[] }, .int .i64 0, .bool false, .string { data := #[] }, .int .i64 0, .int .i64 0, .bool false, .string { data := #[] }, .int .i64 0, .bool false, .string { data := #[] }, .int .i64 0, .int .i64 0]
  replace B0 : Below w.heap.size w (((((((((w3).alloc (.cells #[.bool mn, .string mS, .int .i64 me, .bool bn, .string bS, .int .i64 be] 28)).setCell ⟨w1.heap.size, 7, none⟩ (.bool mn)).setCell ⟨w1.heap.size, 8, none⟩ (.string mS)).setCell ⟨w1.heap.size, 9, none⟩ (.int .i64 me)).setCell ⟨w1.heap.size, 10, none⟩ (.bool bn)).setCell ⟨w1.heap.size, 11, none⟩ (.string bS)).setCell ⟨w1.heap.size, 12, none⟩ (.int .i64 be)).setCell ⟨w1.heap.size, 13, none⟩ (.int .i64 E)) := by rw [hch3]; exact below_setRow B0 q_w_F4.out #[.bool ln, .string lS, .int .i64 le, .bool bn, .string bS, .int .i64 be, .int .i64 E, .bool mn, .string mS, .int .i64 me, .bool bn, .string bS, .int .i64 be, .int .i64 E, .bool false, .string { data := #[] }, .int .i64 0, .bool false, .string { data := #[] }, .int .i64 0, .int .i64 0, .bool false, .string { data := #[] }, .int .i64 0, .bool false, .string { data := #[] }, .int .i64 0, .int .i64 0]
  clear hch3
  go_wp2_with fail
  clear xF6r14_0 xF6r14_1 xF6r14_2 xF6r14_3 xF6r14_4 xF6r14_5 xF14_0 xF14_1 xF14_2 xF14_3 xF14_4 xF14_5 xF14_6 yF44_7 yF44_7f yF44_8 yF44_8f yF44_9 yF44_9f yF44_10 yF44_10f yF44_11 yF44_11f yF44_12 yF44_12f yF44_13 yF44_13f
  rw [rounds_succ]
  obtain ⟨xF15_0, xF15_1, xF15_2, xF15_3, xF15_4, xF15_5, xF15_6⟩ := F1.ce7
  go_wp2_with fail
  (with_reducible refine (hx _ (hT.below B0)).mono ?_)
  rintro r w4 ⟨rfl, hb4⟩
  clear xF15_0 xF15_1 xF15_2 xF15_3 xF15_4 xF15_5 xF15_6
  replace F1 := F1.keep hb4
  replace F2 := F2.keep hb4
  replace F4 := F4.keep hb4
  replace F6r1 := F6r1.keep hb4
  replace B0 := B0.trans (hb4.mono B0.size)
  clear hb4
  clear F1
  replace F2 := F2.allocd (.cells #[.bool false, .string { data := #[] }, .int .i64 0, .bool false, .string { data := #[] }, .int .i64 0] 28)
  clear F4
  clear F6r1
  replace B0 := B0.alloc B0.size (.cells #[.bool false, .string { data := #[] }, .int .i64 0, .bool false, .string { data := #[] }, .int .i64 0] 28)
  go_upto_region 9 with fail
  refine wp_region_lit ?_
  refine wpList_zero rfl _ _ _ _ _ rfl Tryz.zeroValue37 Tryz.underlying37 Tryz.sizeOf26 ?_
  (try dsimp only [Act.put]); (try go_frame)
  refine wpList_move rfl _ (.inl rfl) (.int .i64 4) rfl ?_
  (try dsimp only [Act.put]); (try go_frame)
  refine wpList_store_row rfl _ _ _ rfl (w.heap.size + 1) _ _ rfl rfl F2 (by kernel_rfl) rfl (by simp [Value.oneCell']) ?_
  (try dsimp only [Act.put]); (try go_frame)
  replace F2 := F2.inRow #[.bool false, .string { data := #[] }, .int .i64 0, .bool false, .string { data := #[] }, .int .i64 0, .int .i64 0, .bool false, .string { data := #[] }, .int .i64 0, .bool false, .string { data := #[] }, .int .i64 0, .int .i64 0, .bool false, .string { data := #[] }, .int .i64 0, .bool false, .string { data := #[] }, .int .i64 0, .int .i64 0, .bool false, .string { data := #[] }, .int .i64 0, .bool false, .string { data := #[] }, .int .i64 0, .int .i64 0]
  replace B0 := below_setRow B0 q_w_F2.out #[.bool false, .string { data := #[] }, .int .i64 0, .bool false, .string { data := #[] }, .int .i64 0, .int .i64 0, .bool false, .string { data := #[] }, .int .i64 0, .bool false, .string { data := #[] }, .int .i64 0, .int .i64 0, .bool false, .string { data := #[] }, .int .i64 0, .bool false, .string { data := #[] }, .int .i64 0, .int .i64 0, .bool false, .string { data := #[] }, .int .i64 0, .bool false, .string { data := #[] }, .int .i64 0, .int .i64 0]
  refine wpList_move rfl _ (.inr rfl) (.int .i64 4) rfl ?_
  (try dsimp only [Act.put]); (try go_frame)
  go_wp2
  exact bodyPost_ret (results_row Tryz.results8 (w.heap.size + 1) _ _ _ _ rfl rfl F2 Tryz.underlying37 (by kernel_rfl)) rfl ⟨rfl, B0⟩

end Go.Proofs.YtfbkopepkklkjaaGreatDoor
