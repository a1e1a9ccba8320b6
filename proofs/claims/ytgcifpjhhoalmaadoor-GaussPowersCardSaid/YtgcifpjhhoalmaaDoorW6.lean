/- gauss.Pow and Sum where something may not be, or the power is out of bounds. -/
import Derived.Test.YtgcifpjhhoalmaaDoorW1
namespace Go.Proofs.YtgcifpjhhoalmaaDoor
open Go Go.RowKit Go.PlainAid Fil

set_option maxRecDepth 10000 in
set_option maxHeartbeats 4000000 in
theorem gpow_bad (a : GR) (n : Int) (w : World) (ok_a : a.fit) (h_m : a.may = false) :
    Calls Tryd.prog 86 #[.agg #[.bool a.n, .string a.s, .int .i64 a.e, .bool a.m, .string a.t, .int .i64 a.f], .int .i64 n] w fun r w' => r = .returned (.tuple #[.agg #[.bool false, .string { data := #[] }, .int .i64 0, .bool false, .string { data := #[] }, .int .i64 0], .int .i64 2]) ∧ Below w.heap.size w w' := by
  have hall := fun Bk W h => gall1 a Bk W h ok_a
  rw [h_m] at hall
  clear h_m ok_a
  obtain ⟨an, aS, ae, am, aT, af⟩ := a
  dsimp only at *
  go_enter Tryd.func86, Tryd.ntmps86
  have B0 := Below.refl w.heap.size w
  have F2 := Blk.put (w) #[.bool an, .string aS, .int .i64 ae, .bool am, .string aT, .int .i64 af] 49
  replace B0 := B0.alloc B0.size (.cells #[.bool an, .string aS, .int .i64 ae, .bool am, .string aT, .int .i64 af] 49)
  have q_w_F4 : Hid (w.heap.size ≤ w.heap.size + 1) := Lib.hid (by omega)
  replace F2 := F2.allocd (.cells #[.bool false, .string { data := #[] }, .int .i64 0, .bool false, .string { data := #[] }, .int .i64 0] 49)
  have F4 := Blk.put ((w).alloc (.cells #[.bool an, .string aS, .int .i64 ae, .bool am, .string aT, .int .i64 af] 49)) #[.bool false, .string { data := #[] }, .int .i64 0, .bool false, .string { data := #[] }, .int .i64 0] 49
  rw [show ((w).alloc (.cells #[.bool an, .string aS, .int .i64 ae, .bool am, .string aT, .int .i64 af] 49)).heap.size = w.heap.size + 1 by simp] at F4
  replace B0 := B0.alloc B0.size (.cells #[.bool false, .string { data := #[] }, .int .i64 0, .bool false, .string { data := #[] }, .int .i64 0] 49)
  obtain ⟨xF20_0, xF20_1, xF20_2, xF20_3, xF20_4, xF20_5⟩ := F2.ce6
  go_wp2_with fail
  (with_reducible refine (hall _ _ (by simp)).mono ?_)
  rintro r w1 ⟨rfl, hb1⟩
  clear xF20_0 xF20_1 xF20_2 xF20_3 xF20_4 xF20_5
  replace F2 := F2.keep hb1
  replace F4 := F4.keep hb1
  replace B0 := B0.trans (hb1.mono B0.size)
  clear hb1
  obtain ⟨xF41_0, xF41_1, xF41_2, xF41_3, xF41_4, xF41_5⟩ := F4.ce6
  obtain ⟨xF41_0f, xF41_1f, xF41_2f, xF41_3f, xF41_4f, xF41_5f⟩ := F4.fr6
  clear F2
  replace F4 : Blk (((((((w1).setCell ⟨w.heap.size + 1, 0, none⟩ (.bool false)).setCell ⟨w.heap.size + 1, 1, none⟩ (.string { data := #[] })).setCell ⟨w.heap.size + 1, 2, none⟩ (.int .i64 0)).setCell ⟨w.heap.size + 1, 3, none⟩ (.bool false)).setCell ⟨w.heap.size + 1, 4, none⟩ (.string { data := #[] })).setCell ⟨w.heap.size + 1, 5, none⟩ (.int .i64 0)) (w.heap.size + 1) #[.bool false, .string { data := #[] }, .int .i64 0, .bool false, .string { data := #[] }, .int .i64 0] 49 := ((((((F4.setAt 0 (.bool false)).setAt 1 (.string { data := #[] })).setAt 2 (.int .i64 0)).setAt 3 (.bool false)).setAt 4 (.string { data := #[] })).setAt 5 (.int .i64 0))
  replace B0 := ((((((B0.setCell (p := ⟨w.heap.size + 1, 0, none⟩) q_w_F4.out (.bool false)).setCell (p := ⟨w.heap.size + 1, 1, none⟩) q_w_F4.out (.string { data := #[] })).setCell (p := ⟨w.heap.size + 1, 2, none⟩) q_w_F4.out (.int .i64 0)).setCell (p := ⟨w.heap.size + 1, 3, none⟩) q_w_F4.out (.bool false)).setCell (p := ⟨w.heap.size + 1, 4, none⟩) q_w_F4.out (.string { data := #[] })).setCell (p := ⟨w.heap.size + 1, 5, none⟩) q_w_F4.out (.int .i64 0))
  obtain ⟨xF42_0, xF42_1, xF42_2, xF42_3, xF42_4, xF42_5⟩ := F4.ce6
  go_wp2
  exact bodyPost_ret (v := .tuple #[.agg #[.bool false, .string { data := #[] }, .int .i64 0, .bool false, .string { data := #[] }, .int .i64 0], .int .i64 2]) (by simp [results, Tryd.results86, go_sem, xF42_0, xF42_1, xF42_2, xF42_3, xF42_4, xF42_5]) rfl ⟨rfl, B0⟩

set_option maxRecDepth 10000 in
set_option maxHeartbeats 4000000 in
theorem gpow_far (a : GY) (n : Int) (w : World) (ok_a : a.ok) (hn : n < 0 ∨ 64 < n) :
    Calls Tryd.prog 86 #[.agg #[.bool a.re.n, .string (bstr a.re.x), .int .i64 a.re.e, .bool a.im.n, .string (bstr a.im.x), .int .i64 a.im.e], .int .i64 n] w fun r w' => r = .returned (.tuple #[.agg #[.bool false, .string { data := #[] }, .int .i64 0, .bool false, .string { data := #[] }, .int .i64 0], .int .i64 2]) ∧ Below w.heap.size w w' := by
  have hall := fun Bk W h => gall1_ok a Bk W h ok_a
  clear ok_a
  obtain ⟨⟨an, aX, ae⟩, ⟨am, aY, af⟩⟩ := a
  dsimp only at *
  generalize bstr aX = aS at *
  generalize bstr aY = aT at *
  rcases hn with hn | hn
  · have d1 : decide (n < 0) = true := decide_eq_true (by omega)
    go_enter Tryd.func86, Tryd.ntmps86
    have B0 := Below.refl w.heap.size w
    have F2 := Blk.put (w) #[.bool an, .string aS, .int .i64 ae, .bool am, .string aT, .int .i64 af] 49
    replace B0 := B0.alloc B0.size (.cells #[.bool an, .string aS, .int .i64 ae, .bool am, .string aT, .int .i64 af] 49)
    have q_w_F4 : Hid (w.heap.size ≤ w.heap.size + 1) := Lib.hid (by omega)
    replace F2 := F2.allocd (.cells #[.bool false, .string { data := #[] }, .int .i64 0, .bool false, .string { data := #[] }, .int .i64 0] 49)
    have F4 := Blk.put ((w).alloc (.cells #[.bool an, .string aS, .int .i64 ae, .bool am, .string aT, .int .i64 af] 49)) #[.bool false, .string { data := #[] }, .int .i64 0, .bool false, .string { data := #[] }, .int .i64 0] 49
    rw [show ((w).alloc (.cells #[.bool an, .string aS, .int .i64 ae, .bool am, .string aT, .int .i64 af] 49)).heap.size = w.heap.size + 1 by simp] at F4
    replace B0 := B0.alloc B0.size (.cells #[.bool false, .string { data := #[] }, .int .i64 0, .bool false, .string { data := #[] }, .int .i64 0] 49)
    obtain ⟨xF20_0, xF20_1, xF20_2, xF20_3, xF20_4, xF20_5⟩ := F2.ce6
    go_wp2_with fail
    (with_reducible refine (hall _ _ (by simp)).mono ?_)
    rintro r w1 ⟨rfl, hb1⟩
    clear xF20_0 xF20_1 xF20_2 xF20_3 xF20_4 xF20_5
    replace F2 := F2.keep hb1
    replace F4 := F4.keep hb1
    replace B0 := B0.trans (hb1.mono B0.size)
    clear hb1
    obtain ⟨xF41_0, xF41_1, xF41_2, xF41_3, xF41_4, xF41_5⟩ := F4.ce6
    obtain ⟨xF41_0f, xF41_1f, xF41_2f, xF41_3f, xF41_4f, xF41_5f⟩ := F4.fr6
    clear F2
    replace F4 : Blk (((((((w1).setCell ⟨w.heap.size + 1, 0, none⟩ (.bool false)).setCell ⟨w.heap.size + 1, 1, none⟩ (.string { data := #[] })).setCell ⟨w.heap.size + 1, 2, none⟩ (.int .i64 0)).setCell ⟨w.heap.size + 1, 3, none⟩ (.bool false)).setCell ⟨w.heap.size + 1, 4, none⟩ (.string { data := #[] })).setCell ⟨w.heap.size + 1, 5, none⟩ (.int .i64 0)) (w.heap.size + 1) #[.bool false, .string { data := #[] }, .int .i64 0, .bool false, .string { data := #[] }, .int .i64 0] 49 := ((((((F4.setAt 0 (.bool false)).setAt 1 (.string { data := #[] })).setAt 2 (.int .i64 0)).setAt 3 (.bool false)).setAt 4 (.string { data := #[] })).setAt 5 (.int .i64 0))
    replace B0 := ((((((B0.setCell (p := ⟨w.heap.size + 1, 0, none⟩) q_w_F4.out (.bool false)).setCell (p := ⟨w.heap.size + 1, 1, none⟩) q_w_F4.out (.string { data := #[] })).setCell (p := ⟨w.heap.size + 1, 2, none⟩) q_w_F4.out (.int .i64 0)).setCell (p := ⟨w.heap.size + 1, 3, none⟩) q_w_F4.out (.bool false)).setCell (p := ⟨w.heap.size + 1, 4, none⟩) q_w_F4.out (.string { data := #[] })).setCell (p := ⟨w.heap.size + 1, 5, none⟩) q_w_F4.out (.int .i64 0))
    obtain ⟨xF42_0, xF42_1, xF42_2, xF42_3, xF42_4, xF42_5⟩ := F4.ce6
    go_wp2
    exact bodyPost_ret (v := .tuple #[.agg #[.bool false, .string { data := #[] }, .int .i64 0, .bool false, .string { data := #[] }, .int .i64 0], .int .i64 2]) (by simp [results, Tryd.results86, go_sem, xF42_0, xF42_1, xF42_2, xF42_3, xF42_4, xF42_5]) rfl ⟨rfl, B0⟩
  · have d1 : decide (n < 0) = false := decide_eq_false (by omega)
    have d2 : decide (64 < n) = true := decide_eq_true (by omega)
    go_enter Tryd.func86, Tryd.ntmps86
    have B0 := Below.refl w.heap.size w
    have F2 := Blk.put (w) #[.bool an, .string aS, .int .i64 ae, .bool am, .string aT, .int .i64 af] 49
    replace B0 := B0.alloc B0.size (.cells #[.bool an, .string aS, .int .i64 ae, .bool am, .string aT, .int .i64 af] 49)
    have q_w_F4 : Hid (w.heap.size ≤ w.heap.size + 1) := Lib.hid (by omega)
    replace F2 := F2.allocd (.cells #[.bool false, .string { data := #[] }, .int .i64 0, .bool false, .string { data := #[] }, .int .i64 0] 49)
    have F4 := Blk.put ((w).alloc (.cells #[.bool an, .string aS, .int .i64 ae, .bool am, .string aT, .int .i64 af] 49)) #[.bool false, .string { data := #[] }, .int .i64 0, .bool false, .string { data := #[] }, .int .i64 0] 49
    rw [show ((w).alloc (.cells #[.bool an, .string aS, .int .i64 ae, .bool am, .string aT, .int .i64 af] 49)).heap.size = w.heap.size + 1 by simp] at F4
    replace B0 := B0.alloc B0.size (.cells #[.bool false, .string { data := #[] }, .int .i64 0, .bool false, .string { data := #[] }, .int .i64 0] 49)
    obtain ⟨xF20_0, xF20_1, xF20_2, xF20_3, xF20_4, xF20_5⟩ := F2.ce6
    go_wp2_with fail
    (with_reducible refine (hall _ _ (by simp)).mono ?_)
    rintro r w1 ⟨rfl, hb1⟩
    clear xF20_0 xF20_1 xF20_2 xF20_3 xF20_4 xF20_5
    replace F2 := F2.keep hb1
    replace F4 := F4.keep hb1
    replace B0 := B0.trans (hb1.mono B0.size)
    clear hb1
    obtain ⟨xF41_0, xF41_1, xF41_2, xF41_3, xF41_4, xF41_5⟩ := F4.ce6
    obtain ⟨xF41_0f, xF41_1f, xF41_2f, xF41_3f, xF41_4f, xF41_5f⟩ := F4.fr6
    clear F2
    replace F4 : Blk (((((((w1).setCell ⟨w.heap.size + 1, 0, none⟩ (.bool false)).setCell ⟨w.heap.size + 1, 1, none⟩ (.string { data := #[] })).setCell ⟨w.heap.size + 1, 2, none⟩ (.int .i64 0)).setCell ⟨w.heap.size + 1, 3, none⟩ (.bool false)).setCell ⟨w.heap.size + 1, 4, none⟩ (.string { data := #[] })).setCell ⟨w.heap.size + 1, 5, none⟩ (.int .i64 0)) (w.heap.size + 1) #[.bool false, .string { data := #[] }, .int .i64 0, .bool false, .string { data := #[] }, .int .i64 0] 49 := ((((((F4.setAt 0 (.bool false)).setAt 1 (.string { data := #[] })).setAt 2 (.int .i64 0)).setAt 3 (.bool false)).setAt 4 (.string { data := #[] })).setAt 5 (.int .i64 0))
    replace B0 := ((((((B0.setCell (p := ⟨w.heap.size + 1, 0, none⟩) q_w_F4.out (.bool false)).setCell (p := ⟨w.heap.size + 1, 1, none⟩) q_w_F4.out (.string { data := #[] })).setCell (p := ⟨w.heap.size + 1, 2, none⟩) q_w_F4.out (.int .i64 0)).setCell (p := ⟨w.heap.size + 1, 3, none⟩) q_w_F4.out (.bool false)).setCell (p := ⟨w.heap.size + 1, 4, none⟩) q_w_F4.out (.string { data := #[] })).setCell (p := ⟨w.heap.size + 1, 5, none⟩) q_w_F4.out (.int .i64 0))
    obtain ⟨xF42_0, xF42_1, xF42_2, xF42_3, xF42_4, xF42_5⟩ := F4.ce6
    go_wp2
    exact bodyPost_ret (v := .tuple #[.agg #[.bool false, .string { data := #[] }, .int .i64 0, .bool false, .string { data := #[] }, .int .i64 0], .int .i64 2]) (by simp [results, Tryd.results86, go_sem, xF42_0, xF42_1, xF42_2, xF42_3, xF42_4, xF42_5]) rfl ⟨rfl, B0⟩

set_option maxRecDepth 10000 in
set_option maxHeartbeats 4000000 in
theorem qpow_far (a : GY) (n : Int) (w : World) (_ok_a : a.ok) (hn : n < 0 ∨ 64 < n) :
    Calls Tryd.prog 87 #[.agg #[.bool a.re.n, .string (bstr a.re.x), .int .i64 a.re.e, .bool a.im.n, .string (bstr a.im.x), .int .i64 a.im.e], .int .i64 n] w fun r w' => r = .returned (.tuple #[.agg #[.bool false, .string { data := #[] }, .int .i64 0, .bool false, .string { data := #[] }, .int .i64 0], .int .i64 2]) ∧ Below w.heap.size w w' := by
  obtain ⟨⟨an, aX, ae⟩, ⟨am, aY, af⟩⟩ := a
  dsimp only at *
  generalize bstr aX = aS at *
  generalize bstr aY = aT at *
  rcases hn with hn | hn
  · have d1 : decide (n < 0) = true := decide_eq_true (by omega)
    go_enter Tryd.func87, Tryd.ntmps87
    have B0 := Below.refl w.heap.size w
    replace B0 := B0.alloc B0.size (.cells #[.bool an, .string aS, .int .i64 ae, .bool am, .string aT, .int .i64 af] 49)
    have F4 := Blk.put ((w).alloc (.cells #[.bool an, .string aS, .int .i64 ae, .bool am, .string aT, .int .i64 af] 49)) #[.bool false, .string { data := #[] }, .int .i64 0, .bool false, .string { data := #[] }, .int .i64 0] 49
    rw [show ((w).alloc (.cells #[.bool an, .string aS, .int .i64 ae, .bool am, .string aT, .int .i64 af] 49)).heap.size = w.heap.size + 1 by simp] at F4
    replace B0 := B0.alloc B0.size (.cells #[.bool false, .string { data := #[] }, .int .i64 0, .bool false, .string { data := #[] }, .int .i64 0] 49)
    obtain ⟨xF40_0, xF40_1, xF40_2, xF40_3, xF40_4, xF40_5⟩ := F4.ce6
    go_wp2
    exact bodyPost_ret (v := .tuple #[.agg #[.bool false, .string { data := #[] }, .int .i64 0, .bool false, .string { data := #[] }, .int .i64 0], .int .i64 2]) (by simp [results, Tryd.results87, go_sem, xF40_0, xF40_1, xF40_2, xF40_3, xF40_4, xF40_5]) rfl ⟨rfl, B0⟩
  · have d1 : decide (n < 0) = false := decide_eq_false (by omega)
    have d2 : decide (64 < n) = true := decide_eq_true (by omega)
    go_enter Tryd.func87, Tryd.ntmps87
    have B0 := Below.refl w.heap.size w
    replace B0 := B0.alloc B0.size (.cells #[.bool an, .string aS, .int .i64 ae, .bool am, .string aT, .int .i64 af] 49)
    have F4 := Blk.put ((w).alloc (.cells #[.bool an, .string aS, .int .i64 ae, .bool am, .string aT, .int .i64 af] 49)) #[.bool false, .string { data := #[] }, .int .i64 0, .bool false, .string { data := #[] }, .int .i64 0] 49
    rw [show ((w).alloc (.cells #[.bool an, .string aS, .int .i64 ae, .bool am, .string aT, .int .i64 af] 49)).heap.size = w.heap.size + 1 by simp] at F4
    replace B0 := B0.alloc B0.size (.cells #[.bool false, .string { data := #[] }, .int .i64 0, .bool false, .string { data := #[] }, .int .i64 0] 49)
    obtain ⟨xF40_0, xF40_1, xF40_2, xF40_3, xF40_4, xF40_5⟩ := F4.ce6
    go_wp2
    exact bodyPost_ret (v := .tuple #[.agg #[.bool false, .string { data := #[] }, .int .i64 0, .bool false, .string { data := #[] }, .int .i64 0], .int .i64 2]) (by simp [results, Tryd.results87, go_sem, xF40_0, xF40_1, xF40_2, xF40_3, xF40_4, xF40_5]) rfl ⟨rfl, B0⟩

set_option maxRecDepth 10000 in
set_option maxHeartbeats 4000000 in
theorem gsum_bad (A : Option Addr) (n c : Nat) (G : Nat → GR) (w : World) (hn : n ≤ 2305843009213693951) (h : Gss w A n G) (hf : ∀ i, i < n → (G i).fit) (hb : (allB n fun i => (G i).may) = false) :
    Calls Tryd.prog 88 #[.slice A n c] w fun r w' => r = .returned (.tuple #[.agg #[.bool false, .string { data := #[] }, .int .i64 0, .bool false, .string { data := #[] }, .int .i64 0], .int .i64 2]) ∧ Below w.heap.size w w' := by
  have hall := fun W (h : Gss W A n G) => gall_any A n c G W hn h (fun i hi => (hf i hi).1) (fun i hi => (hf i hi).2)
  rw [hb] at hall
  go_enter Tryd.func88, Tryd.ntmps88
  have B0 := Below.refl w.heap.size w
  have q_w_F2 : Hid (w.heap.size ≤ w.heap.size) := Lib.hid (by omega)
  have F2 := Blk.put (w) #[.bool false, .string { data := #[] }, .int .i64 0, .bool false, .string { data := #[] }, .int .i64 0] 49
  replace B0 := B0.alloc B0.size (.cells #[.bool false, .string { data := #[] }, .int .i64 0, .bool false, .string { data := #[] }, .int .i64 0] 49)
  go_wp2_with fail
  (with_reducible refine (hall _ (Gss.below h B0)).mono ?_)
  rintro r w1 ⟨rfl, hb1⟩
  replace F2 := F2.keep hb1
  replace B0 := B0.trans (hb1.mono B0.size)
  clear hb1
  obtain ⟨xF21_0, xF21_1, xF21_2, xF21_3, xF21_4, xF21_5⟩ := F2.ce6
  obtain ⟨xF21_0f, xF21_1f, xF21_2f, xF21_3f, xF21_4f, xF21_5f⟩ := F2.fr6
  replace F2 : Blk (((((((w1).setCell ⟨w.heap.size, 0, none⟩ (.bool false)).setCell ⟨w.heap.size, 1, none⟩ (.string { data := #[] })).setCell ⟨w.heap.size, 2, none⟩ (.int .i64 0)).setCell ⟨w.heap.size, 3, none⟩ (.bool false)).setCell ⟨w.heap.size, 4, none⟩ (.string { data := #[] })).setCell ⟨w.heap.size, 5, none⟩ (.int .i64 0)) (w.heap.size) #[.bool false, .string { data := #[] }, .int .i64 0, .bool false, .string { data := #[] }, .int .i64 0] 49 := ((((((F2.setAt 0 (.bool false)).setAt 1 (.string { data := #[] })).setAt 2 (.int .i64 0)).setAt 3 (.bool false)).setAt 4 (.string { data := #[] })).setAt 5 (.int .i64 0))
  replace B0 := ((((((B0.setCell (p := ⟨w.heap.size, 0, none⟩) q_w_F2.out (.bool false)).setCell (p := ⟨w.heap.size, 1, none⟩) q_w_F2.out (.string { data := #[] })).setCell (p := ⟨w.heap.size, 2, none⟩) q_w_F2.out (.int .i64 0)).setCell (p := ⟨w.heap.size, 3, none⟩) q_w_F2.out (.bool false)).setCell (p := ⟨w.heap.size, 4, none⟩) q_w_F2.out (.string { data := #[] })).setCell (p := ⟨w.heap.size, 5, none⟩) q_w_F2.out (.int .i64 0))
  obtain ⟨xF22_0, xF22_1, xF22_2, xF22_3, xF22_4, xF22_5⟩ := F2.ce6
  go_wp2
  exact bodyPost_ret (v := .tuple #[.agg #[.bool false, .string { data := #[] }, .int .i64 0, .bool false, .string { data := #[] }, .int .i64 0], .int .i64 2]) (by simp [results, Tryd.results88, go_sem, xF22_0, xF22_1, xF22_2, xF22_3, xF22_4, xF22_5]) rfl ⟨rfl, B0⟩

end Go.Proofs.YtgcifpjhhoalmaaDoor
