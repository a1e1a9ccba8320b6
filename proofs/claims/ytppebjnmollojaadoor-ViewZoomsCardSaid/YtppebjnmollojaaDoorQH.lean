/- Walks of view.Zoom, Crop, Parts. -/
import Derived.Test.YtppebjnmollojaaDoorQ3
namespace Go.Proofs.YtppebjnmollojaaDoor
open Go Go.RowKit Go.PlainAid Fil

theorem wrap2 (a : Int) (h : -4611686018427387904 ≤ a) (h2 : a ≤ 4611686018427387903) : IntKind.i64.wrap (a * 2) = a * 2 := by
  simp [IntKind.wrap, IntKind.bits, IntKind.signed]; omega
theorem Blk.far7 {w : World} {b' b : Nat} {cs : Array Value} {t : TypeId} (h : Blk w b' cs t) (hne : b' ≠ b) (v0 v1 v2 v3 v4 v5 v6 : Value) : Blk ((((((((w).setCell ⟨b, 0, none⟩ v0).setCell ⟨b, 1, none⟩ v1).setCell ⟨b, 2, none⟩ v2).setCell ⟨b, 3, none⟩ v3).setCell ⟨b, 4, none⟩ v4).setCell ⟨b, 5, none⟩ v5).setCell ⟨b, 6, none⟩ v6) b' cs t :=
  (((((((h.far 0 v0 hne).far 1 v1 hne).far 2 v2 hne).far 3 v3 hne).far 4 v4 hne).far 5 v5 hne).far 6 v6 hne)
theorem Blk.put7 {w : World} {b : Nat} {u0 u1 u2 u3 u4 u5 u6 : Value} {t : TypeId} (h : Blk w b #[u0, u1, u2, u3, u4, u5, u6] t) (v0 v1 v2 v3 v4 v5 v6 : Value) : Blk ((((((((w).setCell ⟨b, 0, none⟩ v0).setCell ⟨b, 1, none⟩ v1).setCell ⟨b, 2, none⟩ v2).setCell ⟨b, 3, none⟩ v3).setCell ⟨b, 4, none⟩ v4).setCell ⟨b, 5, none⟩ v5).setCell ⟨b, 6, none⟩ v6) b #[v0, v1, v2, v3, v4, v5, v6] t := by
  replace h : Blk ((w).setCell ⟨b, 0, none⟩ v0) b #[v0, u1, u2, u3, u4, u5, u6] t := h.setAt 0 v0
  replace h : Blk (((w).setCell ⟨b, 0, none⟩ v0).setCell ⟨b, 1, none⟩ v1) b #[v0, v1, u2, u3, u4, u5, u6] t := h.setAt 1 v1
  replace h : Blk ((((w).setCell ⟨b, 0, none⟩ v0).setCell ⟨b, 1, none⟩ v1).setCell ⟨b, 2, none⟩ v2) b #[v0, v1, v2, u3, u4, u5, u6] t := h.setAt 2 v2
  replace h : Blk (((((w).setCell ⟨b, 0, none⟩ v0).setCell ⟨b, 1, none⟩ v1).setCell ⟨b, 2, none⟩ v2).setCell ⟨b, 3, none⟩ v3) b #[v0, v1, v2, v3, u4, u5, u6] t := h.setAt 3 v3
  replace h : Blk ((((((w).setCell ⟨b, 0, none⟩ v0).setCell ⟨b, 1, none⟩ v1).setCell ⟨b, 2, none⟩ v2).setCell ⟨b, 3, none⟩ v3).setCell ⟨b, 4, none⟩ v4) b #[v0, v1, v2, v3, v4, u5, u6] t := h.setAt 4 v4
  replace h : Blk (((((((w).setCell ⟨b, 0, none⟩ v0).setCell ⟨b, 1, none⟩ v1).setCell ⟨b, 2, none⟩ v2).setCell ⟨b, 3, none⟩ v3).setCell ⟨b, 4, none⟩ v4).setCell ⟨b, 5, none⟩ v5) b #[v0, v1, v2, v3, v4, v5, u6] t := h.setAt 5 v5
  replace h : Blk ((((((((w).setCell ⟨b, 0, none⟩ v0).setCell ⟨b, 1, none⟩ v1).setCell ⟨b, 2, none⟩ v2).setCell ⟨b, 3, none⟩ v3).setCell ⟨b, 4, none⟩ v4).setCell ⟨b, 5, none⟩ v5).setCell ⟨b, 6, none⟩ v6) b #[v0, v1, v2, v3, v4, v5, v6] t := h.setAt 6 v6
  exact h
theorem below_put7 {B b : Nat} {w' w : World} (h : Below B w' w) (hb : B ≤ b) (v0 v1 v2 v3 v4 v5 v6 : Value) : Below B w' ((((((((w).setCell ⟨b, 0, none⟩ v0).setCell ⟨b, 1, none⟩ v1).setCell ⟨b, 2, none⟩ v2).setCell ⟨b, 3, none⟩ v3).setCell ⟨b, 4, none⟩ v4).setCell ⟨b, 5, none⟩ v5).setCell ⟨b, 6, none⟩ v6) :=
  (((((((h.setCell (p := ⟨b, 0, none⟩) hb v0).setCell (p := ⟨b, 1, none⟩) hb v1).setCell (p := ⟨b, 2, none⟩) hb v2).setCell (p := ⟨b, 3, none⟩) hb v3).setCell (p := ⟨b, 4, none⟩) hb v4).setCell (p := ⟨b, 5, none⟩) hb v5).setCell (p := ⟨b, 6, none⟩) hb v6)
theorem Blk.far9 {w : World} {b' b : Nat} {cs : Array Value} {t : TypeId} (h : Blk w b' cs t) (hne : b' ≠ b) (v0 v1 v2 v3 v4 v5 v6 v7 v8 : Value) : Blk ((((((((((w).setCell ⟨b, 0, none⟩ v0).setCell ⟨b, 1, none⟩ v1).setCell ⟨b, 2, none⟩ v2).setCell ⟨b, 3, none⟩ v3).setCell ⟨b, 4, none⟩ v4).setCell ⟨b, 5, none⟩ v5).setCell ⟨b, 6, none⟩ v6).setCell ⟨b, 7, none⟩ v7).setCell ⟨b, 8, none⟩ v8) b' cs t :=
  (((((((((h.far 0 v0 hne).far 1 v1 hne).far 2 v2 hne).far 3 v3 hne).far 4 v4 hne).far 5 v5 hne).far 6 v6 hne).far 7 v7 hne).far 8 v8 hne)
theorem Blk.put9 {w : World} {b : Nat} {u0 u1 u2 u3 u4 u5 u6 u7 u8 : Value} {t : TypeId} (h : Blk w b #[u0, u1, u2, u3, u4, u5, u6, u7, u8] t) (v0 v1 v2 v3 v4 v5 v6 v7 v8 : Value) : Blk ((((((((((w).setCell ⟨b, 0, none⟩ v0).setCell ⟨b, 1, none⟩ v1).setCell ⟨b, 2, none⟩ v2).setCell ⟨b, 3, none⟩ v3).setCell ⟨b, 4, none⟩ v4).setCell ⟨b, 5, none⟩ v5).setCell ⟨b, 6, none⟩ v6).setCell ⟨b, 7, none⟩ v7).setCell ⟨b, 8, none⟩ v8) b #[v0, v1, v2, v3, v4, v5, v6, v7, v8] t := by
  replace h : Blk ((w).setCell ⟨b, 0, none⟩ v0) b #[v0, u1, u2, u3, u4, u5, u6, u7, u8] t := h.setAt 0 v0
  replace h : Blk (((w).setCell ⟨b, 0, none⟩ v0).setCell ⟨b, 1, none⟩ v1) b #[v0, v1, u2, u3, u4, u5, u6, u7, u8] t := h.setAt 1 v1
  replace h : Blk ((((w).setCell ⟨b, 0, none⟩ v0).setCell ⟨b, 1, none⟩ v1).setCell ⟨b, 2, none⟩ v2) b #[v0, v1, v2, u3, u4, u5, u6, u7, u8] t := h.setAt 2 v2
  replace h : Blk (((((w).setCell ⟨b, 0, none⟩ v0).setCell ⟨b, 1, none⟩ v1).setCell ⟨b, 2, none⟩ v2).setCell ⟨b, 3, none⟩ v3) b #[v0, v1, v2, v3, u4, u5, u6, u7, u8] t := h.setAt 3 v3
  replace h : Blk ((((((w).setCell ⟨b, 0, none⟩ v0).setCell ⟨b, 1, none⟩ v1).setCell ⟨b, 2, none⟩ v2).setCell ⟨b, 3, none⟩ v3).setCell ⟨b, 4, none⟩ v4) b #[v0, v1, v2, v3, v4, u5, u6, u7, u8] t := h.setAt 4 v4
  replace h : Blk (((((((w).setCell ⟨b, 0, none⟩ v0).setCell ⟨b, 1, none⟩ v1).setCell ⟨b, 2, none⟩ v2).setCell ⟨b, 3, none⟩ v3).setCell ⟨b, 4, none⟩ v4).setCell ⟨b, 5, none⟩ v5) b #[v0, v1, v2, v3, v4, v5, u6, u7, u8] t := h.setAt 5 v5
  replace h : Blk ((((((((w).setCell ⟨b, 0, none⟩ v0).setCell ⟨b, 1, none⟩ v1).setCell ⟨b, 2, none⟩ v2).setCell ⟨b, 3, none⟩ v3).setCell ⟨b, 4, none⟩ v4).setCell ⟨b, 5, none⟩ v5).setCell ⟨b, 6, none⟩ v6) b #[v0, v1, v2, v3, v4, v5, v6, u7, u8] t := h.setAt 6 v6
  replace h : Blk (((((((((w).setCell ⟨b, 0, none⟩ v0).setCell ⟨b, 1, none⟩ v1).setCell ⟨b, 2, none⟩ v2).setCell ⟨b, 3, none⟩ v3).setCell ⟨b, 4, none⟩ v4).setCell ⟨b, 5, none⟩ v5).setCell ⟨b, 6, none⟩ v6).setCell ⟨b, 7, none⟩ v7) b #[v0, v1, v2, v3, v4, v5, v6, v7, u8] t := h.setAt 7 v7
  replace h : Blk ((((((((((w).setCell ⟨b, 0, none⟩ v0).setCell ⟨b, 1, none⟩ v1).setCell ⟨b, 2, none⟩ v2).setCell ⟨b, 3, none⟩ v3).setCell ⟨b, 4, none⟩ v4).setCell ⟨b, 5, none⟩ v5).setCell ⟨b, 6, none⟩ v6).setCell ⟨b, 7, none⟩ v7).setCell ⟨b, 8, none⟩ v8) b #[v0, v1, v2, v3, v4, v5, v6, v7, v8] t := h.setAt 8 v8
  exact h
theorem below_put9 {B b : Nat} {w' w : World} (h : Below B w' w) (hb : B ≤ b) (v0 v1 v2 v3 v4 v5 v6 v7 v8 : Value) : Below B w' ((((((((((w).setCell ⟨b, 0, none⟩ v0).setCell ⟨b, 1, none⟩ v1).setCell ⟨b, 2, none⟩ v2).setCell ⟨b, 3, none⟩ v3).setCell ⟨b, 4, none⟩ v4).setCell ⟨b, 5, none⟩ v5).setCell ⟨b, 6, none⟩ v6).setCell ⟨b, 7, none⟩ v7).setCell ⟨b, 8, none⟩ v8) :=
  (((((((((h.setCell (p := ⟨b, 0, none⟩) hb v0).setCell (p := ⟨b, 1, none⟩) hb v1).setCell (p := ⟨b, 2, none⟩) hb v2).setCell (p := ⟨b, 3, none⟩) hb v3).setCell (p := ⟨b, 4, none⟩) hb v4).setCell (p := ⟨b, 5, none⟩) hb v5).setCell (p := ⟨b, 6, none⟩) hb v6).setCell (p := ⟨b, 7, none⟩) hb v7).setCell (p := ⟨b, 8, none⟩) hb v8)

set_option maxRecDepth 10000 in
set_option maxHeartbeats 4000000 in
theorem vzoom_small (g : GY) (e : Int) (a : Int) (d : Int) (w : World) (ok_g : g.ok) (e1 : -4096 ≤ e) (e2 : e ≤ 4096) (a1 : 1 ≤ a) (a2 : a ≤ 65536) (d1 : 1 ≤ d) (d2 : d ≤ 65536) (hb : 32768 < a ∨ (a ≤ 32768 ∧ 32768 < d) ∨ (a ≤ 32768 ∧ d ≤ 32768 ∧ e ≤ -4096)) :
    Calls Tryd.prog 18 #[.agg #[.bool g.re.n, .string (bstr g.re.x), .int .i64 g.re.e, .bool g.im.n, .string (bstr g.im.x), .int .i64 g.im.e, .int .i64 e, .int .i64 a, .int .i64 d], .int .i64 1] w fun r w' => r = .returned (.tuple #[.agg #[.bool false, .string { data := #[] }, .int .i64 0, .bool false, .string { data := #[] }, .int .i64 0, .int .i64 0, .int .i64 0, .int .i64 0], .int .i64 240]) ∧ Below w.heap.size w w' := by
  have h1 := fun W => vcheck_ok g e a d W ok_g e1 e2 a1 a2 d1 d2
  clear ok_g
  obtain ⟨⟨gn, gX, ge⟩, ⟨gm, gY, gf⟩⟩ := g
  dsimp only at *
  generalize bstr gX = gS at *
  generalize bstr gY = gT at *
  have wa := wrap2 a (by omega) (by omega)
  have wd := wrap2 d (by omega) (by omega)
  rcases hb with h | ⟨k1, h⟩ | ⟨k1, k2, h⟩
  · replace h : 65536 < a * 2 := by omega
    have f1 := decide_eq_true h
    go_enter Tryd.func18, Tryd.ntmps18
    have B0 := Below.refl w.heap.size w
    have F2 := Blk.put (w) #[.bool gn, .string gS, .int .i64 ge, .bool gm, .string gT, .int .i64 gf, .int .i64 e, .int .i64 a, .int .i64 d] 29
    replace B0 := B0.alloc B0.size (.cells #[.bool gn, .string gS, .int .i64 ge, .bool gm, .string gT, .int .i64 gf, .int .i64 e, .int .i64 a, .int .i64 d] 29)
    have q_F2_F4 := Lib.hid (show w.heap.size < w.heap.size + 1 by omega)
    have q_w_F4 : Hid (w.heap.size ≤ w.heap.size + 1) := Lib.hid (by omega)
    replace F2 := F2.allocd (.cells #[.bool false, .string { data := #[] }, .int .i64 0, .bool false, .string { data := #[] }, .int .i64 0, .int .i64 0, .int .i64 0, .int .i64 0] 29)
    have F4 := Blk.put ((w).alloc (.cells #[.bool gn, .string gS, .int .i64 ge, .bool gm, .string gT, .int .i64 gf, .int .i64 e, .int .i64 a, .int .i64 d] 29)) #[.bool false, .string { data := #[] }, .int .i64 0, .bool false, .string { data := #[] }, .int .i64 0, .int .i64 0, .int .i64 0, .int .i64 0] 29
    rw [show ((w).alloc (.cells #[.bool gn, .string gS, .int .i64 ge, .bool gm, .string gT, .int .i64 gf, .int .i64 e, .int .i64 a, .int .i64 d] 29)).heap.size = w.heap.size + 1 by simp] at F4
    replace B0 := B0.alloc B0.size (.cells #[.bool false, .string { data := #[] }, .int .i64 0, .bool false, .string { data := #[] }, .int .i64 0, .int .i64 0, .int .i64 0, .int .i64 0] 29)
    obtain ⟨xF20_0, xF20_1, xF20_2, xF20_3, xF20_4, xF20_5, xF20_6, xF20_7, xF20_8⟩ := F2.ce9
    go_wp2_with fail
    (with_reducible refine (h1 _).mono ?_)
    rintro r w1 ⟨rfl, hb1⟩
    clear xF20_0 xF20_1 xF20_2 xF20_3 xF20_4 xF20_5 xF20_6 xF20_7 xF20_8
    replace F2 := F2.keep hb1
    replace F4 := F4.keep hb1
    replace B0 := B0.trans (hb1.mono B0.size)
    clear hb1
    obtain ⟨xF21_0, xF21_1, xF21_2, xF21_3, xF21_4, xF21_5, xF21_6, xF21_7, xF21_8⟩ := F2.ce9
    obtain ⟨xF41_0, xF41_1, xF41_2, xF41_3, xF41_4, xF41_5, xF41_6, xF41_7, xF41_8⟩ := F4.ce9
    obtain ⟨xF41_0f, xF41_1f, xF41_2f, xF41_3f, xF41_4f, xF41_5f, xF41_6f, xF41_7f, xF41_8f⟩ := F4.fr9
    replace F2 := F2.far9 (Nat.ne_of_lt q_F2_F4.out) (.bool false) (.string { data := #[] }) (.int .i64 0) (.bool false) (.string { data := #[] }) (.int .i64 0) (.int .i64 0) (.int .i64 0) (.int .i64 0)
    replace F4 := F4.put9 (.bool false) (.string { data := #[] }) (.int .i64 0) (.bool false) (.string { data := #[] }) (.int .i64 0) (.int .i64 0) (.int .i64 0) (.int .i64 0)
    replace B0 := below_put9 B0 q_w_F4.out (.bool false) (.string { data := #[] }) (.int .i64 0) (.bool false) (.string { data := #[] }) (.int .i64 0) (.int .i64 0) (.int .i64 0) (.int .i64 0)
    obtain ⟨xF42_0, xF42_1, xF42_2, xF42_3, xF42_4, xF42_5, xF42_6, xF42_7, xF42_8⟩ := F4.ce9
    go_wp2
    exact bodyPost_ret (v := .tuple #[.agg #[.bool false, .string { data := #[] }, .int .i64 0, .bool false, .string { data := #[] }, .int .i64 0, .int .i64 0, .int .i64 0, .int .i64 0], .int .i64 240]) (by simp [results, Tryd.results18, go_sem, xF42_0, xF42_1, xF42_2, xF42_3, xF42_4, xF42_5, xF42_6, xF42_7, xF42_8]) rfl ⟨rfl, B0⟩
  · replace k1 : ¬ 65536 < a * 2 := by omega
    replace h : 65536 < d * 2 := by omega
    have f1 := decide_eq_false k1
    have f2 := decide_eq_true h
    go_enter Tryd.func18, Tryd.ntmps18
    have B0 := Below.refl w.heap.size w
    have F2 := Blk.put (w) #[.bool gn, .string gS, .int .i64 ge, .bool gm, .string gT, .int .i64 gf, .int .i64 e, .int .i64 a, .int .i64 d] 29
    replace B0 := B0.alloc B0.size (.cells #[.bool gn, .string gS, .int .i64 ge, .bool gm, .string gT, .int .i64 gf, .int .i64 e, .int .i64 a, .int .i64 d] 29)
    have q_F2_F4 := Lib.hid (show w.heap.size < w.heap.size + 1 by omega)
    have q_w_F4 : Hid (w.heap.size ≤ w.heap.size + 1) := Lib.hid (by omega)
    replace F2 := F2.allocd (.cells #[.bool false, .string { data := #[] }, .int .i64 0, .bool false, .string { data := #[] }, .int .i64 0, .int .i64 0, .int .i64 0, .int .i64 0] 29)
    have F4 := Blk.put ((w).alloc (.cells #[.bool gn, .string gS, .int .i64 ge, .bool gm, .string gT, .int .i64 gf, .int .i64 e, .int .i64 a, .int .i64 d] 29)) #[.bool false, .string { data := #[] }, .int .i64 0, .bool false, .string { data := #[] }, .int .i64 0, .int .i64 0, .int .i64 0, .int .i64 0] 29
    rw [show ((w).alloc (.cells #[.bool gn, .string gS, .int .i64 ge, .bool gm, .string gT, .int .i64 gf, .int .i64 e, .int .i64 a, .int .i64 d] 29)).heap.size = w.heap.size + 1 by simp] at F4
    replace B0 := B0.alloc B0.size (.cells #[.bool false, .string { data := #[] }, .int .i64 0, .bool false, .string { data := #[] }, .int .i64 0, .int .i64 0, .int .i64 0, .int .i64 0] 29)
    obtain ⟨xF20_0, xF20_1, xF20_2, xF20_3, xF20_4, xF20_5, xF20_6, xF20_7, xF20_8⟩ := F2.ce9
    go_wp2_with fail
    (with_reducible refine (h1 _).mono ?_)
    rintro r w1 ⟨rfl, hb1⟩
    clear xF20_0 xF20_1 xF20_2 xF20_3 xF20_4 xF20_5 xF20_6 xF20_7 xF20_8
    replace F2 := F2.keep hb1
    replace F4 := F4.keep hb1
    replace B0 := B0.trans (hb1.mono B0.size)
    clear hb1
    obtain ⟨xF21_0, xF21_1, xF21_2, xF21_3, xF21_4, xF21_5, xF21_6, xF21_7, xF21_8⟩ := F2.ce9
    obtain ⟨xF41_0, xF41_1, xF41_2, xF41_3, xF41_4, xF41_5, xF41_6, xF41_7, xF41_8⟩ := F4.ce9
    obtain ⟨xF41_0f, xF41_1f, xF41_2f, xF41_3f, xF41_4f, xF41_5f, xF41_6f, xF41_7f, xF41_8f⟩ := F4.fr9
    replace F2 := F2.far9 (Nat.ne_of_lt q_F2_F4.out) (.bool false) (.string { data := #[] }) (.int .i64 0) (.bool false) (.string { data := #[] }) (.int .i64 0) (.int .i64 0) (.int .i64 0) (.int .i64 0)
    replace F4 := F4.put9 (.bool false) (.string { data := #[] }) (.int .i64 0) (.bool false) (.string { data := #[] }) (.int .i64 0) (.int .i64 0) (.int .i64 0) (.int .i64 0)
    replace B0 := below_put9 B0 q_w_F4.out (.bool false) (.string { data := #[] }) (.int .i64 0) (.bool false) (.string { data := #[] }) (.int .i64 0) (.int .i64 0) (.int .i64 0) (.int .i64 0)
    obtain ⟨xF42_0, xF42_1, xF42_2, xF42_3, xF42_4, xF42_5, xF42_6, xF42_7, xF42_8⟩ := F4.ce9
    go_wp2
    exact bodyPost_ret (v := .tuple #[.agg #[.bool false, .string { data := #[] }, .int .i64 0, .bool false, .string { data := #[] }, .int .i64 0, .int .i64 0, .int .i64 0, .int .i64 0], .int .i64 240]) (by simp [results, Tryd.results18, go_sem, xF42_0, xF42_1, xF42_2, xF42_3, xF42_4, xF42_5, xF42_6, xF42_7, xF42_8]) rfl ⟨rfl, B0⟩
  · replace k1 : ¬ 65536 < a * 2 := by omega
    replace k2 : ¬ 65536 < d * 2 := by omega
    replace h : e - 1 < -4096 := by omega
    have f1 := decide_eq_false k1
    have f2 := decide_eq_false k2
    have f3 := decide_eq_true h
    go_enter Tryd.func18, Tryd.ntmps18
    have B0 := Below.refl w.heap.size w
    have F2 := Blk.put (w) #[.bool gn, .string gS, .int .i64 ge, .bool gm, .string gT, .int .i64 gf, .int .i64 e, .int .i64 a, .int .i64 d] 29
    replace B0 := B0.alloc B0.size (.cells #[.bool gn, .string gS, .int .i64 ge, .bool gm, .string gT, .int .i64 gf, .int .i64 e, .int .i64 a, .int .i64 d] 29)
    have q_F2_F4 := Lib.hid (show w.heap.size < w.heap.size + 1 by omega)
    have q_w_F4 : Hid (w.heap.size ≤ w.heap.size + 1) := Lib.hid (by omega)
    replace F2 := F2.allocd (.cells #[.bool false, .string { data := #[] }, .int .i64 0, .bool false, .string { data := #[] }, .int .i64 0, .int .i64 0, .int .i64 0, .int .i64 0] 29)
    have F4 := Blk.put ((w).alloc (.cells #[.bool gn, .string gS, .int .i64 ge, .bool gm, .string gT, .int .i64 gf, .int .i64 e, .int .i64 a, .int .i64 d] 29)) #[.bool false, .string { data := #[] }, .int .i64 0, .bool false, .string { data := #[] }, .int .i64 0, .int .i64 0, .int .i64 0, .int .i64 0] 29
    rw [show ((w).alloc (.cells #[.bool gn, .string gS, .int .i64 ge, .bool gm, .string gT, .int .i64 gf, .int .i64 e, .int .i64 a, .int .i64 d] 29)).heap.size = w.heap.size + 1 by simp] at F4
    replace B0 := B0.alloc B0.size (.cells #[.bool false, .string { data := #[] }, .int .i64 0, .bool false, .string { data := #[] }, .int .i64 0, .int .i64 0, .int .i64 0, .int .i64 0] 29)
    obtain ⟨xF20_0, xF20_1, xF20_2, xF20_3, xF20_4, xF20_5, xF20_6, xF20_7, xF20_8⟩ := F2.ce9
    go_wp2_with fail
    (with_reducible refine (h1 _).mono ?_)
    rintro r w1 ⟨rfl, hb1⟩
    clear xF20_0 xF20_1 xF20_2 xF20_3 xF20_4 xF20_5 xF20_6 xF20_7 xF20_8
    replace F2 := F2.keep hb1
    replace F4 := F4.keep hb1
    replace B0 := B0.trans (hb1.mono B0.size)
    clear hb1
    obtain ⟨xF21_0, xF21_1, xF21_2, xF21_3, xF21_4, xF21_5, xF21_6, xF21_7, xF21_8⟩ := F2.ce9
    obtain ⟨xF41_0, xF41_1, xF41_2, xF41_3, xF41_4, xF41_5, xF41_6, xF41_7, xF41_8⟩ := F4.ce9
    obtain ⟨xF41_0f, xF41_1f, xF41_2f, xF41_3f, xF41_4f, xF41_5f, xF41_6f, xF41_7f, xF41_8f⟩ := F4.fr9
    replace F2 := F2.far9 (Nat.ne_of_lt q_F2_F4.out) (.bool false) (.string { data := #[] }) (.int .i64 0) (.bool false) (.string { data := #[] }) (.int .i64 0) (.int .i64 0) (.int .i64 0) (.int .i64 0)
    replace F4 := F4.put9 (.bool false) (.string { data := #[] }) (.int .i64 0) (.bool false) (.string { data := #[] }) (.int .i64 0) (.int .i64 0) (.int .i64 0) (.int .i64 0)
    replace B0 := below_put9 B0 q_w_F4.out (.bool false) (.string { data := #[] }) (.int .i64 0) (.bool false) (.string { data := #[] }) (.int .i64 0) (.int .i64 0) (.int .i64 0) (.int .i64 0)
    obtain ⟨xF42_0, xF42_1, xF42_2, xF42_3, xF42_4, xF42_5, xF42_6, xF42_7, xF42_8⟩ := F4.ce9
    go_wp2
    exact bodyPost_ret (v := .tuple #[.agg #[.bool false, .string { data := #[] }, .int .i64 0, .bool false, .string { data := #[] }, .int .i64 0, .int .i64 0, .int .i64 0, .int .i64 0], .int .i64 240]) (by simp [results, Tryd.results18, go_sem, xF42_0, xF42_1, xF42_2, xF42_3, xF42_4, xF42_5, xF42_6, xF42_7, xF42_8]) rfl ⟨rfl, B0⟩

set_option maxRecDepth 10000 in
set_option maxHeartbeats 4000000 in
theorem vzoom_bad (g : GR) (e : Int) (a : Int) (d : Int) (w : World) (ok_g : g.fit) (h : winB g e a d = false) :
    Calls Tryd.prog 18 #[.agg #[.bool g.n, .string g.s, .int .i64 g.e, .bool g.m, .string g.t, .int .i64 g.f, .int .i64 e, .int .i64 a, .int .i64 d], .int .i64 1] w fun r w' => r = .returned (.tuple #[.agg #[.bool false, .string { data := #[] }, .int .i64 0, .bool false, .string { data := #[] }, .int .i64 0, .int .i64 0, .int .i64 0, .int .i64 0], .int .i64 240]) ∧ Below w.heap.size w w' := by
  have h1 := fun W => vcheck_any g e a d W ok_g
  rw [if_neg (by rw [h]; decide)] at h1
  clear ok_g
  obtain ⟨gn, gS, ge, gm, gT, gf⟩ := g
  dsimp only at *
  clear h
  go_enter Tryd.func18, Tryd.ntmps18
  have B0 := Below.refl w.heap.size w
  have F2 := Blk.put (w) #[.bool gn, .string gS, .int .i64 ge, .bool gm, .string gT, .int .i64 gf, .int .i64 e, .int .i64 a, .int .i64 d] 29
  replace B0 := B0.alloc B0.size (.cells #[.bool gn, .string gS, .int .i64 ge, .bool gm, .string gT, .int .i64 gf, .int .i64 e, .int .i64 a, .int .i64 d] 29)
  have q_w_F4 : Hid (w.heap.size ≤ w.heap.size + 1) := Lib.hid (by omega)
  replace F2 := F2.allocd (.cells #[.bool false, .string { data := #[] }, .int .i64 0, .bool false, .string { data := #[] }, .int .i64 0, .int .i64 0, .int .i64 0, .int .i64 0] 29)
  have F4 := Blk.put ((w).alloc (.cells #[.bool gn, .string gS, .int .i64 ge, .bool gm, .string gT, .int .i64 gf, .int .i64 e, .int .i64 a, .int .i64 d] 29)) #[.bool false, .string { data := #[] }, .int .i64 0, .bool false, .string { data := #[] }, .int .i64 0, .int .i64 0, .int .i64 0, .int .i64 0] 29
  rw [show ((w).alloc (.cells #[.bool gn, .string gS, .int .i64 ge, .bool gm, .string gT, .int .i64 gf, .int .i64 e, .int .i64 a, .int .i64 d] 29)).heap.size = w.heap.size + 1 by simp] at F4
  replace B0 := B0.alloc B0.size (.cells #[.bool false, .string { data := #[] }, .int .i64 0, .bool false, .string { data := #[] }, .int .i64 0, .int .i64 0, .int .i64 0, .int .i64 0] 29)
  obtain ⟨xF20_0, xF20_1, xF20_2, xF20_3, xF20_4, xF20_5, xF20_6, xF20_7, xF20_8⟩ := F2.ce9
  go_wp2_with fail
  (with_reducible refine (h1 _).mono ?_)
  rintro r w1 ⟨rfl, hb1⟩
  clear xF20_0 xF20_1 xF20_2 xF20_3 xF20_4 xF20_5 xF20_6 xF20_7 xF20_8
  replace F2 := F2.keep hb1
  replace F4 := F4.keep hb1
  replace B0 := B0.trans (hb1.mono B0.size)
  clear hb1
  obtain ⟨xF41_0, xF41_1, xF41_2, xF41_3, xF41_4, xF41_5, xF41_6, xF41_7, xF41_8⟩ := F4.ce9
  obtain ⟨xF41_0f, xF41_1f, xF41_2f, xF41_3f, xF41_4f, xF41_5f, xF41_6f, xF41_7f, xF41_8f⟩ := F4.fr9
  clear F2
  replace F4 := F4.put9 (.bool false) (.string { data := #[] }) (.int .i64 0) (.bool false) (.string { data := #[] }) (.int .i64 0) (.int .i64 0) (.int .i64 0) (.int .i64 0)
  replace B0 := below_put9 B0 q_w_F4.out (.bool false) (.string { data := #[] }) (.int .i64 0) (.bool false) (.string { data := #[] }) (.int .i64 0) (.int .i64 0) (.int .i64 0) (.int .i64 0)
  obtain ⟨xF42_0, xF42_1, xF42_2, xF42_3, xF42_4, xF42_5, xF42_6, xF42_7, xF42_8⟩ := F4.ce9
  go_wp2
  exact bodyPost_ret (v := .tuple #[.agg #[.bool false, .string { data := #[] }, .int .i64 0, .bool false, .string { data := #[] }, .int .i64 0, .int .i64 0, .int .i64 0, .int .i64 0], .int .i64 240]) (by simp [results, Tryd.results18, go_sem, xF42_0, xF42_1, xF42_2, xF42_3, xF42_4, xF42_5, xF42_6, xF42_7, xF42_8]) rfl ⟨rfl, B0⟩

set_option maxRecDepth 10000 in
set_option maxHeartbeats 4000000 in
theorem vzoom_1 (g : GY) (e : Int) (a : Int) (d : Int) (E : Int) (A2 : Int) (D2 : Int) (E_E : e - 1 = E) (E_A2 : a * 2 = A2) (E_D2 : d * 2 = D2) (w : World) (ok_g : g.ok) (e1 : -4096 ≤ e) (e2 : e ≤ 4096) (a1 : 1 ≤ a) (a2 : a ≤ 65536) (d1 : 1 ≤ d) (d2 : d ≤ 65536) (k1 : a ≤ 32768) (k2 : d ≤ 32768) (k3 : -4096 < e) :
    Calls Tryd.prog 18 #[.agg #[.bool g.re.n, .string (bstr g.re.x), .int .i64 g.re.e, .bool g.im.n, .string (bstr g.im.x), .int .i64 g.im.e, .int .i64 e, .int .i64 a, .int .i64 d], .int .i64 1] w fun r w' => r = .returned (.tuple #[.agg #[.bool g.re.n, .string (bstr g.re.x), .int .i64 g.re.e, .bool g.im.n, .string (bstr g.im.x), .int .i64 g.im.e, .int .i64 E, .int .i64 A2, .int .i64 D2], .int .i64 0]) ∧ Below w.heap.size w w' := by
  have h1 := fun W => vcheck_ok g e a d W ok_g e1 e2 a1 a2 d1 d2
  have hE := E_E
  have hA := E_A2
  have hD := E_D2
  have wa : IntKind.i64.wrap (a * 2) = A2 := (wrap2 a (by omega) (by omega)).trans hA
  have wd : IntKind.i64.wrap (d * 2) = D2 := (wrap2 d (by omega) (by omega)).trans hD
  clear E_E E_A2 E_D2 ok_g
  obtain ⟨⟨gn, gX, ge⟩, ⟨gm, gY, gf⟩⟩ := g
  dsimp only at *
  generalize bstr gX = gS at *
  generalize bstr gY = gT at *
  replace k1 : ¬ 65536 < A2 := by omega
  replace k2 : ¬ 65536 < D2 := by omega
  replace k3 : ¬ E < -4096 := by omega
  have f1 := decide_eq_false k1
  have f2 := decide_eq_false k2
  have f3 := decide_eq_false k3
  go_enter Tryd.func18, Tryd.ntmps18
  have B0 := Below.refl w.heap.size w
  have q_w_F2 : Hid (w.heap.size ≤ w.heap.size) := Lib.hid (by omega)
  have F2 := Blk.put (w) #[.bool gn, .string gS, .int .i64 ge, .bool gm, .string gT, .int .i64 gf, .int .i64 e, .int .i64 a, .int .i64 d] 29
  replace B0 := B0.alloc B0.size (.cells #[.bool gn, .string gS, .int .i64 ge, .bool gm, .string gT, .int .i64 gf, .int .i64 e, .int .i64 a, .int .i64 d] 29)
  have q_F2_F4 := Lib.hid (show w.heap.size < w.heap.size + 1 by omega)
  have q_w_F4 : Hid (w.heap.size ≤ w.heap.size + 1) := Lib.hid (by omega)
  replace F2 := F2.allocd (.cells #[.bool false, .string { data := #[] }, .int .i64 0, .bool false, .string { data := #[] }, .int .i64 0, .int .i64 0, .int .i64 0, .int .i64 0] 29)
  have F4 := Blk.put ((w).alloc (.cells #[.bool gn, .string gS, .int .i64 ge, .bool gm, .string gT, .int .i64 gf, .int .i64 e, .int .i64 a, .int .i64 d] 29)) #[.bool false, .string { data := #[] }, .int .i64 0, .bool false, .string { data := #[] }, .int .i64 0, .int .i64 0, .int .i64 0, .int .i64 0] 29
  rw [show ((w).alloc (.cells #[.bool gn, .string gS, .int .i64 ge, .bool gm, .string gT, .int .i64 gf, .int .i64 e, .int .i64 a, .int .i64 d] 29)).heap.size = w.heap.size + 1 by simp] at F4
  replace B0 := B0.alloc B0.size (.cells #[.bool false, .string { data := #[] }, .int .i64 0, .bool false, .string { data := #[] }, .int .i64 0, .int .i64 0, .int .i64 0, .int .i64 0] 29)
  obtain ⟨xF20_0, xF20_1, xF20_2, xF20_3, xF20_4, xF20_5, xF20_6, xF20_7, xF20_8⟩ := F2.ce9
  go_wp2_with fail
  (with_reducible refine (h1 _).mono ?_)
  rintro r w1 ⟨rfl, hb1⟩
  clear xF20_0 xF20_1 xF20_2 xF20_3 xF20_4 xF20_5 xF20_6 xF20_7 xF20_8
  replace F2 := F2.keep hb1
  replace F4 := F4.keep hb1
  replace B0 := B0.trans (hb1.mono B0.size)
  clear hb1
  obtain ⟨xF21_0, xF21_1, xF21_2, xF21_3, xF21_4, xF21_5, xF21_6, xF21_7, xF21_8⟩ := F2.ce9
  obtain ⟨xF21_0f, xF21_1f, xF21_2f, xF21_3f, xF21_4f, xF21_5f, xF21_6f, xF21_7f, xF21_8f⟩ := F2.fr9
  replace F4 := (F4.far 6 (.int .i64 E) (Nat.ne_of_gt q_F2_F4.out))
  replace F2 : Blk ((w1).setCell ⟨w.heap.size, 6, none⟩ (.int .i64 E)) (w.heap.size) #[.bool gn, .string gS, .int .i64 ge, .bool gm, .string gT, .int .i64 gf, .int .i64 E, .int .i64 a, .int .i64 d] 29 := (F2.setAt 6 (.int .i64 E))
  replace B0 := (B0.setCell (p := ⟨w.heap.size, 6, none⟩) q_w_F2.out (.int .i64 E))
  obtain ⟨xF22_0, xF22_1, xF22_2, xF22_3, xF22_4, xF22_5, xF22_6, xF22_7, xF22_8⟩ := F2.ce9
  obtain ⟨xF22_0f, xF22_1f, xF22_2f, xF22_3f, xF22_4f, xF22_5f, xF22_6f, xF22_7f, xF22_8f⟩ := F2.fr9
  replace F4 := (F4.far 7 (.int .i64 A2) (Nat.ne_of_gt q_F2_F4.out))
  replace F2 : Blk (((w1).setCell ⟨w.heap.size, 6, none⟩ (.int .i64 E)).setCell ⟨w.heap.size, 7, none⟩ (.int .i64 A2)) (w.heap.size) #[.bool gn, .string gS, .int .i64 ge, .bool gm, .string gT, .int .i64 gf, .int .i64 E, .int .i64 A2, .int .i64 d] 29 := (F2.setAt 7 (.int .i64 A2))
  replace B0 := (B0.setCell (p := ⟨w.heap.size, 7, none⟩) q_w_F2.out (.int .i64 A2))
  obtain ⟨xF23_0, xF23_1, xF23_2, xF23_3, xF23_4, xF23_5, xF23_6, xF23_7, xF23_8⟩ := F2.ce9
  obtain ⟨xF23_0f, xF23_1f, xF23_2f, xF23_3f, xF23_4f, xF23_5f, xF23_6f, xF23_7f, xF23_8f⟩ := F2.fr9
  replace F4 := (F4.far 8 (.int .i64 D2) (Nat.ne_of_gt q_F2_F4.out))
  replace F2 : Blk ((((w1).setCell ⟨w.heap.size, 6, none⟩ (.int .i64 E)).setCell ⟨w.heap.size, 7, none⟩ (.int .i64 A2)).setCell ⟨w.heap.size, 8, none⟩ (.int .i64 D2)) (w.heap.size) #[.bool gn, .string gS, .int .i64 ge, .bool gm, .string gT, .int .i64 gf, .int .i64 E, .int .i64 A2, .int .i64 D2] 29 := (F2.setAt 8 (.int .i64 D2))
  replace B0 := (B0.setCell (p := ⟨w.heap.size, 8, none⟩) q_w_F2.out (.int .i64 D2))
  obtain ⟨xF24_0, xF24_1, xF24_2, xF24_3, xF24_4, xF24_5, xF24_6, xF24_7, xF24_8⟩ := F2.ce9
  obtain ⟨xF44_0, xF44_1, xF44_2, xF44_3, xF44_4, xF44_5, xF44_6, xF44_7, xF44_8⟩ := F4.ce9
  obtain ⟨xF44_0f, xF44_1f, xF44_2f, xF44_3f, xF44_4f, xF44_5f, xF44_6f, xF44_7f, xF44_8f⟩ := F4.fr9
  replace F2 := F2.far9 (Nat.ne_of_lt q_F2_F4.out) (.bool gn) (.string gS) (.int .i64 ge) (.bool gm) (.string gT) (.int .i64 gf) (.int .i64 E) (.int .i64 A2) (.int .i64 D2)
  replace F4 := F4.put9 (.bool gn) (.string gS) (.int .i64 ge) (.bool gm) (.string gT) (.int .i64 gf) (.int .i64 E) (.int .i64 A2) (.int .i64 D2)
  replace B0 := below_put9 B0 q_w_F4.out (.bool gn) (.string gS) (.int .i64 ge) (.bool gm) (.string gT) (.int .i64 gf) (.int .i64 E) (.int .i64 A2) (.int .i64 D2)
  obtain ⟨xF45_0, xF45_1, xF45_2, xF45_3, xF45_4, xF45_5, xF45_6, xF45_7, xF45_8⟩ := F4.ce9
  go_wp2
  exact bodyPost_ret (v := .tuple #[.agg #[.bool gn, .string gS, .int .i64 ge, .bool gm, .string gT, .int .i64 gf, .int .i64 E, .int .i64 A2, .int .i64 D2], .int .i64 0]) (by simp [results, Tryd.results18, go_sem, xF45_0, xF45_1, xF45_2, xF45_3, xF45_4, xF45_5, xF45_6, xF45_7, xF45_8]) rfl ⟨rfl, B0⟩

set_option maxRecDepth 10000 in
set_option maxHeartbeats 4000000 in
theorem vcrop_1 (g : GY) (e : Int) (a : Int) (d : Int) (c : Int) (r : Int) (x : Int) (y : Int) (p : DY × Int) (E_p : vM g.re (2 * c + x - a) (e - 1) = p) (w : World) (ok_g : g.ok) (e1 : -4096 ≤ e) (e2 : e ≤ 4096) (a1 : 1 ≤ a) (a2 : a ≤ 65536) (d1 : 1 ≤ d) (d2 : d ≤ 65536) (c1 : 0 ≤ c) (r1 : 0 ≤ r) (x1 : 1 ≤ x) (y1 : 1 ≤ y) (x2 : x ≤ a) (y2 : y ≤ d) (c2 : c ≤ a - x) (r2 : r ≤ d - y) (h_p : ¬ p.2 = 0) (hT : Tab w) :
    Calls Tryd.prog 19 #[.agg #[.bool g.re.n, .string (bstr g.re.x), .int .i64 g.re.e, .bool g.im.n, .string (bstr g.im.x), .int .i64 g.im.e, .int .i64 e, .int .i64 a, .int .i64 d], .int .i64 c, .int .i64 r, .int .i64 x, .int .i64 y] w fun r w' => r = .returned (.tuple #[.agg #[.bool false, .string { data := #[] }, .int .i64 0, .bool false, .string { data := #[] }, .int .i64 0, .int .i64 0, .int .i64 0, .int .i64 0], .int .i64 p.2]) ∧ Below w.heap.size w w' := by
  have h0 := fun W => vcheck_ok g e a d W ok_g e1 e2 a1 a2 d1 d2
  have h1 := fun W hW => vmoved g.re (2 * c + x - a) (e - 1) W ok_g.1 (by omega) (by omega) (by omega) (by omega) hW
  rw [E_p] at h1
  clear E_p ok_g
  obtain ⟨⟨gn, gX, ge⟩, ⟨gm, gY, gf⟩⟩ := g
  obtain ⟨⟨pn, pX, pe⟩, pr⟩ := p
  dsimp only at *
  generalize bstr gX = gS at *
  generalize bstr gY = gT at *
  generalize bstr pX = pS at *
  have hu : (pr != 0) = true := by simpa using h_p
  clear h_p
  go_enter Tryd.func19, Tryd.ntmps19
  have B0 := Below.refl w.heap.size w
  have F5 := Blk.put (w) #[.bool gn, .string gS, .int .i64 ge, .bool gm, .string gT, .int .i64 gf, .int .i64 e, .int .i64 a, .int .i64 d] 29
  replace B0 := B0.alloc B0.size (.cells #[.bool gn, .string gS, .int .i64 ge, .bool gm, .string gT, .int .i64 gf, .int .i64 e, .int .i64 a, .int .i64 d] 29)
  have q_w_F10 : Hid (w.heap.size ≤ w.heap.size + 1) := Lib.hid (by omega)
  replace F5 := F5.allocd (.cells #[.bool false, .string { data := #[] }, .int .i64 0, .bool false, .string { data := #[] }, .int .i64 0, .int .i64 0, .int .i64 0, .int .i64 0] 29)
  have F10 := Blk.put ((w).alloc (.cells #[.bool gn, .string gS, .int .i64 ge, .bool gm, .string gT, .int .i64 gf, .int .i64 e, .int .i64 a, .int .i64 d] 29)) #[.bool false, .string { data := #[] }, .int .i64 0, .bool false, .string { data := #[] }, .int .i64 0, .int .i64 0, .int .i64 0, .int .i64 0] 29
  rw [show ((w).alloc (.cells #[.bool gn, .string gS, .int .i64 ge, .bool gm, .string gT, .int .i64 gf, .int .i64 e, .int .i64 a, .int .i64 d] 29)).heap.size = w.heap.size + 1 by simp] at F10
  replace B0 := B0.alloc B0.size (.cells #[.bool false, .string { data := #[] }, .int .i64 0, .bool false, .string { data := #[] }, .int .i64 0, .int .i64 0, .int .i64 0, .int .i64 0] 29)
  obtain ⟨xF50_0, xF50_1, xF50_2, xF50_3, xF50_4, xF50_5, xF50_6, xF50_7, xF50_8⟩ := F5.ce9
  go_wp2_with fail
  (with_reducible refine (h0 _).mono ?_)
  rintro r w1 ⟨rfl, hb1⟩
  clear xF50_0 xF50_1 xF50_2 xF50_3 xF50_4 xF50_5 xF50_6 xF50_7 xF50_8
  replace F5 := F5.keep hb1
  replace F10 := F10.keep hb1
  replace B0 := B0.trans (hb1.mono B0.size)
  clear hb1
  obtain ⟨xF51_0, xF51_1, xF51_2, xF51_3, xF51_4, xF51_5, xF51_6, xF51_7, xF51_8⟩ := F5.ce9
  go_wp2_with fail
  (with_reducible refine (h1 _ (hT.below B0)).mono ?_)
  rintro r w2 ⟨rfl, hb2⟩
  clear xF51_0 xF51_1 xF51_2 xF51_3 xF51_4 xF51_5 xF51_6 xF51_7 xF51_8
  replace F5 := F5.keep hb2
  replace F10 := F10.keep hb2
  replace B0 := B0.trans (hb2.mono B0.size)
  clear hb2
  clear F5
  replace F10 := F10.allocd (.cells #[.bool pn, .string pS, .int .i64 pe] 25)
  replace B0 := B0.alloc B0.size (.cells #[.bool pn, .string pS, .int .i64 pe] 25)
  obtain ⟨xF102_0, xF102_1, xF102_2, xF102_3, xF102_4, xF102_5, xF102_6, xF102_7, xF102_8⟩ := F10.ce9
  obtain ⟨xF102_0f, xF102_1f, xF102_2f, xF102_3f, xF102_4f, xF102_5f, xF102_6f, xF102_7f, xF102_8f⟩ := F10.fr9
  replace F10 := F10.put9 (.bool false) (.string { data := #[] }) (.int .i64 0) (.bool false) (.string { data := #[] }) (.int .i64 0) (.int .i64 0) (.int .i64 0) (.int .i64 0)
  replace B0 := below_put9 B0 q_w_F10.out (.bool false) (.string { data := #[] }) (.int .i64 0) (.bool false) (.string { data := #[] }) (.int .i64 0) (.int .i64 0) (.int .i64 0) (.int .i64 0)
  obtain ⟨xF103_0, xF103_1, xF103_2, xF103_3, xF103_4, xF103_5, xF103_6, xF103_7, xF103_8⟩ := F10.ce9
  go_wp2
  exact bodyPost_ret (v := .tuple #[.agg #[.bool false, .string { data := #[] }, .int .i64 0, .bool false, .string { data := #[] }, .int .i64 0, .int .i64 0, .int .i64 0, .int .i64 0], .int .i64 pr]) (by simp [results, Tryd.results19, go_sem, xF103_0, xF103_1, xF103_2, xF103_3, xF103_4, xF103_5, xF103_6, xF103_7, xF103_8]) rfl ⟨rfl, B0⟩

set_option maxRecDepth 10000 in
set_option maxHeartbeats 4000000 in
theorem vcrop_2 (g : GY) (e : Int) (a : Int) (d : Int) (c : Int) (r : Int) (x : Int) (y : Int) (p : DY × Int) (q : DY × Int) (E_p : vM g.re (2 * c + x - a) (e - 1) = p) (E_q : vM g.im (d - 2 * r - y) (e - 1) = q) (w : World) (ok_g : g.ok) (e1 : -4096 ≤ e) (e2 : e ≤ 4096) (a1 : 1 ≤ a) (a2 : a ≤ 65536) (d1 : 1 ≤ d) (d2 : d ≤ 65536) (c1 : 0 ≤ c) (r1 : 0 ≤ r) (x1 : 1 ≤ x) (y1 : 1 ≤ y) (x2 : x ≤ a) (y2 : y ≤ d) (c2 : c ≤ a - x) (r2 : r ≤ d - y) (h_p : p.2 = 0) (h_q : ¬ q.2 = 0) (hT : Tab w) :
    Calls Tryd.prog 19 #[.agg #[.bool g.re.n, .string (bstr g.re.x), .int .i64 g.re.e, .bool g.im.n, .string (bstr g.im.x), .int .i64 g.im.e, .int .i64 e, .int .i64 a, .int .i64 d], .int .i64 c, .int .i64 r, .int .i64 x, .int .i64 y] w fun r w' => r = .returned (.tuple #[.agg #[.bool false, .string { data := #[] }, .int .i64 0, .bool false, .string { data := #[] }, .int .i64 0, .int .i64 0, .int .i64 0, .int .i64 0], .int .i64 q.2]) ∧ Below w.heap.size w w' := by
  have h0 := fun W => vcheck_ok g e a d W ok_g e1 e2 a1 a2 d1 d2
  have h1 := fun W hW => vmoved g.re (2 * c + x - a) (e - 1) W ok_g.1 (by omega) (by omega) (by omega) (by omega) hW
  rw [E_p] at h1
  have h2 := fun W hW => vmoved g.im (d - 2 * r - y) (e - 1) W ok_g.2 (by omega) (by omega) (by omega) (by omega) hW
  rw [E_q] at h2
  clear E_p E_q ok_g
  obtain ⟨⟨gn, gX, ge⟩, ⟨gm, gY, gf⟩⟩ := g
  obtain ⟨⟨pn, pX, pe⟩, pr⟩ := p
  obtain ⟨⟨qn, qX, qe⟩, qr⟩ := q
  dsimp only at *
  generalize bstr gX = gS at *
  generalize bstr gY = gT at *
  generalize bstr pX = pS at *
  generalize bstr qX = qS at *
  have hu : (pr != 0) = false := by simp [h_p]
  have hv : (qr != 0) = true := by simpa using h_q
  clear h_p h_q
  go_enter Tryd.func19, Tryd.ntmps19
  have B0 := Below.refl w.heap.size w
  have F5 := Blk.put (w) #[.bool gn, .string gS, .int .i64 ge, .bool gm, .string gT, .int .i64 gf, .int .i64 e, .int .i64 a, .int .i64 d] 29
  replace B0 := B0.alloc B0.size (.cells #[.bool gn, .string gS, .int .i64 ge, .bool gm, .string gT, .int .i64 gf, .int .i64 e, .int .i64 a, .int .i64 d] 29)
  have q_w_F10 : Hid (w.heap.size ≤ w.heap.size + 1) := Lib.hid (by omega)
  replace F5 := F5.allocd (.cells #[.bool false, .string { data := #[] }, .int .i64 0, .bool false, .string { data := #[] }, .int .i64 0, .int .i64 0, .int .i64 0, .int .i64 0] 29)
  have F10 := Blk.put ((w).alloc (.cells #[.bool gn, .string gS, .int .i64 ge, .bool gm, .string gT, .int .i64 gf, .int .i64 e, .int .i64 a, .int .i64 d] 29)) #[.bool false, .string { data := #[] }, .int .i64 0, .bool false, .string { data := #[] }, .int .i64 0, .int .i64 0, .int .i64 0, .int .i64 0] 29
  rw [show ((w).alloc (.cells #[.bool gn, .string gS, .int .i64 ge, .bool gm, .string gT, .int .i64 gf, .int .i64 e, .int .i64 a, .int .i64 d] 29)).heap.size = w.heap.size + 1 by simp] at F10
  replace B0 := B0.alloc B0.size (.cells #[.bool false, .string { data := #[] }, .int .i64 0, .bool false, .string { data := #[] }, .int .i64 0, .int .i64 0, .int .i64 0, .int .i64 0] 29)
  obtain ⟨xF50_0, xF50_1, xF50_2, xF50_3, xF50_4, xF50_5, xF50_6, xF50_7, xF50_8⟩ := F5.ce9
  go_wp2_with fail
  (with_reducible refine (h0 _).mono ?_)
  rintro r w1 ⟨rfl, hb1⟩
  clear xF50_0 xF50_1 xF50_2 xF50_3 xF50_4 xF50_5 xF50_6 xF50_7 xF50_8
  replace F5 := F5.keep hb1
  replace F10 := F10.keep hb1
  replace B0 := B0.trans (hb1.mono B0.size)
  clear hb1
  obtain ⟨xF51_0, xF51_1, xF51_2, xF51_3, xF51_4, xF51_5, xF51_6, xF51_7, xF51_8⟩ := F5.ce9
  go_wp2_with fail
  (with_reducible refine (h1 _ (hT.below B0)).mono ?_)
  rintro r w2 ⟨rfl, hb2⟩
  clear xF51_0 xF51_1 xF51_2 xF51_3 xF51_4 xF51_5 xF51_6 xF51_7 xF51_8
  replace F5 := F5.keep hb2
  replace F10 := F10.keep hb2
  replace B0 := B0.trans (hb2.mono B0.size)
  clear hb2
  replace F5 := F5.allocd (.cells #[.bool pn, .string pS, .int .i64 pe] 25)
  replace F10 := F10.allocd (.cells #[.bool pn, .string pS, .int .i64 pe] 25)
  replace B0 := B0.alloc B0.size (.cells #[.bool pn, .string pS, .int .i64 pe] 25)
  obtain ⟨xF52_0, xF52_1, xF52_2, xF52_3, xF52_4, xF52_5, xF52_6, xF52_7, xF52_8⟩ := F5.ce9
  go_wp2_with fail
  (with_reducible refine (h2 _ (hT.below B0)).mono ?_)
  rintro r w3 ⟨rfl, hb3⟩
  clear xF52_0 xF52_1 xF52_2 xF52_3 xF52_4 xF52_5 xF52_6 xF52_7 xF52_8
  replace F5 := F5.keep hb3
  replace F10 := F10.keep hb3
  replace B0 := B0.trans (hb3.mono B0.size)
  clear hb3
  clear F5
  replace F10 := F10.allocd (.cells #[.bool qn, .string qS, .int .i64 qe] 25)
  replace B0 := B0.alloc B0.size (.cells #[.bool qn, .string qS, .int .i64 qe] 25)
  obtain ⟨xF103_0, xF103_1, xF103_2, xF103_3, xF103_4, xF103_5, xF103_6, xF103_7, xF103_8⟩ := F10.ce9
  obtain ⟨xF103_0f, xF103_1f, xF103_2f, xF103_3f, xF103_4f, xF103_5f, xF103_6f, xF103_7f, xF103_8f⟩ := F10.fr9
  replace F10 := F10.put9 (.bool false) (.string { data := #[] }) (.int .i64 0) (.bool false) (.string { data := #[] }) (.int .i64 0) (.int .i64 0) (.int .i64 0) (.int .i64 0)
  replace B0 := below_put9 B0 q_w_F10.out (.bool false) (.string { data := #[] }) (.int .i64 0) (.bool false) (.string { data := #[] }) (.int .i64 0) (.int .i64 0) (.int .i64 0) (.int .i64 0)
  obtain ⟨xF104_0, xF104_1, xF104_2, xF104_3, xF104_4, xF104_5, xF104_6, xF104_7, xF104_8⟩ := F10.ce9
  go_wp2
  exact bodyPost_ret (v := .tuple #[.agg #[.bool false, .string { data := #[] }, .int .i64 0, .bool false, .string { data := #[] }, .int .i64 0, .int .i64 0, .int .i64 0, .int .i64 0], .int .i64 qr]) (by simp [results, Tryd.results19, go_sem, xF104_0, xF104_1, xF104_2, xF104_3, xF104_4, xF104_5, xF104_6, xF104_7, xF104_8]) rfl ⟨rfl, B0⟩

set_option maxRecDepth 10000 in
set_option maxHeartbeats 4000000 in
theorem vcrop_3 (g : GY) (e : Int) (a : Int) (d : Int) (c : Int) (r : Int) (x : Int) (y : Int) (p : DY × Int) (q : DY × Int) (E_p : vM g.re (2 * c + x - a) (e - 1) = p) (E_q : vM g.im (d - 2 * r - y) (e - 1) = q) (w : World) (ok_g : g.ok) (e1 : -4096 ≤ e) (e2 : e ≤ 4096) (a1 : 1 ≤ a) (a2 : a ≤ 65536) (d1 : 1 ≤ d) (d2 : d ≤ 65536) (c1 : 0 ≤ c) (r1 : 0 ≤ r) (x1 : 1 ≤ x) (y1 : 1 ≤ y) (x2 : x ≤ a) (y2 : y ≤ d) (c2 : c ≤ a - x) (r2 : r ≤ d - y) (h_p : p.2 = 0) (h_q : q.2 = 0) (hT : Tab w) :
    Calls Tryd.prog 19 #[.agg #[.bool g.re.n, .string (bstr g.re.x), .int .i64 g.re.e, .bool g.im.n, .string (bstr g.im.x), .int .i64 g.im.e, .int .i64 e, .int .i64 a, .int .i64 d], .int .i64 c, .int .i64 r, .int .i64 x, .int .i64 y] w fun r w' => r = .returned (.tuple #[.agg #[.bool p.1.n, .string (bstr p.1.x), .int .i64 p.1.e, .bool q.1.n, .string (bstr q.1.x), .int .i64 q.1.e, .int .i64 e, .int .i64 x, .int .i64 y], .int .i64 0]) ∧ Below w.heap.size w w' := by
  have h0 := fun W => vcheck_ok g e a d W ok_g e1 e2 a1 a2 d1 d2
  have h1 := fun W hW => vmoved g.re (2 * c + x - a) (e - 1) W ok_g.1 (by omega) (by omega) (by omega) (by omega) hW
  rw [E_p] at h1
  have h2 := fun W hW => vmoved g.im (d - 2 * r - y) (e - 1) W ok_g.2 (by omega) (by omega) (by omega) (by omega) hW
  rw [E_q] at h2
  clear E_p E_q ok_g
  obtain ⟨⟨gn, gX, ge⟩, ⟨gm, gY, gf⟩⟩ := g
  obtain ⟨⟨pn, pX, pe⟩, pr⟩ := p
  obtain ⟨⟨qn, qX, qe⟩, qr⟩ := q
  dsimp only at *
  generalize bstr gX = gS at *
  generalize bstr gY = gT at *
  generalize bstr pX = pS at *
  generalize bstr qX = qS at *
  have hu : (pr != 0) = false := by simp [h_p]
  have hv : (qr != 0) = false := by simp [h_q]
  clear h_p h_q
  go_enter Tryd.func19, Tryd.ntmps19
  have B0 := Below.refl w.heap.size w
  have F5 := Blk.put (w) #[.bool gn, .string gS, .int .i64 ge, .bool gm, .string gT, .int .i64 gf, .int .i64 e, .int .i64 a, .int .i64 d] 29
  replace B0 := B0.alloc B0.size (.cells #[.bool gn, .string gS, .int .i64 ge, .bool gm, .string gT, .int .i64 gf, .int .i64 e, .int .i64 a, .int .i64 d] 29)
  have q_F5_F10 := Lib.hid (show w.heap.size < w.heap.size + 1 by omega)
  have q_w_F10 : Hid (w.heap.size ≤ w.heap.size + 1) := Lib.hid (by omega)
  replace F5 := F5.allocd (.cells #[.bool false, .string { data := #[] }, .int .i64 0, .bool false, .string { data := #[] }, .int .i64 0, .int .i64 0, .int .i64 0, .int .i64 0] 29)
  have F10 := Blk.put ((w).alloc (.cells #[.bool gn, .string gS, .int .i64 ge, .bool gm, .string gT, .int .i64 gf, .int .i64 e, .int .i64 a, .int .i64 d] 29)) #[.bool false, .string { data := #[] }, .int .i64 0, .bool false, .string { data := #[] }, .int .i64 0, .int .i64 0, .int .i64 0, .int .i64 0] 29
  rw [show ((w).alloc (.cells #[.bool gn, .string gS, .int .i64 ge, .bool gm, .string gT, .int .i64 gf, .int .i64 e, .int .i64 a, .int .i64 d] 29)).heap.size = w.heap.size + 1 by simp] at F10
  replace B0 := B0.alloc B0.size (.cells #[.bool false, .string { data := #[] }, .int .i64 0, .bool false, .string { data := #[] }, .int .i64 0, .int .i64 0, .int .i64 0, .int .i64 0] 29)
  obtain ⟨xF50_0, xF50_1, xF50_2, xF50_3, xF50_4, xF50_5, xF50_6, xF50_7, xF50_8⟩ := F5.ce9
  go_wp2_with fail
  (with_reducible refine (h0 _).mono ?_)
  rintro r w1 ⟨rfl, hb1⟩
  clear xF50_0 xF50_1 xF50_2 xF50_3 xF50_4 xF50_5 xF50_6 xF50_7 xF50_8
  replace F5 := F5.keep hb1
  replace F10 := F10.keep hb1
  replace B0 := B0.trans (hb1.mono B0.size)
  clear hb1
  obtain ⟨xF51_0, xF51_1, xF51_2, xF51_3, xF51_4, xF51_5, xF51_6, xF51_7, xF51_8⟩ := F5.ce9
  go_wp2_with fail
  (with_reducible refine (h1 _ (hT.below B0)).mono ?_)
  rintro r w2 ⟨rfl, hb2⟩
  clear xF51_0 xF51_1 xF51_2 xF51_3 xF51_4 xF51_5 xF51_6 xF51_7 xF51_8
  replace F5 := F5.keep hb2
  replace F10 := F10.keep hb2
  replace B0 := B0.trans (hb2.mono B0.size)
  clear hb2
  have q_F10_F12 : Hid (w.heap.size + 1 < w2.heap.size) := Lib.hid (by have := F10.lt; first | exact this | omega | (simp; done) | simpa using this)
  replace F5 := F5.allocd (.cells #[.bool pn, .string pS, .int .i64 pe] 25)
  replace F10 := F10.allocd (.cells #[.bool pn, .string pS, .int .i64 pe] 25)
  have F12 := Blk.put (w2) #[.bool pn, .string pS, .int .i64 pe] 25
  replace B0 := B0.alloc B0.size (.cells #[.bool pn, .string pS, .int .i64 pe] 25)
  obtain ⟨xF52_0, xF52_1, xF52_2, xF52_3, xF52_4, xF52_5, xF52_6, xF52_7, xF52_8⟩ := F5.ce9
  go_wp2_with fail
  (with_reducible refine (h2 _ (hT.below B0)).mono ?_)
  rintro r w3 ⟨rfl, hb3⟩
  clear xF52_0 xF52_1 xF52_2 xF52_3 xF52_4 xF52_5 xF52_6 xF52_7 xF52_8
  replace F5 := F5.keep hb3
  replace F10 := F10.keep hb3
  replace F12 := F12.keep hb3
  replace B0 := B0.trans (hb3.mono B0.size)
  clear hb3
  have q_F10_F14 : Hid (w.heap.size + 1 < w3.heap.size) := Lib.hid (by have := F10.lt; first | exact this | omega | (simp; done) | simpa using this)
  replace F5 := F5.allocd (.cells #[.bool qn, .string qS, .int .i64 qe] 25)
  replace F10 := F10.allocd (.cells #[.bool qn, .string qS, .int .i64 qe] 25)
  replace F12 := F12.allocd (.cells #[.bool qn, .string qS, .int .i64 qe] 25)
  have F14 := Blk.put (w3) #[.bool qn, .string qS, .int .i64 qe] 25
  replace B0 := B0.alloc B0.size (.cells #[.bool qn, .string qS, .int .i64 qe] 25)
  obtain ⟨xF123_0, xF123_1, xF123_2⟩ := F12.ce3
  obtain ⟨xF143_0, xF143_1, xF143_2⟩ := F14.ce3
  obtain ⟨xF53_0, xF53_1, xF53_2, xF53_3, xF53_4, xF53_5, xF53_6, xF53_7, xF53_8⟩ := F5.ce9
  obtain ⟨xF103_0, xF103_1, xF103_2, xF103_3, xF103_4, xF103_5, xF103_6, xF103_7, xF103_8⟩ := F10.ce9
  obtain ⟨xF103_0f, xF103_1f, xF103_2f, xF103_3f, xF103_4f, xF103_5f, xF103_6f, xF103_7f, xF103_8f⟩ := F10.fr9
  replace F5 := F5.far9 (Nat.ne_of_lt q_F5_F10.out) (.bool pn) (.string pS) (.int .i64 pe) (.bool qn) (.string qS) (.int .i64 qe) (.int .i64 e) (.int .i64 x) (.int .i64 y)
  replace F12 := F12.far9 (Nat.ne_of_gt q_F10_F12.out) (.bool pn) (.string pS) (.int .i64 pe) (.bool qn) (.string qS) (.int .i64 qe) (.int .i64 e) (.int .i64 x) (.int .i64 y)
  replace F14 := F14.far9 (Nat.ne_of_gt q_F10_F14.out) (.bool pn) (.string pS) (.int .i64 pe) (.bool qn) (.string qS) (.int .i64 qe) (.int .i64 e) (.int .i64 x) (.int .i64 y)
  replace F10 := F10.put9 (.bool pn) (.string pS) (.int .i64 pe) (.bool qn) (.string qS) (.int .i64 qe) (.int .i64 e) (.int .i64 x) (.int .i64 y)
  replace B0 := below_put9 B0 q_w_F10.out (.bool pn) (.string pS) (.int .i64 pe) (.bool qn) (.string qS) (.int .i64 qe) (.int .i64 e) (.int .i64 x) (.int .i64 y)
  obtain ⟨xF104_0, xF104_1, xF104_2, xF104_3, xF104_4, xF104_5, xF104_6, xF104_7, xF104_8⟩ := F10.ce9
  go_wp2
  exact bodyPost_ret (v := .tuple #[.agg #[.bool pn, .string pS, .int .i64 pe, .bool qn, .string qS, .int .i64 qe, .int .i64 e, .int .i64 x, .int .i64 y], .int .i64 0]) (by simp [results, Tryd.results19, go_sem, xF104_0, xF104_1, xF104_2, xF104_3, xF104_4, xF104_5, xF104_6, xF104_7, xF104_8]) rfl ⟨rfl, B0⟩

set_option maxRecDepth 10000 in
set_option maxHeartbeats 4000000 in
theorem vcrop_out (g : GY) (e : Int) (a : Int) (d : Int) (c : Int) (r : Int) (x : Int) (y : Int) (w : World) (ok_g : g.ok) (e1 : -4096 ≤ e) (e2 : e ≤ 4096) (a1 : 1 ≤ a) (a2 : a ≤ 65536) (d1 : 1 ≤ d) (d2 : d ≤ 65536) (hc : (c < 0) ∨ (0 ≤ c ∧ r < 0) ∨ (0 ≤ c ∧ 0 ≤ r ∧ x < 1) ∨ (0 ≤ c ∧ 0 ≤ r ∧ 1 ≤ x ∧ y < 1) ∨ (0 ≤ c ∧ 0 ≤ r ∧ 1 ≤ x ∧ 1 ≤ y ∧ a < x) ∨ (0 ≤ c ∧ 0 ≤ r ∧ 1 ≤ x ∧ 1 ≤ y ∧ x ≤ a ∧ d < y) ∨ (0 ≤ c ∧ 0 ≤ r ∧ 1 ≤ x ∧ 1 ≤ y ∧ x ≤ a ∧ y ≤ d ∧ a - x < c) ∨ (0 ≤ c ∧ 0 ≤ r ∧ 1 ≤ x ∧ 1 ≤ y ∧ x ≤ a ∧ y ≤ d ∧ c ≤ a - x ∧ d - y < r)) :
    Calls Tryd.prog 19 #[.agg #[.bool g.re.n, .string (bstr g.re.x), .int .i64 g.re.e, .bool g.im.n, .string (bstr g.im.x), .int .i64 g.im.e, .int .i64 e, .int .i64 a, .int .i64 d], .int .i64 c, .int .i64 r, .int .i64 x, .int .i64 y] w fun r w' => r = .returned (.tuple #[.agg #[.bool false, .string { data := #[] }, .int .i64 0, .bool false, .string { data := #[] }, .int .i64 0, .int .i64 0, .int .i64 0, .int .i64 0], .int .i64 241]) ∧ Below w.heap.size w w' := by
  have h0 := fun W => vcheck_ok g e a d W ok_g e1 e2 a1 a2 d1 d2
  clear ok_g
  obtain ⟨⟨gn, gX, ge⟩, ⟨gm, gY, gf⟩⟩ := g
  dsimp only at *
  generalize bstr gX = gS at *
  generalize bstr gY = gT at *
  rcases hc with h | ⟨k1, h⟩ | ⟨k1, k2, h⟩ | ⟨k1, k2, k3, h⟩ | ⟨k1, k2, k3, k4, h⟩ | ⟨k1, k2, k3, k4, k5, h⟩ | ⟨k1, k2, k3, k4, k5, k6, h⟩ | ⟨k1, k2, k3, k4, k5, k6, k7, h⟩
  · go_enter Tryd.func19, Tryd.ntmps19
    have B0 := Below.refl w.heap.size w
    have F5 := Blk.put (w) #[.bool gn, .string gS, .int .i64 ge, .bool gm, .string gT, .int .i64 gf, .int .i64 e, .int .i64 a, .int .i64 d] 29
    replace B0 := B0.alloc B0.size (.cells #[.bool gn, .string gS, .int .i64 ge, .bool gm, .string gT, .int .i64 gf, .int .i64 e, .int .i64 a, .int .i64 d] 29)
    have q_w_F10 : Hid (w.heap.size ≤ w.heap.size + 1) := Lib.hid (by omega)
    replace F5 := F5.allocd (.cells #[.bool false, .string { data := #[] }, .int .i64 0, .bool false, .string { data := #[] }, .int .i64 0, .int .i64 0, .int .i64 0, .int .i64 0] 29)
    have F10 := Blk.put ((w).alloc (.cells #[.bool gn, .string gS, .int .i64 ge, .bool gm, .string gT, .int .i64 gf, .int .i64 e, .int .i64 a, .int .i64 d] 29)) #[.bool false, .string { data := #[] }, .int .i64 0, .bool false, .string { data := #[] }, .int .i64 0, .int .i64 0, .int .i64 0, .int .i64 0] 29
    rw [show ((w).alloc (.cells #[.bool gn, .string gS, .int .i64 ge, .bool gm, .string gT, .int .i64 gf, .int .i64 e, .int .i64 a, .int .i64 d] 29)).heap.size = w.heap.size + 1 by simp] at F10
    replace B0 := B0.alloc B0.size (.cells #[.bool false, .string { data := #[] }, .int .i64 0, .bool false, .string { data := #[] }, .int .i64 0, .int .i64 0, .int .i64 0, .int .i64 0] 29)
    obtain ⟨xF50_0, xF50_1, xF50_2, xF50_3, xF50_4, xF50_5, xF50_6, xF50_7, xF50_8⟩ := F5.ce9
    go_wp2_with fail
    (with_reducible refine (h0 _).mono ?_)
    rintro r w1 ⟨rfl, hb1⟩
    clear xF50_0 xF50_1 xF50_2 xF50_3 xF50_4 xF50_5 xF50_6 xF50_7 xF50_8
    replace F5 := F5.keep hb1
    replace F10 := F10.keep hb1
    replace B0 := B0.trans (hb1.mono B0.size)
    clear hb1
    obtain ⟨xF101_0, xF101_1, xF101_2, xF101_3, xF101_4, xF101_5, xF101_6, xF101_7, xF101_8⟩ := F10.ce9
    obtain ⟨xF101_0f, xF101_1f, xF101_2f, xF101_3f, xF101_4f, xF101_5f, xF101_6f, xF101_7f, xF101_8f⟩ := F10.fr9
    clear F5
    replace F10 := F10.put9 (.bool false) (.string { data := #[] }) (.int .i64 0) (.bool false) (.string { data := #[] }) (.int .i64 0) (.int .i64 0) (.int .i64 0) (.int .i64 0)
    replace B0 := below_put9 B0 q_w_F10.out (.bool false) (.string { data := #[] }) (.int .i64 0) (.bool false) (.string { data := #[] }) (.int .i64 0) (.int .i64 0) (.int .i64 0) (.int .i64 0)
    obtain ⟨xF102_0, xF102_1, xF102_2, xF102_3, xF102_4, xF102_5, xF102_6, xF102_7, xF102_8⟩ := F10.ce9
    go_wp2
    exact bodyPost_ret (v := .tuple #[.agg #[.bool false, .string { data := #[] }, .int .i64 0, .bool false, .string { data := #[] }, .int .i64 0, .int .i64 0, .int .i64 0, .int .i64 0], .int .i64 241]) (by simp [results, Tryd.results19, go_sem, xF102_0, xF102_1, xF102_2, xF102_3, xF102_4, xF102_5, xF102_6, xF102_7, xF102_8]) rfl ⟨rfl, B0⟩
  · go_enter Tryd.func19, Tryd.ntmps19
    have B0 := Below.refl w.heap.size w
    have F5 := Blk.put (w) #[.bool gn, .string gS, .int .i64 ge, .bool gm, .string gT, .int .i64 gf, .int .i64 e, .int .i64 a, .int .i64 d] 29
    replace B0 := B0.alloc B0.size (.cells #[.bool gn, .string gS, .int .i64 ge, .bool gm, .string gT, .int .i64 gf, .int .i64 e, .int .i64 a, .int .i64 d] 29)
    have q_w_F10 : Hid (w.heap.size ≤ w.heap.size + 1) := Lib.hid (by omega)
    replace F5 := F5.allocd (.cells #[.bool false, .string { data := #[] }, .int .i64 0, .bool false, .string { data := #[] }, .int .i64 0, .int .i64 0, .int .i64 0, .int .i64 0] 29)
    have F10 := Blk.put ((w).alloc (.cells #[.bool gn, .string gS, .int .i64 ge, .bool gm, .string gT, .int .i64 gf, .int .i64 e, .int .i64 a, .int .i64 d] 29)) #[.bool false, .string { data := #[] }, .int .i64 0, .bool false, .string { data := #[] }, .int .i64 0, .int .i64 0, .int .i64 0, .int .i64 0] 29
    rw [show ((w).alloc (.cells #[.bool gn, .string gS, .int .i64 ge, .bool gm, .string gT, .int .i64 gf, .int .i64 e, .int .i64 a, .int .i64 d] 29)).heap.size = w.heap.size + 1 by simp] at F10
    replace B0 := B0.alloc B0.size (.cells #[.bool false, .string { data := #[] }, .int .i64 0, .bool false, .string { data := #[] }, .int .i64 0, .int .i64 0, .int .i64 0, .int .i64 0] 29)
    obtain ⟨xF50_0, xF50_1, xF50_2, xF50_3, xF50_4, xF50_5, xF50_6, xF50_7, xF50_8⟩ := F5.ce9
    go_wp2_with fail
    (with_reducible refine (h0 _).mono ?_)
    rintro r w1 ⟨rfl, hb1⟩
    clear xF50_0 xF50_1 xF50_2 xF50_3 xF50_4 xF50_5 xF50_6 xF50_7 xF50_8
    replace F5 := F5.keep hb1
    replace F10 := F10.keep hb1
    replace B0 := B0.trans (hb1.mono B0.size)
    clear hb1
    obtain ⟨xF101_0, xF101_1, xF101_2, xF101_3, xF101_4, xF101_5, xF101_6, xF101_7, xF101_8⟩ := F10.ce9
    obtain ⟨xF101_0f, xF101_1f, xF101_2f, xF101_3f, xF101_4f, xF101_5f, xF101_6f, xF101_7f, xF101_8f⟩ := F10.fr9
    clear F5
    replace F10 := F10.put9 (.bool false) (.string { data := #[] }) (.int .i64 0) (.bool false) (.string { data := #[] }) (.int .i64 0) (.int .i64 0) (.int .i64 0) (.int .i64 0)
    replace B0 := below_put9 B0 q_w_F10.out (.bool false) (.string { data := #[] }) (.int .i64 0) (.bool false) (.string { data := #[] }) (.int .i64 0) (.int .i64 0) (.int .i64 0) (.int .i64 0)
    obtain ⟨xF102_0, xF102_1, xF102_2, xF102_3, xF102_4, xF102_5, xF102_6, xF102_7, xF102_8⟩ := F10.ce9
    go_wp2
    exact bodyPost_ret (v := .tuple #[.agg #[.bool false, .string { data := #[] }, .int .i64 0, .bool false, .string { data := #[] }, .int .i64 0, .int .i64 0, .int .i64 0, .int .i64 0], .int .i64 241]) (by simp [results, Tryd.results19, go_sem, xF102_0, xF102_1, xF102_2, xF102_3, xF102_4, xF102_5, xF102_6, xF102_7, xF102_8]) rfl ⟨rfl, B0⟩
  · go_enter Tryd.func19, Tryd.ntmps19
    have B0 := Below.refl w.heap.size w
    have F5 := Blk.put (w) #[.bool gn, .string gS, .int .i64 ge, .bool gm, .string gT, .int .i64 gf, .int .i64 e, .int .i64 a, .int .i64 d] 29
    replace B0 := B0.alloc B0.size (.cells #[.bool gn, .string gS, .int .i64 ge, .bool gm, .string gT, .int .i64 gf, .int .i64 e, .int .i64 a, .int .i64 d] 29)
    have q_w_F10 : Hid (w.heap.size ≤ w.heap.size + 1) := Lib.hid (by omega)
    replace F5 := F5.allocd (.cells #[.bool false, .string { data := #[] }, .int .i64 0, .bool false, .string { data := #[] }, .int .i64 0, .int .i64 0, .int .i64 0, .int .i64 0] 29)
    have F10 := Blk.put ((w).alloc (.cells #[.bool gn, .string gS, .int .i64 ge, .bool gm, .string gT, .int .i64 gf, .int .i64 e, .int .i64 a, .int .i64 d] 29)) #[.bool false, .string { data := #[] }, .int .i64 0, .bool false, .string { data := #[] }, .int .i64 0, .int .i64 0, .int .i64 0, .int .i64 0] 29
    rw [show ((w).alloc (.cells #[.bool gn, .string gS, .int .i64 ge, .bool gm, .string gT, .int .i64 gf, .int .i64 e, .int .i64 a, .int .i64 d] 29)).heap.size = w.heap.size + 1 by simp] at F10
    replace B0 := B0.alloc B0.size (.cells #[.bool false, .string { data := #[] }, .int .i64 0, .bool false, .string { data := #[] }, .int .i64 0, .int .i64 0, .int .i64 0, .int .i64 0] 29)
    obtain ⟨xF50_0, xF50_1, xF50_2, xF50_3, xF50_4, xF50_5, xF50_6, xF50_7, xF50_8⟩ := F5.ce9
    go_wp2_with fail
    (with_reducible refine (h0 _).mono ?_)
    rintro r w1 ⟨rfl, hb1⟩
    clear xF50_0 xF50_1 xF50_2 xF50_3 xF50_4 xF50_5 xF50_6 xF50_7 xF50_8
    replace F5 := F5.keep hb1
    replace F10 := F10.keep hb1
    replace B0 := B0.trans (hb1.mono B0.size)
    clear hb1
    obtain ⟨xF101_0, xF101_1, xF101_2, xF101_3, xF101_4, xF101_5, xF101_6, xF101_7, xF101_8⟩ := F10.ce9
    obtain ⟨xF101_0f, xF101_1f, xF101_2f, xF101_3f, xF101_4f, xF101_5f, xF101_6f, xF101_7f, xF101_8f⟩ := F10.fr9
    clear F5
    replace F10 := F10.put9 (.bool false) (.string { data := #[] }) (.int .i64 0) (.bool false) (.string { data := #[] }) (.int .i64 0) (.int .i64 0) (.int .i64 0) (.int .i64 0)
    replace B0 := below_put9 B0 q_w_F10.out (.bool false) (.string { data := #[] }) (.int .i64 0) (.bool false) (.string { data := #[] }) (.int .i64 0) (.int .i64 0) (.int .i64 0) (.int .i64 0)
    obtain ⟨xF102_0, xF102_1, xF102_2, xF102_3, xF102_4, xF102_5, xF102_6, xF102_7, xF102_8⟩ := F10.ce9
    go_wp2
    exact bodyPost_ret (v := .tuple #[.agg #[.bool false, .string { data := #[] }, .int .i64 0, .bool false, .string { data := #[] }, .int .i64 0, .int .i64 0, .int .i64 0, .int .i64 0], .int .i64 241]) (by simp [results, Tryd.results19, go_sem, xF102_0, xF102_1, xF102_2, xF102_3, xF102_4, xF102_5, xF102_6, xF102_7, xF102_8]) rfl ⟨rfl, B0⟩
  · go_enter Tryd.func19, Tryd.ntmps19
    have B0 := Below.refl w.heap.size w
    have F5 := Blk.put (w) #[.bool gn, .string gS, .int .i64 ge, .bool gm, .string gT, .int .i64 gf, .int .i64 e, .int .i64 a, .int .i64 d] 29
    replace B0 := B0.alloc B0.size (.cells #[.bool gn, .string gS, .int .i64 ge, .bool gm, .string gT, .int .i64 gf, .int .i64 e, .int .i64 a, .int .i64 d] 29)
    have q_w_F10 : Hid (w.heap.size ≤ w.heap.size + 1) := Lib.hid (by omega)
    replace F5 := F5.allocd (.cells #[.bool false, .string { data := #[] }, .int .i64 0, .bool false, .string { data := #[] }, .int .i64 0, .int .i64 0, .int .i64 0, .int .i64 0] 29)
    have F10 := Blk.put ((w).alloc (.cells #[.bool gn, .string gS, .int .i64 ge, .bool gm, .string gT, .int .i64 gf, .int .i64 e, .int .i64 a, .int .i64 d] 29)) #[.bool false, .string { data := #[] }, .int .i64 0, .bool false, .string { data := #[] }, .int .i64 0, .int .i64 0, .int .i64 0, .int .i64 0] 29
    rw [show ((w).alloc (.cells #[.bool gn, .string gS, .int .i64 ge, .bool gm, .string gT, .int .i64 gf, .int .i64 e, .int .i64 a, .int .i64 d] 29)).heap.size = w.heap.size + 1 by simp] at F10
    replace B0 := B0.alloc B0.size (.cells #[.bool false, .string { data := #[] }, .int .i64 0, .bool false, .string { data := #[] }, .int .i64 0, .int .i64 0, .int .i64 0, .int .i64 0] 29)
    obtain ⟨xF50_0, xF50_1, xF50_2, xF50_3, xF50_4, xF50_5, xF50_6, xF50_7, xF50_8⟩ := F5.ce9
    go_wp2_with fail
    (with_reducible refine (h0 _).mono ?_)
    rintro r w1 ⟨rfl, hb1⟩
    clear xF50_0 xF50_1 xF50_2 xF50_3 xF50_4 xF50_5 xF50_6 xF50_7 xF50_8
    replace F5 := F5.keep hb1
    replace F10 := F10.keep hb1
    replace B0 := B0.trans (hb1.mono B0.size)
    clear hb1
    obtain ⟨xF101_0, xF101_1, xF101_2, xF101_3, xF101_4, xF101_5, xF101_6, xF101_7, xF101_8⟩ := F10.ce9
    obtain ⟨xF101_0f, xF101_1f, xF101_2f, xF101_3f, xF101_4f, xF101_5f, xF101_6f, xF101_7f, xF101_8f⟩ := F10.fr9
    clear F5
    replace F10 := F10.put9 (.bool false) (.string { data := #[] }) (.int .i64 0) (.bool false) (.string { data := #[] }) (.int .i64 0) (.int .i64 0) (.int .i64 0) (.int .i64 0)
    replace B0 := below_put9 B0 q_w_F10.out (.bool false) (.string { data := #[] }) (.int .i64 0) (.bool false) (.string { data := #[] }) (.int .i64 0) (.int .i64 0) (.int .i64 0) (.int .i64 0)
    obtain ⟨xF102_0, xF102_1, xF102_2, xF102_3, xF102_4, xF102_5, xF102_6, xF102_7, xF102_8⟩ := F10.ce9
    go_wp2
    exact bodyPost_ret (v := .tuple #[.agg #[.bool false, .string { data := #[] }, .int .i64 0, .bool false, .string { data := #[] }, .int .i64 0, .int .i64 0, .int .i64 0, .int .i64 0], .int .i64 241]) (by simp [results, Tryd.results19, go_sem, xF102_0, xF102_1, xF102_2, xF102_3, xF102_4, xF102_5, xF102_6, xF102_7, xF102_8]) rfl ⟨rfl, B0⟩
  · go_enter Tryd.func19, Tryd.ntmps19
    have B0 := Below.refl w.heap.size w
    have F5 := Blk.put (w) #[.bool gn, .string gS, .int .i64 ge, .bool gm, .string gT, .int .i64 gf, .int .i64 e, .int .i64 a, .int .i64 d] 29
    replace B0 := B0.alloc B0.size (.cells #[.bool gn, .string gS, .int .i64 ge, .bool gm, .string gT, .int .i64 gf, .int .i64 e, .int .i64 a, .int .i64 d] 29)
    have q_F5_F10 := Lib.hid (show w.heap.size < w.heap.size + 1 by omega)
    have q_w_F10 : Hid (w.heap.size ≤ w.heap.size + 1) := Lib.hid (by omega)
    replace F5 := F5.allocd (.cells #[.bool false, .string { data := #[] }, .int .i64 0, .bool false, .string { data := #[] }, .int .i64 0, .int .i64 0, .int .i64 0, .int .i64 0] 29)
    have F10 := Blk.put ((w).alloc (.cells #[.bool gn, .string gS, .int .i64 ge, .bool gm, .string gT, .int .i64 gf, .int .i64 e, .int .i64 a, .int .i64 d] 29)) #[.bool false, .string { data := #[] }, .int .i64 0, .bool false, .string { data := #[] }, .int .i64 0, .int .i64 0, .int .i64 0, .int .i64 0] 29
    rw [show ((w).alloc (.cells #[.bool gn, .string gS, .int .i64 ge, .bool gm, .string gT, .int .i64 gf, .int .i64 e, .int .i64 a, .int .i64 d] 29)).heap.size = w.heap.size + 1 by simp] at F10
    replace B0 := B0.alloc B0.size (.cells #[.bool false, .string { data := #[] }, .int .i64 0, .bool false, .string { data := #[] }, .int .i64 0, .int .i64 0, .int .i64 0, .int .i64 0] 29)
    obtain ⟨xF50_0, xF50_1, xF50_2, xF50_3, xF50_4, xF50_5, xF50_6, xF50_7, xF50_8⟩ := F5.ce9
    go_wp2_with fail
    (with_reducible refine (h0 _).mono ?_)
    rintro r w1 ⟨rfl, hb1⟩
    clear xF50_0 xF50_1 xF50_2 xF50_3 xF50_4 xF50_5 xF50_6 xF50_7 xF50_8
    replace F5 := F5.keep hb1
    replace F10 := F10.keep hb1
    replace B0 := B0.trans (hb1.mono B0.size)
    clear hb1
    obtain ⟨xF51_0, xF51_1, xF51_2, xF51_3, xF51_4, xF51_5, xF51_6, xF51_7, xF51_8⟩ := F5.ce9
    obtain ⟨xF101_0, xF101_1, xF101_2, xF101_3, xF101_4, xF101_5, xF101_6, xF101_7, xF101_8⟩ := F10.ce9
    obtain ⟨xF101_0f, xF101_1f, xF101_2f, xF101_3f, xF101_4f, xF101_5f, xF101_6f, xF101_7f, xF101_8f⟩ := F10.fr9
    replace F5 := F5.far9 (Nat.ne_of_lt q_F5_F10.out) (.bool false) (.string { data := #[] }) (.int .i64 0) (.bool false) (.string { data := #[] }) (.int .i64 0) (.int .i64 0) (.int .i64 0) (.int .i64 0)
    replace F10 := F10.put9 (.bool false) (.string { data := #[] }) (.int .i64 0) (.bool false) (.string { data := #[] }) (.int .i64 0) (.int .i64 0) (.int .i64 0) (.int .i64 0)
    replace B0 := below_put9 B0 q_w_F10.out (.bool false) (.string { data := #[] }) (.int .i64 0) (.bool false) (.string { data := #[] }) (.int .i64 0) (.int .i64 0) (.int .i64 0) (.int .i64 0)
    obtain ⟨xF102_0, xF102_1, xF102_2, xF102_3, xF102_4, xF102_5, xF102_6, xF102_7, xF102_8⟩ := F10.ce9
    go_wp2
    exact bodyPost_ret (v := .tuple #[.agg #[.bool false, .string { data := #[] }, .int .i64 0, .bool false, .string { data := #[] }, .int .i64 0, .int .i64 0, .int .i64 0, .int .i64 0], .int .i64 241]) (by simp [results, Tryd.results19, go_sem, xF102_0, xF102_1, xF102_2, xF102_3, xF102_4, xF102_5, xF102_6, xF102_7, xF102_8]) rfl ⟨rfl, B0⟩
  · go_enter Tryd.func19, Tryd.ntmps19
    have B0 := Below.refl w.heap.size w
    have F5 := Blk.put (w) #[.bool gn, .string gS, .int .i64 ge, .bool gm, .string gT, .int .i64 gf, .int .i64 e, .int .i64 a, .int .i64 d] 29
    replace B0 := B0.alloc B0.size (.cells #[.bool gn, .string gS, .int .i64 ge, .bool gm, .string gT, .int .i64 gf, .int .i64 e, .int .i64 a, .int .i64 d] 29)
    have q_F5_F10 := Lib.hid (show w.heap.size < w.heap.size + 1 by omega)
    have q_w_F10 : Hid (w.heap.size ≤ w.heap.size + 1) := Lib.hid (by omega)
    replace F5 := F5.allocd (.cells #[.bool false, .string { data := #[] }, .int .i64 0, .bool false, .string { data := #[] }, .int .i64 0, .int .i64 0, .int .i64 0, .int .i64 0] 29)
    have F10 := Blk.put ((w).alloc (.cells #[.bool gn, .string gS, .int .i64 ge, .bool gm, .string gT, .int .i64 gf, .int .i64 e, .int .i64 a, .int .i64 d] 29)) #[.bool false, .string { data := #[] }, .int .i64 0, .bool false, .string { data := #[] }, .int .i64 0, .int .i64 0, .int .i64 0, .int .i64 0] 29
    rw [show ((w).alloc (.cells #[.bool gn, .string gS, .int .i64 ge, .bool gm, .string gT, .int .i64 gf, .int .i64 e, .int .i64 a, .int .i64 d] 29)).heap.size = w.heap.size + 1 by simp] at F10
    replace B0 := B0.alloc B0.size (.cells #[.bool false, .string { data := #[] }, .int .i64 0, .bool false, .string { data := #[] }, .int .i64 0, .int .i64 0, .int .i64 0, .int .i64 0] 29)
    obtain ⟨xF50_0, xF50_1, xF50_2, xF50_3, xF50_4, xF50_5, xF50_6, xF50_7, xF50_8⟩ := F5.ce9
    go_wp2_with fail
    (with_reducible refine (h0 _).mono ?_)
    rintro r w1 ⟨rfl, hb1⟩
    clear xF50_0 xF50_1 xF50_2 xF50_3 xF50_4 xF50_5 xF50_6 xF50_7 xF50_8
    replace F5 := F5.keep hb1
    replace F10 := F10.keep hb1
    replace B0 := B0.trans (hb1.mono B0.size)
    clear hb1
    obtain ⟨xF51_0, xF51_1, xF51_2, xF51_3, xF51_4, xF51_5, xF51_6, xF51_7, xF51_8⟩ := F5.ce9
    obtain ⟨xF101_0, xF101_1, xF101_2, xF101_3, xF101_4, xF101_5, xF101_6, xF101_7, xF101_8⟩ := F10.ce9
    obtain ⟨xF101_0f, xF101_1f, xF101_2f, xF101_3f, xF101_4f, xF101_5f, xF101_6f, xF101_7f, xF101_8f⟩ := F10.fr9
    replace F5 := F5.far9 (Nat.ne_of_lt q_F5_F10.out) (.bool false) (.string { data := #[] }) (.int .i64 0) (.bool false) (.string { data := #[] }) (.int .i64 0) (.int .i64 0) (.int .i64 0) (.int .i64 0)
    replace F10 := F10.put9 (.bool false) (.string { data := #[] }) (.int .i64 0) (.bool false) (.string { data := #[] }) (.int .i64 0) (.int .i64 0) (.int .i64 0) (.int .i64 0)
    replace B0 := below_put9 B0 q_w_F10.out (.bool false) (.string { data := #[] }) (.int .i64 0) (.bool false) (.string { data := #[] }) (.int .i64 0) (.int .i64 0) (.int .i64 0) (.int .i64 0)
    obtain ⟨xF102_0, xF102_1, xF102_2, xF102_3, xF102_4, xF102_5, xF102_6, xF102_7, xF102_8⟩ := F10.ce9
    go_wp2
    exact bodyPost_ret (v := .tuple #[.agg #[.bool false, .string { data := #[] }, .int .i64 0, .bool false, .string { data := #[] }, .int .i64 0, .int .i64 0, .int .i64 0, .int .i64 0], .int .i64 241]) (by simp [results, Tryd.results19, go_sem, xF102_0, xF102_1, xF102_2, xF102_3, xF102_4, xF102_5, xF102_6, xF102_7, xF102_8]) rfl ⟨rfl, B0⟩
  · go_enter Tryd.func19, Tryd.ntmps19
    have B0 := Below.refl w.heap.size w
    have F5 := Blk.put (w) #[.bool gn, .string gS, .int .i64 ge, .bool gm, .string gT, .int .i64 gf, .int .i64 e, .int .i64 a, .int .i64 d] 29
    replace B0 := B0.alloc B0.size (.cells #[.bool gn, .string gS, .int .i64 ge, .bool gm, .string gT, .int .i64 gf, .int .i64 e, .int .i64 a, .int .i64 d] 29)
    have q_F5_F10 := Lib.hid (show w.heap.size < w.heap.size + 1 by omega)
    have q_w_F10 : Hid (w.heap.size ≤ w.heap.size + 1) := Lib.hid (by omega)
    replace F5 := F5.allocd (.cells #[.bool false, .string { data := #[] }, .int .i64 0, .bool false, .string { data := #[] }, .int .i64 0, .int .i64 0, .int .i64 0, .int .i64 0] 29)
    have F10 := Blk.put ((w).alloc (.cells #[.bool gn, .string gS, .int .i64 ge, .bool gm, .string gT, .int .i64 gf, .int .i64 e, .int .i64 a, .int .i64 d] 29)) #[.bool false, .string { data := #[] }, .int .i64 0, .bool false, .string { data := #[] }, .int .i64 0, .int .i64 0, .int .i64 0, .int .i64 0] 29
    rw [show ((w).alloc (.cells #[.bool gn, .string gS, .int .i64 ge, .bool gm, .string gT, .int .i64 gf, .int .i64 e, .int .i64 a, .int .i64 d] 29)).heap.size = w.heap.size + 1 by simp] at F10
    replace B0 := B0.alloc B0.size (.cells #[.bool false, .string { data := #[] }, .int .i64 0, .bool false, .string { data := #[] }, .int .i64 0, .int .i64 0, .int .i64 0, .int .i64 0] 29)
    obtain ⟨xF50_0, xF50_1, xF50_2, xF50_3, xF50_4, xF50_5, xF50_6, xF50_7, xF50_8⟩ := F5.ce9
    go_wp2_with fail
    (with_reducible refine (h0 _).mono ?_)
    rintro r w1 ⟨rfl, hb1⟩
    clear xF50_0 xF50_1 xF50_2 xF50_3 xF50_4 xF50_5 xF50_6 xF50_7 xF50_8
    replace F5 := F5.keep hb1
    replace F10 := F10.keep hb1
    replace B0 := B0.trans (hb1.mono B0.size)
    clear hb1
    obtain ⟨xF51_0, xF51_1, xF51_2, xF51_3, xF51_4, xF51_5, xF51_6, xF51_7, xF51_8⟩ := F5.ce9
    obtain ⟨xF101_0, xF101_1, xF101_2, xF101_3, xF101_4, xF101_5, xF101_6, xF101_7, xF101_8⟩ := F10.ce9
    obtain ⟨xF101_0f, xF101_1f, xF101_2f, xF101_3f, xF101_4f, xF101_5f, xF101_6f, xF101_7f, xF101_8f⟩ := F10.fr9
    replace F5 := F5.far9 (Nat.ne_of_lt q_F5_F10.out) (.bool false) (.string { data := #[] }) (.int .i64 0) (.bool false) (.string { data := #[] }) (.int .i64 0) (.int .i64 0) (.int .i64 0) (.int .i64 0)
    replace F10 := F10.put9 (.bool false) (.string { data := #[] }) (.int .i64 0) (.bool false) (.string { data := #[] }) (.int .i64 0) (.int .i64 0) (.int .i64 0) (.int .i64 0)
    replace B0 := below_put9 B0 q_w_F10.out (.bool false) (.string { data := #[] }) (.int .i64 0) (.bool false) (.string { data := #[] }) (.int .i64 0) (.int .i64 0) (.int .i64 0) (.int .i64 0)
    obtain ⟨xF102_0, xF102_1, xF102_2, xF102_3, xF102_4, xF102_5, xF102_6, xF102_7, xF102_8⟩ := F10.ce9
    go_wp2
    exact bodyPost_ret (v := .tuple #[.agg #[.bool false, .string { data := #[] }, .int .i64 0, .bool false, .string { data := #[] }, .int .i64 0, .int .i64 0, .int .i64 0, .int .i64 0], .int .i64 241]) (by simp [results, Tryd.results19, go_sem, xF102_0, xF102_1, xF102_2, xF102_3, xF102_4, xF102_5, xF102_6, xF102_7, xF102_8]) rfl ⟨rfl, B0⟩
  · go_enter Tryd.func19, Tryd.ntmps19
    have B0 := Below.refl w.heap.size w
    have F5 := Blk.put (w) #[.bool gn, .string gS, .int .i64 ge, .bool gm, .string gT, .int .i64 gf, .int .i64 e, .int .i64 a, .int .i64 d] 29
    replace B0 := B0.alloc B0.size (.cells #[.bool gn, .string gS, .int .i64 ge, .bool gm, .string gT, .int .i64 gf, .int .i64 e, .int .i64 a, .int .i64 d] 29)
    have q_F5_F10 := Lib.hid (show w.heap.size < w.heap.size + 1 by omega)
    have q_w_F10 : Hid (w.heap.size ≤ w.heap.size + 1) := Lib.hid (by omega)
    replace F5 := F5.allocd (.cells #[.bool false, .string { data := #[] }, .int .i64 0, .bool false, .string { data := #[] }, .int .i64 0, .int .i64 0, .int .i64 0, .int .i64 0] 29)
    have F10 := Blk.put ((w).alloc (.cells #[.bool gn, .string gS, .int .i64 ge, .bool gm, .string gT, .int .i64 gf, .int .i64 e, .int .i64 a, .int .i64 d] 29)) #[.bool false, .string { data := #[] }, .int .i64 0, .bool false, .string { data := #[] }, .int .i64 0, .int .i64 0, .int .i64 0, .int .i64 0] 29
    rw [show ((w).alloc (.cells #[.bool gn, .string gS, .int .i64 ge, .bool gm, .string gT, .int .i64 gf, .int .i64 e, .int .i64 a, .int .i64 d] 29)).heap.size = w.heap.size + 1 by simp] at F10
    replace B0 := B0.alloc B0.size (.cells #[.bool false, .string { data := #[] }, .int .i64 0, .bool false, .string { data := #[] }, .int .i64 0, .int .i64 0, .int .i64 0, .int .i64 0] 29)
    obtain ⟨xF50_0, xF50_1, xF50_2, xF50_3, xF50_4, xF50_5, xF50_6, xF50_7, xF50_8⟩ := F5.ce9
    go_wp2_with fail
    (with_reducible refine (h0 _).mono ?_)
    rintro r w1 ⟨rfl, hb1⟩
    clear xF50_0 xF50_1 xF50_2 xF50_3 xF50_4 xF50_5 xF50_6 xF50_7 xF50_8
    replace F5 := F5.keep hb1
    replace F10 := F10.keep hb1
    replace B0 := B0.trans (hb1.mono B0.size)
    clear hb1
    obtain ⟨xF51_0, xF51_1, xF51_2, xF51_3, xF51_4, xF51_5, xF51_6, xF51_7, xF51_8⟩ := F5.ce9
    obtain ⟨xF101_0, xF101_1, xF101_2, xF101_3, xF101_4, xF101_5, xF101_6, xF101_7, xF101_8⟩ := F10.ce9
    obtain ⟨xF101_0f, xF101_1f, xF101_2f, xF101_3f, xF101_4f, xF101_5f, xF101_6f, xF101_7f, xF101_8f⟩ := F10.fr9
    replace F5 := F5.far9 (Nat.ne_of_lt q_F5_F10.out) (.bool false) (.string { data := #[] }) (.int .i64 0) (.bool false) (.string { data := #[] }) (.int .i64 0) (.int .i64 0) (.int .i64 0) (.int .i64 0)
    replace F10 := F10.put9 (.bool false) (.string { data := #[] }) (.int .i64 0) (.bool false) (.string { data := #[] }) (.int .i64 0) (.int .i64 0) (.int .i64 0) (.int .i64 0)
    replace B0 := below_put9 B0 q_w_F10.out (.bool false) (.string { data := #[] }) (.int .i64 0) (.bool false) (.string { data := #[] }) (.int .i64 0) (.int .i64 0) (.int .i64 0) (.int .i64 0)
    obtain ⟨xF102_0, xF102_1, xF102_2, xF102_3, xF102_4, xF102_5, xF102_6, xF102_7, xF102_8⟩ := F10.ce9
    go_wp2
    exact bodyPost_ret (v := .tuple #[.agg #[.bool false, .string { data := #[] }, .int .i64 0, .bool false, .string { data := #[] }, .int .i64 0, .int .i64 0, .int .i64 0, .int .i64 0], .int .i64 241]) (by simp [results, Tryd.results19, go_sem, xF102_0, xF102_1, xF102_2, xF102_3, xF102_4, xF102_5, xF102_6, xF102_7, xF102_8]) rfl ⟨rfl, B0⟩

set_option maxRecDepth 10000 in
set_option maxHeartbeats 4000000 in
theorem vcrop_bad (g : GR) (e : Int) (a : Int) (d : Int) (c : Int) (r : Int) (x : Int) (y : Int) (w : World) (ok_g : g.fit) (h : winB g e a d = false) :
    Calls Tryd.prog 19 #[.agg #[.bool g.n, .string g.s, .int .i64 g.e, .bool g.m, .string g.t, .int .i64 g.f, .int .i64 e, .int .i64 a, .int .i64 d], .int .i64 c, .int .i64 r, .int .i64 x, .int .i64 y] w fun r w' => r = .returned (.tuple #[.agg #[.bool false, .string { data := #[] }, .int .i64 0, .bool false, .string { data := #[] }, .int .i64 0, .int .i64 0, .int .i64 0, .int .i64 0], .int .i64 240]) ∧ Below w.heap.size w w' := by
  have h0 := fun W => vcheck_any g e a d W ok_g
  rw [if_neg (by rw [h]; decide)] at h0
  clear ok_g
  obtain ⟨gn, gS, ge, gm, gT, gf⟩ := g
  dsimp only at *
  clear h
  go_enter Tryd.func19, Tryd.ntmps19
  have B0 := Below.refl w.heap.size w
  have F5 := Blk.put (w) #[.bool gn, .string gS, .int .i64 ge, .bool gm, .string gT, .int .i64 gf, .int .i64 e, .int .i64 a, .int .i64 d] 29
  replace B0 := B0.alloc B0.size (.cells #[.bool gn, .string gS, .int .i64 ge, .bool gm, .string gT, .int .i64 gf, .int .i64 e, .int .i64 a, .int .i64 d] 29)
  have q_w_F10 : Hid (w.heap.size ≤ w.heap.size + 1) := Lib.hid (by omega)
  replace F5 := F5.allocd (.cells #[.bool false, .string { data := #[] }, .int .i64 0, .bool false, .string { data := #[] }, .int .i64 0, .int .i64 0, .int .i64 0, .int .i64 0] 29)
  have F10 := Blk.put ((w).alloc (.cells #[.bool gn, .string gS, .int .i64 ge, .bool gm, .string gT, .int .i64 gf, .int .i64 e, .int .i64 a, .int .i64 d] 29)) #[.bool false, .string { data := #[] }, .int .i64 0, .bool false, .string { data := #[] }, .int .i64 0, .int .i64 0, .int .i64 0, .int .i64 0] 29
  rw [show ((w).alloc (.cells #[.bool gn, .string gS, .int .i64 ge, .bool gm, .string gT, .int .i64 gf, .int .i64 e, .int .i64 a, .int .i64 d] 29)).heap.size = w.heap.size + 1 by simp] at F10
  replace B0 := B0.alloc B0.size (.cells #[.bool false, .string { data := #[] }, .int .i64 0, .bool false, .string { data := #[] }, .int .i64 0, .int .i64 0, .int .i64 0, .int .i64 0] 29)
  obtain ⟨xF50_0, xF50_1, xF50_2, xF50_3, xF50_4, xF50_5, xF50_6, xF50_7, xF50_8⟩ := F5.ce9
  go_wp2_with fail
  (with_reducible refine (h0 _).mono ?_)
  rintro r w1 ⟨rfl, hb1⟩
  clear xF50_0 xF50_1 xF50_2 xF50_3 xF50_4 xF50_5 xF50_6 xF50_7 xF50_8
  replace F5 := F5.keep hb1
  replace F10 := F10.keep hb1
  replace B0 := B0.trans (hb1.mono B0.size)
  clear hb1
  obtain ⟨xF101_0, xF101_1, xF101_2, xF101_3, xF101_4, xF101_5, xF101_6, xF101_7, xF101_8⟩ := F10.ce9
  obtain ⟨xF101_0f, xF101_1f, xF101_2f, xF101_3f, xF101_4f, xF101_5f, xF101_6f, xF101_7f, xF101_8f⟩ := F10.fr9
  clear F5
  replace F10 := F10.put9 (.bool false) (.string { data := #[] }) (.int .i64 0) (.bool false) (.string { data := #[] }) (.int .i64 0) (.int .i64 0) (.int .i64 0) (.int .i64 0)
  replace B0 := below_put9 B0 q_w_F10.out (.bool false) (.string { data := #[] }) (.int .i64 0) (.bool false) (.string { data := #[] }) (.int .i64 0) (.int .i64 0) (.int .i64 0) (.int .i64 0)
  obtain ⟨xF102_0, xF102_1, xF102_2, xF102_3, xF102_4, xF102_5, xF102_6, xF102_7, xF102_8⟩ := F10.ce9
  go_wp2
  exact bodyPost_ret (v := .tuple #[.agg #[.bool false, .string { data := #[] }, .int .i64 0, .bool false, .string { data := #[] }, .int .i64 0, .int .i64 0, .int .i64 0, .int .i64 0], .int .i64 240]) (by simp [results, Tryd.results19, go_sem, xF102_0, xF102_1, xF102_2, xF102_3, xF102_4, xF102_5, xF102_6, xF102_7, xF102_8]) rfl ⟨rfl, B0⟩

end Go.Proofs.YtppebjnmollojaaDoor
