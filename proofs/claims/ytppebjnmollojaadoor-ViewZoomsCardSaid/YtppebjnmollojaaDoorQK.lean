/- filigreelaw24.ViewZooms at every input. -/
import Derived.Test.YtppebjnmollojaaDoorQH
import Derived.Test.YtppebjnmollojaaDoorQI
import Derived.Test.YtppebjnmollojaaDoorQJ
namespace Go.Proofs.YtppebjnmollojaaDoor
open Go Go.RowKit Go.PlainAid Fil

theorem GR.ok_of' (g : GR) (h : g.may = true) : ∃ G : GY, G.ok ∧ g = G.raw := by
  unfold GR.may at h
  rw [Bool.and_eq_true] at h
  obtain ⟨x, hx, kx⟩ := ok_of_may h.1
  obtain ⟨y, hy, ky⟩ := ok_of_may h.2
  refine ⟨⟨⟨g.n, x, g.e⟩, ⟨g.m, y, g.f⟩⟩, ⟨kx, ky⟩, ?_⟩
  obtain ⟨n, s, e, m, t, f⟩ := g
  dsimp only at hx hy
  subst hx; subst hy
  rfl
/-- the cells of a window zoomed once are the parts of its cells -/
theorem zoom_part {d : DY} (hd : d.ok) {c a i e : Int} (hc : (2 * c - a).natAbs < 1000000) (hi : i.natAbs < 1000000) (e1 : -4096 ≤ e) (e2 : e ≤ 4096) (h : (vM d (2 * c - a) (e - 1)).2 = 0) : vM d (2 * (2 * c + i) - a * 2) (e - 1 - 1) = vM (vM d (2 * c - a) (e - 1)).1 i (e - 1) := by
  rw [vM_vM hd (by omega) (by omega) (by omega) (by omega) h, show 2 * (2 * c + i) - a * 2 = 2 * (2 * c - a + i) by omega, vM_two (by omega)]
theorem zoom_low {d : DY} (hd : d.ok) {r n j e : Int} (hr : (n - 2 * r - 2).natAbs < 1000000) (hj : j.natAbs < 1000000) (e1 : -4096 ≤ e) (e2 : e ≤ 4096) (h : (vM d (n - 2 * r - 2) (e - 1)).2 = 0) : vM d (n * 2 - 2 * (2 * r + 1 - j) - 2) (e - 1 - 1) = vM (vM d (n - 2 * r - 2) (e - 1)).1 j (e - 1) := by
  rw [vM_vM hd (by omega) (by omega) (by omega) (by omega) h, show n * 2 - 2 * (2 * r + 1 - j) - 2 = 2 * (n - 2 * r - 2 + j) by omega, vM_two (by omega)]
/-- the cells of a crop are the window's own -/
theorem crop_col {d : DY} (hd : d.ok) {c x a o e : Int} (h1 : (2 * c + x - a).natAbs < 1000000) (h2 : (2 * o - x).natAbs < 1000000) (e1 : -4096 ≤ e) (e2 : e ≤ 4096) (h : (vM d (2 * c + x - a) (e - 1)).2 = 0) : vM (vM d (2 * c + x - a) (e - 1)).1 (2 * o - x) (e - 1) = vM d (2 * (c + o) - a) (e - 1) := by
  rw [vM_vM hd (by omega) (by omega) (by omega) (by omega) h]; congr 1; omega
theorem crop_row {d : DY} (hd : d.ok) {r y n k e : Int} (h1 : (n - 2 * r - y).natAbs < 1000000) (h2 : (y - 2 * k - 2).natAbs < 1000000) (e1 : -4096 ≤ e) (e2 : e ≤ 4096) (h : (vM d (n - 2 * r - y) (e - 1)).2 = 0) : vM (vM d (n - 2 * r - y) (e - 1)).1 (y - 2 * k - 2) (e - 1) = vM d (n - 2 * (r + k) - 2) (e - 1) := by
  rw [vM_vM hd (by omega) (by omega) (by omega) (by omega) h]; congr 1; omega

theorem viewZooms_any (gn : Bool) (gs : ByteArray) (ge : Int) (gm : Bool) (gt : ByteArray) (gf e a d c r x y o k : Int) (w : World) (hT : Tab w)
    (fg : gs.size ≤ 9223372036854775807) (fg' : gt.size ≤ 9223372036854775807) :
    Calls Tryd.prog 6 #[.agg #[.bool gn, .string gs, .int .i64 ge, .bool gm, .string gt, .int .i64 gf, .int .i64 e, .int .i64 a, .int .i64 d], .int .i64 c, .int .i64 r, .int .i64 x, .int .i64 y, .int .i64 o, .int .i64 k] w fun r w' => r = .returned (.bool true) ∧ Below w.heap.size w w' := by
  cases hW : winB ⟨gn, gs, ge, gm, gt, gf⟩ e a d
  · exact zooms_main false c r x y o k e a d 0 240 0 0 0 240 _ _ _ _ _ _ _ _ _ _ _ _ _ _ _ _ _ _ w (fun W _ => vcell_bad ⟨gn, gs, ge, gm, gt, gf⟩ e a d c r W ⟨fg, fg'⟩ hW) (fun W _ => vzoom_bad ⟨gn, gs, ge, gm, gt, gf⟩ e a d W ⟨fg, fg'⟩ hW) (.inl ⟨rfl, by decide⟩) (.inl ⟨240, by decide, fun W _ => vcrop_bad ⟨gn, gs, ge, gm, gt, gf⟩ e a d c r x y W ⟨fg, fg'⟩ hW⟩) hT
  unfold winB at hW
  rw [Bool.and_eq_true, Bool.and_eq_true, Bool.and_eq_true, sideB_iff, countB_iff, countB_iff] at hW
  obtain ⟨hmay, ⟨e1, e2⟩, ⟨a1, a2⟩, d1, d2⟩ := hW
  obtain ⟨G, hG, hGe⟩ := GR.ok_of' _ hmay
  obtain ⟨rfl, rfl, rfl, rfl, rfl, rfl⟩ : gn = G.re.n ∧ gs = bstr G.re.x ∧ ge = G.re.e ∧ gm = G.im.n ∧ gt = bstr G.im.x ∧ gf = G.im.e := by
    have := congrArg GR.n hGe; have := congrArg GR.s hGe; have := congrArg GR.e hGe; have := congrArg GR.m hGe; have := congrArg GR.t hGe; have := congrArg GR.f hGe
    exact ⟨by assumption, by assumption, by assumption, by assumption, by assumption, by assumption⟩
  clear hGe hmay fg fg'
  -- the front: the cell, the window zoomed, the parts
  have front : ∃ (b1 : Bool) (lb bb : DY) (sE er : Int) (gp gq : DY) (E A D ez : Int), (∀ W : World, Tab W → Calls Tryd.prog 9 #[.agg #[.bool G.re.n, .string (bstr G.re.x), .int .i64 G.re.e, .bool G.im.n, .string (bstr G.im.x), .int .i64 G.im.e, .int .i64 e, .int .i64 a, .int .i64 d], .int .i64 c, .int .i64 r] W fun r w' => r = .returned (.tuple #[.agg #[.bool lb.n, .string (bstr lb.x), .int .i64 lb.e, .bool bb.n, .string (bstr bb.x), .int .i64 bb.e, .int .i64 sE], .int .i64 er]) ∧ Below W.heap.size W w') ∧ (∀ W : World, Tab W → Calls Tryd.prog 18 #[.agg #[.bool G.re.n, .string (bstr G.re.x), .int .i64 G.re.e, .bool G.im.n, .string (bstr G.im.x), .int .i64 G.im.e, .int .i64 e, .int .i64 a, .int .i64 d], .int .i64 1] W fun r w' => r = .returned (.tuple #[.agg #[.bool gp.n, .string (bstr gp.x), .int .i64 gp.e, .bool gq.n, .string (bstr gq.x), .int .i64 gq.e, .int .i64 E, .int .i64 A, .int .i64 D], .int .i64 ez]) ∧ Below W.heap.size W w') ∧ ((b1 = false ∧ er ≠ 0) ∨ (b1 = false ∧ er = 0 ∧ ez ≠ 0) ∨ (b1 = true ∧ er = 0 ∧ ez = 0 ∧ (0 ≤ c ∧ c < 65536 ∧ 0 ≤ r ∧ r < 65536) ∧ ((∃ ep : Int, ep ≠ 0 ∧ (∀ W : World, Tab W → Calls Tryd.prog 14 #[.agg #[.bool lb.n, .string (bstr lb.x), .int .i64 lb.e, .bool bb.n, .string (bstr bb.x), .int .i64 bb.e, .int .i64 sE]] W fun r w' => r = .returned (.tuple #[.agg #[.bool false, .string { data := #[] }, .int .i64 0, .bool false, .string { data := #[] }, .int .i64 0, .int .i64 0, .bool false, .string { data := #[] }, .int .i64 0, .bool false, .string { data := #[] }, .int .i64 0, .int .i64 0, .bool false, .string { data := #[] }, .int .i64 0, .bool false, .string { data := #[] }, .int .i64 0, .int .i64 0, .bool false, .string { data := #[] }, .int .i64 0, .bool false, .string { data := #[] }, .int .i64 0, .int .i64 0], .int .i64 ep]) ∧ Below W.heap.size W w')) ∨ (∃ (m n : DY) (pE : Int), (∀ W : World, Tab W → Calls Tryd.prog 14 #[.agg #[.bool lb.n, .string (bstr lb.x), .int .i64 lb.e, .bool bb.n, .string (bstr bb.x), .int .i64 bb.e, .int .i64 sE]] W fun r w' => r = .returned (.tuple #[.agg #[.bool lb.n, .string (bstr lb.x), .int .i64 lb.e, .bool bb.n, .string (bstr bb.x), .int .i64 bb.e, .int .i64 pE, .bool m.n, .string (bstr m.x), .int .i64 m.e, .bool bb.n, .string (bstr bb.x), .int .i64 bb.e, .int .i64 pE, .bool lb.n, .string (bstr lb.x), .int .i64 lb.e, .bool n.n, .string (bstr n.x), .int .i64 n.e, .int .i64 pE, .bool m.n, .string (bstr m.x), .int .i64 m.e, .bool n.n, .string (bstr n.x), .int .i64 n.e, .int .i64 pE], .int .i64 0]) ∧ Below W.heap.size W w') ∧ (∀ W : World, Tab W → Calls Tryd.prog 9 #[.agg #[.bool gp.n, .string (bstr gp.x), .int .i64 gp.e, .bool gq.n, .string (bstr gq.x), .int .i64 gq.e, .int .i64 E, .int .i64 A, .int .i64 D], .int .i64 (2 * c), .int .i64 (2 * r + 1)] W fun r w' => r = .returned (.tuple #[.agg #[.bool lb.n, .string (bstr lb.x), .int .i64 lb.e, .bool bb.n, .string (bstr bb.x), .int .i64 bb.e, .int .i64 pE], .int .i64 0]) ∧ Below W.heap.size W w') ∧ (∀ W : World, Tab W → Calls Tryd.prog 9 #[.agg #[.bool gp.n, .string (bstr gp.x), .int .i64 gp.e, .bool gq.n, .string (bstr gq.x), .int .i64 gq.e, .int .i64 E, .int .i64 A, .int .i64 D], .int .i64 (2 * c + 1), .int .i64 (2 * r + 1)] W fun r w' => r = .returned (.tuple #[.agg #[.bool m.n, .string (bstr m.x), .int .i64 m.e, .bool bb.n, .string (bstr bb.x), .int .i64 bb.e, .int .i64 pE], .int .i64 0]) ∧ Below W.heap.size W w') ∧ (∀ W : World, Tab W → Calls Tryd.prog 9 #[.agg #[.bool gp.n, .string (bstr gp.x), .int .i64 gp.e, .bool gq.n, .string (bstr gq.x), .int .i64 gq.e, .int .i64 E, .int .i64 A, .int .i64 D], .int .i64 (2 * c), .int .i64 (2 * r)] W fun r w' => r = .returned (.tuple #[.agg #[.bool lb.n, .string (bstr lb.x), .int .i64 lb.e, .bool n.n, .string (bstr n.x), .int .i64 n.e, .int .i64 pE], .int .i64 0]) ∧ Below W.heap.size W w') ∧ (∀ W : World, Tab W → Calls Tryd.prog 9 #[.agg #[.bool gp.n, .string (bstr gp.x), .int .i64 gp.e, .bool gq.n, .string (bstr gq.x), .int .i64 gq.e, .int .i64 E, .int .i64 A, .int .i64 D], .int .i64 (2 * c + 1), .int .i64 (2 * r)] W fun r w' => r = .returned (.tuple #[.agg #[.bool m.n, .string (bstr m.x), .int .i64 m.e, .bool n.n, .string (bstr n.x), .int .i64 n.e, .int .i64 pE], .int .i64 0]) ∧ Below W.heap.size W w'))))) := by
    have hz : ∃ (gp gq : DY) (E A D ez : Int), (∀ W : World, Tab W → Calls Tryd.prog 18 #[.agg #[.bool G.re.n, .string (bstr G.re.x), .int .i64 G.re.e, .bool G.im.n, .string (bstr G.im.x), .int .i64 G.im.e, .int .i64 e, .int .i64 a, .int .i64 d], .int .i64 1] W fun r w' => r = .returned (.tuple #[.agg #[.bool gp.n, .string (bstr gp.x), .int .i64 gp.e, .bool gq.n, .string (bstr gq.x), .int .i64 gq.e, .int .i64 E, .int .i64 A, .int .i64 D], .int .i64 ez]) ∧ Below W.heap.size W w') ∧ (ez = 0 → gp = G.re ∧ gq = G.im ∧ E = e - 1 ∧ A = a * 2 ∧ D = d * 2 ∧ a ≤ 32768 ∧ d ≤ 32768 ∧ -4096 < e) := by
      by_cases hs : a ≤ 32768 ∧ d ≤ 32768 ∧ -4096 < e
      · exact ⟨G.re, G.im, e - 1, a * 2, d * 2, 0, fun W _ => vzoom_1 G e a d _ _ _ rfl rfl rfl W hG e1 e2 a1 a2 d1 d2 hs.1 hs.2.1 hs.2.2, fun _ => ⟨rfl, rfl, rfl, rfl, rfl, hs⟩⟩
      · refine ⟨DY.zero, DY.zero, 0, 0, 0, 240, fun W _ => ?_, fun h => absurd h (by decide)⟩
        rw [show bstr DY.zero.x = { data := #[] } from bstr_zero]
        exact vzoom_small G e a d W hG e1 e2 a1 a2 d1 d2 (by omega)
    obtain ⟨gp, gq, E, A, D, ez, hzoom, fz⟩ := hz
    by_cases hin : 0 ≤ c ∧ c < a ∧ 0 ≤ r ∧ r < d
    rotate_left
    · refine ⟨false, DY.zero, DY.zero, 0, 241, gp, gq, E, A, D, ez, fun W _ => ?_, hzoom, .inl ⟨rfl, by decide⟩⟩
      rw [show bstr DY.zero.x = { data := #[] } from bstr_zero]
      exact vcell_out G e a d c r W hG e1 e2 a1 a2 d1 d2 (by omega)
    obtain ⟨c0, c1, r0, r1⟩ := hin
    by_cases hPQ : (vM G.re (2 * c - a) (e - 1)).2 = 0 ∧ (vM G.im (d - 2 * r - 2) (e - 1)).2 = 0
    rotate_left
    · refine ⟨false, DY.zero, DY.zero, 0, 4, gp, gq, E, A, D, ez, fun W hW => ?_, hzoom, .inl ⟨rfl, by decide⟩⟩
      have h := vcell G e a d c r W hG e1 e2 a1 a2 d1 d2 c0 c1 r0 r1 hW
      rw [sB_no hPQ] at h
      exact h
    have hcell := fun W hW => vcell G e a d c r W hG e1 e2 a1 a2 d1 d2 c0 c1 r0 r1 hW
    rw [sB_yes hPQ.1 hPQ.2] at hcell
    have okl := vM_ok G.re (2 * c - a) (e - 1)
    have okb := vM_ok G.im (d - 2 * r - 2) (e - 1)
    by_cases hz0 : ez = 0
    rotate_left
    · exact ⟨false, _, _, e, 0, gp, gq, E, A, D, ez, hcell, hzoom, .inr (.inl ⟨rfl, rfl, hz0⟩)⟩
    obtain ⟨rfl, rfl, rfl, rfl, rfl, q1, q2, q3⟩ := fz hz0
    subst hz0
    refine ⟨true, _, _, e, 0, G.re, G.im, e - 1, a * 2, d * 2, 0, hcell, hzoom, .inr (.inr ⟨rfl, rfl, rfl, ⟨c0, by omega, r0, by omega⟩, ?_⟩)⟩
    have pp := fun i hi => zoom_part hG.1 (c := c) (a := a) (i := i) (e := e) (by omega) hi e1 e2 hPQ.1
    have pl := fun j hj => zoom_low hG.2 (r := r) (n := d) (j := j) (e := e) (by omega) hj e1 e2 hPQ.2
    generalize (vM G.re (2 * c - a) (e - 1)).1 = l at *
    generalize (vM G.im (d - 2 * r - 2) (e - 1)).1 = b at *
    by_cases hp : (vM l 1 (e - 1)).2 = 0
    rotate_left
    · exact .inl ⟨4, by decide, fun W hW => vparts_1 l b e _ rfl W okl okb q3 e2 hp hW⟩
    by_cases hq : (vM b 1 (e - 1)).2 = 0
    rotate_left
    · exact .inl ⟨4, by decide, fun W hW => vparts_2 l b e _ _ rfl rfl W okl okb q3 e2 hp hq hW⟩
    refine .inr ⟨(vM l 1 (e - 1)).1, (vM b 1 (e - 1)).1, e - 1, fun W hW => vparts_0 l b e _ _ _ rfl rfl rfl W okl okb q3 e2 hp hq hW, fun W hW => ?_, fun W hW => ?_, fun W hW => ?_, fun W hW => ?_⟩
    · have h := vcell G (e - 1) (a * 2) (d * 2) (2 * c + 0) (2 * r + 1 - 0) W hG (by omega) (by omega) (by omega) (by omega) (by omega) (by omega) (by omega) (by omega) (by omega) (by omega) hW
      rw [pp 0 (by omega), pl 0 (by omega), vM_zero okl, vM_zero okb, sB_yes rfl rfl, Int.add_zero, Int.sub_zero] at h
      exact h
    · have h := vcell G (e - 1) (a * 2) (d * 2) (2 * c + 1) (2 * r + 1 - 0) W hG (by omega) (by omega) (by omega) (by omega) (by omega) (by omega) (by omega) (by omega) (by omega) (by omega) hW
      rw [pp 1 (by omega), pl 0 (by omega), vM_zero okb, sB_yes hp rfl, Int.sub_zero] at h
      exact h
    · have h := vcell G (e - 1) (a * 2) (d * 2) (2 * c + 0) (2 * r + 1 - 1) W hG (by omega) (by omega) (by omega) (by omega) (by omega) (by omega) (by omega) (by omega) (by omega) (by omega) hW
      rw [pp 0 (by omega), pl 1 (by omega), vM_zero okl, sB_yes rfl hq, Int.add_zero, show 2 * r + 1 - 1 = 2 * r by omega] at h
      exact h
    · have h := vcell G (e - 1) (a * 2) (d * 2) (2 * c + 1) (2 * r + 1 - 1) W hG (by omega) (by omega) (by omega) (by omega) (by omega) (by omega) (by omega) (by omega) (by omega) (by omega) hW
      rw [pp 1 (by omega), pl 1 (by omega), sB_yes hp hq, show 2 * r + 1 - 1 = 2 * r by omega] at h
      exact h
  -- the tail: the crop
  have tail : (∃ ec : Int, ec ≠ 0 ∧ (∀ W : World, Tab W → Calls Tryd.prog 19 #[.agg #[.bool G.re.n, .string (bstr G.re.x), .int .i64 G.re.e, .bool G.im.n, .string (bstr G.im.x), .int .i64 G.im.e, .int .i64 e, .int .i64 a, .int .i64 d], .int .i64 c, .int .i64 r, .int .i64 x, .int .i64 y] W fun r w' => r = .returned (.tuple #[.agg #[.bool false, .string { data := #[] }, .int .i64 0, .bool false, .string { data := #[] }, .int .i64 0, .int .i64 0, .int .i64 0, .int .i64 0], .int .i64 ec]) ∧ Below W.heap.size W w')) ∨ (∃ p q : DY, (∀ W : World, Tab W → Calls Tryd.prog 19 #[.agg #[.bool G.re.n, .string (bstr G.re.x), .int .i64 G.re.e, .bool G.im.n, .string (bstr G.im.x), .int .i64 G.im.e, .int .i64 e, .int .i64 a, .int .i64 d], .int .i64 c, .int .i64 r, .int .i64 x, .int .i64 y] W fun r w' => r = .returned (.tuple #[.agg #[.bool p.n, .string (bstr p.x), .int .i64 p.e, .bool q.n, .string (bstr q.x), .int .i64 q.e, .int .i64 e, .int .i64 x, .int .i64 y], .int .i64 0]) ∧ Below W.heap.size W w') ∧ ((o < 0 ∨ (0 ≤ o ∧ k < 0) ∨ (0 ≤ o ∧ 0 ≤ k ∧ x ≤ o) ∨ (0 ≤ o ∧ 0 ≤ k ∧ o < x ∧ y ≤ k)) ∨ ((0 ≤ o ∧ 0 ≤ k ∧ o < x ∧ k < y) ∧ (0 ≤ c ∧ c + o < 65536 ∧ 0 ≤ r ∧ r + k < 65536) ∧ ∃ (u v : DY) (uE ex : Int), (∀ W : World, Tab W → Calls Tryd.prog 9 #[.agg #[.bool p.n, .string (bstr p.x), .int .i64 p.e, .bool q.n, .string (bstr q.x), .int .i64 q.e, .int .i64 e, .int .i64 x, .int .i64 y], .int .i64 o, .int .i64 k] W fun r w' => r = .returned (.tuple #[.agg #[.bool u.n, .string (bstr u.x), .int .i64 u.e, .bool v.n, .string (bstr v.x), .int .i64 v.e, .int .i64 uE], .int .i64 ex]) ∧ Below W.heap.size W w') ∧ (∀ W : World, Tab W → Calls Tryd.prog 9 #[.agg #[.bool G.re.n, .string (bstr G.re.x), .int .i64 G.re.e, .bool G.im.n, .string (bstr G.im.x), .int .i64 G.im.e, .int .i64 e, .int .i64 a, .int .i64 d], .int .i64 (c + o), .int .i64 (r + k)] W fun r w' => r = .returned (.tuple #[.agg #[.bool u.n, .string (bstr u.x), .int .i64 u.e, .bool v.n, .string (bstr v.x), .int .i64 v.e, .int .i64 uE], .int .i64 ex]) ∧ Below W.heap.size W w')))) := by
    by_cases hb : 0 ≤ c ∧ 0 ≤ r ∧ 1 ≤ x ∧ 1 ≤ y ∧ x ≤ a ∧ y ≤ d ∧ c ≤ a - x ∧ r ≤ d - y
    rotate_left
    · exact .inl ⟨241, by decide, fun W _ => vcrop_out G e a d c r x y W hG e1 e2 a1 a2 d1 d2 (by omega)⟩
    obtain ⟨c1, r1, x1, y1, x2, y2, c2, r2⟩ := hb
    by_cases hp : (vM G.re (2 * c + x - a) (e - 1)).2 = 0
    rotate_left
    · exact .inl ⟨_, hp, fun W hW => vcrop_1 G e a d c r x y _ rfl W hG e1 e2 a1 a2 d1 d2 c1 r1 x1 y1 x2 y2 c2 r2 hp hW⟩
    by_cases hq : (vM G.im (d - 2 * r - y) (e - 1)).2 = 0
    rotate_left
    · exact .inl ⟨_, hq, fun W hW => vcrop_2 G e a d c r x y _ _ rfl rfl W hG e1 e2 a1 a2 d1 d2 c1 r1 x1 y1 x2 y2 c2 r2 hp hq hW⟩
    refine .inr ⟨(vM G.re (2 * c + x - a) (e - 1)).1, (vM G.im (d - 2 * r - y) (e - 1)).1, fun W hW => vcrop_3 G e a d c r x y _ _ rfl rfl W hG e1 e2 a1 a2 d1 d2 c1 r1 x1 y1 x2 y2 c2 r2 hp hq hW, ?_⟩
    by_cases ho : 0 ≤ o ∧ 0 ≤ k ∧ o < x ∧ k < y
    rotate_left
    · exact .inl (by omega)
    obtain ⟨o0, k0, o1, k1⟩ := ho
    have t1 := crop_col hG.1 (c := c) (x := x) (a := a) (o := o) (e := e) (by omega) (by omega) e1 e2 hp
    have t2 := crop_row hG.2 (r := r) (y := y) (n := d) (k := k) (e := e) (by omega) (by omega) e1 e2 hq
    have okp := vM_ok G.re (2 * c + x - a) (e - 1)
    have okq := vM_ok G.im (d - 2 * r - y) (e - 1)
    refine .inr ⟨⟨o0, k0, o1, k1⟩, ⟨c1, by omega, r1, by omega⟩, (sB (vM G.re (2 * (c + o) - a) (e - 1)) (vM G.im (d - 2 * (r + k) - 2) (e - 1)) e).1.l, (sB (vM G.re (2 * (c + o) - a) (e - 1)) (vM G.im (d - 2 * (r + k) - 2) (e - 1)) e).1.b, (sB (vM G.re (2 * (c + o) - a) (e - 1)) (vM G.im (d - 2 * (r + k) - 2) (e - 1)) e).1.e, (sB (vM G.re (2 * (c + o) - a) (e - 1)) (vM G.im (d - 2 * (r + k) - 2) (e - 1)) e).2, fun W hW => ?_, fun W hW => vcell G e a d (c + o) (r + k) W hG e1 e2 a1 a2 d1 d2 (by omega) (by omega) (by omega) (by omega) hW⟩
    have h := vcell ⟨(vM G.re (2 * c + x - a) (e - 1)).1, (vM G.im (d - 2 * r - y) (e - 1)).1⟩ e x y o k W ⟨okp, okq⟩ e1 e2 (by omega) (by omega) (by omega) (by omega) o0 o1 k0 k1 hW
    rw [t1, t2] at h
    exact h
  obtain ⟨b1, lb, bb, sE, er, gp, gq, E, A, D, ez, hcell, hzoom, hz⟩ := front
  refine zooms_main b1 c r x y o k e a d sE er E A D ez _ _ _ _ _ _ _ _ _ _ _ _ _ _ _ _ _ _ w hcell hzoom ?_ ?_ hT
  · rcases hz with h | h | ⟨h1, h2, h3, h4, h5 | ⟨m, n, pE, g0, g1, g2, g3, g4⟩⟩
    · exact .inl h
    · exact .inr (.inl h)
    · exact .inr (.inr ⟨h1, h2, h3, h4, .inl h5⟩)
    · exact .inr (.inr ⟨h1, h2, h3, h4, .inr ⟨_, _, _, _, _, _, pE, g0, g1, g2, g3, g4⟩⟩)
  · rcases tail with ⟨ec, h, hc⟩ | ⟨p, q, hc, ho | ⟨hi, hb, u, v, uE, ex, k1, k2⟩⟩
    · exact .inl ⟨ec, h, hc⟩
    · exact .inr ⟨_, _, _, _, _, _, hc, .inl ho⟩
    · exact .inr ⟨_, _, _, _, _, _, hc, .inr ⟨hi, hb, _, _, _, _, _, _, uE, ex, k1, k2⟩⟩
end Go.Proofs.YtppebjnmollojaaDoor
