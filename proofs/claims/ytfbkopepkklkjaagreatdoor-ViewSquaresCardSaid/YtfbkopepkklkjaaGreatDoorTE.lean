/- filigreelaw24.ViewSquares at every input. -/
import Derived.Test.YtfbkopepkklkjaaGreatDoorTD
import Derived.Test.YtfbkopepkklkjaaGreatDoorTC
import Derived.Test.YtfbkopepkklkjaaGreatDoorT8
import Derived.Test.YtfbkopepkklkjaaGreatDoorQI
import Derived.Test.YtfbkopepkklkjaaGreatDoorQB
namespace Go.Proofs.YtfbkopepkklkjaaGreatDoor
open Go Go.RowKit Go.PlainAid Fil

theorem GR.ok_of2 (g : GR) (h : g.may = true) : ∃ G : GY, G.ok ∧ g = G.raw := by
  unfold GR.may at h
  rw [Bool.and_eq_true] at h
  obtain ⟨x, hx, kx⟩ := ok_of_may h.1
  obtain ⟨y, hy, ky⟩ := ok_of_may h.2
  refine ⟨⟨⟨g.n, x, g.e⟩, ⟨g.m, y, g.f⟩⟩, ⟨kx, ky⟩, ?_⟩
  obtain ⟨n, s, e, m, t, f⟩ := g
  dsimp only at hx hy
  subst hx; subst hy
  rfl
theorem sq_corners (l b : DY) (e : Int) (ok_l : l.ok) (ok_b : b.ok) (e1 : -4096 ≤ e) (e2 : e ≤ 4096) : ∃ (ec : Int) (c : Array Value), (c.size = 24 ∧ c.all (·.oneCell') = true) ∧ (∀ W : World, (Op.equalIn 10000 29 (.agg c) (.agg c)).run Tryz.prog W = .ok true W) ∧ (∀ W : World, Tab W → Calls Tryz.prog 5 #[.agg #[.bool l.n, .string (bstr l.x), .int .i64 l.e, .bool b.n, .string (bstr b.x), .int .i64 b.e, .int .i64 e]] W fun r w' => r = .returned (.tuple #[.agg c, .int .i64 ec]) ∧ Below W.heap.size W w') ∧ (∀ W : World, Tab W → Calls Tryz.prog 13 #[.agg #[.bool l.n, .string (bstr l.x), .int .i64 l.e, .bool b.n, .string (bstr b.x), .int .i64 b.e, .int .i64 e]] W fun r w' => r = .returned (.tuple #[.agg c, .int .i64 ec]) ∧ Below W.heap.size W w') := by
  have hl : vM l 2 (e - 1) = vM l 1 e := vM_two (n := 1) (by omega)
  have hb : vM b 2 (e - 1) = vM b 1 e := vM_two (n := 1) (by omega)
  by_cases hp : (vM l 1 e).2 = 0
  · by_cases hq : (vM b 1 e).2 = 0
    · exact ⟨0, #[.bool l.n, .string (bstr l.x), .int .i64 l.e, .bool b.n, .string (bstr b.x), .int .i64 b.e, .bool (vM l 1 e).1.n, .string (bstr (vM l 1 e).1.x), .int .i64 (vM l 1 e).1.e, .bool b.n, .string (bstr b.x), .int .i64 b.e, .bool l.n, .string (bstr l.x), .int .i64 l.e, .bool (vM b 1 e).1.n, .string (bstr (vM b 1 e).1.x), .int .i64 (vM b 1 e).1.e, .bool (vM l 1 e).1.n, .string (bstr (vM l 1 e).1.x), .int .i64 (vM l 1 e).1.e, .bool (vM b 1 e).1.n, .string (bstr (vM b 1 e).1.x), .int .i64 (vM b 1 e).1.e], ⟨rfl, by simp [Value.oneCell']⟩, fun W => eq24 _ _ _ _ _ _ _ _ _ _ _ _ _ _ _ _ _ _ _ _ _ _ _ _ W, fun W hW => vcorners_0 l b e _ _ (by rw [hl]) (by rw [hb]) W ok_l ok_b e1 e2 (by rw [hl]; exact hp) (by rw [hb]; exact hq) hW, fun W _ => rcorners_3 l b e _ _ rfl rfl W ok_l ok_b e1 e2 hp hq⟩
    · exact ⟨4, #[.bool false, .string { data := #[] }, .int .i64 0, .bool false, .string { data := #[] }, .int .i64 0, .bool false, .string { data := #[] }, .int .i64 0, .bool false, .string { data := #[] }, .int .i64 0, .bool false, .string { data := #[] }, .int .i64 0, .bool false, .string { data := #[] }, .int .i64 0, .bool false, .string { data := #[] }, .int .i64 0, .bool false, .string { data := #[] }, .int .i64 0], ⟨rfl, by simp [Value.oneCell']⟩, fun W => eq24 _ _ _ _ _ _ _ _ _ _ _ _ _ _ _ _ _ _ _ _ _ _ _ _ W, fun W hW => vcorners_2 l b e _ rfl W ok_l ok_b e1 e2 (by rw [hl]; exact hp) (by rw [hb]; exact hq) hW, fun W _ => rcorners_2 l b e _ _ rfl rfl W ok_l ok_b e1 e2 hp hq⟩
  · exact ⟨4, #[.bool false, .string { data := #[] }, .int .i64 0, .bool false, .string { data := #[] }, .int .i64 0, .bool false, .string { data := #[] }, .int .i64 0, .bool false, .string { data := #[] }, .int .i64 0, .bool false, .string { data := #[] }, .int .i64 0, .bool false, .string { data := #[] }, .int .i64 0, .bool false, .string { data := #[] }, .int .i64 0, .bool false, .string { data := #[] }, .int .i64 0], ⟨rfl, by simp [Value.oneCell']⟩, fun W => eq24 _ _ _ _ _ _ _ _ _ _ _ _ _ _ _ _ _ _ _ _ _ _ _ _ W, fun W hW => vcorners_1 l b e W ok_l ok_b e1 e2 (by rw [hl]; exact hp) hW, fun W _ => rcorners_1 l b e _ _ rfl rfl W ok_l ok_b e1 e2 hp⟩
theorem sq_parts (l b : DY) (e : Int) (ok_l : l.ok) (ok_b : b.ok) (e1 : -4096 ≤ e) (e2 : e ≤ 4096) : ∃ (ec : Int) (c : Array Value), (c.size = 28 ∧ c.all (·.oneCell') = true) ∧ (∀ W : World, (Op.equalIn 10000 37 (.agg c) (.agg c)).run Tryz.prog W = .ok true W) ∧ (∀ W : World, Tab W → Calls Tryz.prog 8 #[.agg #[.bool l.n, .string (bstr l.x), .int .i64 l.e, .bool b.n, .string (bstr b.x), .int .i64 b.e, .int .i64 e]] W fun r w' => r = .returned (.tuple #[.agg c, .int .i64 ec]) ∧ Below W.heap.size W w') ∧ (∀ W : World, Tab W → Calls Tryz.prog 15 #[.agg #[.bool l.n, .string (bstr l.x), .int .i64 l.e, .bool b.n, .string (bstr b.x), .int .i64 b.e, .int .i64 e]] W fun r w' => r = .returned (.tuple #[.agg c, .int .i64 ec]) ∧ Below W.heap.size W w') := by
  by_cases h0 : e = -4096
  · subst h0
    exact ⟨240, #[.bool false, .string { data := #[] }, .int .i64 0, .bool false, .string { data := #[] }, .int .i64 0, .int .i64 0, .bool false, .string { data := #[] }, .int .i64 0, .bool false, .string { data := #[] }, .int .i64 0, .int .i64 0, .bool false, .string { data := #[] }, .int .i64 0, .bool false, .string { data := #[] }, .int .i64 0, .int .i64 0, .bool false, .string { data := #[] }, .int .i64 0, .bool false, .string { data := #[] }, .int .i64 0, .int .i64 0], ⟨rfl, by simp [Value.oneCell']⟩, fun W => eq28 _ _ _ _ _ _ _ _ _ _ _ _ _ _ _ _ _ _ _ _ _ _ _ _ _ _ _ _ W, fun W _ => vparts_low l b W ok_l ok_b, fun W _ => rparts_low l b W⟩
  have e1' : -4096 < e := by omega
  by_cases hp : (vM l 1 (e - 1)).2 = 0
  · by_cases hq : (vM b 1 (e - 1)).2 = 0
    · exact ⟨0, #[.bool l.n, .string (bstr l.x), .int .i64 l.e, .bool b.n, .string (bstr b.x), .int .i64 b.e, .int .i64 (e - 1), .bool (vM l 1 (e - 1)).1.n, .string (bstr (vM l 1 (e - 1)).1.x), .int .i64 (vM l 1 (e - 1)).1.e, .bool b.n, .string (bstr b.x), .int .i64 b.e, .int .i64 (e - 1), .bool l.n, .string (bstr l.x), .int .i64 l.e, .bool (vM b 1 (e - 1)).1.n, .string (bstr (vM b 1 (e - 1)).1.x), .int .i64 (vM b 1 (e - 1)).1.e, .int .i64 (e - 1), .bool (vM l 1 (e - 1)).1.n, .string (bstr (vM l 1 (e - 1)).1.x), .int .i64 (vM l 1 (e - 1)).1.e, .bool (vM b 1 (e - 1)).1.n, .string (bstr (vM b 1 (e - 1)).1.x), .int .i64 (vM b 1 (e - 1)).1.e, .int .i64 (e - 1)], ⟨rfl, by simp [Value.oneCell']⟩, fun W => eq28 _ _ _ _ _ _ _ _ _ _ _ _ _ _ _ _ _ _ _ _ _ _ _ _ _ _ _ _ W, fun W hW => vparts_0 l b e _ _ _ rfl rfl rfl W ok_l ok_b e1' e2 hp hq hW, fun W _ => rparts_3 l b e _ _ _ rfl rfl rfl W ok_l ok_b e1' e2 hp hq⟩
    · exact ⟨4, #[.bool false, .string { data := #[] }, .int .i64 0, .bool false, .string { data := #[] }, .int .i64 0, .int .i64 0, .bool false, .string { data := #[] }, .int .i64 0, .bool false, .string { data := #[] }, .int .i64 0, .int .i64 0, .bool false, .string { data := #[] }, .int .i64 0, .bool false, .string { data := #[] }, .int .i64 0, .int .i64 0, .bool false, .string { data := #[] }, .int .i64 0, .bool false, .string { data := #[] }, .int .i64 0, .int .i64 0], ⟨rfl, by simp [Value.oneCell']⟩, fun W => eq28 _ _ _ _ _ _ _ _ _ _ _ _ _ _ _ _ _ _ _ _ _ _ _ _ _ _ _ _ W, fun W hW => vparts_2 l b e _ _ rfl rfl W ok_l ok_b e1' e2 hp hq hW, fun W _ => rparts_2 l b e W ok_l ok_b e1' e2 hp hq⟩
  · exact ⟨4, #[.bool false, .string { data := #[] }, .int .i64 0, .bool false, .string { data := #[] }, .int .i64 0, .int .i64 0, .bool false, .string { data := #[] }, .int .i64 0, .bool false, .string { data := #[] }, .int .i64 0, .int .i64 0, .bool false, .string { data := #[] }, .int .i64 0, .bool false, .string { data := #[] }, .int .i64 0, .int .i64 0, .bool false, .string { data := #[] }, .int .i64 0, .bool false, .string { data := #[] }, .int .i64 0, .int .i64 0], ⟨rfl, by simp [Value.oneCell']⟩, fun W => eq28 _ _ _ _ _ _ _ _ _ _ _ _ _ _ _ _ _ _ _ _ _ _ _ _ _ _ _ _ W, fun W hW => vparts_1 l b e _ rfl W ok_l ok_b e1' e2 hp hW, fun W _ => rparts_1 l b e W ok_l ok_b e1' e2 hp⟩
theorem sq_middle (l b : DY) (e : Int) (ok_l : l.ok) (ok_b : b.ok) (e1 : -4096 ≤ e) (e2 : e ≤ 4096) : ∃ (em : Int) (m n : DY), (∀ W : World, Tab W → Calls Tryz.prog 6 #[.agg #[.bool l.n, .string (bstr l.x), .int .i64 l.e, .bool b.n, .string (bstr b.x), .int .i64 b.e, .int .i64 e]] W fun r w' => r = .returned (.tuple #[.agg #[.bool m.n, .string (bstr m.x), .int .i64 m.e, .bool n.n, .string (bstr n.x), .int .i64 n.e], .int .i64 em]) ∧ Below W.heap.size W w') ∧ (∀ W : World, Tab W → Calls Tryz.prog 14 #[.agg #[.bool l.n, .string (bstr l.x), .int .i64 l.e, .bool b.n, .string (bstr b.x), .int .i64 b.e, .int .i64 e]] W fun r w' => r = .returned (.tuple #[.agg #[.bool m.n, .string (bstr m.x), .int .i64 m.e, .bool n.n, .string (bstr n.x), .int .i64 n.e], .int .i64 em]) ∧ Below W.heap.size W w') := by
  have hv := fun W hW => vmiddle_w l b e _ rfl W ok_l ok_b e1 e2 hW
  by_cases hp : (vM l 1 (e - 1)).2 = 0
  · by_cases hq : (vM b 1 (e - 1)).2 = 0
    · refine ⟨0, (vM l 1 (e - 1)).1, (vM b 1 (e - 1)).1, fun W hW => ?_, fun W _ => rmiddle_3 l b e _ _ rfl rfl W ok_l ok_b e1 e2 hp hq⟩
      have h := hv W hW
      rw [gB_yes hp hq] at h
      exact h
    · refine ⟨4, DY.zero, DY.zero, fun W hW => ?_, fun W _ => ?_⟩
      · have h := hv W hW
        rw [gB_no (fun k => hq k.2)] at h
        exact h
      · rw [show bstr DY.zero.x = { data := #[] } from bstr_zero]
        exact rmiddle_2 l b e _ _ rfl rfl W ok_l ok_b e1 e2 hp hq
  · refine ⟨4, DY.zero, DY.zero, fun W hW => ?_, fun W _ => ?_⟩
    · have h := hv W hW
      rw [gB_no (fun k => hp k.1)] at h
      exact h
    · rw [show bstr DY.zero.x = { data := #[] } from bstr_zero]
      exact rmiddle_1 l b e _ _ rfl rfl W ok_l ok_b e1 e2 hp
theorem sq_holds (l b : DY) (e : Int) (j : GY) (ok_l : l.ok) (ok_b : b.ok) (ok_j : j.ok) (e1 : -4096 ≤ e) (e2 : e ≤ 4096) : ∃ (hh : Bool) (eh : Int), (∀ W : World, Tab W → Calls Tryz.prog 7 #[.agg #[.bool l.n, .string (bstr l.x), .int .i64 l.e, .bool b.n, .string (bstr b.x), .int .i64 b.e, .int .i64 e], .agg #[.bool j.re.n, .string (bstr j.re.x), .int .i64 j.re.e, .bool j.im.n, .string (bstr j.im.x), .int .i64 j.im.e]] W fun r w' => r = .returned (.tuple #[.bool hh, .int .i64 eh]) ∧ Below W.heap.size W w') ∧ (∀ W : World, Tab W → Calls Tryz.prog 18 #[.agg #[.bool l.n, .string (bstr l.x), .int .i64 l.e, .bool b.n, .string (bstr b.x), .int .i64 b.e, .int .i64 e], .agg #[.bool j.re.n, .string (bstr j.re.x), .int .i64 j.re.e, .bool j.im.n, .string (bstr j.im.x), .int .i64 j.im.e]] W fun r w' => r = .returned (.tuple #[.bool hh, .int .i64 eh]) ∧ Below W.heap.size W w') := by
  have hl : vM l 2 (e - 1) = vM l 1 e := vM_two (n := 1) (by omega)
  have hb : vM b 2 (e - 1) = vM b 1 e := vM_two (n := 1) (by omega)
  by_cases hp : (vM l 1 e).2 = 0
  · by_cases hq : (vM b 1 e).2 = 0
    · exact ⟨_, 0, fun W hW => vholds_w l b e j _ _ _ _ _ _ (by rw [hl]) (by rw [hb]) rfl rfl rfl rfl W ok_l ok_b ok_j e1 e2 (by rw [hl]; exact hp) (by rw [hb]; exact hq) hW, fun W _ => rholds_3 l b e j _ _ _ _ _ _ rfl rfl rfl rfl rfl rfl W ok_l ok_b ok_j e1 e2 hp hq⟩
    · exact ⟨false, 4, fun W hW => vholds_2 l b e j W ok_l ok_b ok_j e1 e2 (by rw [hl]; exact hp) (by rw [hb]; exact hq) hW, fun W _ => rholds_2 l b e j _ _ rfl rfl W ok_l ok_b e1 e2 hp hq⟩
  · exact ⟨false, 4, fun W hW => vholds_1 l b e j W ok_l ok_b ok_j e1 e2 (by rw [hl]; exact hp) hW, fun W _ => rholds_1 l b e j _ _ rfl rfl W ok_l ok_b e1 e2 hp⟩
theorem viewSquares_any (ln : Bool) (ls : ByteArray) (le : Int) (bn : Bool) (bs : ByteArray) (be e : Int) (jn : Bool) (js : ByteArray) (je : Int) (jm : Bool) (jt : ByteArray) (jf : Int) (w : World) (hT : Tab w)
    (fl : ls.size ≤ 9223372036854775807) (fb : bs.size ≤ 9223372036854775807) (fj : js.size ≤ 9223372036854775807) (fj' : jt.size ≤ 9223372036854775807) :
    Calls Tryz.prog 3 #[.agg #[.bool ln, .string ls, .int .i64 le, .bool bn, .string bs, .int .i64 be, .int .i64 e], .agg #[.bool jn, .string js, .int .i64 je, .bool jm, .string jt, .int .i64 jf]] w fun r w' => r = .returned (.bool true) ∧ Below w.heap.size w w' := by
  have hrr := fun W => rright_any ⟨ln, ls, le⟩ ⟨bn, bs, be⟩ e W fl fb
  have hvr := fun W => vright_any ⟨ln, ls, le⟩ ⟨bn, bs, be⟩ e W fl fb
  have hga := fun W => qmay_any jn js je jm jt jf W fj fj'
  cases hS : sqB ⟨ln, ls, le⟩ ⟨bn, bs, be⟩ e
  · rw [hS] at hrr hvr
    exact squares_bad e _ _ _ _ _ _ _ _ _ _ _ _ #[.bool false, .string { data := #[] }, .int .i64 0, .bool false, .string { data := #[] }, .int .i64 0, .bool false, .string { data := #[] }, .int .i64 0, .bool false, .string { data := #[] }, .int .i64 0, .bool false, .string { data := #[] }, .int .i64 0, .bool false, .string { data := #[] }, .int .i64 0, .bool false, .string { data := #[] }, .int .i64 0, .bool false, .string { data := #[] }, .int .i64 0] ⟨rfl, by simp [Value.oneCell']⟩ #[.bool false, .string { data := #[] }, .int .i64 0, .bool false, .string { data := #[] }, .int .i64 0, .int .i64 0, .bool false, .string { data := #[] }, .int .i64 0, .bool false, .string { data := #[] }, .int .i64 0, .int .i64 0, .bool false, .string { data := #[] }, .int .i64 0, .bool false, .string { data := #[] }, .int .i64 0, .int .i64 0, .bool false, .string { data := #[] }, .int .i64 0, .bool false, .string { data := #[] }, .int .i64 0, .int .i64 0] ⟨rfl, by simp [Value.oneCell']⟩ w (fun W => eq24 _ _ _ _ _ _ _ _ _ _ _ _ _ _ _ _ _ _ _ _ _ _ _ _ W) (fun W => eq28 _ _ _ _ _ _ _ _ _ _ _ _ _ _ _ _ _ _ _ _ _ _ _ _ _ _ _ _ W) (fun W _ => vcorners_bad ⟨ln, ls, le⟩ ⟨bn, bs, be⟩ e W fl fb hS) (fun W _ => vmiddle_bad ⟨ln, ls, le⟩ ⟨bn, bs, be⟩ e W fl fb hS) (fun W _ => vholds_badq ⟨ln, ls, le⟩ ⟨bn, bs, be⟩ e ⟨jn, js, je, jm, jt, jf⟩ W fl fb hS) (fun W _ => vparts_bad ⟨ln, ls, le⟩ ⟨bn, bs, be⟩ e W fl fb hS) (fun W _ => varea_bad ⟨ln, ls, le⟩ ⟨bn, bs, be⟩ e W fl fb hS) hrr hvr hT
  rw [hS] at hrr hvr
  unfold sqB at hS
  rw [Bool.and_eq_true, Bool.and_eq_true, sideB_iff] at hS
  obtain ⟨ml, mb, e1, e2⟩ := hS
  obtain ⟨lx, hlx, okl⟩ := ok_of_may ml
  obtain ⟨bx, hbx, okb⟩ := ok_of_may mb
  dsimp only at hlx hbx okl okb
  subst hlx; subst hbx
  obtain ⟨ec, c, hc, qc, c1, c2⟩ := sq_corners ⟨ln, lx, le⟩ ⟨bn, bx, be⟩ e okl okb e1 e2
  obtain ⟨ep, p, hp, qp, p1, p2⟩ := sq_parts ⟨ln, lx, le⟩ ⟨bn, bx, be⟩ e okl okb e1 e2
  obtain ⟨em, m, n, m1, m2⟩ := sq_middle ⟨ln, lx, le⟩ ⟨bn, bx, be⟩ e okl okb e1 e2
  have ha1 := fun W hW => varea ⟨⟨ln, lx, le⟩, ⟨bn, bx, be⟩, e⟩ W ⟨okl, okb, e1, e2⟩ hW
  have ha2 := fun W => rarea_w ⟨ln, lx, le⟩ ⟨bn, bx, be⟩ e _ rfl W e1 e2
  cases hJ : GR.may ⟨jn, js, je, jm, jt, jf⟩
  · rw [show (mayB jn js je && mayB jm jt jf) = false from hJ] at hga
    exact squares_gbad e ec em ep _ _ _ _ _ _ _ _ _ _ _ _ _ _ _ _ _ _ _ _ _ c hc p hp w qc qp c1 m1 (fun W _ => vholds_bad ⟨ln, lx, le⟩ ⟨bn, bx, be⟩ e ⟨jn, js, je, jm, jt, jf⟩ W okl okb ⟨fj, fj'⟩ e1 e2 hJ) p1 ha1 hrr hvr c2 m2 p2 (fun W _ => ha2 W) hga hT
  rw [show (mayB jn js je && mayB jm jt jf) = true from hJ] at hga
  obtain ⟨J, okJ, hJe⟩ := GR.ok_of2 _ hJ
  obtain ⟨rfl, rfl, rfl, rfl, rfl, rfl⟩ : jn = J.re.n ∧ js = bstr J.re.x ∧ je = J.re.e ∧ jm = J.im.n ∧ jt = bstr J.im.x ∧ jf = J.im.e := by
    have := congrArg GR.n hJe; have := congrArg GR.s hJe; have := congrArg GR.e hJe; have := congrArg GR.m hJe; have := congrArg GR.t hJe; have := congrArg GR.f hJe
    exact ⟨by assumption, by assumption, by assumption, by assumption, by assumption, by assumption⟩
  obtain ⟨hh, eh, o1, o2⟩ := sq_holds ⟨ln, lx, le⟩ ⟨bn, bx, be⟩ e J okl okb okJ e1 e2
  exact squares_good e ec em ep hh eh _ _ _ _ _ _ _ _ _ _ _ _ _ _ _ _ _ _ _ _ _ c hc p hp w qc qp c1 m1 o1 p1 ha1 hrr hvr c2 m2 p2 (fun W _ => ha2 W) hga o2 hT
end Go.Proofs.YtfbkopepkklkjaaGreatDoor
