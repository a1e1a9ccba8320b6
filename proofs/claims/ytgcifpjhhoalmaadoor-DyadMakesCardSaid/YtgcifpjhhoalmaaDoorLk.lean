/- The walk over filigreelaw03.DyadMakes. -/
import Derived.Test.YtgcifpjhhoalmaaDoorBL
import Derived.Test.YtgcifpjhhoalmaaDoorBF
namespace Go.Proofs.YtgcifpjhhoalmaaDoor
open Go Go.RowKit Go.PlainAid Fil

theorem flD_form (b : Nat) : ∃ n y g r, flD b = dyR n y g r := by
  unfold flD
  split
  · exact ⟨_, _, _, _, rfl⟩
  · exact ⟨_, _, _, _, rfl⟩
theorem dfloat_any (b : Nat) (w : World) (hb : b < 18446744073709551616) (hT : Tab w) :
    Calls Tryd.prog 56 #[.float .f64 b] w fun r w' => r = .returned (flD b) ∧ Below w.heap.size w w' := by
  unfold flD
  by_cases h : flQ b = 2047
  · rw [if_pos h]; exact dfloat_bad b w hb h
  · rw [if_neg h]; exact dfloat_ok b w hb h hT
set_option maxHeartbeats 8000000 in
theorem dyadMakes_any (z : Int) (neg : Bool) (s : ByteArray) (e : Int) (x : Nat) (w : World) (hT : Tab w) (hz1 : -9223372036854775808 ≤ z) (hz2 : z ≤ 9223372036854775807) (hs : s.size ≤ 9223372036854775807) (he1 : -9223372036854775808 ≤ e) (he2 : e ≤ 9223372036854775807) (hx : x < 18446744073709551616) :
    Calls Tryd.prog 8 #[.int .i64 z, .bool neg, .string s, .int .i64 e, .float .f64 x] w fun r w' => r = .returned (.bool true) ∧ Below w.heap.size w w' := by
  have hof := fun W hW => dof_any z e W hW hz1 hz2 he1 he2
  have hrof := fun W => rof2_any z e W hz1 hz2 he1 he2
  have hmk2 : ∃ n2 y2 e2 r2, (∀ W, Tab W → Calls Tryd.prog 54 #[.bool neg, .string s, .int .i64 e] W fun r w' => r = .returned (dyR n2 y2 e2 r2) ∧ Below W.heap.size W w') ∧ (∀ W, Calls Tryd.prog 55 #[.bool neg, .string s, .int .i64 e] W fun r w' => r = .returned (dyR n2 y2 e2 r2) ∧ Below W.heap.size W w') := by
    cases h : natB s
    · exact ⟨_, _, _, _, fun W _ => dmake_bad neg s e W h hs, fun W => rmake_bad neg s e W h hs⟩
    · obtain ⟨y, rfl, hy⟩ := nat_of_natB h
      exact ⟨_, _, _, _, fun W hW => dmake_ok neg y e W hy he1 he2 hW, fun W => rmake_ok neg y e W hy he1 he2⟩
  obtain ⟨n2, y2, e2, r2, hmk, hrmk⟩ := hmk2
  have hfl := fun W hW => dfloat_any x W hx hW
  have hrfl := fun W => rfromfloat_any x W hx
  obtain ⟨n3, y3, e3, r3, hf3⟩ := flD_form x
  rw [hf3] at hfl hrfl
  unfold mkV at hof hrof
  unfold dyR at hof hrof hmk hrmk hfl hrfl
  generalize mkN z e = n1 at *
  generalize bstr (mkX z e) = s1 at *
  generalize mkE z e = e1 at *
  generalize mkR z e = r1 at *
  generalize bstr y2 = s2 at *
  generalize bstr y3 = s3 at *
  clear hf3 hz1 hz2 he1 he2 hx
  have B0 := Below.refl w.heap.size w
  go_enter Tryd.func8, Tryd.ntmps8
  go_wp2_with fail
  (with_reducible refine (hof _ (hT.below B0)).mono ?_)
  rintro r w1 ⟨rfl, hb1⟩
  replace B0 := B0.trans hb1
  have hb0s := B0.size
  clear hb1
  have DA := DyAt.put w1 n1 s1 e1
  replace B0 := B0.alloc B0.size (.cells #[.bool n1, .string s1, .int .i64 e1] 24)
  have hs1 : (w1.alloc (.cells #[.bool n1, .string s1, .int .i64 e1] 24)).heap.size = w1.heap.size + 1 := by simp
  go_wp2_with fail
  (with_reducible refine (hrof _).mono ?_)
  rintro r w2 ⟨rfl, hb2⟩
  have lA := DA.lt
  replace DA := DA.keep hb2
  replace B0 := B0.trans (hb2.mono B0.size)
  have hlt : w1.heap.size < w2.heap.size := by have := hb2.size; omega
  clear hb2 hs1 lA
  replace DA := DA.allocd (.cells #[.bool n1, .string s1, .int .i64 e1] 24)
  have DB := DyAt.put w2 n1 s1 e1
  replace B0 := B0.alloc B0.size (.cells #[.bool n1, .string s1, .int .i64 e1] 24)
  have hw1 : w.heap.size ≤ w1.heap.size := by have := hb0s; omega
  obtain ⟨a0, a1, a2, f0, f1, f2⟩ := id DA
  obtain ⟨b0, b1, b2, g0, g1, g2⟩ := id DB
  go_wp2_with fail
  (with_reducible refine (hmk _ (hT.below B0)).mono ?_)
  rintro r w3 ⟨rfl, hb3⟩
  clear a0 a1 a2 f0 f1 f2 b0 b1 b2 g0 g1 g2
  replace DA := DA.keep hb3
  replace DB := DB.keep hb3
  replace B0 := B0.trans (hb3.mono B0.size)
  clear hb3
  obtain ⟨a0, a1, a2, f0, f1, f2⟩ := id DA
  obtain ⟨b0, b1, b2, g0, g1, g2⟩ := id DB
  have DA' := DA.store n2 s2 e2
  have DB' := DB.far3 (show w2.heap.size ≠ w1.heap.size by omega) (.bool n2) (.string s2) (.int .i64 e2)
  have B0' := below_put3 (b := w1.heap.size) B0 (by omega) (.bool n2) (.string s2) (.int .i64 e2)
  go_wp2_with fail
  clear a0 a1 a2 f0 f1 f2 b0 b1 b2 g0 g1 g2
  clear DA DB B0
  have DA := DA'
  have DB := DB'
  have B0 := B0'
  clear DA' DB' B0'
  obtain ⟨a0, a1, a2, f0, f1, f2⟩ := id DA
  obtain ⟨b0, b1, b2, g0, g1, g2⟩ := id DB
  (with_reducible refine (hrmk _).mono ?_)
  rintro r w4 ⟨rfl, hb4⟩
  clear a0 a1 a2 f0 f1 f2 b0 b1 b2 g0 g1 g2
  replace DA := DA.keep hb4
  replace DB := DB.keep hb4
  replace B0 := B0.trans (hb4.mono B0.size)
  clear hb4
  obtain ⟨a0, a1, a2, f0, f1, f2⟩ := id DA
  obtain ⟨b0, b1, b2, g0, g1, g2⟩ := id DB
  have DA' := DA.far3 (show w1.heap.size ≠ w2.heap.size by omega) (.bool n2) (.string s2) (.int .i64 e2)
  have DB' := DB.store n2 s2 e2
  have B0' := below_put3 (b := w2.heap.size) B0 (by omega) (.bool n2) (.string s2) (.int .i64 e2)
  go_wp2_with fail
  clear a0 a1 a2 f0 f1 f2 b0 b1 b2 g0 g1 g2
  clear DA DB B0
  have DA := DA'
  have DB := DB'
  have B0 := B0'
  clear DA' DB' B0'
  obtain ⟨a0, a1, a2, f0, f1, f2⟩ := id DA
  obtain ⟨b0, b1, b2, g0, g1, g2⟩ := id DB
  (with_reducible refine (hfl _ (hT.below B0)).mono ?_)
  rintro r w5 ⟨rfl, hb5⟩
  clear a0 a1 a2 f0 f1 f2 b0 b1 b2 g0 g1 g2
  replace DA := DA.keep hb5
  replace DB := DB.keep hb5
  replace B0 := B0.trans (hb5.mono B0.size)
  clear hb5
  obtain ⟨a0, a1, a2, f0, f1, f2⟩ := id DA
  obtain ⟨b0, b1, b2, g0, g1, g2⟩ := id DB
  have DA' := DA.store n3 s3 e3
  have DB' := DB.far3 (show w2.heap.size ≠ w1.heap.size by omega) (.bool n3) (.string s3) (.int .i64 e3)
  have B0' := below_put3 (b := w1.heap.size) B0 (by omega) (.bool n3) (.string s3) (.int .i64 e3)
  go_wp2_with fail
  clear a0 a1 a2 f0 f1 f2 b0 b1 b2 g0 g1 g2
  clear DA DB B0
  have DA := DA'
  have DB := DB'
  have B0 := B0'
  clear DA' DB' B0'
  obtain ⟨a0, a1, a2, f0, f1, f2⟩ := id DA
  obtain ⟨b0, b1, b2, g0, g1, g2⟩ := id DB
  (with_reducible refine (hrfl _).mono ?_)
  rintro r w6 ⟨rfl, hb6⟩
  clear a0 a1 a2 f0 f1 f2 b0 b1 b2 g0 g1 g2
  replace DA := DA.keep hb6
  replace DB := DB.keep hb6
  replace B0 := B0.trans (hb6.mono B0.size)
  clear hb6
  obtain ⟨a0, a1, a2, f0, f1, f2⟩ := id DA
  obtain ⟨b0, b1, b2, g0, g1, g2⟩ := id DB
  have DA' := DA.far3 (show w1.heap.size ≠ w2.heap.size by omega) (.bool n3) (.string s3) (.int .i64 e3)
  have DB' := DB.store n3 s3 e3
  have B0' := below_put3 (b := w2.heap.size) B0 (by omega) (.bool n3) (.string s3) (.int .i64 e3)
  go_wp2_with fail
  clear a0 a1 a2 f0 f1 f2 b0 b1 b2 g0 g1 g2
  clear DA DB B0
  have DA := DA'
  have DB := DB'
  have B0 := B0'
  clear DA' DB' B0'
  obtain ⟨a0, a1, a2, f0, f1, f2⟩ := id DA
  obtain ⟨b0, b1, b2, g0, g1, g2⟩ := id DB
  (with_reducible refine (awake_any _ (hT.below B0)).mono ?_)
  rintro r w7 ⟨rfl, hb7⟩
  replace B0 := B0.trans (hb7.mono B0.size)
  clear a0 a1 a2 f0 f1 f2 b0 b1 b2 g0 g1 g2
  go_wp2
  go_ret
  exact ⟨rfl, B0⟩
end Go.Proofs.YtgcifpjhhoalmaaDoor
