/- The walk over filigreelaw03.DyadRounds. -/
import Derived.Test.YtgcifpjhhoalmaaDoorBG
namespace Go.Proofs.YtgcifpjhhoalmaaDoor
open Go Go.RowKit Go.PlainAid Fil

set_option maxHeartbeats 4000000 in
theorem rounds_bad (neg : Bool) (s : ByteArray) (e : Int) (w : World) (hT : Tab w) (h : mayB neg s e = false) (hs : s.size ≤ 9223372036854775807) :
    Calls Tryd.prog 3 #[.agg #[.bool neg, .string s, .int .i64 e]] w fun r w' => r = .returned (.bool true) ∧ Below w.heap.size w w' := by
  have hm := fun W => rmay_any neg s e W hs
  rw [h] at hm
  have hnr := fun W => dnear_bad neg s e W h hs
  have hlo := fun W => dbelow_bad neg s e W h hs
  have hhi := fun W => dabove_bad neg s e W h hs
  have hbi := l3bits_same
  clear h hs
  have D0 := DyAt.put (w) (neg) (s) (e)
  have B0 := (Below.refl w.heap.size w).alloc (by first | exact Nat.le_refl _ | (simp; done) | (simp; omega)) (.cells #[.bool neg, .string s, .int .i64 e] 24)
  go_enter Tryd.func3, Tryd.ntmps3
  obtain ⟨x00, x01, x02, -, -, -⟩ := id D0
  go_wp2_with fail
  (with_reducible refine (hnr _).mono ?_)
  rintro r w1 ⟨rfl, hb1⟩
  clear x00 x01 x02
  replace D0 := D0.keep hb1
  replace B0 := B0.trans (hb1.mono B0.size)
  clear hb1
  have l1_0 := D0.lt
  obtain ⟨x00, x01, x02, -, -, -⟩ := id D0
  go_wp2_with fail
  (with_reducible refine (hlo _).mono ?_)
  rintro r w2 ⟨rfl, hb2⟩
  clear x00 x01 x02
  replace D0 := D0.keep hb2
  replace B0 := B0.trans (hb2.mono B0.size)
  clear hb2
  have l2_0 := D0.lt
  obtain ⟨x00, x01, x02, -, -, -⟩ := id D0
  go_wp2_with fail
  (with_reducible refine (hhi _).mono ?_)
  rintro r w3 ⟨rfl, hb3⟩
  clear x00 x01 x02
  replace D0 := D0.keep hb3
  replace B0 := B0.trans (hb3.mono B0.size)
  clear hb3
  have l3_0 := D0.lt
  obtain ⟨x00, x01, x02, -, -, -⟩ := id D0
  go_wp2_with fail
  (with_reducible refine (hm _).mono ?_)
  rintro r w4 ⟨rfl, hb4⟩
  clear x00 x01 x02
  replace D0 := D0.keep hb4
  replace B0 := B0.trans (hb4.mono B0.size)
  clear hb4
  have l4_0 := D0.lt
  go_wp2_with fail
  (with_reducible refine (hbi 0 _).mono ?_)
  rintro r wz ⟨rfl, rfl⟩
  go_wp2_with fail
  (with_reducible refine (hbi 0 _).mono ?_)
  rintro r wz ⟨rfl, rfl⟩
  go_wp2_with fail
  (with_reducible refine (hbi 0 _).mono ?_)
  rintro r wz ⟨rfl, rfl⟩
  go_wp2_with fail
  (with_reducible refine (awake_any _ (hT.below B0)).mono ?_)
  rintro r w5 ⟨rfl, hb5⟩
  replace D0 := D0.keep hb5
  replace B0 := B0.trans (hb5.mono B0.size)
  clear hb5
  have l5_0 := D0.lt
  go_wp2
  go_ret
  exact ⟨rfl, B0⟩

set_option maxHeartbeats 4000000 in
theorem rounds_ok (neg : Bool) (x : Nat) (e : Int) (w : World) (hT : Tab w) (h : okD neg x e) :
    Calls Tryd.prog 3 #[.agg #[.bool neg, .string (bstr x), .int .i64 e]] w fun r w' => r = .returned (.bool true) ∧ Below w.heap.size w w' := by
  have hm := fun W => rmay_any neg (bstr x) e W (bstr_len h)
  rw [mayB_ok h] at hm
  have hnr := fun W hW => dnear_ok neg x e W h hW
  have hlo := fun W hW => dbelow_ok neg x e W h hW
  have hhi := fun W hW => dabove_ok neg x e W h hW
  have hrn := fun W => rnear_ok neg x e W h
  have hrl := fun W => rbelow_ok neg x e W h
  have hrh := fun W => rabove_ok neg x e W h
  have hbi := l3bits_same
  generalize nearF neg x e = zn at *
  generalize lowF neg x e = zl at *
  generalize highF neg x e = zh at *
  clear h
  have D0 := DyAt.put (w) (neg) ((bstr x)) (e)
  have B0 := (Below.refl w.heap.size w).alloc (by first | exact Nat.le_refl _ | (simp; done) | (simp; omega)) (.cells #[.bool neg, .string (bstr x), .int .i64 e] 24)
  go_enter Tryd.func3, Tryd.ntmps3
  obtain ⟨x00, x01, x02, -, -, -⟩ := id D0
  go_wp2_with fail
  (with_reducible refine (hnr _ (hT.below B0)).mono ?_)
  rintro r w1 ⟨rfl, hb1⟩
  clear x00 x01 x02
  replace D0 := D0.keep hb1
  replace B0 := B0.trans (hb1.mono B0.size)
  clear hb1
  have l1_0 := D0.lt
  obtain ⟨x00, x01, x02, -, -, -⟩ := id D0
  go_wp2_with fail
  (with_reducible refine (hlo _ (hT.below B0)).mono ?_)
  rintro r w2 ⟨rfl, hb2⟩
  clear x00 x01 x02
  replace D0 := D0.keep hb2
  replace B0 := B0.trans (hb2.mono B0.size)
  clear hb2
  have l2_0 := D0.lt
  obtain ⟨x00, x01, x02, -, -, -⟩ := id D0
  go_wp2_with fail
  (with_reducible refine (hhi _ (hT.below B0)).mono ?_)
  rintro r w3 ⟨rfl, hb3⟩
  clear x00 x01 x02
  replace D0 := D0.keep hb3
  replace B0 := B0.trans (hb3.mono B0.size)
  clear hb3
  have l3_0 := D0.lt
  obtain ⟨x00, x01, x02, -, -, -⟩ := id D0
  go_wp2_with fail
  (with_reducible refine (hm _).mono ?_)
  rintro r w4 ⟨rfl, hb4⟩
  clear x00 x01 x02
  replace D0 := D0.keep hb4
  replace B0 := B0.trans (hb4.mono B0.size)
  clear hb4
  have l4_0 := D0.lt
  obtain ⟨x00, x01, x02, -, -, -⟩ := id D0
  go_wp2_with fail
  (with_reducible refine (hrn _).mono ?_)
  rintro r w5 ⟨rfl, hb5⟩
  clear x00 x01 x02
  replace D0 := D0.keep hb5
  replace B0 := B0.trans (hb5.mono B0.size)
  clear hb5
  have l5_0 := D0.lt
  go_wp2_with fail
  (with_reducible refine (hbi zn _).mono ?_)
  rintro r wz ⟨rfl, rfl⟩
  obtain ⟨x00, x01, x02, -, -, -⟩ := id D0
  go_wp2_with fail
  (with_reducible refine (hrl _).mono ?_)
  rintro r w6 ⟨rfl, hb6⟩
  clear x00 x01 x02
  replace D0 := D0.keep hb6
  replace B0 := B0.trans (hb6.mono B0.size)
  clear hb6
  have l6_0 := D0.lt
  go_wp2_with fail
  (with_reducible refine (hbi zl _).mono ?_)
  rintro r wz ⟨rfl, rfl⟩
  obtain ⟨x00, x01, x02, -, -, -⟩ := id D0
  go_wp2_with fail
  (with_reducible refine (hrh _).mono ?_)
  rintro r w7 ⟨rfl, hb7⟩
  clear x00 x01 x02
  replace D0 := D0.keep hb7
  replace B0 := B0.trans (hb7.mono B0.size)
  clear hb7
  have l7_0 := D0.lt
  go_wp2_with fail
  (with_reducible refine (hbi zh _).mono ?_)
  rintro r wz ⟨rfl, rfl⟩
  go_wp2_with fail
  (with_reducible refine (awake_any _ (hT.below B0)).mono ?_)
  rintro r w8 ⟨rfl, hb8⟩
  replace D0 := D0.keep hb8
  replace B0 := B0.trans (hb8.mono B0.size)
  clear hb8
  have l8_0 := D0.lt
  go_wp2
  go_ret
  exact ⟨rfl, B0⟩

theorem dyadRounds_any (neg : Bool) (s : ByteArray) (e : Int) (w : World) (hT : Tab w) (hs : s.size ≤ 9223372036854775807) :
    Calls Tryd.prog 3 #[.agg #[.bool neg, .string s, .int .i64 e]] w fun r w' => r = .returned (.bool true) ∧ Below w.heap.size w w' := by
  cases h : mayB neg s e
  · exact rounds_bad neg s e w hT h hs
  · obtain ⟨x, rfl, hk⟩ := ok_of_may h
    exact rounds_ok neg x e w hT hk
end Go.Proofs.YtgcifpjhhoalmaaDoor
