/- filigreelaw04.RatioMakes at all inputs. -/
import Derived.Test.YtbfnafcpjbdbpaaGreatDoorRL
import Derived.Test.YtbfnafcpjbdbpaaGreatDoorRH
namespace Go.Proofs.YtbfnafcpjbdbpaaGreatDoor
open Go Go.RowKit Go.PlainAid Fil

theorem few_b (s : ByteArray) (h : s.size ≤ 9223372036854775807) : ∀ W, Calls Tryz.prog 6 #[.string s] W fun r w' => r = .returned (.bool (decide (s.size ≤ 300))) ∧ Below W.heap.size W w' :=
  fun W => (l4few_any s W h).mono fun _ _ ⟨h, k⟩ => ⟨h, by rw [← k]; exact Below.refl _ _⟩
theorem ratioMakes_any (xn : Bool) (xS xT : ByteArray) (N : Bool) (P Q : ByteArray) (z : Int) (dn : Bool) (dS : ByteArray) (de : Int) (w : World) (hT : Tab w) (b1 : xS.size ≤ 9223372036854775807) (b2 : xT.size ≤ 9223372036854775807) (b3 : P.size ≤ 9223372036854775807) (b4 : Q.size ≤ 9223372036854775807) (z0 : -9223372036854775808 ≤ z) (z1 : z ≤ 9223372036854775807) (b5 : dS.size ≤ 9223372036854775807) :
    Calls Tryz.prog 3 #[.agg #[.bool xn, .string xS, .string xT], .bool N, .string P, .string Q, .int .i64 z, .agg #[.bool dn, .string dS, .int .i64 de]] w fun r w' => r = .returned (.bool true) ∧ Below w.heap.size w w' := by
  have f0 := fun W => l4small_any xn xS xT W b1 b2
  have f1 := few_b P b3
  have f2 := few_b Q b4
  have f3 := few_b dS b5
  have hl := fun W => l4lives_any W
  cases e0 : smallB xS xT
  · rw [e0] at f0
    exact makes_far0 _ _ _ _ _ _ _ _ _ _ w f0 hl
  · rw [e0] at f0
    by_cases g1 : P.size ≤ 300
    · rw [decide_eq_true g1] at f1
      by_cases g2 : Q.size ≤ 300
      · rw [decide_eq_true g2] at f2
        by_cases g3 : dS.size ≤ 300
        · rw [decide_eq_true g3] at f3
          obtain ⟨g4, g5⟩ := small_sizes e0
          obtain ⟨an, aS, aT, ae, h1, h2⟩ := new_agree N P Q g1 g2
          obtain ⟨bn, bS, bT, be, h3, h4⟩ := of_agree dn dS de b5
          obtain ⟨cn, cS, ce, ck, h5, h6⟩ := dyad_agree xn xS xT g4 g5
          obtain ⟨gn, gS, gT, h9, h10⟩ := whole_agree z z0 z1
          exact makes_go _ _ _ _ _ _ _ _ _ _ _ _ _ _ _ _ _ _ _ _ _ _ _ _ _ _ w f0 f1 f2 f3 h1 h2 h3 h4 h5 h6 (fun W => kmay_any xn xS xT W b1 b2) (fun W => p4may_any xn xS xT W b1 b2) h9 h10 hl hT
        · rw [decide_eq_false g3] at f3
          exact makes_far3 _ _ _ _ _ _ _ _ _ _ w f0 f1 f2 f3 hl
      · rw [decide_eq_false g2] at f2
        exact makes_far2 _ _ _ _ _ _ _ _ _ _ w f0 f1 f2 hl
    · rw [decide_eq_false g1] at f1
      exact makes_far1 _ _ _ _ _ _ _ _ _ _ w f0 f1 hl
end Go.Proofs.YtbfnafcpjbdbpaaGreatDoor
