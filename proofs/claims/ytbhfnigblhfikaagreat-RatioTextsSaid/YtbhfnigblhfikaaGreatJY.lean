/- filigreelaw04: few, small, three; RatioField. -/
import Derived.Test.YtbhfnigblhfikaaGreatJW
namespace Go.Proofs.YtbhfnigblhfikaaGreat
open Go Go.RowKit Go.PlainAid Fil

set_option maxHeartbeats 1000000 in
theorem l4few_any (s : ByteArray) (w : World) (h : s.size ≤ 9223372036854775807) : Calls Tryz.prog 16 #[.string s] w fun r w' => r = .returned (.bool (decide (s.size ≤ 300))) ∧ w = w' := by
  by_cases h3 : s.size ≤ 300
  · have e : decide (s.size ≤ 300) = true := decide_eq_true h3
    rw [e]
    have t : decide ((s.size : Int) ≤ 300) = true := decide_eq_true (by omega)
    clear e
    go_enter Tryz.func16, Tryz.ntmps16
    go_wp2
    go_ret
    exact ⟨rfl, rfl⟩
  · have e : decide (s.size ≤ 300) = false := decide_eq_false h3
    rw [e]
    have t : decide ((s.size : Int) ≤ 300) = false := decide_eq_false (by omega)
    clear e
    go_enter Tryz.func16, Tryz.ntmps16
    go_wp2
    go_ret
    exact ⟨rfl, rfl⟩
def smallB (S T : ByteArray) : Bool := decide (S.size ≤ 300) && decide (T.size ≤ 300)
set_option maxHeartbeats 2000000 in
theorem l4small_any (N : Bool) (S T : ByteArray) (w : World) (hS : S.size ≤ 9223372036854775807) (hT : T.size ≤ 9223372036854775807) : Calls Tryz.prog 4 #[.agg #[.bool N, .string S, .string T]] w fun r w' => r = .returned (.bool (smallB S T)) ∧ Below w.heap.size w w' := by
  have h1 := fun W => l4few_any S W hS
  have h2 := fun W => l4few_any T W hT
  unfold smallB
  generalize decide (S.size ≤ 300) = x at *
  generalize decide (T.size ≤ 300) = y at *
  have hb := (Below.refl w.heap.size w).alloc (Nat.le_refl _) (.cells #[.bool N, .string S, .string T] 24)
  cases x
  · go_enter Tryz.func4, Tryz.ntmps4
    go_wp2_with fail
    refine (h1 _).mono ?_
    rintro r w1 ⟨rfl, rfl⟩
    go_wp2_with fail
    go_ret
    exact ⟨rfl, hb⟩
  · go_enter Tryz.func4, Tryz.ntmps4
    go_wp2_with fail
    refine (h1 _).mono ?_
    rintro r w1 ⟨rfl, rfl⟩
    go_wp2_with fail
    refine (h2 _).mono ?_
    rintro r w1 ⟨rfl, rfl⟩
    go_wp2_with fail
    go_ret
    exact ⟨rfl, hb⟩
def threeB (xn : Bool) (xS xT : ByteArray) (yn : Bool) (yS yT : ByteArray) (zn : Bool) (zS zT : ByteArray) : Bool := smallB xS xT && smallB yS yT && smallB zS zT && kMayB xn xS xT && kMayB yn yS yT && kMayB zn zS zT
theorem small_sizes {S T : ByteArray} (h : smallB S T = true) : S.size ≤ 300 ∧ T.size ≤ 300 := by
  unfold smallB at h
  rw [Bool.and_eq_true] at h
  exact ⟨of_decide_eq_true h.1, of_decide_eq_true h.2⟩
end Go.Proofs.YtbhfnigblhfikaaGreat
