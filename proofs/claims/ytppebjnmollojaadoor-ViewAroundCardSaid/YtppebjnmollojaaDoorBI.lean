/- The walk over the reference's Cmp. -/
import Derived.Test.YtppebjnmollojaaDoorBH
namespace Go.Proofs.YtppebjnmollojaaDoor
open Go Go.RowKit Go.PlainAid Fil

theorem cmpZ_or9 (x y : Nat) : -1 ≤ cmpZ x y ∧ cmpZ x y ≤ 1 := by
  rcases Nat.lt_trichotomy x y with h | h | h
  · rw [cmpZ_lt h]; omega
  · subst h; rw [cmpZ_eq]; omega
  · rw [cmpZ_gt h]; omega
end Go.Proofs.YtppebjnmollojaaDoor
