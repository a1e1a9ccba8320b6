/- The walks over math.IsInf with a sign, dyad.Against, the reference's Against. -/
import Derived.Test.YtppebjnmollojaaGreatDoorBL
import Derived.Test.YtppebjnmollojaaGreatDoorBI
namespace Go.Proofs.YtppebjnmollojaaGreatDoor
open Go Go.RowKit Go.PlainAid Fil

theorem ord_gt {a b : Nat} (ha : fr a ≤ 9218868437227405312) (hb : fr b ≤ 9218868437227405312) : (FloatKind.f64.format.order a b == some .gt) = decide (fk b < fk a) := by
  rw [show FloatKind.f64.format = Ieee.double from rfl, order_some ha hb]
  rcases Int.lt_trichotomy (fk a) (fk b) with h1 | h1 | h1
  · rw [cmp_lt h1, decide_eq_false (by omega)]; rfl
  · rw [h1, cmp_eq, decide_eq_false (by omega)]; rfl
  · rw [cmp_gt h1, decide_eq_true h1]; rfl
theorem fl_ok {b : Nat} (_h : flQ b ≠ 2047) : mkOk (sz (fs b) (flM b)) (flE b) = true := by
  have h1 := flM_lt b
  have h2 := flE_bd b
  have h3 : tz (flM b) ≤ 52 := by
    by_cases h0 : flM b = 0
    · rw [h0, tz_zero]; omega
    · have h4 := tz_le_log h0
      have h5 : (flM b).log2 < 53 := (Nat.log2_lt h0).2 (by omega)
      omega
  refine mkOk_yes ?_ ?_ ?_
  · rw [sz_abs]
    refine Nat.le_trans (dn_le (n := 8) (by omega) ?_) (by omega)
    exact Nat.lt_of_le_of_lt (Nat.div_le_self _ _) (by omega)
  · rw [sz_abs]; omega
  · rw [sz_abs]; omega
end Go.Proofs.YtppebjnmollojaaGreatDoor
