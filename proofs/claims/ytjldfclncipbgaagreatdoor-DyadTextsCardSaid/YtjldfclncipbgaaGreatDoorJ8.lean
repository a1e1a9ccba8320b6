/- wide.Rat's functions. -/
import Derived.Test.YtjldfclncipbgaaGreatDoorJ7
namespace Go.Proofs.YtjldfclncipbgaaGreatDoor
open Go Go.RowKit Fil

/-- a fraction whose parts have not too many digits -/
def Szd (K : Nat) (r : Rat) : Prop := dn 32 r.num.natAbs ≤ K ∧ dn 32 r.den ≤ K
theorem dn_mul {x y j k : Nat} (hx : dn 32 x ≤ j) (hy : dn 32 y ≤ k) : dn 32 (x * y) ≤ j + k := dn_le (by omega) (by rw [padd]; exact Nat.mul_lt_mul'' (lt_of_dn (by omega) hx) (lt_of_dn (by omega) hy))
theorem dn_add {x y k : Nat} (hx : dn 32 x ≤ k) (hy : dn 32 y ≤ k) : dn 32 (x + y) ≤ k + 1 := dn_le (by omega) (add_lt_succ (by omega) (lt_of_dn (by omega) hx) (lt_of_dn (by omega) hy))
theorem dn_mulI {x y : Int} {j k : Nat} (hx : dn 32 x.natAbs ≤ j) (hy : dn 32 y.natAbs ≤ k) : dn 32 (x * y).natAbs ≤ j + k := by rw [Int.natAbs_mul]; exact dn_mul hx hy
theorem dn_addI {x y : Int} {k : Nat} (hx : dn 32 x.natAbs ≤ k) (hy : dn 32 y.natAbs ≤ k) : dn 32 (x + y).natAbs ≤ k + 1 :=
  Nat.le_trans (dn_mono (by omega) (Int.natAbs_add_le x y)) (dn_add hx hy)
theorem Szd.den {K : Nat} {r : Rat} (h : Szd K r) : dn 32 (r.den : Int).natAbs ≤ K := by rw [Int.natAbs_natCast]; exact h.2
theorem Szd.neg {K : Nat} {r : Rat} (h : Szd K r) : Szd K (-r) := ⟨by rw [Rat.neg_num, Int.natAbs_neg]; exact h.1, h.2⟩
theorem den_mul_ne (x y : Rat) : (x.den : Int) * (y.den : Int) ≠ 0 := Int.mul_ne_zero (den_ne x) (den_ne y)

end Go.Proofs.YtjldfclncipbgaaGreatDoor
