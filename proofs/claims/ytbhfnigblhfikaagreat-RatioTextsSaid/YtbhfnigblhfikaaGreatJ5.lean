/- Fractions in lowest terms, in plain Lean. -/
import Derived.Test.YtbhfnigblhfikaaGreatB3
import Derived.Test.YtbhfnigblhfikaaGreatJ2
namespace Go.Proofs.YtbhfnigblhfikaaGreat
open Fil

theorem norm_num (p q : Int) (hq : q ≠ 0) : sz (!(sg p == sg q)) (p.natAbs / Nat.gcd p.natAbs q.natAbs) = (Rat.divInt p q).num := by
  rw [Rat.num_divInt, show q.gcd p = Nat.gcd p.natAbs q.natAbs from Nat.gcd_comm _ _]
  have hG : 0 < Nat.gcd p.natAbs q.natAbs := Nat.gcd_pos_of_pos_right _ (by omega)
  obtain ⟨t, ht⟩ := Nat.gcd_dvd_left p.natAbs q.natAbs
  generalize Nat.gcd p.natAbs q.natAbs = G at *
  rw [ht, Nat.mul_div_cancel_left t hG]
  have hG' : (G : Int) ≠ 0 := by omega
  have e : ((p.natAbs : Nat) : Int) = (G : Int) * t := by rw [ht]; simp
  unfold sz sg
  rcases Int.lt_trichotomy q 0 with h | h | h
  · rw [Int.sign_eq_neg_one_of_neg h]
    by_cases hp : p < 0
    · rw [show -1 * p = (G : Int) * t by omega, Int.mul_ediv_cancel_left _ hG']
      simp [h, hp]
    · rw [show -1 * p = (G : Int) * (-t) by rw [Int.mul_neg]; omega, Int.mul_ediv_cancel_left _ hG']
      simp [h, hp]
  · exact absurd h hq
  · rw [Int.sign_eq_one_of_pos h]
    by_cases hp : p < 0
    · rw [show 1 * p = (G : Int) * (-t) by rw [Int.mul_neg]; omega, Int.mul_ediv_cancel_left _ hG']
      simp [hp, show ¬ q < 0 by omega]
    · rw [show 1 * p = (G : Int) * t by omega, Int.mul_ediv_cancel_left _ hG']
      simp [hp, show ¬ q < 0 by omega]
theorem norm_den (p q : Int) (hq : q ≠ 0) : q.natAbs / Nat.gcd p.natAbs q.natAbs = (Rat.divInt p q).den := by
  rw [Rat.den_divInt, if_neg hq, show q.gcd p = Nat.gcd p.natAbs q.natAbs from Nat.gcd_comm _ _]
theorem divInt_add (x y : Rat) : Rat.divInt (x.num * (y.den : Int) + y.num * (x.den : Int)) ((x.den : Int) * (y.den : Int)) = x + y := by
  rw [Rat.add_def', ← Rat.divInt_ofNat]; simp
theorem divInt_mul (x y : Rat) : Rat.divInt (x.num * y.num) ((x.den : Int) * (y.den : Int)) = x * y := by
  rw [Rat.mul_def', ← Rat.divInt_ofNat]; simp
theorem divInt_quo (x y : Rat) : Rat.divInt (x.num * (y.den : Int)) ((x.den : Int) * y.num) = x / y := by
  rw [Rat.div_def, Rat.inv_def]
  conv => rhs; rw [← Rat.num_divInt_den x]
  rw [Rat.divInt_mul_divInt]
def cmpR (x y : Rat) : Int := if x < y then -1 else if y < x then 1 else 0
theorem cmpR_eq (x y : Rat) : cmpI (x.num * (y.den : Int)) (y.num * (x.den : Int)) = cmpR x y := by
  unfold cmpI cmpR
  simp only [Rat.lt_iff]
theorem den_ne (x : Rat) : (x.den : Int) ≠ 0 := by have := x.den_nz; omega
theorem num_ne {x : Rat} (h : x ≠ 0) : x.num ≠ 0 := fun e => h (Rat.num_eq_zero.1 e)
theorem reduced' (x : Rat) : Nat.gcd x.num.natAbs x.den = 1 := x.reduced
/-- a Rat of a sign, a number and another one without a common divisor -/
theorem rat_of (neg : Bool) (n d : Nat) (hd : d ≠ 0) (hc : Nat.gcd n d = 1) (hn : n = 0 → neg = false) : ∃ r : Rat, r.num = sz neg n ∧ r.den = d ∧ r.num.natAbs = n ∧ sg r.num = neg := by
  refine ⟨⟨sz neg n, d, hd, by rw [Nat.Coprime, sz_abs]; exact hc⟩, rfl, rfl, sz_abs _ _, ?_⟩
  simp only [sg, sz]
  cases neg
  · simp
  · have : n ≠ 0 := fun h => by simpa using hn h
    simp; omega
end Go.Proofs.YtbhfnigblhfikaaGreat
