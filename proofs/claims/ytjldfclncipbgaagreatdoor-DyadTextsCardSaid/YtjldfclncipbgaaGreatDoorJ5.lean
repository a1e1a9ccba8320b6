/- Merged: J1 J2 J5 -/
import Derived.Test.YtjldfclncipbgaaGreatDoorB1
import Derived.Test.YtjldfclncipbgaaGreatDoorB3

/- Long division, digit by digit, in plain Lean. -/
namespace Go.Proofs.YtjldfclncipbgaaGreatDoor
open Fil

/-- the guess of a digit: the divisor V = v1 B K + v2 K + vl, what is left R = two B K + u0 K + rl -/
structure Guess (B K v1 v2 vl two u0 rl V R : Nat) : Prop where
  hK : 0 < K
  hB : 2 ≤ B
  hv : B ≤ 2 * v1
  hv1 : v1 < B
  hv2 : v2 < B
  hvl : vl < K
  hu0 : u0 < B
  hrl : rl < K
  eV : V = (v1 * B + v2) * K + vl
  eR : R = (two * B + u0) * K + rl
  lt : R < B * V
namespace Guess
variable {B K v1 v2 vl two u0 rl V R g r : Nat}
end Guess

end Go.Proofs.YtjldfclncipbgaaGreatDoor

/- Division by one digit, and decimal digits, in plain Lean. -/
namespace Go.Proofs.YtjldfclncipbgaaGreatDoor
open Fil

/-- what is left of the digits above place i -/
def sr (x b i : Nat) : Nat := x / 2 ^ (32 * i) % b
theorem sr_top {x b n : Nat} (h : x < 2 ^ (32 * n)) : sr x b n = 0 := by unfold sr; rw [Nat.div_eq_of_lt h, Nat.zero_mod]
theorem sr_zero (x b : Nat) : sr x b 0 = x % b := by simp [sr]
theorem short_cur (x i : Nat) : x / 2 ^ (32 * i) = x / 2 ^ (32 * (i + 1)) * 2 ^ 32 + dg 32 x i := div_step 32 x i
theorem sr_step (x b i : Nat) : (sr x b (i + 1) * 2 ^ 32 + dg 32 x i) % b = sr x b i := by
  unfold sr
  rw [short_cur x i, Nat.add_mod, Nat.mod_mul_mod, ← Nat.add_mod]
theorem sr_dg {b : Nat} (x i : Nat) (hb : 0 < b) : (sr x b (i + 1) * 2 ^ 32 + dg 32 x i) / b = dg 32 (x / b) i := by
  have h1 : x / 2 ^ (32 * i) = b * (x / 2 ^ (32 * (i + 1)) / b * 2 ^ 32) + (sr x b (i + 1) * 2 ^ 32 + dg 32 x i) := by
    rw [short_cur x i]
    have h := Nat.div_add_mod (x / 2 ^ (32 * (i + 1))) b
    unfold sr
    rw [← Nat.mul_assoc, ← Nat.add_assoc, ← Nat.add_mul, h]
  have h2 : (sr x b (i + 1) * 2 ^ 32 + dg 32 x i) / b < 2 ^ 32 := by
    refine Nat.div_lt_of_lt_mul ?_
    have h3 : sr x b (i + 1) < b := Nat.mod_lt _ hb
    have h4 : dg 32 x i < 2 ^ 32 := dg_lt 32 x i
    have h5 : (sr x b (i + 1) + 1) * 2 ^ 32 ≤ b * 2 ^ 32 := Nat.mul_le_mul_right _ h3
    rw [Nat.add_mul] at h5
    omega
  have h6 : x / b / 2 ^ (32 * i) = x / 2 ^ (32 * (i + 1)) / b * 2 ^ 32 + (sr x b (i + 1) * 2 ^ 32 + dg 32 x i) / b := by
    rw [Nat.div_div_eq_div_mul, Nat.mul_comm, ← Nat.div_div_eq_div_mul, h1, Nat.mul_add_div hb]
  unfold dg
  unfold dg at h6 h2
  rw [h6, Nat.mul_add_mod_self_right, Nat.mod_eq_of_lt h2]
theorem sr_lt {b : Nat} (x i : Nat) (hb : 0 < b) : sr x b i < b := Nat.mod_lt _ hb
theorem short_bound {x b n : Nat} (h : x < 2 ^ (32 * n)) : x / b < 2 ^ (32 * n) := Nat.lt_of_le_of_lt (Nat.div_le_self _ _) h

/-- a number's decimal digits as signs, the lowest first; none of 0 -/
def decs (x : Nat) : List UInt8 := if h : x = 0 then [] else UInt8.ofNat (48 + x % 10) :: decs (x / 10)
termination_by x
decreasing_by omega
theorem decs_zero : decs 0 = [] := by unfold decs; simp
theorem decs_pos {x : Nat} (h : x ≠ 0) : decs x = UInt8.ofNat (48 + x % 10) :: decs (x / 10) := by rw [decs, dif_neg h]
/-- a number's text -/
def dtx (x : Nat) : List UInt8 := if x = 0 then [48] else (decs x).reverse
theorem decs_length_le : ∀ (n x : Nat), x < 10 ^ n → (decs x).length ≤ n
  | 0, x, h => by have : x = 0 := by simpa using h
                  subst this; simp [decs_zero]
  | n + 1, x, h => by
    by_cases h0 : x = 0
    · subst h0; simp [decs_zero]
    · rw [decs_pos h0, List.length_cons]
      have := decs_length_le n (x / 10) (Nat.div_lt_of_lt_mul (by rw [Nat.pow_succ, Nat.mul_comm] at h; exact h))
      omega
/-- the inner loop: d above nine digits, r what is left of nine, i of them done -/
def grp (d r i : Nat) : Nat := d * 10 ^ (9 - i) + r
theorem grp_zero_iff (d r i : Nat) : grp d r i = 0 ↔ d = 0 ∧ r = 0 := by
  unfold grp
  have := Nat.pow_pos (a := 10) (n := 9 - i) (by omega)
  constructor
  · intro h
    rcases Nat.eq_zero_or_pos d with h0 | h0
    · exact ⟨h0, by omega⟩
    · have := Nat.mul_le_mul h0 this; omega
  · rintro ⟨rfl, rfl⟩; simp
theorem grp_step {d r i : Nat} (hi : i < 9) (hne : grp d r i ≠ 0) : decs (grp d r i) = UInt8.ofNat (48 + r % 10) :: decs (grp d (r / 10) (i + 1)) := by
  have h : d * 10 ^ (9 - i) = 10 * (d * 10 ^ (9 - (i + 1))) := by rw [show 9 - i = (9 - (i + 1)) + 1 by omega, Nat.pow_succ, ← Nat.mul_assoc, Nat.mul_comm 10]
  have h1 : grp d r i % 10 = r % 10 := by unfold grp; omega
  have h2 : grp d r i / 10 = grp d (r / 10) (i + 1) := by unfold grp; omega
  rw [decs_pos hne, h1, h2]
theorem grp_start (x : Nat) : grp (x / 1000000000) (x % 1000000000) 0 = x := by
  unfold grp
  have := Nat.div_add_mod x 1000000000
  omega
theorem grp_nine {d r : Nat} (hr : r < 10 ^ (9 - 9)) : grp d r 9 = d := by unfold grp; simp at hr; simp [hr]
theorem grp_rest {r i : Nat} (hi : i < 9) (h : r < 10 ^ (9 - i)) : r / 10 < 10 ^ (9 - (i + 1)) := by
  rw [show 9 - i = (9 - (i + 1)) + 1 by omega, Nat.pow_succ, Nat.mul_comm] at h
  exact Nat.div_lt_of_lt_mul h

/-- the number that decimal signs spell, on top of n -/
def dval (n : Nat) (l : List UInt8) : Nat := l.foldl (fun n c => 10 * n + (c.toNat - 48)) n
theorem dval_nil (n : Nat) : dval n [] = n := by unfold dval; rw [List.foldl_nil]
theorem dval_cons (n : Nat) (c : UInt8) (r : List UInt8) : dval n (c :: r) = dval (10 * n + (c.toNat - 48)) r := by unfold dval; rw [List.foldl_cons]
theorem dval_append (l m : List UInt8) (n : Nat) : dval n (l ++ m) = dval (dval n l) m := List.foldl_append
/-- decimal signs -/
def isDec (c : UInt8) : Bool := decide (48 ≤ c.toNat ∧ c.toNat ≤ 57)
def allDec (l : List UInt8) : Prop := ∀ c ∈ l, isDec c = true
theorem u8_of_lt {n : Nat} (h : n < 256) : (UInt8.ofNat n).toNat = n := by simp [Nat.mod_eq_of_lt h]
theorem decs_allDec (x : Nat) : allDec (decs x) := by
  induction x using Nat.strongRecOn with
  | _ x ih =>
    by_cases h : x = 0
    · subst h; rw [decs_zero]; intro c hc; simp at hc
    · rw [decs_pos h]
      intro c hc
      rcases List.mem_cons.1 hc with rfl | hc
      · unfold isDec; rw [u8_of_lt (by omega)]; exact decide_eq_true (by omega)
      · exact ih (x / 10) (by omega) c hc
theorem dval_decs (x : Nat) : dval 0 (decs x).reverse = x := by
  induction x using Nat.strongRecOn with
  | _ x ih =>
    by_cases h : x = 0
    · subst h; rw [decs_zero]; rfl
    · rw [decs_pos h, List.reverse_cons, dval_append, ih (x / 10) (by omega), dval_cons, dval_nil, u8_of_lt (by omega)]
      omega
theorem dval_dtx (x : Nat) : dval 0 (dtx x) = x := by
  unfold dtx
  split
  · rename_i h; subst h; rfl
  · exact dval_decs x
theorem dtx_allDec (x : Nat) : allDec (dtx x) := by
  unfold dtx
  split
  · intro c hc; rcases List.mem_cons.1 hc with rfl | hc
    · rfl
    · simp at hc
  · intro c hc; exact decs_allDec x c (List.mem_reverse.1 hc)
/-- no 0 ahead of others -/
def bare (l : List UInt8) : Prop := l ≠ [] ∧ (l.head? = some 48 → l.length = 1)
theorem decs_last {x : Nat} (h : x ≠ 0) : ∃ c, (decs x).getLast? = some c ∧ c ≠ 48 := by
  induction x using Nat.strongRecOn with
  | _ x ih =>
    rw [decs_pos h]
    by_cases h0 : x / 10 = 0
    · rw [h0, decs_zero]
      refine ⟨UInt8.ofNat (48 + x % 10), rfl, fun he => ?_⟩
      have := congrArg UInt8.toNat he
      rw [u8_of_lt (by omega)] at this
      have h9 : (48 : UInt8).toNat = 48 := rfl
      omega
    · obtain ⟨c, hc, hne⟩ := ih (x / 10) (by omega) h0
      refine ⟨c, ?_, hne⟩
      rw [List.getLast?_cons, hc]; rfl
theorem dtx_bare (x : Nat) : bare (dtx x) := by
  unfold dtx
  split
  · exact ⟨by simp, fun _ => rfl⟩
  · rename_i h
    obtain ⟨c, hc, hne⟩ := decs_last h
    refine ⟨fun he => ?_, fun hh => ?_⟩
    · rw [List.reverse_eq_nil_iff] at he; rw [he] at hc; simp at hc
    · rw [List.head?_reverse, hc] at hh; injection hh with hh; exact absurd hh hne
end Go.Proofs.YtjldfclncipbgaaGreatDoor

/- Fractions in lowest terms, in plain Lean. -/
namespace Go.Proofs.YtjldfclncipbgaaGreatDoor
open Fil

theorem norm_num (p q : Int) (hq : q ≠ 0) : sz (!(sg p == sg q)) (p.natAbs / Nat.gcd p.natAbs q.natAbs) = (Rat.divInt p q).num := by
  rw [Rat.num_divInt, show q.gcd p = Nat.gcd p.natAbs q.natAbs from Nat.gcd_comm _ _]
  have hG : 0 < Nat.gcd p.natAbs q.natAbs := Nat.gcd_pos_of_pos_right _ (by omega)
  obtain ⟨t, ht⟩ := Nat.gcd_dvd_left p.natAbs q.natAbs
  generalize Nat.gcd p.natAbs q.natAbs = G at *
  rw [ht, Nat.mul_div_cancel_left t hG]
  have hG' : (G : Int) ≠ 0 := by omega
  have e : ((p.natAbs : Nat) : Int) = (G : Int) * t := by rw [ht]; simp
  unfold sz sg
  rcases Int.lt_trichotomy q 0 with h | h | h
  · rw [Int.sign_eq_neg_one_of_neg h]
    by_cases hp : p < 0
    · rw [show -1 * p = (G : Int) * t by omega, Int.mul_ediv_cancel_left _ hG']
      simp [h, hp]
    · rw [show -1 * p = (G : Int) * (-t) by rw [Int.mul_neg]; omega, Int.mul_ediv_cancel_left _ hG']
      simp [h, hp]
  · exact absurd h hq
  · rw [Int.sign_eq_one_of_pos h]
    by_cases hp : p < 0
    · rw [show 1 * p = (G : Int) * (-t) by rw [Int.mul_neg]; omega, Int.mul_ediv_cancel_left _ hG']
      simp [hp, show ¬ q < 0 by omega]
    · rw [show 1 * p = (G : Int) * t by omega, Int.mul_ediv_cancel_left _ hG']
      simp [hp, show ¬ q < 0 by omega]
theorem norm_den (p q : Int) (hq : q ≠ 0) : q.natAbs / Nat.gcd p.natAbs q.natAbs = (Rat.divInt p q).den := by
  rw [Rat.den_divInt, if_neg hq, show q.gcd p = Nat.gcd p.natAbs q.natAbs from Nat.gcd_comm _ _]
theorem divInt_add (x y : Rat) : Rat.divInt (x.num * (y.den : Int) + y.num * (x.den : Int)) ((x.den : Int) * (y.den : Int)) = x + y := by
  rw [Rat.add_def', ← Rat.divInt_ofNat]; simp
theorem den_ne (x : Rat) : (x.den : Int) ≠ 0 := by have := x.den_nz; omega
end Go.Proofs.YtjldfclncipbgaaGreatDoor
