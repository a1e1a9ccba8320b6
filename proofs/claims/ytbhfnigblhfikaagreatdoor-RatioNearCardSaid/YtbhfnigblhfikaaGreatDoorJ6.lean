/- Merged: J1 J2 J5 J3 J4 J6 -/
import Derived.Test.YtbhfnigblhfikaaGreatDoorB1
import Derived.Test.YtbhfnigblhfikaaGreatDoorB3
import Derived.Laws.CopyOwn
import Derived.Deep.CutBlock

/- Long division, digit by digit, in plain Lean. -/
namespace Go.Proofs.YtbhfnigblhfikaaGreatDoor
open Fil

/-- the carry of a multiple, i digits done -/
def gm (k g V i : Nat) : Nat := g * (V % 2 ^ (k * i)) / 2 ^ (k * i)
theorem gm_zero (k g V : Nat) : gm k g V 0 = 0 := by simp [gm, Nat.mod_one]
theorem gm_sum (k g V i : Nat) : gm k g V i + g * dg k V i = g * (V % 2 ^ (k * (i + 1))) / 2 ^ (k * i) := by
  rw [dg_succ, Nat.mul_add, ← Nat.mul_assoc, Nat.add_comm (g * dg k V i * 2 ^ (k * i)), Nat.add_mul_div_right _ _ (pp _)]
  rfl
theorem gm_dg (k g V i : Nat) : (gm k g V i + g * dg k V i) % 2 ^ k = dg k (g * V) i := by
  rw [gm_sum, ← dg_mod (k := k) (x := g * V) (n := i + 1) (Nat.lt_succ_self i), Nat.mul_mod g V, ← Nat.mod_mod_of_dvd (V) (Nat.dvd_refl (2 ^ (k * (i + 1)))), ← Nat.mul_mod, dg_mod (Nat.lt_succ_self i)]
  rw [Nat.mod_mod]
  rfl
theorem gm_succ (k g V i : Nat) : (gm k g V i + g * dg k V i) / 2 ^ k = gm k g V (i + 1) := by
  rw [gm_sum, Nat.div_div_eq_div_mul, ← pstep]
  rfl
theorem gm_lt {k g V : Nat} (hg : g < 2 ^ k) (i : Nat) : gm k g V i < 2 ^ k := by
  unfold gm
  refine Nat.div_lt_of_lt_mul ?_
  have h := Nat.mod_lt V (pp (k * i))
  calc g * (V % 2 ^ (k * i)) ≤ g * 2 ^ (k * i) := Nat.mul_le_mul_left _ (Nat.le_of_lt h)
    _ < 2 ^ k * 2 ^ (k * i) := Nat.mul_lt_mul_of_pos_right hg (pp _)
    _ = 2 ^ (k * i) * 2 ^ k := Nat.mul_comm _ _
theorem gm_top {k g V n : Nat} (hg : g < 2 ^ k) (hV : V < 2 ^ (k * n)) : gm k g V n = dg k (g * V) n := by
  have h := gm_dg k g V n
  rw [dg_zero_of hV, Nat.mul_zero, Nat.add_zero, Nat.mod_eq_of_lt (gm_lt hg n)] at h
  exact h
theorem mul_lt_next {k g V n : Nat} (hg : g < 2 ^ k) (hV : V < 2 ^ (k * n)) : g * V < 2 ^ (k * (n + 1)) := by
  rw [pstep, Nat.mul_comm g]
  exact Nat.mul_lt_mul'' hV hg
/-- a number above, of which the low digits are the old ones -/
theorem dg_high {k p x i : Nat} (h : i < p) : dg k (x + 2 ^ (k * p)) i = dg k x i := by
  rw [← dg_mod h, Nat.add_mod_right, dg_mod h]
theorem borrow_high {k p x y i : Nat} (h : i ≤ p) : borrow k (x + 2 ^ (k * p)) y i = borrow k x y i := by
  unfold borrow
  have hd : 2 ^ (k * i) ∣ 2 ^ (k * p) := Nat.pow_dvd_pow 2 (Nat.mul_le_mul_left k h)
  rw [Nat.add_mod, Nat.mod_eq_zero_of_dvd hd, Nat.add_zero, Nat.mod_mod]
theorem dg_join {k j x y t : Nat} (hx : x < 2 ^ (k * j)) : dg k (x + y * 2 ^ (k * j)) t = if t < j then dg k x t else dg k y (t - j) := by
  split
  · rename_i h
    rw [← dg_mod h, Nat.add_mul_mod_self_right, dg_mod h]
  · rename_i h
    obtain ⟨s, rfl⟩ : ∃ s, t = j + s := ⟨t - j, by omega⟩
    rw [← dg_div, Nat.add_mul_div_right _ _ (pp _), Nat.div_eq_of_lt hx, Nat.zero_add, Nat.add_sub_cancel_left]
/-- g - V's multiple, taken off, with 2^(k (n+1)) laid upon it -/
def offX (k n R y : Nat) : Nat := R + 2 ^ (k * (n + 1)) - y
theorem offX_le {k n R y : Nat} (hy : y < 2 ^ (k * (n + 1))) : y ≤ R + 2 ^ (k * (n + 1)) := by omega
theorem offX_dg {k n R y i : Nat} (hy : y < 2 ^ (k * (n + 1))) (hi : i ≤ n) : dg k (offX k n R y) i = (2 ^ k + dg k R i - dg k y i - borrow k R y i) % 2 ^ k := by
  unfold offX
  rw [sub_succ (offX_le hy), dg_high (by omega), borrow_high (by omega)]
theorem borrow_full {k n R y : Nat} (hR : R < 2 ^ (k * n)) (hy : y < 2 ^ (k * n)) : borrow k R y n = if R < y then 1 else 0 := by
  unfold borrow
  rw [Nat.mod_eq_of_lt hR, Nat.mod_eq_of_lt hy]
theorem offX_of_le {k n R y : Nat} (hR : R < 2 ^ (k * (n + 1))) (hy : y ≤ R) : offX k n R y % 2 ^ (k * (n + 1)) = R - y := by
  unfold offX
  rw [show R + 2 ^ (k * (n + 1)) - y = R - y + 2 ^ (k * (n + 1)) by omega, Nat.add_mod_right, Nat.mod_eq_of_lt (by omega)]
theorem offX_back {k n R y V : Nat} (hy : R < y) (hV : y ≤ R + V) (hb : V < 2 ^ (k * (n + 1))) : (offX k n R y + V) % 2 ^ (k * (n + 1)) = R + V - y := by
  unfold offX
  have h1 : R + V - y < 2 ^ (k * (n + 1)) := by omega
  rw [show R + 2 ^ (k * (n + 1)) - y + V = R + V - y + 2 ^ (k * (n + 1)) by omega, Nat.add_mod_right, Nat.mod_eq_of_lt h1]

/-- the guess of a digit: the divisor V = v1 B K + v2 K + vl, what is left R = two B K + u0 K + rl -/
structure Guess (B K v1 v2 vl two u0 rl V R : Nat) : Prop where
  hK : 0 < K
  hB : 2 ≤ B
  hv : B ≤ 2 * v1
  hv1 : v1 < B
  hv2 : v2 < B
  hvl : vl < K
  hu0 : u0 < B
  hrl : rl < K
  eV : V = (v1 * B + v2) * K + vl
  eR : R = (two * B + u0) * K + rl
  lt : R < B * V
namespace Guess
variable {B K v1 v2 vl two u0 rl V R g r : Nat}
theorem pos (h : Guess B K v1 v2 vl two u0 rl V R) : 0 < V := by
  have := h.lt
  rcases Nat.eq_zero_or_pos V with h0 | h0
  · rw [h0] at this; omega
  · exact h0
theorem two_le (h : Guess B K v1 v2 vl two u0 rl V R) : two ≤ v1 * B + v2 := by
  have h1 : two * B * K ≤ R := by rw [h.eR, Nat.add_mul]; omega
  have h2 : V < (v1 * B + v2 + 1) * K := by rw [h.eV, Nat.add_mul _ 1]; have := h.hvl; omega
  have h3 : two * B * K < (v1 * B + v2 + 1) * B * K := by
    calc two * B * K ≤ R := h1
      _ < B * V := h.lt
      _ ≤ B * ((v1 * B + v2 + 1) * K) := Nat.mul_le_mul_left _ (Nat.le_of_lt h2)
      _ = (v1 * B + v2 + 1) * B * K := by rw [← Nat.mul_assoc, Nat.mul_comm B]
  have h4 := Nat.lt_of_mul_lt_mul_right (Nat.lt_of_mul_lt_mul_right h3)
  omega
theorem digit_lt (h : Guess B K v1 v2 vl two u0 rl V R) : R / V < B := Nat.div_lt_of_lt_mul (by rw [Nat.mul_comm]; exact h.lt)
theorem first_le (h : Guess B K v1 v2 vl two u0 rl V R) : two / v1 ≤ B + 1 := by
  have h1 := h.two_le
  have h2 := h.hv
  have h3 := h.hv2
  have h4 := h.hB
  have h5 : two < (B + 2) * v1 := by rw [Nat.add_mul, Nat.mul_comm B]; omega
  have := Nat.div_lt_of_lt_mul (by rw [Nat.mul_comm] at h5; exact h5)
  omega
theorem first_ge (h : Guess B K v1 v2 vl two u0 rl V R) : R / V ≤ two / v1 := by
  refine Nat.le_of_not_lt fun hlt => ?_
  have hv1 : 0 < v1 := by have := h.hv; have := h.hB; omega
  have h1 : two < (R / V) * v1 := by
    have := Nat.lt_mul_of_div_lt hlt hv1
    exact this
  have h2 : (R / V) * V ≤ R := Nat.div_mul_le_self R V
  have h3 : (R / V) * (v1 * B * K) ≤ (R / V) * V := Nat.mul_le_mul_left _ (by rw [h.eV, Nat.add_mul]; omega)
  have h4 : (two + 1) * (B * K) ≤ (R / V) * v1 * (B * K) := Nat.mul_le_mul_right _ h1
  have h5 : (R / V) * v1 * (B * K) = (R / V) * (v1 * B * K) := by simp only [Nat.mul_assoc]
  have h6 : (two + 1) * (B * K) = two * B * K + B * K := by rw [Nat.add_mul, Nat.one_mul, Nat.mul_assoc]
  have h7 : R < two * B * K + B * K := by
    rw [h.eR, Nat.add_mul]
    have : u0 * K + K ≤ B * K := by rw [← Nat.succ_mul]; exact Nat.mul_le_mul_right _ h.hu0
    have := h.hrl
    omega
  omega
/-- while the test says 'too much' it is -/
theorem step_gt (h : Guess B K v1 v2 vl two u0 rl V R) (hq : R / V ≤ g) (e : two = g * v1 + r) (ht : B ≤ g ∨ r * B + u0 < g * v2) : R / V < g := by
  rcases ht with ht | ht
  · exact Nat.lt_of_lt_of_le h.digit_lt ht
  refine Nat.lt_of_le_of_ne hq fun he => ?_
  have h2 : g * V ≤ R := by rw [← he]; exact Nat.div_mul_le_self R V
  have h3 : g * V = (g * v1 * B + g * v2) * K + g * vl := by rw [h.eV, Nat.mul_add, ← Nat.mul_assoc, Nat.mul_add, ← Nat.mul_assoc]
  have h4 : (g * v1 * B + (r * B + u0) + 1) * K ≤ (g * v1 * B + g * v2) * K := Nat.mul_le_mul_right _ (by omega)
  have h5 : two * B + u0 = g * v1 * B + (r * B + u0) := by rw [e, Nat.add_mul]; omega
  have h6 := h.eR
  rw [h5] at h6
  rw [Nat.add_mul _ 1, Nat.one_mul] at h4
  have := h.hrl
  omega
/-- where it says 'no more' it is at most one too much -/
theorem stop_le (h : Guess B K v1 v2 vl two u0 rl V R) (e : two = g * v1 + r) (hg : g < B) (ht : g * v2 ≤ r * B + u0) : g ≤ R / V + 1 := by
  rcases Nat.eq_zero_or_pos g with h0 | h0
  · rw [h0]; exact Nat.zero_le _
  have h3 : g * V = (g * v1 * B + g * v2) * K + g * vl := by rw [h.eV, Nat.mul_add, ← Nat.mul_assoc, Nat.mul_add, ← Nat.mul_assoc]
  have h4 : (g * v1 * B + g * v2) * K ≤ (g * v1 * B + (r * B + u0)) * K := Nat.mul_le_mul_right _ (by omega)
  have h5 : two * B + u0 = g * v1 * B + (r * B + u0) := by rw [e, Nat.add_mul]; omega
  have h6 := h.eR
  rw [h5] at h6
  have h7 : g * vl < g * K := Nat.mul_lt_mul_of_pos_left h.hvl h0
  have h8 : g * K ≤ V := by
    rw [h.eV]
    have : g * K ≤ (v1 * B + v2) * K := Nat.mul_le_mul_right _ (by
      have : 1 * B ≤ v1 * B := Nat.mul_le_mul_right _ (by have := h.hv; have := h.hB; omega)
      omega)
    omega
  have h9 : (g - 1) * V ≤ R := by
    have : g * V = (g - 1) * V + V := by
      obtain ⟨p, rfl⟩ : ∃ p, g = p + 1 := ⟨g - 1, by omega⟩
      rw [Nat.add_mul, Nat.one_mul]; rfl
    omega
  have := (Nat.le_div_iff_mul_le h.pos).2 h9
  omega
/-- what is left of the two digits is no digit: no test is wanted -/
theorem stop_of_rest (h : Guess B K v1 v2 vl two u0 rl V R) (e : two = g * v1 + r) (hr : B ≤ r) : g < B ∧ g * v2 ≤ r * B + u0 := by
  have h1 := h.two_le
  have h2 := h.hv2
  have hg : g < B := by
    refine Nat.lt_of_not_le fun hle => ?_
    have : B * v1 ≤ g * v1 := Nat.mul_le_mul_right _ hle
    rw [Nat.mul_comm] at this
    omega
  refine ⟨hg, ?_⟩
  have h3 : g * v2 ≤ B * B := Nat.mul_le_mul (Nat.le_of_lt hg) (Nat.le_of_lt h2)
  have h4 : B * B ≤ r * B := Nat.mul_le_mul_right _ hr
  omega
end Guess

/-- the numbers A and V; what is left when the digits from j on are done -/
def rem' (A V j : Nat) : Nat := A % (V * 2 ^ (32 * j))
theorem rem_digit (A V j : Nat) : rem' A V (j + 1) / 2 ^ (32 * j) / V = dg 32 (A / V) j := by
  unfold rem' dg
  rw [pstep, ← Nat.mul_assoc, Nat.div_div_eq_div_mul, Nat.mul_comm (2 ^ (32 * j)) V, Nat.mod_mul_right_div_self, Nat.div_div_eq_div_mul]
theorem rem_next (A V j : Nat) : rem' A V j = rem' A V (j + 1) - rem' A V (j + 1) / 2 ^ (32 * j) / V * V * 2 ^ (32 * j) := by
  have h : rem' A V j = rem' A V (j + 1) % (V * 2 ^ (32 * j)) := by
    unfold rem'
    rw [Nat.mod_mod_of_dvd]
    rw [pstep, ← Nat.mul_assoc]
    exact Nat.dvd_mul_right _ _
  rw [h, Nat.mod_eq_sub_mul_div, Nat.div_div_eq_div_mul, Nat.mul_comm (2 ^ (32 * j)) V]
  congr 1
  rw [Nat.mul_comm, Nat.mul_assoc]
theorem rem_lt (A V j : Nat) (hV : 0 < V) : rem' A V (j + 1) / 2 ^ (32 * j) < 2 ^ 32 * V := by
  refine Nat.div_lt_of_lt_mul ?_
  refine Nat.lt_of_lt_of_le (Nat.mod_lt _ (Nat.mul_pos hV (pp _))) (Nat.le_of_eq ?_)
  rw [pstep, ← Nat.mul_assoc, Nat.mul_comm (2 ^ (32 * j)), Nat.mul_comm (2 ^ 32), Nat.mul_right_comm]
theorem rem_split (U j q V : Nat) (h : q * V ≤ U / 2 ^ (32 * j)) : U % 2 ^ (32 * j) + (U / 2 ^ (32 * j) - q * V) * 2 ^ (32 * j) = U - q * V * 2 ^ (32 * j) := by
  have h1 := Nat.mod_add_div U (2 ^ (32 * j))
  rw [Nat.mul_comm (2 ^ (32 * j))] at h1
  rw [Nat.sub_mul]
  have h2 : q * V * 2 ^ (32 * j) ≤ U / 2 ^ (32 * j) * 2 ^ (32 * j) := Nat.mul_le_mul_right _ h
  omega
theorem rem_zero (A V : Nat) : rem' A V 0 = A % V := by simp [rem']
theorem norm_mod (a b s : Nat) : a * 2 ^ s % (b * 2 ^ s) / 2 ^ s = a % b := by
  rw [Nat.mul_mod_mul_right, Nat.mul_div_cancel _ (pp s)]
theorem norm_div (a b s : Nat) : a * 2 ^ s / (b * 2 ^ s) = a / b := Nat.mul_div_mul_right _ _ (pp s)
/-- the divisor, shifted so that its highest bit is 1 -/
theorem norm_top {b n s : Nat} (hb : b ≠ 0) (hn : n = dn 32 b) (hs : s = 32 - bl (dg 32 b (n - 1))) : 2 ^ (32 * n) ≤ 2 * (b * 2 ^ s) ∧ b * 2 ^ s < 2 ^ (32 * n) ∧ s < 32 := by
  have hd : dg 32 b (n - 1) ≠ 0 := by rw [hn]; exact dg_top (by omega) hb
  have hlt : dg 32 b (n - 1) < 2 ^ 32 := dg_lt 32 b (n - 1)
  have h1 := bl_le hlt
  have h2 : bl (dg 32 b (n - 1)) ≠ 0 := fun h => hd (by unfold bl at h; split at h <;> omega)
  have hbl := bl_dn (k := 32) (by omega) hb
  rw [← hn] at hbl
  have hnp : 0 < n := by rw [hn]; exact dn_pos hb
  have e : bl b + s = 32 * n := by omega
  have h3 := lt_bl b
  have h4 := le_bl hb
  refine ⟨?_, ?_, by omega⟩
  · have : 2 ^ (32 * n) = 2 * (2 ^ (bl b - 1) * 2 ^ s) := by rw [← Nat.pow_add, ← Nat.pow_succ']; congr 1; omega
    rw [this]
    exact Nat.mul_le_mul_left _ (Nat.mul_le_mul_right _ h4)
  · calc b * 2 ^ s < 2 ^ bl b * 2 ^ s := Nat.mul_lt_mul_of_pos_right h3 (pp _)
      _ = 2 ^ (32 * n) := by rw [← Nat.pow_add, e]
/-- two digits, and what lies below -/
theorem top_two {V n : Nat} (hn : 2 ≤ n) (h : V < 2 ^ (32 * n)) : V = (dg 32 V (n - 1) * 2 ^ 32 + dg 32 V (n - 2)) * 2 ^ (32 * (n - 2)) + V % 2 ^ (32 * (n - 2)) := by
  have h1 := dg_succ 32 V (n - 1)
  have h2 := dg_succ 32 V (n - 2)
  rw [show n - 1 + 1 = n by omega, Nat.mod_eq_of_lt h] at h1
  rw [show n - 2 + 1 = n - 1 by omega] at h2
  have h3 : 2 ^ (32 * (n - 1)) = 2 ^ 32 * 2 ^ (32 * (n - 2)) := by rw [← Nat.pow_add]; congr 1; omega
  rw [h3] at h1
  rw [Nat.add_mul, Nat.mul_assoc, Nat.add_assoc, ← h2, ← h3]
  rw [← h3] at h1
  exact h1
theorem top_three {R n : Nat} (hn : 2 ≤ n) (h : R < 2 ^ (32 * (n + 1))) : R = ((dg 32 R n * 2 ^ 32 + dg 32 R (n - 1)) * 2 ^ 32 + dg 32 R (n - 2)) * 2 ^ (32 * (n - 2)) + R % 2 ^ (32 * (n - 2)) := by
  have h1 := dg_succ 32 R n
  rw [Nat.mod_eq_of_lt h] at h1
  have h2 := top_two (V := R % 2 ^ (32 * n)) hn (Nat.mod_lt _ (pp _))
  rw [dg_mod (by omega), dg_mod (by omega), Nat.mod_mod_of_dvd _ (Nat.pow_dvd_pow 2 (by omega))] at h2
  have h3 : 2 ^ (32 * n) = 2 ^ 32 * 2 ^ 32 * 2 ^ (32 * (n - 2)) := by rw [← Nat.pow_add, ← Nat.pow_add]; congr 1; omega
  rw [h2, h3] at h1
  rw [Nat.add_mul, Nat.add_mul, Nat.add_mul]
  rw [Nat.add_mul] at h1
  simp only [Nat.mul_assoc] at h1 ⊢
  omega
theorem guess_of {R V n : Nat} (hn : 2 ≤ n) (hV : V < 2 ^ (32 * n)) (ht : 2 ^ (32 * n) ≤ 2 * V) (hR : R < 2 ^ 32 * V) :
    Guess (2 ^ 32) (2 ^ (32 * (n - 2))) (dg 32 V (n - 1)) (dg 32 V (n - 2)) (V % 2 ^ (32 * (n - 2))) (dg 32 R n * 2 ^ 32 + dg 32 R (n - 1)) (dg 32 R (n - 2)) (R % 2 ^ (32 * (n - 2))) V R where
  hK := pp _
  hB := by decide
  hv1 := dg_lt 32 V (n - 1)
  hv2 := dg_lt 32 V (n - 2)
  hvl := Nat.mod_lt _ (pp _)
  hu0 := dg_lt 32 R (n - 2)
  hrl := Nat.mod_lt _ (pp _)
  eV := top_two hn hV
  eR := top_three hn (Nat.lt_of_lt_of_le hR (by rw [pstep, Nat.mul_comm]; exact Nat.mul_le_mul_right _ (Nat.le_of_lt hV)))
  lt := hR
  hv := by
    have hd : dg 32 V (n - 1) = V / 2 ^ (32 * (n - 1)) := dg_div_eq (by rw [show n - 1 + 1 = n by omega]; exact hV)
    rw [hd]
    have h1 : 2 ^ (32 * n) = 2 * (2 ^ 31 * 2 ^ (32 * (n - 1))) := by rw [← Nat.pow_add, ← Nat.pow_succ']; congr 1; omega
    rw [h1] at ht
    have h2 : 2 ^ 31 * 2 ^ (32 * (n - 1)) ≤ V := by omega
    have := (Nat.le_div_iff_mul_le (pp (32 * (n - 1)))).2 h2
    omega
theorem start_lt {a b n l s : Nat} (ha : a < 2 ^ (32 * l)) (hnl : n ≤ l + 1) (hs : s < 32) (ht : 2 ^ (32 * n) ≤ 2 * (b * 2 ^ s)) : a * 2 ^ s < b * 2 ^ s * 2 ^ (32 * (l + 1 - n)) := by
  have h1 : a * 2 ^ s < 2 ^ (32 * l) * 2 ^ 31 := by
    calc a * 2 ^ s < 2 ^ (32 * l) * 2 ^ s := Nat.mul_lt_mul_of_pos_right ha (pp _)
      _ ≤ _ := Nat.mul_le_mul_left _ (pmono (by omega))
  have h2 : 2 * (2 ^ (32 * l) * 2 ^ 31) = 2 ^ (32 * n) * 2 ^ (32 * (l + 1 - n)) := by rw [← Nat.pow_add, ← Nat.pow_succ', ← Nat.pow_add]; congr 1; omega
  have h3 := Nat.mul_le_mul_right (2 ^ (32 * (l + 1 - n))) ht
  rw [Nat.mul_assoc 2] at h3
  omega
end Go.Proofs.YtbhfnigblhfikaaGreatDoor

/- Division by one digit, and decimal digits, in plain Lean. -/
namespace Go.Proofs.YtbhfnigblhfikaaGreatDoor
open Fil

/-- what is left of the digits above place i -/
def sr (x b i : Nat) : Nat := x / 2 ^ (32 * i) % b
theorem sr_top {x b n : Nat} (h : x < 2 ^ (32 * n)) : sr x b n = 0 := by unfold sr; rw [Nat.div_eq_of_lt h, Nat.zero_mod]
theorem sr_zero (x b : Nat) : sr x b 0 = x % b := by simp [sr]
theorem short_cur (x i : Nat) : x / 2 ^ (32 * i) = x / 2 ^ (32 * (i + 1)) * 2 ^ 32 + dg 32 x i := div_step 32 x i
theorem sr_step (x b i : Nat) : (sr x b (i + 1) * 2 ^ 32 + dg 32 x i) % b = sr x b i := by
  unfold sr
  rw [short_cur x i, Nat.add_mod, Nat.mod_mul_mod, ← Nat.add_mod]
theorem sr_dg {b : Nat} (x i : Nat) (hb : 0 < b) : (sr x b (i + 1) * 2 ^ 32 + dg 32 x i) / b = dg 32 (x / b) i := by
  have h1 : x / 2 ^ (32 * i) = b * (x / 2 ^ (32 * (i + 1)) / b * 2 ^ 32) + (sr x b (i + 1) * 2 ^ 32 + dg 32 x i) := by
    rw [short_cur x i]
    have h := Nat.div_add_mod (x / 2 ^ (32 * (i + 1))) b
    unfold sr
    rw [← Nat.mul_assoc, ← Nat.add_assoc, ← Nat.add_mul, h]
  have h2 : (sr x b (i + 1) * 2 ^ 32 + dg 32 x i) / b < 2 ^ 32 := by
    refine Nat.div_lt_of_lt_mul ?_
    have h3 : sr x b (i + 1) < b := Nat.mod_lt _ hb
    have h4 : dg 32 x i < 2 ^ 32 := dg_lt 32 x i
    have h5 : (sr x b (i + 1) + 1) * 2 ^ 32 ≤ b * 2 ^ 32 := Nat.mul_le_mul_right _ h3
    rw [Nat.add_mul] at h5
    omega
  have h6 : x / b / 2 ^ (32 * i) = x / 2 ^ (32 * (i + 1)) / b * 2 ^ 32 + (sr x b (i + 1) * 2 ^ 32 + dg 32 x i) / b := by
    rw [Nat.div_div_eq_div_mul, Nat.mul_comm, ← Nat.div_div_eq_div_mul, h1, Nat.mul_add_div hb]
  unfold dg
  unfold dg at h6 h2
  rw [h6, Nat.mul_add_mod_self_right, Nat.mod_eq_of_lt h2]
theorem sr_lt {b : Nat} (x i : Nat) (hb : 0 < b) : sr x b i < b := Nat.mod_lt _ hb
theorem short_bound {x b n : Nat} (h : x < 2 ^ (32 * n)) : x / b < 2 ^ (32 * n) := Nat.lt_of_le_of_lt (Nat.div_le_self _ _) h

/-- a number's decimal digits as signs, the lowest first; none of 0 -/
def decs (x : Nat) : List UInt8 := if h : x = 0 then [] else UInt8.ofNat (48 + x % 10) :: decs (x / 10)
termination_by x
decreasing_by omega
theorem decs_zero : decs 0 = [] := by unfold decs; simp
theorem decs_pos {x : Nat} (h : x ≠ 0) : decs x = UInt8.ofNat (48 + x % 10) :: decs (x / 10) := by rw [decs, dif_neg h]
/-- a number's text -/
def dtx (x : Nat) : List UInt8 := if x = 0 then [48] else (decs x).reverse
theorem decs_length_le : ∀ (n x : Nat), x < 10 ^ n → (decs x).length ≤ n
  | 0, x, h => by have : x = 0 := by simpa using h
                  subst this; simp [decs_zero]
  | n + 1, x, h => by
    by_cases h0 : x = 0
    · subst h0; simp [decs_zero]
    · rw [decs_pos h0, List.length_cons]
      have := decs_length_le n (x / 10) (Nat.div_lt_of_lt_mul (by rw [Nat.pow_succ, Nat.mul_comm] at h; exact h))
      omega
/-- the inner loop: d above nine digits, r what is left of nine, i of them done -/
def grp (d r i : Nat) : Nat := d * 10 ^ (9 - i) + r
theorem grp_zero_iff (d r i : Nat) : grp d r i = 0 ↔ d = 0 ∧ r = 0 := by
  unfold grp
  have := Nat.pow_pos (a := 10) (n := 9 - i) (by omega)
  constructor
  · intro h
    rcases Nat.eq_zero_or_pos d with h0 | h0
    · exact ⟨h0, by omega⟩
    · have := Nat.mul_le_mul h0 this; omega
  · rintro ⟨rfl, rfl⟩; simp
theorem grp_step {d r i : Nat} (hi : i < 9) (hne : grp d r i ≠ 0) : decs (grp d r i) = UInt8.ofNat (48 + r % 10) :: decs (grp d (r / 10) (i + 1)) := by
  have h : d * 10 ^ (9 - i) = 10 * (d * 10 ^ (9 - (i + 1))) := by rw [show 9 - i = (9 - (i + 1)) + 1 by omega, Nat.pow_succ, ← Nat.mul_assoc, Nat.mul_comm 10]
  have h1 : grp d r i % 10 = r % 10 := by unfold grp; omega
  have h2 : grp d r i / 10 = grp d (r / 10) (i + 1) := by unfold grp; omega
  rw [decs_pos hne, h1, h2]
theorem grp_start (x : Nat) : grp (x / 1000000000) (x % 1000000000) 0 = x := by
  unfold grp
  have := Nat.div_add_mod x 1000000000
  omega
theorem grp_nine {d r : Nat} (hr : r < 10 ^ (9 - 9)) : grp d r 9 = d := by unfold grp; simp at hr; simp [hr]
theorem grp_rest {r i : Nat} (hi : i < 9) (h : r < 10 ^ (9 - i)) : r / 10 < 10 ^ (9 - (i + 1)) := by
  rw [show 9 - i = (9 - (i + 1)) + 1 by omega, Nat.pow_succ, Nat.mul_comm] at h
  exact Nat.div_lt_of_lt_mul h

/-- the number that decimal signs spell, on top of n -/
def dval (n : Nat) (l : List UInt8) : Nat := l.foldl (fun n c => 10 * n + (c.toNat - 48)) n
theorem dval_nil (n : Nat) : dval n [] = n := by unfold dval; rw [List.foldl_nil]
theorem dval_cons (n : Nat) (c : UInt8) (r : List UInt8) : dval n (c :: r) = dval (10 * n + (c.toNat - 48)) r := by unfold dval; rw [List.foldl_cons]
theorem dval_append (l m : List UInt8) (n : Nat) : dval n (l ++ m) = dval (dval n l) m := List.foldl_append
theorem dval_add : ∀ (l : List UInt8) (n : Nat), dval n l = n * 10 ^ l.length + dval 0 l
  | [], n => by simp [dval_nil]
  | c :: r, n => by
    rw [dval_cons, dval_add r, dval_cons, dval_add r (10 * 0 + (c.toNat - 48)), List.length_cons, Nat.pow_succ]
    rw [Nat.add_mul, Nat.mul_zero, Nat.zero_add]
    have : 10 * n * 10 ^ r.length = n * (10 ^ r.length * 10) := by rw [Nat.mul_comm 10 n, Nat.mul_assoc, Nat.mul_comm 10]
    omega
/-- decimal signs -/
def isDec (c : UInt8) : Bool := decide (48 ≤ c.toNat ∧ c.toNat ≤ 57)
def allDec (l : List UInt8) : Prop := ∀ c ∈ l, isDec c = true
theorem dval_lt : ∀ (l : List UInt8), allDec l → dval 0 l < 10 ^ l.length
  | [], _ => by simp [dval_nil]
  | c :: r, h => by
    rw [dval_cons, dval_add, List.length_cons, Nat.pow_succ]
    have h1 := dval_lt r fun d hd => h d (List.mem_cons_of_mem _ hd)
    have h2 := h c (List.mem_cons_self ..)
    unfold isDec at h2
    have h2 := of_decide_eq_true h2
    have h3 : (10 * 0 + (c.toNat - 48)) * 10 ^ r.length ≤ 9 * 10 ^ r.length := Nat.mul_le_mul_right _ (by omega)
    omega
theorem u8_of_lt {n : Nat} (h : n < 256) : (UInt8.ofNat n).toNat = n := by simp [Nat.mod_eq_of_lt h]
/-- no 0 ahead of others -/
def bare (l : List UInt8) : Prop := l ≠ [] ∧ (l.head? = some 48 → l.length = 1)
end Go.Proofs.YtbhfnigblhfikaaGreatDoor

/- Fractions in lowest terms, in plain Lean. -/
namespace Go.Proofs.YtbhfnigblhfikaaGreatDoor
open Fil

theorem norm_num (p q : Int) (hq : q ≠ 0) : sz (!(sg p == sg q)) (p.natAbs / Nat.gcd p.natAbs q.natAbs) = (Rat.divInt p q).num := by
  rw [Rat.num_divInt, show q.gcd p = Nat.gcd p.natAbs q.natAbs from Nat.gcd_comm _ _]
  have hG : 0 < Nat.gcd p.natAbs q.natAbs := Nat.gcd_pos_of_pos_right _ (by omega)
  obtain ⟨t, ht⟩ := Nat.gcd_dvd_left p.natAbs q.natAbs
  generalize Nat.gcd p.natAbs q.natAbs = G at *
  rw [ht, Nat.mul_div_cancel_left t hG]
  have hG' : (G : Int) ≠ 0 := by omega
  have e : ((p.natAbs : Nat) : Int) = (G : Int) * t := by rw [ht]; simp
  unfold sz sg
  rcases Int.lt_trichotomy q 0 with h | h | h
  · rw [Int.sign_eq_neg_one_of_neg h]
    by_cases hp : p < 0
    · rw [show -1 * p = (G : Int) * t by omega, Int.mul_ediv_cancel_left _ hG']
      simp [h, hp]
    · rw [show -1 * p = (G : Int) * (-t) by rw [Int.mul_neg]; omega, Int.mul_ediv_cancel_left _ hG']
      simp [h, hp]
  · exact absurd h hq
  · rw [Int.sign_eq_one_of_pos h]
    by_cases hp : p < 0
    · rw [show 1 * p = (G : Int) * (-t) by rw [Int.mul_neg]; omega, Int.mul_ediv_cancel_left _ hG']
      simp [hp, show ¬ q < 0 by omega]
    · rw [show 1 * p = (G : Int) * t by omega, Int.mul_ediv_cancel_left _ hG']
      simp [hp, show ¬ q < 0 by omega]
theorem norm_den (p q : Int) (hq : q ≠ 0) : q.natAbs / Nat.gcd p.natAbs q.natAbs = (Rat.divInt p q).den := by
  rw [Rat.den_divInt, if_neg hq, show q.gcd p = Nat.gcd p.natAbs q.natAbs from Nat.gcd_comm _ _]
theorem divInt_add (x y : Rat) : Rat.divInt (x.num * (y.den : Int) + y.num * (x.den : Int)) ((x.den : Int) * (y.den : Int)) = x + y := by
  rw [Rat.add_def', ← Rat.divInt_ofNat]; simp
theorem divInt_mul (x y : Rat) : Rat.divInt (x.num * y.num) ((x.den : Int) * (y.den : Int)) = x * y := by
  rw [Rat.mul_def', ← Rat.divInt_ofNat]; simp
def cmpR (x y : Rat) : Int := if x < y then -1 else if y < x then 1 else 0
theorem cmpR_eq (x y : Rat) : cmpI (x.num * (y.den : Int)) (y.num * (x.den : Int)) = cmpR x y := by
  unfold cmpI cmpR
  simp only [Rat.lt_iff]
theorem den_ne (x : Rat) : (x.den : Int) ≠ 0 := by have := x.den_nz; omega
theorem reduced' (x : Rat) : Nat.gcd x.num.natAbs x.den = 1 := x.reduced
/-- a Rat of a sign, a number and another one without a common divisor -/
theorem rat_of (neg : Bool) (n d : Nat) (hd : d ≠ 0) (hc : Nat.gcd n d = 1) (hn : n = 0 → neg = false) : ∃ r : Rat, r.num = sz neg n ∧ r.den = d ∧ r.num.natAbs = n ∧ sg r.num = neg := by
  refine ⟨⟨sz neg n, d, hd, by rw [Nat.Coprime, sz_abs]; exact hc⟩, rfl, rfl, sz_abs _ _, ?_⟩
  simp only [sg, sz]
  cases neg
  · simp
  · have : n ≠ 0 := fun h => by simpa using hn h
    simp; omega
end Go.Proofs.YtbhfnigblhfikaaGreatDoor

/- The walks over wide's digits: short, LeadingZeros32. -/
namespace Go.Proofs.YtbhfnigblhfikaaGreatDoor
open Go Go.RowKit Fil

/-- a row of digits of which those from place k on are laid -/
def dwn (x k j : Nat) : Value := if k ≤ j then d32 x j else .int .u32 0
theorem dwn_step {x k j : Nat} {v : Value} (hv : v = d32 x k) : (if j = k then v else dwn x (k + 1) j) = dwn x k j := by
  unfold dwn
  by_cases e : j = k
  · subst e; rw [if_pos rfl, if_pos (Nat.le_refl _), hv]
  · rw [if_neg e]
    by_cases h : k + 1 ≤ j
    · rw [if_pos h, if_pos (by omega)]
    · rw [if_neg h, if_neg (by omega)]
theorem dwn_all (x j : Nat) : dwn x 0 j = d32 x j := by unfold dwn; rw [if_pos (Nat.zero_le _)]
theorem short_or {c d : Nat} (hc : c < 4294967296) (hd : d < 4294967296) : bits BinOp.or IntKind.u64 ((c : Int) * 4294967296) (d : Int) = ((c * 2 ^ 32 + d : Nat) : Int) := by
  have h := u64_or_nat (c * 4294967296) d (by omega) (by omega)
  rw [or_low hd] at h
  have e : (c : Int) * 4294967296 = ((c * 4294967296 : Nat) : Int) := by omega
  rw [e]
  exact h

set_option maxHeartbeats 2000000 in
theorem short_any (A : Option Addr) (n c x b : Nat) (w : World) (hn : n = dn 32 x) (hc : n ≤ 1099511627776) (hb : 0 < b) (hb2 : b < 4294967296) (ha : Slc w 112 A n (d32 x)) :
    Calls Tryz.prog 78 #[.slice A n c, .int .u32 b] w fun e w' => ∃ A' c', e = .returned (.tuple #[.slice A' (dn 32 (x / b)) c', .int .u32 ((x % b : Nat) : Int)]) ∧ dn 32 (x / b) ≤ c' ∧ Slc w' 112 A' (dn 32 (x / b)) (d32 (x / b)) ∧ Below w.heap.size w w' := by
  have hx := lt_dn (k := 32) (by omega) x
  rw [← hn] at hx
  have Hx := Lib.hid hx
  clear hn hx
  have hb0 : ¬ (b : Int) = 0 := by omega
  have hmk := run_make_row' (P := Tryz.prog) 56 112 (.int .u32 0) 4 Tryz.underlying56 Tryz.info112 rfl .i64 .i64 n (by omega) (by omega)
  go_enter Tryz.func78, Tryz.ntmps78
  go_wp2
  clear hmk
  go_loopg [7, 8] n (fun g s7 s8 wr => g ≤ n ∧ s7 = .int .u64 (sr x b g : Nat) ∧ s8 = .int .i64 ((g : Int) - 1) ∧ wr.rowIs w.heap.size 112 n (dwn (x / b) g) ∧ Below w.heap.size w wr)
  case atStart => exact ⟨Nat.le_refl _, by rw [sr_top Hx.out]; rfl, rfl, (World.rowIs_made w _ n 112).congr (fun j hj => by unfold dwn; rw [if_neg (by omega)]), (Below.refl _ _).alloc (Nat.le_refl _) _⟩
  case round =>
    obtain ⟨hg, rfl, rfl, hrow, hbel⟩ := hrel
    cases gk with
    | zero =>
      have hxb := Lib.hid (short_bound (b := b) Hx.out)
      have hrow' := hrow.congr (g := d32 (x / b)) (fun j _ => dwn_all _ _)
      have ez := sr_zero x b
      have hlt : x % b < 4294967296 := Nat.lt_trans (Nat.mod_lt _ hb) hb2
      rw [ez]
      clear hrow ez
      obtain ⟨rr, hrr⟩ : ∃ rr, rr = x % b := ⟨_, rfl⟩
      rw [← hrr]
      rw [← hrr] at hlt
      have Hrr := Lib.hid hrr
      clear hrr
      go_wp2_with (go_at_call 77; go_must (refine (cut_any _ n n (x / b) _ hxb.out (by omega) (by omega) (Slc.of_row hrow' (by omega))).mono ?_); rintro e w' ⟨rfl, rfl⟩)
      have hle := dn_le (k := 32) (by omega) hxb.out
      exact bodyPost_ret (v := .tuple #[.slice (some ⟨w.heap.size, 0, none⟩) (dn 32 (x / b)) n, .int .u32 (rr : Int)]) (by simp [results, Tryz.results78, go_sem]) rfl ⟨_, _, by rw [Hrr.out], hle, Slc.of_row hrow' hle, hbel⟩
    | succ g =>
      obtain ⟨b1, o1, rfl, _, hc1⟩ := (ha.below hbel).cell (by omega)
      have k1 := hc1 g (by omega)
      simp only [d32] at k1
      have hdx : dg 32 x g < 4294967296 := dg_lt 32 x g
      have hsr := sr_lt x (g + 1) hb
      have k2 := hrow.cell (i := g) (by omega)
      have k3 := hrow.frozen g
      have e1 : ((g + 1 : Nat) : Int) - 1 = g := by omega
      have e2 : (0 : Int) ≤ g := by omega
      have e3 : (g : Int) < n := by omega
      have h1 := Lib.hid (sr_step x b g)
      have h2 := Lib.hid (sr_dg x g hb)
      have hor := short_or (c := sr x b (g + 1)) (d := dg 32 x g) (by omega) hdx
      rw [e1]
      generalize sr x b (g + 1) = s at *
      have hT : s * 2 ^ 32 + dg 32 x g < 18446744073709551616 := by omega
      generalize hTd : s * 2 ^ 32 + dg 32 x g = T at *
      have hsl : s < 4294967296 := by omega
      have hq := dg_lt 32 (x / b) g
      rw [← h2.out] at hq
      have hr := Nat.mod_lt T hb
      have eq1 : (T : Int) / (b : Int) = ((T / b : Nat) : Int) := by simp
      have er1 : (T : Int) % (b : Int) = ((T % b : Nat) : Int) := by simp
      have hq2 : T / b < 4294967296 := hq
      clear hc1 e1 hTd hq
      generalize T / b = Q at *
      generalize T % b = R at *
      go_wp2
      go_roundg g
      case measure => omega
      case rel =>
        refine ⟨by omega, ?_, by go_num, (hrow.set g _).congr (fun j _ => dwn_step ?_), hbel.setCell (Nat.le_refl _) _⟩
        · rw [← h1.out]; go_num
        · rw [d32, ← h2.out]
end Go.Proofs.YtbhfnigblhfikaaGreatDoor

/- The walks over wide's digits: over, where the divisor has two digits or more. -/
namespace Go.Proofs.YtbhfnigblhfikaaGreatDoor
open Go Go.RowKit Fil

/-- a slice copied to the head of a row -/
theorem wpList_copy_slc {P : Program} {w : World} {ops : Array Oper} {rest : List Oper} {o : Oper} {a : Act} {Q : Exit → Act → World → Prop} (hgd : o.guard = none) (d s : Operand) (dT sT : TypeId)
    (ho : o.op = .call { callee := .builtin .copy, args := #[d, s], argTypes := #[dT, sT] }) (elem : TypeId) (hu : P.underlying dT = some (.slice elem)) (hsz : (P.info? elem).map (·.size) = some 1)
    (g dLen dCap : Nat) (sp : Option Addr) (sLen sCap : Nat) (hd : a.eval d = .slice (some ⟨g, 0, none⟩) dLen dCap) (hs : a.eval s = .slice sp sLen sCap)
    (f f' : Nat → Value) (t : TypeId) (hg : w.rowIs g t dLen f) (hsrc : Slc w t sp sLen f') (hle : sLen ≤ dLen) (h1 : ∀ j, (f' j).oneCell' = true) (B : Nat) (w0 : World) (hb : Below B w0 w) (hBg : B ≤ g)
    (h : ∀ w', w'.rowIs g t dLen (fun j => if j < sLen then f' j else f j) → Below B w0 w' → wpList P ops Q rest (a.put o.dst (goInt sLen)) w') :
    wpList P ops Q (o :: rest) a w := by
  obtain ⟨c, hc, hcs, hcc⟩ := hg
  have hlen : ((List.range sLen).map f').length = sLen := by simp
  refine wpList_copy_splice hgd d s dT sT ho elem hu hsz (some ⟨g, 0, none⟩) sp dLen dCap sLen sCap hd hs g 0 c.toList t hc ((List.range sLen).map f') (by rw [hlen]; exact (Nat.min_eq_left hle).symm)
    (fun hp => ?_) (by rw [hlen]; simp [hcs]; omega) (fun v hv => ?_) B w0 hb hBg (fun w' hw' hb' => ?_)
  · rw [hlen] at hp
    obtain ⟨b, o, cs, fz, rfl, hbb, hbc⟩ := hsrc hp
    refine ⟨rfl, _, rfl, fun j v hv => ?_⟩
    have hj : j < sLen := by have := (List.getElem?_eq_some_iff.1 hv).1; rwa [hlen] at this
    have e : f' j = v := by simpa [hj] using hv
    subst e
    rw [Addr.add_mid]
    simp [World.cell?, hbb, hbc j hj]
  · obtain ⟨j, _, rfl⟩ := List.mem_map.1 hv; exact h1 j
  · have hw2 : w'.heap[g]? = some (.cells (splice c.toList 0 ((List.range sLen).map f')).toArray t (0, 0)) := hw'
    rw [show goInt ((List.range sLen).map f').length = goInt sLen by rw [hlen]] at *
    refine h w' ⟨_, hw2, ?_, fun j hj => ?_⟩ hb'
    · simp [splice, hcs]; omega
    · simp only [splice, List.take_zero, List.nil_append, Nat.zero_add, hlen, List.getElem?_toArray]
      by_cases hjs : j < sLen
      · rw [List.getElem?_append_left (by simpa using hjs), if_pos hjs]
        simp [hjs]
      · rw [List.getElem?_append_right (by simpa using Nat.le_of_not_lt hjs), if_neg hjs, List.getElem?_drop, hlen, show sLen + (j - sLen) = j by omega]
        exact (by simpa using hcc j hj)

theorem lz32_any (x s : Nat) (w : World) (h : x < 4294967296) (hs : s = 32 - bl x) : Calls Tryz.prog 92 #[.int .u32 x] w fun e w' => e = .returned (.int .i64 s) ∧ w = w' := by
  have hb : bl x ≤ 32 := bl_le (n := 32) h
  go_enter Tryz.func92, Tryz.ntmps92
  go_wp2_with (go_at_call 101; go_must (refine (len32_any x _ h).mono ?_); rintro e w' ⟨rfl, rfl⟩)
  go_ret
  exact ⟨ret_int (by omega), rfl⟩
/-- what over gives -/
def OverR (w w' : World) (x y : Nat) (e : Ending) : Prop :=
  ∃ A1 c1 A2 c2, e = .returned (.tuple #[.slice A1 (dn 32 (x / y)) c1, .slice A2 (dn 32 (x % y)) c2]) ∧ Dig w' A1 (dn 32 (x / y)) c1 (x / y) ∧ Dig w' A2 (dn 32 (x % y)) c2 (x % y) ∧ Below w.heap.size w w'
theorem cmpZ_not_lt {x y : Nat} (h : y ≤ x) : decide (cmpZ x y < 0) = false := by
  unfold cmpZ; rw [if_neg (by omega)]; split <;> rfl

/-- a row, of which i digits from place g on are those of Y -/
def midr (f : Nat → Value) (Y g i j : Nat) : Value := if g ≤ j ∧ j < g + i then d32 Y (j - g) else f j
theorem midr_zero (f : Nat → Value) (Y g j : Nat) : midr f Y g 0 j = f j := by unfold midr; rw [if_neg (by omega)]
theorem midr_step {f : Nat → Value} {Y g i j : Nat} {v : Value} (hv : v = d32 Y i) : (if j = i + g then v else midr f Y g i j) = midr f Y g (i + 1) j := by
  unfold midr
  by_cases e : j = i + g
  · subst e; rw [if_pos rfl, if_pos (by omega), hv, Nat.add_sub_cancel]
  · rw [if_neg e]
    by_cases h : g ≤ j ∧ j < g + i
    · rw [if_pos h, if_pos (by omega)]
    · rw [if_neg h, if_neg (by omega)]
theorem midr_at {f : Nat → Value} {Y g i : Nat} : midr f Y g i (i + g) = f (i + g) := by unfold midr; rw [if_neg (by omega)]
theorem midr_in {f : Nat → Value} {Y g i n : Nat} (h : i < n) : midr f Y g n (i + g) = d32 Y i := by unfold midr; rw [if_pos (by omega), Nat.add_sub_cancel]
theorem mid_done {U Y g n Z : Nat} (hU : U < 2 ^ (32 * (g + n))) (hZ : Z = U % 2 ^ (32 * g) + Y % 2 ^ (32 * n) * 2 ^ (32 * g)) (j : Nat) : midr (d32 U) Y g n j = d32 Z j := by
  have h := dg_join (k := 32) (j := g) (x := U % 2 ^ (32 * g)) (y := Y % 2 ^ (32 * n)) (t := j) (Nat.mod_lt _ (pp _))
  rw [hZ]
  unfold midr
  by_cases h1 : j < g
  · rw [if_neg (by omega), d32, d32, h, if_pos h1, dg_mod h1]
  · rw [if_neg h1] at h
    by_cases h2 : j < g + n
    · rw [if_pos (by omega), d32, d32, h, dg_mod (by omega)]
    · rw [if_neg (by omega), d32, d32, h]
      have e1 : dg 32 U j = 0 := dg_zero_of (Nat.lt_of_lt_of_le hU (pmono (by omega)))
      have e2 : dg 32 (Y % 2 ^ (32 * n)) (j - g) = 0 := dg_zero_of (Nat.lt_of_lt_of_le (Nat.mod_lt _ (pp _)) (pmono (by omega)))
      rw [e1, e2]
theorem midr_midr {f : Nat → Value} {Y Z g n j : Nat} : midr (midr f Y g n) Z g n j = midr f Z g n j := by
  unfold midr
  by_cases h : g ≤ j ∧ j < g + n
  · rw [if_pos h, if_pos h]
  · rw [if_neg h, if_neg h, if_neg h]
theorem rem_step {X V U R g Z q : Nat} (hU : rem' X V (g + 1) = U) (hR : U / 2 ^ (32 * g) = R) (hq : q = R / V) (hZ : Z = R - q * V) : rem' X V g = U % 2 ^ (32 * g) + Z * 2 ^ (32 * g) := by
  rw [rem_next, hU, hR, ← hq, hZ, ← hR]
  rw [← hR] at hq
  exact (rem_split U g q V (by rw [hq]; exact Nat.div_mul_le_self _ _)).symm
theorem over_c {a b c : Nat} (ha : a < 4294967296) (hb : b < 4294967296) (hc : c ≤ 1) : IntKind.u64.wrap (IntKind.u64.wrap ((a : Int) - b) - c) / 9223372036854775808 = ((if a < b + c then 1 else 0 : Nat) : Int) := by
  simp only [IntKind.wrap_u64]; split <;> omega
theorem over_v {a b c : Nat} (ha : a < 4294967296) (hb : b < 4294967296) (hc : c ≤ 1) : IntKind.u64.wrap (IntKind.u64.wrap ((a : Int) - b) - c) % 4294967296 = (((2 ^ 32 + a - b - c) % 2 ^ 32 : Nat) : Int) := by
  simp only [IntKind.wrap_u64]; omega

set_option maxHeartbeats 4000000 in
set_option maxRecDepth 100000 in
theorem over_long (A B : Option Addr) (n c x p d y : Nat) (w : World) (ha : Dig w A n c x) (hb : Dig w B (p + 2) d y) (hc : n ≤ 1099511627000) (hyx : y ≤ x) :
    Calls Tryz.prog 71 #[.slice A n c, .slice B (p + 2) d] w fun e w' => OverR w w' x y e := by
  obtain ⟨hn, hnc, hsa⟩ := ha
  obtain ⟨hm, hmd, hsb⟩ := hb
  have hmn : p + 2 ≤ n := by rw [hn, hm]; exact dn_mono (by omega) hyx
  have hy0 : y ≠ 0 := by rintro rfl; rw [dn_zero] at hm; omega
  obtain ⟨s, hs⟩ : ∃ s, s = 32 - bl (dg 32 y (p + 1)) := ⟨_, rfl⟩
  obtain ⟨ht1, ht2, hs32⟩ := norm_top hy0 hm (s := s) hs
  have hx := lt_dn (k := 32) (by omega) x
  rw [← hn] at hx
  have hst := start_lt hx (by omega : p + 2 ≤ n + 1) hs32 ht1
  have hcmp := fun W (hA : Slc W 112 A n (d32 x)) (hB : Slc W 112 B (p + 2) (d32 y)) => cmp_any A B n c x (p + 2) d y W hn hm (by omega) (by omega) hA hB
  have hlft1 := fun W (hB : Slc W 112 B (p + 2) (d32 y)) => left_any B (p + 2) d y s W hm hmd (by omega) (by omega) hB
  have hlft2 := fun W (hA : Slc W 112 A n (d32 x)) => left_any A n c x s W hn hnc (by omega) (by omega) hA
  have hVn : dn 32 (y * 2 ^ s) = p + 2 := by
    refine Nat.le_antisymm (dn_le (by omega) ht2) (dn_ge (n := p + 1) (by omega) ?_)
    have : 2 ^ (32 * (p + 2)) = 2 * (2 ^ 31 * 2 ^ (32 * (p + 1))) := by rw [← Nat.pow_add, ← Nat.pow_succ']; congr 1; omega
    rw [this] at ht1
    have h1 : 1 * 2 ^ (32 * (p + 1)) ≤ 2 ^ 31 * 2 ^ (32 * (p + 1)) := Nat.mul_le_mul_right _ (by decide)
    omega
  have hXn : dn 32 (x * 2 ^ s) ≤ n + 1 := dn_le (by omega) (by
    calc x * 2 ^ s < 2 ^ (32 * n) * 2 ^ s := Nat.mul_lt_mul_of_pos_right hx (pp _)
      _ = 2 ^ (32 * n + s) := by rw [Nat.pow_add]
      _ ≤ _ := pmono (by omega))
  have hV0 : 0 < y * 2 ^ s := Nat.mul_pos (Nat.pos_of_ne_zero hy0) (pp s)
  have hlz := fun W => lz32_any (dg 32 y (p + 1)) s W (dg_lt 32 y (p + 1)) hs
  have tcmp := cmpZ_not_lt hyx
  have ed := norm_div x y s
  have em := norm_mod x y s
  rw [hVn] at hlft1
  have Hq := Lib.hid (And.intro ed em)
  clear ed em hs
  generalize cmpZ x y = z at *
  generalize hV : y * 2 ^ s = V at *
  generalize hX : x * 2 ^ s = X at *
  generalize ht : dn 32 X = t at *
  obtain ⟨b2, o2, rfl, _, hc2⟩ := hsb.cell (by omega)
  have k2 := hc2 (p + 1) (by omega)
  simp only [d32] at k2
  have hdt : dg 32 y (p + 1) < 4294967296 := dg_lt 32 _ _
  have e1 : ((p + 2 : Nat) : Int) - 1 = ((p + 1 : Nat) : Int) := by omega
  have h1' : (((p + 2 : Nat) : Int) == 1) = false := by simp; omega
  have Hst := Lib.hid (And.intro hst (And.intro ht1 (And.intro ht2 (And.intro hV (And.intro hX ht)))))
  have hmk1 := run_make_row' (P := Tryz.prog) 56 112 (.int .u32 0) 4 Tryz.underlying56 Tryz.info112 rfl .i64 .i64 (n + 1) (by omega) (by omega)
  have ec1 : ((n + 1 : Nat) : Int) = (n : Int) + 1 := by omega
  rw [ec1] at hmk1
  obtain ⟨L, hL⟩ : ∃ L, L = n - p - 1 := ⟨_, rfl⟩
  have hL1 : 0 < L := by omega
  have hmk2 := run_make_row' (P := Tryz.prog) 56 112 (.int .u32 0) 4 Tryz.underlying56 Tryz.info112 rfl .i64 .i64 L (by omega) (by omega)
  have eL : (n : Int) + 1 - ((p : Int) + 2) = (L : Int) := by omega
  have hLn : L ≤ n := by omega
  have HL := Lib.hid hL
  clear hL hc2 hst ht1 ht2 hV hX ht hx hn hm hy0 hyx ec1
  go_enter Tryz.func71, Tryz.ntmps71
  go_wp2_with fail
  refine (hcmp _ hsa hsb).mono ?_
  rintro e w' ⟨rfl, k0, rfl⟩
  go_wp2_with fail
  refine (hlz _).mono ?_
  rintro e w0 ⟨rfl, rfl⟩
  clear hlz k2 hdt hcmp e1
  go_wp2_with fail
  refine (hlft1 _ (hsb.drewN k0)).mono ?_
  rintro e w1 ⟨Av, cv, rfl, hcv, hsv, hb1⟩
  have hb1' := Below.drewN_left hb1
  replace hsa := hsa.below hb1'
  clear hlft1 hsb hb1
  go_wp2_with fail
  refine (hlft2 _ (hsa.alloc _)).mono ?_
  rintro e w2 ⟨Ax, cx, rfl, hcx, hsx, hb2⟩
  have hru : w2.rowIs w1.heap.size 112 (n + 1) (fun _ => .int .u32 0) := (World.rowIs_made w1 _ (n + 1) 112).of_block (hb2.block _ (by simp))
  have hb2' : Below w1.heap.size w1 w2 := ((Below.refl _ _).alloc (Nat.le_refl _) _).trans (hb2.mono (by simp))
  clear hlft2 hsa hb2
  go_wp2_with (with_reducible refine wpList_copy_slc rfl _ _ _ _ rfl 112 Tryz.underlying56 (by kernel_rfl) w1.heap.size (n + 1) (n + 1) Ax t cx rfl rfl _ _ 112 hru hsx (by omega) (fun _ => rfl) w1.heap.size w1 hb2' (Nat.le_refl _) ?_; intro w3 hru3 hb3)
  replace hru3 := hru3.congr (g := d32 X) (fun j _ => by
    split
    · rfl
    · rename_i h
      have := dg_zero_of (k := 32) (x := X) (i := j) (Nat.lt_of_lt_of_le (lt_dn (k := 32) (by omega) X) (pmono (by rw [Hst.out.2.2.2.2.2]; omega)))
      rw [d32, this]; rfl)
  clear hru hb2' hsx
  go_wp2
  clear hmk1 hmk2
  have hlt13 : w1.heap.size < w3.heap.size := hru3.lt
  go_loopg [13] L (fun g s13 wr => g ≤ L ∧ s13 = .int .i64 ((g : Int) - 1) ∧ wr.rowIs w1.heap.size 112 (n + 1) (d32 (rem' X V g)) ∧ wr.rowIs w3.heap.size 112 L (dwn (X / V) g) ∧ Below w1.heap.size w1 wr)
  case atStart =>
    have hXL : rem' X V L = X := Nat.mod_eq_of_lt (by rw [show L = n + 1 - (p + 2) by rw [HL.out]; omega]; exact Hst.out.1)
    exact ⟨Nat.le_refl _, rfl, by rw [hXL]; exact hru3.alloc _, (World.rowIs_made w3 _ L 112).congr (fun j hj => by unfold dwn; rw [if_neg (by omega)]), hb3.alloc hb3.size _⟩
  case round =>
    obtain ⟨hg, rfl, hru, hrq, hbel⟩ := hrel
    cases gk with
    | zero =>
      rw [rem_zero] at hru
      have hq0 : X / V < 2 ^ (32 * L) := Nat.div_lt_of_lt_mul (by rw [show L = n + 1 - (p + 2) by rw [HL.out]; omega]; exact Hst.out.1)
      have hr0 : X % V < 2 ^ (32 * (n + 1)) := Nat.lt_of_lt_of_le (Nat.lt_trans (Nat.mod_lt _ hV0) Hst.out.2.2.1) (pmono (by omega))
      have hrq' := hrq.congr (g := d32 (X / V)) (fun j _ => dwn_all _ _)
      have hcq := fun W h => cut_any (some ⟨w3.heap.size, 0, none⟩) L L (X / V) W hq0 (Nat.le_refl _) (by omega) h
      have hcu := fun W h => cut_any (some ⟨w1.heap.size, 0, none⟩) (n + 1) (n + 1) (X % V) W hr0 (Nat.le_refl _) (by omega) h
      have hle1 := dn_le (k := 32) (by omega) hr0
      have hle0 := dn_le (k := 32) (by omega) hq0
      have hri := fun W h => right_any (some ⟨w1.heap.size, 0, none⟩) (dn 32 (X % V)) (n + 1) (X % V) s W rfl hle1 (by omega) (by omega) h
      have hbw := (show Below w.heap.size w w1 from hb1').trans (hbel.mono hb1'.size)
      clear hq0 hr0 hrq hru3 hb3 hcv hsv
      go_wp2_with fail
      refine (hcq _ (Slc.of_row hrq' (Nat.le_refl _))).mono ?_
      rintro e w' ⟨rfl, rfl⟩
      go_wp2_with fail
      refine (hcu _ (Slc.of_row hru (Nat.le_refl _))).mono ?_
      rintro e w' ⟨rfl, rfl⟩
      go_wp2_with fail
      refine (hri _ (Slc.of_row hru hle1)).mono ?_
      rintro e w5 ⟨A5, c5, rfl, hc5, hs5, hb5⟩
      go_wp2_with fail
      rw [Hq.out.2] at *
      exact bodyPost_ret (v := .tuple #[.slice (some ⟨w3.heap.size, 0, none⟩) (dn 32 (X / V)) L, .slice A5 (dn 32 (x % y)) c5]) (by simp [results, Tryz.results71, go_sem]) rfl
        ⟨_, _, _, _, by rw [Hq.out.1], ⟨rfl, by rw [← Hq.out.1]; exact hle0, by rw [← Hq.out.1]; exact (Slc.of_row hrq' hle0).below hb5⟩, ⟨rfl, hc5, hs5⟩, hbw.trans (hb5.mono hbw.size)⟩
    | succ g =>
      clear hru3 hb3
      have e0 : ((g + 1 : Nat) : Int) - 1 = g := by omega
      rw [e0]
      clear e0
      generalize hU : rem' X V (g + 1) = U at hru
      generalize hR : U / 2 ^ (32 * g) = R
      have hRlt : R < 2 ^ 32 * V := by rw [← hR, ← hU]; exact rem_lt X V g hV0
      have hRn : R < 2 ^ (32 * (p + 3)) := Nat.lt_of_lt_of_le hRlt (by rw [show 32 * (p + 3) = 32 + 32 * (p + 2) by omega, Nat.pow_add]; exact Nat.mul_le_mul_left _ (Nat.le_of_lt Hst.out.2.2.1))
      have hUn : U < 2 ^ (32 * (g + (p + 3))) := by
        have h1 : U < 2 ^ (32 * g) * (R + 1) := by
          have := Nat.lt_div_mul_add (pp (32 * g)) (a := U)
          rw [hR] at this
          rw [Nat.mul_add, Nat.mul_one, Nat.mul_comm]; exact this
        refine Nat.lt_of_lt_of_le h1 ?_
        rw [Nat.mul_add 32, Nat.pow_add]
        exact Nat.mul_le_mul_left _ hRn
      have hGu := guess_of (n := p + 2) (by omega) Hst.out.2.2.1 Hst.out.2.1 hRlt
      have ed : ∀ i, dg 32 U (g + i) = dg 32 R i := fun i => by rw [← hR, dg_div]
      have hqd : R / V = dg 32 (X / V) g := by rw [← hR, ← hU]; exact rem_digit X V g
      obtain ⟨b3, o3, rfl, _, hc3⟩ := (hsv.below hbel).cell (by omega)
      have c1 := hc3 (p + 1) (by omega)
      have c0 := hc3 p (by omega)
      have d2 := hru.cell (i := g + (p + 2)) (by omega)
      have d1 := hru.cell (i := g + (p + 1)) (by omega)
      have d0 := hru.cell (i := g + p) (by omega)
      simp only [d32, ed] at c1 c0 d2 d1 d0
      rw [show p + 2 - 1 = p + 1 by omega, show p + 2 - 2 = p by omega] at hGu
      have l1 : dg 32 V (p + 1) < 4294967296 := dg_lt 32 _ _
      have l0 : dg 32 V p < 4294967296 := dg_lt 32 _ _
      have m2 : dg 32 R (p + 2) < 4294967296 := dg_lt 32 _ _
      have m1 : dg 32 R (p + 1) < 4294967296 := dg_lt 32 _ _
      have m0 : dg 32 R p < 4294967296 := dg_lt 32 _ _
      have hor := short_or m2 m1
      have hv1p : 0 < dg 32 V (p + 1) := by have h1 := hGu.hv; have h2 := hGu.hB; omega
      have hfge := hGu.first_ge
      have hfle := hGu.first_le
      have hfm := Nat.div_add_mod (dg 32 R (p + 2) * 2 ^ 32 + dg 32 R (p + 1)) (dg 32 V (p + 1))
      have hfr := Nat.mod_lt (dg 32 R (p + 2) * 2 ^ 32 + dg 32 R (p + 1)) hv1p
      have HX := Lib.hid (And.intro hU (And.intro hR (And.intro hRlt (And.intro hRn (And.intro hUn (And.intro ed hqd))))))
      have HG := Lib.hid hGu
      have hTlt : dg 32 R (p + 2) * 2 ^ 32 + dg 32 R (p + 1) < 18446744073709551616 := by omega
      have hv10 : ¬ (dg 32 V (p + 1) : Int) = 0 := by omega
      clear hc3 hU hR hRlt hRn hUn hGu ed hqd
      generalize hT : dg 32 R (p + 2) * 2 ^ 32 + dg 32 R (p + 1) = T at *
      generalize hw1 : dg 32 V (p + 1) = v1 at *
      generalize hw0 : dg 32 V p = v0 at *
      generalize ha2 : dg 32 R (p + 2) = a2 at *
      generalize ha1 : dg 32 R (p + 1) = a1 at *
      generalize ha0 : dg 32 R p = a0 at *
      have HN := Lib.hid (And.intro hT (And.intro hw1 (And.intro hw0 (And.intro ha2 (And.intro ha1 ha0)))))
      have eq1 : (T : Int) / (v1 : Int) = ((T / v1 : Nat) : Int) := by simp
      have er1 : (T : Int) % (v1 : Int) = ((T % v1 : Nat) : Int) := by simp
      clear hT hw1 hw0 ha2 ha1 ha0
      generalize T / v1 = Q0 at *
      generalize T % v1 = r0 at *
      have HF := Lib.hid (And.intro hfge (And.intro hfle (And.intro hfm hfr)))
      clear hfge hfm
      go_wp2
      go_quiet (fail)
      go_wp2
      go_quiet (fail)
      go_upto_block 2 with fail
      go_cut [15, 16] from 73 to 252 (fun s15 s16 wx => ∃ Gd : Nat, s15 = .int .u64 Gd ∧ Gd < 4294967296 ∧ R / V ≤ Gd ∧ Gd ≤ R / V + 1 ∧ ∃ k, wx = wr.drewN k)
      case first =>
        clear hor eq1 d1 d2 hru hrq hsv
        go_wp2_with fail
        go_loopg [15, 16] (4294967296 - r0) (fun gg s15 s16 wx => ∃ Gd r : Nat, s15 = .int .u64 Gd ∧ s16 = .int .u64 r ∧ gg = 4294967296 - r ∧ r < 4294967296 ∧ Gd ≤ 4294967297 ∧ R / V ≤ Gd ∧ T = Gd * v1 + r ∧ ∃ k, wx = wr.drewN k)
        case atStart => exact ⟨Q0, r0, rfl, by first | rfl | rw [er1], rfl, by omega, hfle, HF.out.1, by rw [Nat.mul_comm]; exact HF.out.2.2.1.symm, _, World.drewN_drewN _ _ _⟩
        case round =>
          clear er1 hfr hfle hTlt
          obtain ⟨Gd, r, rfl, rfl, hgg, hr, hGle, hGge, hTe, k, rfl⟩ := hrel
          have hqd : R / V < 4294967296 := HG.out.digit_lt
          by_cases hbig : 4294967296 ≤ Gd
          · have tA : ((Gd : Int) / 4294967296 != 0) = true := by rw [bne_iff_ne]; omega
            have hstep := HG.out.step_gt hGge hTe (.inl hbig)
            have hG0 : 0 < Gd := Nat.lt_of_le_of_lt (Nat.zero_le _) hstep
            obtain ⟨G1, hG1⟩ : ∃ G1, G1 = Gd - 1 := ⟨_, rfl⟩
            obtain ⟨r1, hr1⟩ : ∃ r1, r1 = r + v1 := ⟨_, rfl⟩
            have er : (r : Int) + (v1 : Int) = (r1 : Int) := by omega
            have hr1b : r1 < 8589934592 := by omega
            have hT1 : T = G1 * v1 + r1 := by
              rw [hTe, hr1, show Gd = G1 + 1 by omega, Nat.add_mul]; omega
            have eG : (Gd : Int) - 1 = (G1 : Int) := by omega
            have hG1b : G1 ≤ 4294967296 := by omega
            have hm1 : 4294967296 - r1 < gk := by omega
            have H1 := Lib.hid (And.intro hm1 (And.intro hstep (And.intro hG1 (And.intro hr1 hT1))))
            clear hgg hstep hTe hr1 hT1 hGge hv1p hG1 hm1
            by_cases hend : 4294967296 ≤ r1
            · have tB : ((r1 : Int) / 4294967296 != 0) = true := by rw [bne_iff_ne]; omega
              have hS := HG.out.stop_of_rest H1.out.2.2.2.2 hend
              have hfin : G1 ≤ R / V + 1 := HG.out.stop_le H1.out.2.2.2.2 hS.1 hS.2
              have HE := Lib.hid (And.intro hS.1 hfin)
              clear hS hfin
              go_wp2
              go_quiet (fail)
              go_wp2
              go_meet
              exact ⟨G1, rfl, HE.out.1, by have := H1.out.2.1; have := H1.out.2.2.1; omega, HE.out.2, _, by first | rfl | exact World.drewN_drewN _ _ _⟩
            · have tB : ((r1 : Int) / 4294967296 != 0) = false := by simp; omega
              go_wp2
              go_quiet (fail)
              go_wp2
              go_roundg (4294967296 - r1)
              case measure => exact H1.out.1
              case rel => exact ⟨G1, r1, rfl, by first | rfl | (simp only [er]), rfl, by omega, by omega, by have := H1.out.2.1; have := H1.out.2.2.1; omega, H1.out.2.2.2.2, _, by first | rfl | exact World.drewN_drewN _ _ _⟩
          · have tA : ((Gd : Int) / 4294967296 != 0) = false := by simp; omega
            have hGs : Gd < 4294967296 := by omega
            have e2 : (p : Int) + 2 - 2 = (p : Int) := by omega
            have e3 : (g : Int) + ((p : Int) + 2) - 2 = (g : Int) + (p : Int) := by omega
            obtain ⟨hmul0, hmul⟩ := mul_cap hGs l0
            obtain ⟨P, hP⟩ : ∃ P, P = Gd * v0 := ⟨_, rfl⟩
            have eP : (Gd : Int) * (v0 : Int) = (P : Int) := by rw [hP]; simp
            rw [eP] at hmul0 hmul
            have hor2 := short_or hr m0
            obtain ⟨S, hS0⟩ : ∃ S, S = r * 2 ^ 32 + a0 := ⟨_, rfl⟩
            rw [← hS0] at hor2
            have hSb : S < 18446744073709551616 := by omega
            by_cases hgt : S < P
            · have tC1 : decide (S < P) = true := decide_eq_true hgt
              have tC2 : decide ((S : Int) < (P : Int)) = true := decide_eq_true (by omega)
              have hstep := HG.out.step_gt hGge hTe (by rw [← hP, ← hS0]; exact .inr hgt)
              have hG0 : 0 < Gd := Nat.lt_of_le_of_lt (Nat.zero_le _) hstep
              obtain ⟨G1, hG1⟩ : ∃ G1, G1 = Gd - 1 := ⟨_, rfl⟩
              obtain ⟨r1, hr1⟩ : ∃ r1, r1 = r + v1 := ⟨_, rfl⟩
              have er : (r : Int) + (v1 : Int) = (r1 : Int) := by omega
              have hr1b : r1 < 8589934592 := by omega
              have hT1 : T = G1 * v1 + r1 := by
                rw [hTe, hr1, show Gd = G1 + 1 by omega, Nat.add_mul]; omega
              have eG : (Gd : Int) - 1 = (G1 : Int) := by omega
              have hG1b : G1 ≤ 4294967296 := by omega
              have hm1 : 4294967296 - r1 < gk := by omega
              have H1 := Lib.hid (And.intro hm1 (And.intro hstep (And.intro hG1 (And.intro hr1 hT1))))
              clear hgg hstep hTe hr1 hT1 hGge hv1p hG1 hm1 hgt hP hS0
              by_cases hend : 4294967296 ≤ r1
              · have tB : ((r1 : Int) / 4294967296 != 0) = true := by rw [bne_iff_ne]; omega
                have hS := HG.out.stop_of_rest H1.out.2.2.2.2 hend
                have hfin : G1 ≤ R / V + 1 := HG.out.stop_le H1.out.2.2.2.2 hS.1 hS.2
                have HE := Lib.hid (And.intro hS.1 hfin)
                clear hS hfin
                have HK := Lib.hid (And.intro er (And.intro eG tB))
                clear er eG tB
                go_wp2
                go_quiet (fail)
                obtain ⟨er, eG, tB⟩ := HK.out
                go_wp2
                go_meet
                exact ⟨G1, rfl, HE.out.1, by have := H1.out.2.1; have := H1.out.2.2.1; omega, HE.out.2, _, by first | rfl | exact World.drewN_drewN _ _ _⟩
              · have tB : ((r1 : Int) / 4294967296 != 0) = false := by simp; omega
                have HK := Lib.hid (And.intro er (And.intro eG tB))
                clear er eG tB
                go_wp2
                go_quiet (fail)
                obtain ⟨er, eG, tB⟩ := HK.out
                go_wp2
                go_roundg (4294967296 - r1)
                case measure => exact H1.out.1
                case rel => exact ⟨G1, r1, rfl, by first | rfl | (simp only [er]), rfl, by omega, by omega, by have := H1.out.2.1; have := H1.out.2.2.1; omega, H1.out.2.2.2.2, _, by first | rfl | exact World.drewN_drewN _ _ _⟩
            · have tC1 : decide (S < P) = false := decide_eq_false hgt
              have tC2 : decide ((S : Int) < (P : Int)) = false := decide_eq_false (by omega)
              have hfin : Gd ≤ R / V + 1 := HG.out.stop_le hTe hGs (by rw [← hP]; omega)
              have HE := Lib.hid (And.intro hfin hGge)
              clear hgt hfin hP hS0 hTe hGge hgg
              go_wp2
              go_quiet (fail)
              go_wp2
              go_meet
              exact ⟨Gd, rfl, hGs, HE.out.2, HE.out.1, _, by first | rfl | exact World.drewN_drewN _ _ _⟩
      case rest =>
        obtain ⟨Gd, rfl, hGlt, hGge, hGle, k, rfl⟩ := hcut
        have hVn2 : V < 2 ^ (32 * (p + 2)) := Hst.out.2.2.1
        have hYn : Gd * V < 2 ^ (32 * (p + 2 + 1)) := mul_lt_next (k := 32) hGlt hVn2
        have hYp : R < 2 ^ (32 * (p + 2 + 1)) := HX.out.2.2.2.1
        obtain ⟨Y, hY⟩ : ∃ Y, Y = offX 32 (p + 2) R (Gd * V) := ⟨_, rfl⟩
        have eU : ∀ i, dg 32 U (i + g) = dg 32 R i := fun i => by rw [Nat.add_comm]; exact HX.out.2.2.2.2.2.1 i
        have HY := Lib.hid (And.intro hVn2 (And.intro hYn (And.intro hYp (And.intro hY (And.intro hGge (And.intro hGle eU))))))
        replace hru : (wr.drewN k).rowIs w1.heap.size 112 (n + 1) (d32 U) := hru
        replace hrq : (wr.drewN k).rowIs w3.heap.size 112 L (dwn (X / V) (g + 1)) := hrq
        replace hbel : Below w1.heap.size w1 (wr.drewN k) := Below.drewN' hbel k
        clear c1 c0 d2 d1 d0 hor eq1 er1 hfr hfle HF hVn2 hYn hYp hY hGge hGle eU hTlt hv10 hv1p l1 l0 m2 m1 m0
        generalize wr.drewN k = wq at *
        go_wp2
        go_loopg [17, 18, 149] (p + 2) (fun gg s17 s18 s149 wx => ∃ i : Nat, i ≤ p + 2 ∧ gg = p + 2 - i ∧ s17 = .int .u64 (borrow 32 R (Gd * V) i : Nat) ∧ s18 = .int .u64 (gm 32 Gd V i : Nat) ∧ s149 = .int .i64 i ∧ wx.rowIs w1.heap.size 112 (n + 1) (midr (d32 U) Y g i) ∧ wx.rowIs w3.heap.size 112 L (dwn (X / V) (g + 1)) ∧ Below w1.heap.size w1 wx)
        case atStart => exact ⟨0, by omega, by omega, by rw [borrow_zero]; rfl, by rw [gm_zero]; rfl, rfl, hru.congr (fun j _ => (midr_zero _ _ _ _).symm), hrq, hbel⟩
        case round =>
          clear hru hrq hbel
          obtain ⟨i, hi, hgg, rfl, rfl, rfl, hru, hrq, hbel⟩ := hrel
          have hbw := borrow_le 32 R (Gd * V) i
          have hgm : gm 32 Gd V i < 4294967296 := gm_lt (k := 32) hGlt i
          have ha : dg 32 R i < 4294967296 := dg_lt 32 R i
          by_cases hip : i < p + 2
          · obtain ⟨b4, o4, he, _, hc4⟩ := (hsv.below hbel).cell (by omega)
            simp only [Option.some.injEq, Addr.mk.injEq] at he
            obtain ⟨rfl, rfl, _⟩ := he
            have k1 := hc4 i hip
            have k2 := hru.cell (i := i + g) (by omega)
            rw [midr_at, d32, HY.out.2.2.2.2.2.2 i] at k2
            have k3 := hru.frozen (i + g)
            simp only [d32] at k1
            have hv : dg 32 V i < 4294967296 := dg_lt 32 V i
            obtain ⟨hmul0, hmul⟩ := mul_cap hGlt hv
            have x1 := gm_dg 32 Gd V i
            have x2 := gm_succ 32 Gd V i
            have x3 := offX_dg (k := 32) (i := i) (R := R) HY.out.2.1 (Nat.le_of_lt hip)
            have x4 := borrow_succ 32 R (Gd * V) i
            rw [← HY.out.2.2.2.1, ← x1] at x3
            rw [← x1] at x4
            obtain ⟨P, hP⟩ : ∃ P, P = Gd * dg 32 V i := ⟨_, rfl⟩
            have eP : (Gd : Int) * (dg 32 V i : Int) = (P : Int) := by rw [hP]; simp
            rw [eP] at hmul0 hmul
            rw [← hP] at x1 x2 x3 x4
            obtain ⟨M, hM⟩ : ∃ M, M = gm 32 Gd V i + P := ⟨_, rfl⟩
            have eM : (gm 32 Gd V i : Int) + (P : Int) = (M : Int) := by omega
            rw [← hM] at x2 x3 x4
            have hMb : M < 18446744073709551616 := by omega
            obtain ⟨Mr, hMr⟩ : ∃ Mr, Mr = M % 2 ^ 32 := ⟨_, rfl⟩
            have eMr : (M : Int) % 4294967296 = (Mr : Int) := by omega
            have hMrb : Mr < 4294967296 := by omega
            rw [← hMr] at x3 x4
            have H1 := Lib.hid (And.intro x2 (And.intro x3 (And.intro x4 hgg)))
            clear hc4 x1 x2 x3 x4 hP hM hMr hgg
            go_wp2
            go_roundg (p + 2 - (i + 1))
            case measure => have := H1.out.2.2.2; omega
            case rel =>
              refine ⟨i + 1, by omega, rfl, ?_, ?_, by go_num, (hru.set (i + g) _).congr (fun j _ => midr_step ?_), hrq.setOther (by show w3.heap.size ≠ w1.heap.size; omega) _, hbel.setCell (Nat.le_refl _) _⟩
              · rw [H1.out.2.2.1, over_c ha hMrb hbw]
              · rw [← H1.out.1]; go_num
              · rw [d32, H1.out.2.1, over_v ha hMrb hbw]
          · obtain rfl : i = p + 2 := by omega
            have k2 := hru.cell (i := p + 2 + g) (by omega)
            rw [midr_at, d32, HY.out.2.2.2.2.2.2 (p + 2), Nat.add_comm (p + 2) g] at k2
            have k3 := hru.frozen (g + (p + 2))
            have hbf := borrow_full (k := 32) (n := p + 2 + 1) HY.out.2.2.1 HY.out.2.1
            have x4 := borrow_succ 32 R (Gd * V) (p + 2)
            have x3 := offX_dg (k := 32) (i := p + 2) (R := R) HY.out.2.1 (Nat.le_refl _)
            rw [← HY.out.2.2.2.1] at x3
            rw [hbf] at x4
            have hgt := gm_top (k := 32) hGlt HY.out.1
            rw [← hgt] at x3 x4
            have hD1 := over_c ha hgm hbw
            have hD2 := over_v ha hgm hbw
            rw [← x4] at hD1
            rw [← x3] at hD2
            have hDb : 0 ≤ IntKind.u64.wrap (IntKind.u64.wrap ((dg 32 R (p + 2) : Int) - (gm 32 Gd V (p + 2) : Int)) - (borrow 32 R (Gd * V) (p + 2) : Int)) ∧ IntKind.u64.wrap (IntKind.u64.wrap ((dg 32 R (p + 2) : Int) - (gm 32 Gd V (p + 2) : Int)) - (borrow 32 R (Gd * V) (p + 2) : Int)) < 18446744073709551616 := by
              simp only [IntKind.wrap_u64]; omega
            obtain ⟨D, hD⟩ : ∃ D, D = IntKind.u64.wrap (IntKind.u64.wrap ((dg 32 R (p + 2) : Int) - (gm 32 Gd V (p + 2) : Int)) - (borrow 32 R (Gd * V) (p + 2) : Int)) := ⟨_, rfl⟩
            rw [← hD] at hD1 hD2 hDb
            have eD := hD.symm
            obtain ⟨hDb0, hDb1⟩ := hDb
            have hqc := hrq.cell (i := g) (by omega)
            have hqf := hrq.frozen g
            have hne : w3.heap.size ≠ w1.heap.size := by omega
            have HS := Lib.hid hsv
            clear x3 x4 hbf hgt hD hgg hsv
            by_cases hneg : R < Gd * V
            · rw [if_pos hneg] at hD1
              have hGq : Gd = R / V + 1 := by
                refine Nat.le_antisymm HY.out.2.2.2.2.2.1 ?_
                exact Nat.lt_of_not_le fun hle => Nat.not_lt.2 (Nat.le_trans (Nat.mul_le_mul_right V hle) (Nat.div_mul_le_self R V)) hneg
              obtain ⟨G1, hG1⟩ : ∃ G1, G1 = R / V := ⟨_, rfl⟩
              have eG1 : (Gd : Int) - 1 = (G1 : Int) := by omega
              have hqd := HX.out.2.2.2.2.2.2
              rw [← hG1] at hqd
              have hle : Gd * V ≤ R + V := by
                rw [hGq, Nat.add_mul, Nat.one_mul]
                have := Nat.div_mul_le_self R V
                omega
              have hZ := offX_back (k := 32) (n := p + 2) hneg hle (Nat.lt_of_lt_of_le HY.out.1 (pmono (by omega)))
              rw [← HY.out.2.2.2.1] at hZ
              have hZ2 : (Y + V) % 2 ^ (32 * (p + 2 + 1)) = R - G1 * V := by
                rw [hZ, hGq, ← hG1, Nat.add_mul, Nat.one_mul]; omega
              have hst := rem_step HX.out.1 HX.out.2.1 hG1 hZ2
              have hG1b : G1 < 4294967296 := by omega
              have Hd := Lib.hid (And.intro hqd hst)
              have hru2 := (hru.set (g + (p + 2)) (.int .u32 (dg 32 Y (p + 2) : Int))).congr (g := midr (d32 U) Y g (p + 2 + 1)) (fun j _ => by
                rw [Nat.add_comm g, midr_step (by rw [d32])])
              have hrq2 := hrq.setOther (a := ⟨w1.heap.size, g + (p + 2), none⟩) hne (.int .u32 (dg 32 Y (p + 2) : Int))
              have hbel2 := hbel.setCell (p := ⟨w1.heap.size, g + (p + 2), none⟩) (Nat.le_refl _) (.int .u32 (dg 32 Y (p + 2) : Int))
              clear hneg hGq hqd hZ hst hle hZ2 hG1 hqc hqf hru hrq hbel
              go_wp2
              go_loopg [17, 210] (p + 2) (fun gg s17 s210 wx => ∃ i : Nat, i ≤ p + 2 ∧ gg = p + 2 - i ∧ s17 = .int .u64 (carry 32 Y V i : Nat) ∧ s210 = .int .i64 i ∧ wx.rowIs w1.heap.size 112 (n + 1) (midr (midr (d32 U) Y g (p + 2 + 1)) (Y + V) g i) ∧ wx.rowIs w3.heap.size 112 L (dwn (X / V) (g + 1)) ∧ Below w1.heap.size w1 wx)
              case atStart => exact ⟨0, by omega, by omega, by rw [carry_zero]; rfl, rfl, hru2.congr (fun j _ => (midr_zero _ _ _ _).symm), hrq2, hbel2⟩
              case round =>
                clear hru2 hrq2 hbel2 k2 k3 hbw hgm ha hD1 hD2 eD hDb0 hDb1
                obtain ⟨i, hi, hgg, rfl, rfl, hru, hrq, hbel⟩ := hrel
                have hcr := carry_le 32 Y V i
                have ha : dg 32 Y i < 4294967296 := dg_lt 32 Y i
                have x1 := carry_dg 32 Y V i
                have x2 := carry_succ 32 Y V i
                by_cases hip : i < p + 2
                · obtain ⟨b4, o4, he, _, hc4⟩ := (HS.out.below hbel).cell (by omega)
                  simp only [Option.some.injEq, Addr.mk.injEq] at he
                  obtain ⟨rfl, rfl, _⟩ := he
                  have k1 := hc4 i hip
                  have k2 := hru.cell (i := i + g) (by omega)
                  rw [midr_at, midr_in (by omega), d32] at k2
                  have k3 := hru.frozen (i + g)
                  simp only [d32] at k1
                  have hv : dg 32 V i < 4294967296 := dg_lt 32 V i
                  obtain ⟨M, hM⟩ : ∃ M, M = carry 32 Y V i + dg 32 Y i + dg 32 V i := ⟨_, rfl⟩
                  have eM : (carry 32 Y V i : Int) + ((dg 32 Y i : Int) + (dg 32 V i : Int)) = (M : Int) := by omega
                  rw [← hM] at x1 x2
                  have hMb : M < 12884901888 := by omega
                  have H1 := Lib.hid (And.intro x1 (And.intro x2 hgg))
                  clear hc4 x1 x2 hM hgg
                  go_wp2
                  go_quiet (fail)
                  go_wp2
                  go_roundg (p + 2 - (i + 1))
                  case measure => have := H1.out.2.2; omega
                  case rel =>
                    refine ⟨i + 1, by omega, rfl, ?_, by go_num, (hru.set (i + g) _).congr (fun j _ => midr_step ?_), hrq.setOther (by show w3.heap.size ≠ w1.heap.size; omega) _, Below.setCell (Below.drewN' hbel _) (Nat.le_refl _) _⟩
                    · rw [← H1.out.2.1]; go_num
                    · rw [d32, ← H1.out.1]; go_num
                · obtain rfl : i = p + 2 := by omega
                  have k2 := hru.cell (i := p + 2 + g) (by omega)
                  rw [midr_at, midr_in (by omega), d32, Nat.add_comm (p + 2) g] at k2
                  have k3 := hru.frozen (g + (p + 2))
                  rw [dg_zero_of HY.out.1, Nat.add_zero] at x1
                  have hqc := hrq.cell (i := g) (by omega)
                  have hqf := hrq.frozen g
                  unfold dwn at hqc
                  rw [if_neg (by omega)] at hqc
                  have H1 := Lib.hid x1
                  clear x1 x2 hgg
                  go_wp2
                  go_roundg g
                  case measure => omega
                  case rel =>
                    refine ⟨by omega, by go_num, ?_, ?_, ?_⟩
                    · refine ((hru.set (g + (p + 2)) _).setOther (by show w1.heap.size ≠ w3.heap.size; omega) _).congr (fun j _ => ?_)
                      rw [Nat.add_comm g, midr_step (by rw [d32, ← H1.out]; go_num), midr_midr, mid_done HX.out.2.2.2.2.1 Hd.out.2]
                    · refine ((hrq.setOther (by show w3.heap.size ≠ w1.heap.size; omega) _).set g _).congr (fun j _ => dwn_step ?_)
                      rw [d32, ← Hd.out.1]; try go_num
                    · exact (hbel.setCell (Nat.le_refl _) _).setCell (by show w1.heap.size ≤ w3.heap.size; omega) _
            · rw [if_neg hneg] at hD1
              have hGq : Gd = R / V := Nat.le_antisymm ((Nat.le_div_iff_mul_le hV0).2 (by omega)) HY.out.2.2.2.2.1
              have hqd := HX.out.2.2.2.2.2.2
              rw [← hGq] at hqd
              have hZ := offX_of_le (k := 32) (n := p + 2) HY.out.2.2.1 (by omega : Gd * V ≤ R)
              rw [← HY.out.2.2.2.1] at hZ
              have hst := rem_step HX.out.1 HX.out.2.1 hGq hZ
              have Hd := Lib.hid (And.intro hqd hst)
              clear hneg hGq hqd hZ hst
              unfold dwn at hqc
              rw [if_neg (by omega)] at hqc
              go_wp2
              go_roundg g
              case measure => omega
              case rel =>
                refine ⟨by omega, by go_num, ?_, ?_, ?_⟩
                · refine ((hru.set (g + (p + 2)) _).setOther (by show w1.heap.size ≠ w3.heap.size; omega) _).congr (fun j _ => ?_)
                  rw [Nat.add_comm g, midr_step (by rw [d32, ← hD2]), mid_done HX.out.2.2.2.2.1 Hd.out.2]
                · refine ((hrq.setOther (by show w3.heap.size ≠ w1.heap.size; omega) _).set g _).congr (fun j _ => dwn_step ?_)
                  rw [d32, ← Hd.out.1]; try go_num
                · exact (hbel.setCell (Nat.le_refl _) _).setCell (by show w1.heap.size ≤ w3.heap.size; omega) _
end Go.Proofs.YtbhfnigblhfikaaGreatDoor

/- The walks over wide's digits: over at any divisor, common. -/
namespace Go.Proofs.YtbhfnigblhfikaaGreatDoor
open Go Go.RowKit Fil

theorem dn_le1 {y : Nat} (h : dn 32 y = 1) : y < 4294967296 ∧ dg 32 y 0 = y := by
  have h1 := lt_dn (k := 32) (by omega) y
  rw [h] at h1
  refine ⟨h1, ?_⟩
  unfold dg; simp; omega
set_option maxRecDepth 100000 in
set_option maxHeartbeats 2000000 in
theorem over_less (A B : Option Addr) (n c x m d y : Nat) (w : World) (ha : Dig w A n c x) (hb : Dig w B m d y) (hc : n ≤ 1099511627000) (hd : m ≤ 4398046511104) (hxy : x < y) :
    Calls Tryz.prog 71 #[.slice A n c, .slice B m d] w fun e w' => OverR w w' x y e := by
  have hcmp := fun W (hA : Slc W 112 A n (d32 x)) (hB : Slc W 112 B m (d32 y)) => cmp_any A B n c x m d y W ha.1 hb.1 (by omega) (by omega) hA hB
  rw [cmpZ_lt hxy] at hcmp
  have Ha := Lib.hid ha
  have hsa := ha.2.2
  have hsb := hb.2.2
  clear ha hb
  go_enter Tryz.func71, Tryz.ntmps71
  go_wp2_with fail
  refine (hcmp _ hsa hsb).mono ?_
  rintro e w' ⟨rfl, k0, rfl⟩
  clear hcmp hsa hsb
  go_wp2
  have e1 : x / y = 0 := Nat.div_eq_of_lt hxy
  have e2 : x % y = x := Nat.mod_eq_of_lt hxy
  have hn := Ha.out.1
  exact bodyPost_ret (v := .tuple #[.slice none 0 0, .slice A n c]) (by simp [results, Tryz.results71, go_sem]) rfl
    ⟨none, 0, A, c, by rw [e1, e2, dn_zero, ← hn], by rw [e1, dn_zero]; exact Dig.nil _ _, by rw [e2, ← hn]; exact Ha.out.drewN k0, Below.drewN' (Below.refl _ _) k0⟩

set_option maxRecDepth 100000 in
set_option maxHeartbeats 2000000 in
theorem over_one (A B : Option Addr) (n c x d y : Nat) (w : World) (ha : Dig w A n c x) (hb : Dig w B 1 d y) (hc : n ≤ 1099511627000) (hy : y ≠ 0) (hyx : y ≤ x) :
    Calls Tryz.prog 71 #[.slice A n c, .slice B 1 d] w fun e w' => OverR w w' x y e := by
  obtain ⟨hy1, hy2⟩ := dn_le1 hb.1.symm
  have hcmp := fun W (hA : Slc W 112 A n (d32 x)) (hB : Slc W 112 B 1 (d32 y)) => cmp_any A B n c x 1 d y W ha.1 hb.1 (by omega) (by omega) hA hB
  have tcmp := cmpZ_not_lt hyx
  generalize cmpZ x y = z at *
  have hsh := fun W (hA : Slc W 112 A n (d32 x)) => short_any A n c x y W ha.1 (by omega) (Nat.pos_of_ne_zero hy) hy1 hA
  have hsa := ha.2.2
  have hsb := hb.2.2
  obtain ⟨b2, o2, rfl, _, hc2⟩ := hsb.cell (by omega)
  have k0 := hc2 0 (by omega)
  simp only [d32, hy2, Nat.add_zero] at k0
  have hrl : x % y < 2 ^ (32 * 1) := Nat.lt_trans (Nat.mod_lt _ (Nat.pos_of_ne_zero hy)) hy1
  have hct := fun W B (h : Slc W 112 (some ⟨B, 0, none⟩) 1 (d32 (x % y))) => cut_any (some ⟨B, 0, none⟩) 1 1 (x % y) W hrl (Nat.le_refl _) (by omega) h
  have hle := dn_le (k := 32) (by omega) hrl
  obtain ⟨r, hr⟩ : ∃ r, r = x % y := ⟨_, rfl⟩
  obtain ⟨q, hq⟩ : ∃ q, q = x / y := ⟨_, rfl⟩
  rw [← hr] at hsh hct hle hrl
  rw [← hq] at hsh
  have hr0 : dg 32 r 0 = r := by unfold dg; simp at hrl ⊢; omega
  have Hq := Lib.hid (And.intro hq hr)
  clear ha hb hc2 hq hr hy2 hrl hy hyx
  go_enter Tryz.func71, Tryz.ntmps71
  go_wp2_with fail
  refine (hcmp _ hsa hsb).mono ?_
  rintro e w' ⟨rfl, k9, rfl⟩
  clear hcmp
  go_wp2_with fail
  refine (hsh _ (hsa.drewN k9)).mono ?_
  rintro e w1 ⟨Aq, cq, rfl, hcq, hsq, hb1⟩
  clear hsh hsa hsb k0
  go_wp2_with fail
  refine (hct _ _ (fun _ => ?_)).mono ?_
  · refine ⟨w1.heap.size, 0, _, _, rfl, heap_alloc_new w1 _, fun j hj => ?_⟩
    obtain rfl : j = 0 := by omega
    rw [d32, hr0]; rfl
  rintro e w2 ⟨rfl, rfl⟩
  clear hct
  go_wp2_with fail
  have hs1 : Slc (w1.alloc (.cells #[.int .u32 (r : Int)] 112)) 112 (some ⟨w1.heap.size, 0, none⟩) 1 (d32 r) := fun _ => ⟨w1.heap.size, 0, _, _, rfl, heap_alloc_new w1 _, fun j hj => by
    obtain rfl : j = 0 := by omega
    rw [d32, hr0]; rfl⟩
  exact bodyPost_ret (v := .tuple #[.slice Aq (dn 32 q) cq, .slice (some ⟨w1.heap.size, 0, none⟩) (dn 32 r) 1]) (by simp [results, Tryz.results71, go_sem]) rfl
    ⟨_, _, _, _, by rw [← Hq.out.1, ← Hq.out.2], by rw [← Hq.out.1]; exact ⟨rfl, hcq, hsq.alloc _⟩, by rw [← Hq.out.2]; exact ⟨rfl, hle, hs1.le hle⟩, (Below.drewN_left hb1).alloc (by exact hb1.size) _⟩

theorem over_any (A B : Option Addr) (n c x m d y : Nat) (w : World) (ha : Dig w A n c x) (hb : Dig w B m d y) (hc : n ≤ 1099511627000) (hd : m ≤ 1099511627000) (hy : y ≠ 0) :
    Calls Tryz.prog 71 #[.slice A n c, .slice B m d] w fun e w' => OverR w w' x y e := by
  by_cases hxy : x < y
  · exact over_less A B n c x m d y w ha hb hc (by omega) hxy
  have hm : m ≠ 0 := by rw [hb.1]; exact fun h => hy (dn_eq_zero.1 h)
  by_cases h1 : m = 1
  · subst h1; exact over_one A B n c x d y w ha hb hc hy (by omega)
  · obtain ⟨p, rfl⟩ : ∃ p, m = p + 2 := ⟨m - 2, by omega⟩
    exact over_long A B n c x p d y w ha hb hc (by omega)

set_option maxHeartbeats 2000000 in
theorem common_any (A B : Option Addr) (n c x m d y : Nat) (w : World) (ha : Dig w A n c x) (hb : Dig w B m d y) (hc : n ≤ 1099511627000) (hd : m ≤ 1099511627000) :
    Calls Tryz.prog 52 #[.slice A n c, .slice B m d] w fun e w' => ∃ A' c', e = .returned (.slice A' (dn 32 (Nat.gcd x y)) c') ∧ Dig w' A' (dn 32 (Nat.gcd x y)) c' (Nat.gcd x y) ∧ Below w.heap.size w w' := by
  obtain ⟨G, hG⟩ : ∃ G, G = Nat.gcd x y := ⟨_, rfl⟩
  rw [← hG]
  have HG := Lib.hid hG
  clear hG
  go_enter Tryz.func52, Tryz.ntmps52
  go_wp2
  go_loopg [0, 1] y (fun g s0 s1 wr => ∃ (A1 : Option Addr) (n1 c1 x1 : Nat) (B1 : Option Addr) (m1 d1 : Nat), s0 = .slice A1 n1 c1 ∧ s1 = .slice B1 m1 d1 ∧ Dig wr A1 n1 c1 x1 ∧ Dig wr B1 m1 d1 g ∧ n1 ≤ 1099511627000 ∧ m1 ≤ 1099511627000 ∧ Nat.gcd x1 g = G ∧ Below w.heap.size w wr)
  case atStart => exact ⟨A, n, c, x, B, m, d, rfl, rfl, ha, hb, hc, hd, HG.out.symm, Below.refl _ _⟩
  case round =>
    clear ha hb hc hd
    obtain ⟨A1, n1, c1, x1, B1, m1, d1, rfl, rfl, h1, h2, hn1, hm1, hg, hbel⟩ := hrel
    have Hg := Lib.hid hg
    clear hg
    by_cases h0 : gk = 0
    · subst h0
      have hm0 : m1 = 0 := by rw [h2.1, dn_zero]
      subst hm0
      have hx := Hg.out
      rw [Nat.gcd_zero_right] at hx
      subst hx
      have hn := Lib.hid h1.1
      clear h2
      go_wp2
      go_ret
      exact ⟨A1, c1, by rw [← hn.out]; rfl, by rw [← hn.out]; exact h1, hbel⟩
    · have hm0 : 0 < m1 := by rw [h2.1]; exact dn_pos h0
      have hov := fun W => over_any A1 B1 n1 c1 x1 m1 d1 gk W
      have H0 := Lib.hid h0
      clear h0
      go_wp2_with fail
      refine (hov _ h1 h2 hn1 hm1 H0.out).mono ?_
      rintro e w' ⟨Aq, cq, Ar, cr, rfl, hq, hr, hb'⟩
      have h2' := h2.below hb'
      have hbel' := hbel.trans (hb'.mono hbel.size)
      have hmle : dn 32 (x1 % gk) ≤ m1 := by rw [h2.1]; exact dn_mono (by omega) (Nat.le_of_lt (Nat.mod_lt _ (Nat.pos_of_ne_zero H0.out)))
      clear hov h1 h2 hbel hb' hq
      go_wp2
      go_roundg (x1 % gk)
      case measure => exact Nat.mod_lt _ (Nat.pos_of_ne_zero H0.out)
      case rel => exact ⟨B1, m1, d1, gk, Ar, _, cr, rfl, rfl, h2', hr, hm1, by omega, by rw [Nat.gcd_comm, ← Nat.gcd_rec, Nat.gcd_comm]; exact Hg.out, hbel'⟩
end Go.Proofs.YtbhfnigblhfikaaGreatDoor
