/- Merged: J1 J2 -/
import Derived.Test.YtbfnafcpjbdbpaaB1

/- Long division, digit by digit, in plain Lean. -/
namespace Go.Proofs.Ytbfnafcpjbdbpaa
open Fil

/-- the carry of a multiple, i digits done -/
def gm (k g V i : Nat) : Nat := g * (V % 2 ^ (k * i)) / 2 ^ (k * i)
theorem gm_zero (k g V : Nat) : gm k g V 0 = 0 := by simp [gm, Nat.mod_one]
theorem gm_sum (k g V i : Nat) : gm k g V i + g * dg k V i = g * (V % 2 ^ (k * (i + 1))) / 2 ^ (k * i) := by
  rw [dg_succ, Nat.mul_add, ← Nat.mul_assoc, Nat.add_comm (g * dg k V i * 2 ^ (k * i)), Nat.add_mul_div_right _ _ (pp _)]
  rfl
theorem gm_dg (k g V i : Nat) : (gm k g V i + g * dg k V i) % 2 ^ k = dg k (g * V) i := by
  rw [gm_sum, ← dg_mod (k := k) (x := g * V) (n := i + 1) (Nat.lt_succ_self i), Nat.mul_mod g V, ← Nat.mod_mod_of_dvd (V) (Nat.dvd_refl (2 ^ (k * (i + 1)))), ← Nat.mul_mod, dg_mod (Nat.lt_succ_self i)]
  rw [Nat.mod_mod]
  rfl
theorem gm_succ (k g V i : Nat) : (gm k g V i + g * dg k V i) / 2 ^ k = gm k g V (i + 1) := by
  rw [gm_sum, Nat.div_div_eq_div_mul, ← pstep]
  rfl
theorem gm_lt {k g V : Nat} (hg : g < 2 ^ k) (i : Nat) : gm k g V i < 2 ^ k := by
  unfold gm
  refine Nat.div_lt_of_lt_mul ?_
  have h := Nat.mod_lt V (pp (k * i))
  calc g * (V % 2 ^ (k * i)) ≤ g * 2 ^ (k * i) := Nat.mul_le_mul_left _ (Nat.le_of_lt h)
    _ < 2 ^ k * 2 ^ (k * i) := Nat.mul_lt_mul_of_pos_right hg (pp _)
    _ = 2 ^ (k * i) * 2 ^ k := Nat.mul_comm _ _
theorem gm_top {k g V n : Nat} (hg : g < 2 ^ k) (hV : V < 2 ^ (k * n)) : gm k g V n = dg k (g * V) n := by
  have h := gm_dg k g V n
  rw [dg_zero_of hV, Nat.mul_zero, Nat.add_zero, Nat.mod_eq_of_lt (gm_lt hg n)] at h
  exact h
theorem mul_lt_next {k g V n : Nat} (hg : g < 2 ^ k) (hV : V < 2 ^ (k * n)) : g * V < 2 ^ (k * (n + 1)) := by
  rw [pstep, Nat.mul_comm g]
  exact Nat.mul_lt_mul'' hV hg
/-- a number above, of which the low digits are the old ones -/
theorem dg_high {k p x i : Nat} (h : i < p) : dg k (x + 2 ^ (k * p)) i = dg k x i := by
  rw [← dg_mod h, Nat.add_mod_right, dg_mod h]
theorem borrow_high {k p x y i : Nat} (h : i ≤ p) : borrow k (x + 2 ^ (k * p)) y i = borrow k x y i := by
  unfold borrow
  have hd : 2 ^ (k * i) ∣ 2 ^ (k * p) := Nat.pow_dvd_pow 2 (Nat.mul_le_mul_left k h)
  rw [Nat.add_mod, Nat.mod_eq_zero_of_dvd hd, Nat.add_zero, Nat.mod_mod]
theorem dg_join {k j x y t : Nat} (hx : x < 2 ^ (k * j)) : dg k (x + y * 2 ^ (k * j)) t = if t < j then dg k x t else dg k y (t - j) := by
  split
  · rename_i h
    rw [← dg_mod h, Nat.add_mul_mod_self_right, dg_mod h]
  · rename_i h
    obtain ⟨s, rfl⟩ : ∃ s, t = j + s := ⟨t - j, by omega⟩
    rw [← dg_div, Nat.add_mul_div_right _ _ (pp _), Nat.div_eq_of_lt hx, Nat.zero_add, Nat.add_sub_cancel_left]
/-- g - V's multiple, taken off, with 2^(k (n+1)) laid upon it -/
def offX (k n R y : Nat) : Nat := R + 2 ^ (k * (n + 1)) - y
theorem offX_le {k n R y : Nat} (hy : y < 2 ^ (k * (n + 1))) : y ≤ R + 2 ^ (k * (n + 1)) := by omega
theorem offX_dg {k n R y i : Nat} (hy : y < 2 ^ (k * (n + 1))) (hi : i ≤ n) : dg k (offX k n R y) i = (2 ^ k + dg k R i - dg k y i - borrow k R y i) % 2 ^ k := by
  unfold offX
  rw [sub_succ (offX_le hy), dg_high (by omega), borrow_high (by omega)]
theorem borrow_full {k n R y : Nat} (hR : R < 2 ^ (k * n)) (hy : y < 2 ^ (k * n)) : borrow k R y n = if R < y then 1 else 0 := by
  unfold borrow
  rw [Nat.mod_eq_of_lt hR, Nat.mod_eq_of_lt hy]
theorem offX_of_le {k n R y : Nat} (hR : R < 2 ^ (k * (n + 1))) (hy : y ≤ R) : offX k n R y % 2 ^ (k * (n + 1)) = R - y := by
  unfold offX
  rw [show R + 2 ^ (k * (n + 1)) - y = R - y + 2 ^ (k * (n + 1)) by omega, Nat.add_mod_right, Nat.mod_eq_of_lt (by omega)]
theorem offX_back {k n R y V : Nat} (hy : R < y) (hV : y ≤ R + V) (hb : V < 2 ^ (k * (n + 1))) : (offX k n R y + V) % 2 ^ (k * (n + 1)) = R + V - y := by
  unfold offX
  have h1 : R + V - y < 2 ^ (k * (n + 1)) := by omega
  rw [show R + 2 ^ (k * (n + 1)) - y + V = R + V - y + 2 ^ (k * (n + 1)) by omega, Nat.add_mod_right, Nat.mod_eq_of_lt h1]

/-- the guess of a digit: the divisor V = v1 B K + v2 K + vl, what is left R = two B K + u0 K + rl -/
structure Guess (B K v1 v2 vl two u0 rl V R : Nat) : Prop where
  hK : 0 < K
  hB : 2 ≤ B
  hv : B ≤ 2 * v1
  hv1 : v1 < B
  hv2 : v2 < B
  hvl : vl < K
  hu0 : u0 < B
  hrl : rl < K
  eV : V = (v1 * B + v2) * K + vl
  eR : R = (two * B + u0) * K + rl
  lt : R < B * V
namespace Guess
variable {B K v1 v2 vl two u0 rl V R g r : Nat}
theorem pos (h : Guess B K v1 v2 vl two u0 rl V R) : 0 < V := by
  have := h.lt
  rcases Nat.eq_zero_or_pos V with h0 | h0
  · rw [h0] at this; omega
  · exact h0
theorem two_le (h : Guess B K v1 v2 vl two u0 rl V R) : two ≤ v1 * B + v2 := by
  have h1 : two * B * K ≤ R := by rw [h.eR, Nat.add_mul]; omega
  have h2 : V < (v1 * B + v2 + 1) * K := by rw [h.eV, Nat.add_mul _ 1]; have := h.hvl; omega
  have h3 : two * B * K < (v1 * B + v2 + 1) * B * K := by
    calc two * B * K ≤ R := h1
      _ < B * V := h.lt
      _ ≤ B * ((v1 * B + v2 + 1) * K) := Nat.mul_le_mul_left _ (Nat.le_of_lt h2)
      _ = (v1 * B + v2 + 1) * B * K := by rw [← Nat.mul_assoc, Nat.mul_comm B]
  have h4 := Nat.lt_of_mul_lt_mul_right (Nat.lt_of_mul_lt_mul_right h3)
  omega
theorem digit_lt (h : Guess B K v1 v2 vl two u0 rl V R) : R / V < B := Nat.div_lt_of_lt_mul (by rw [Nat.mul_comm]; exact h.lt)
theorem first_le (h : Guess B K v1 v2 vl two u0 rl V R) : two / v1 ≤ B + 1 := by
  have h1 := h.two_le
  have h2 := h.hv
  have h3 := h.hv2
  have h4 := h.hB
  have h5 : two < (B + 2) * v1 := by rw [Nat.add_mul, Nat.mul_comm B]; omega
  have := Nat.div_lt_of_lt_mul (by rw [Nat.mul_comm] at h5; exact h5)
  omega
theorem first_ge (h : Guess B K v1 v2 vl two u0 rl V R) : R / V ≤ two / v1 := by
  refine Nat.le_of_not_lt fun hlt => ?_
  have hv1 : 0 < v1 := by have := h.hv; have := h.hB; omega
  have h1 : two < (R / V) * v1 := by
    have := Nat.lt_mul_of_div_lt hlt hv1
    exact this
  have h2 : (R / V) * V ≤ R := Nat.div_mul_le_self R V
  have h3 : (R / V) * (v1 * B * K) ≤ (R / V) * V := Nat.mul_le_mul_left _ (by rw [h.eV, Nat.add_mul]; omega)
  have h4 : (two + 1) * (B * K) ≤ (R / V) * v1 * (B * K) := Nat.mul_le_mul_right _ h1
  have h5 : (R / V) * v1 * (B * K) = (R / V) * (v1 * B * K) := by simp only [Nat.mul_assoc]
  have h6 : (two + 1) * (B * K) = two * B * K + B * K := by rw [Nat.add_mul, Nat.one_mul, Nat.mul_assoc]
  have h7 : R < two * B * K + B * K := by
    rw [h.eR, Nat.add_mul]
    have : u0 * K + K ≤ B * K := by rw [← Nat.succ_mul]; exact Nat.mul_le_mul_right _ h.hu0
    have := h.hrl
    omega
  omega
/-- while the test says 'too much' it is -/
theorem step_gt (h : Guess B K v1 v2 vl two u0 rl V R) (hq : R / V ≤ g) (e : two = g * v1 + r) (ht : B ≤ g ∨ r * B + u0 < g * v2) : R / V < g := by
  rcases ht with ht | ht
  · exact Nat.lt_of_lt_of_le h.digit_lt ht
  refine Nat.lt_of_le_of_ne hq fun he => ?_
  have h2 : g * V ≤ R := by rw [← he]; exact Nat.div_mul_le_self R V
  have h3 : g * V = (g * v1 * B + g * v2) * K + g * vl := by rw [h.eV, Nat.mul_add, ← Nat.mul_assoc, Nat.mul_add, ← Nat.mul_assoc]
  have h4 : (g * v1 * B + (r * B + u0) + 1) * K ≤ (g * v1 * B + g * v2) * K := Nat.mul_le_mul_right _ (by omega)
  have h5 : two * B + u0 = g * v1 * B + (r * B + u0) := by rw [e, Nat.add_mul]; omega
  have h6 := h.eR
  rw [h5] at h6
  rw [Nat.add_mul _ 1, Nat.one_mul] at h4
  have := h.hrl
  omega
/-- where it says 'no more' it is at most one too much -/
theorem stop_le (h : Guess B K v1 v2 vl two u0 rl V R) (e : two = g * v1 + r) (hg : g < B) (ht : g * v2 ≤ r * B + u0) : g ≤ R / V + 1 := by
  rcases Nat.eq_zero_or_pos g with h0 | h0
  · rw [h0]; exact Nat.zero_le _
  have h3 : g * V = (g * v1 * B + g * v2) * K + g * vl := by rw [h.eV, Nat.mul_add, ← Nat.mul_assoc, Nat.mul_add, ← Nat.mul_assoc]
  have h4 : (g * v1 * B + g * v2) * K ≤ (g * v1 * B + (r * B + u0)) * K := Nat.mul_le_mul_right _ (by omega)
  have h5 : two * B + u0 = g * v1 * B + (r * B + u0) := by rw [e, Nat.add_mul]; omega
  have h6 := h.eR
  rw [h5] at h6
  have h7 : g * vl < g * K := Nat.mul_lt_mul_of_pos_left h.hvl h0
  have h8 : g * K ≤ V := by
    rw [h.eV]
    have : g * K ≤ (v1 * B + v2) * K := Nat.mul_le_mul_right _ (by
      have : 1 * B ≤ v1 * B := Nat.mul_le_mul_right _ (by have := h.hv; have := h.hB; omega)
      omega)
    omega
  have h9 : (g - 1) * V ≤ R := by
    have : g * V = (g - 1) * V + V := by
      obtain ⟨p, rfl⟩ : ∃ p, g = p + 1 := ⟨g - 1, by omega⟩
      rw [Nat.add_mul, Nat.one_mul]; rfl
    omega
  have := (Nat.le_div_iff_mul_le h.pos).2 h9
  omega
/-- what is left of the two digits is no digit: no test is wanted -/
theorem stop_of_rest (h : Guess B K v1 v2 vl two u0 rl V R) (e : two = g * v1 + r) (hr : B ≤ r) : g < B ∧ g * v2 ≤ r * B + u0 := by
  have h1 := h.two_le
  have h2 := h.hv2
  have hg : g < B := by
    refine Nat.lt_of_not_le fun hle => ?_
    have : B * v1 ≤ g * v1 := Nat.mul_le_mul_right _ hle
    rw [Nat.mul_comm] at this
    omega
  refine ⟨hg, ?_⟩
  have h3 : g * v2 ≤ B * B := Nat.mul_le_mul (Nat.le_of_lt hg) (Nat.le_of_lt h2)
  have h4 : B * B ≤ r * B := Nat.mul_le_mul_right _ hr
  omega
end Guess

/-- the numbers A and V; what is left when the digits from j on are done -/
def rem' (A V j : Nat) : Nat := A % (V * 2 ^ (32 * j))
theorem rem_digit (A V j : Nat) : rem' A V (j + 1) / 2 ^ (32 * j) / V = dg 32 (A / V) j := by
  unfold rem' dg
  rw [pstep, ← Nat.mul_assoc, Nat.div_div_eq_div_mul, Nat.mul_comm (2 ^ (32 * j)) V, Nat.mod_mul_right_div_self, Nat.div_div_eq_div_mul]
theorem rem_next (A V j : Nat) : rem' A V j = rem' A V (j + 1) - rem' A V (j + 1) / 2 ^ (32 * j) / V * V * 2 ^ (32 * j) := by
  have h : rem' A V j = rem' A V (j + 1) % (V * 2 ^ (32 * j)) := by
    unfold rem'
    rw [Nat.mod_mod_of_dvd]
    rw [pstep, ← Nat.mul_assoc]
    exact Nat.dvd_mul_right _ _
  rw [h, Nat.mod_eq_sub_mul_div, Nat.div_div_eq_div_mul, Nat.mul_comm (2 ^ (32 * j)) V]
  congr 1
  rw [Nat.mul_comm, Nat.mul_assoc]
theorem rem_lt (A V j : Nat) (hV : 0 < V) : rem' A V (j + 1) / 2 ^ (32 * j) < 2 ^ 32 * V := by
  refine Nat.div_lt_of_lt_mul ?_
  refine Nat.lt_of_lt_of_le (Nat.mod_lt _ (Nat.mul_pos hV (pp _))) (Nat.le_of_eq ?_)
  rw [pstep, ← Nat.mul_assoc, Nat.mul_comm (2 ^ (32 * j)), Nat.mul_comm (2 ^ 32), Nat.mul_right_comm]
theorem rem_split (U j q V : Nat) (h : q * V ≤ U / 2 ^ (32 * j)) : U % 2 ^ (32 * j) + (U / 2 ^ (32 * j) - q * V) * 2 ^ (32 * j) = U - q * V * 2 ^ (32 * j) := by
  have h1 := Nat.mod_add_div U (2 ^ (32 * j))
  rw [Nat.mul_comm (2 ^ (32 * j))] at h1
  rw [Nat.sub_mul]
  have h2 : q * V * 2 ^ (32 * j) ≤ U / 2 ^ (32 * j) * 2 ^ (32 * j) := Nat.mul_le_mul_right _ h
  omega
theorem rem_zero (A V : Nat) : rem' A V 0 = A % V := by simp [rem']
theorem norm_mod (a b s : Nat) : a * 2 ^ s % (b * 2 ^ s) / 2 ^ s = a % b := by
  rw [Nat.mul_mod_mul_right, Nat.mul_div_cancel _ (pp s)]
theorem norm_div (a b s : Nat) : a * 2 ^ s / (b * 2 ^ s) = a / b := Nat.mul_div_mul_right _ _ (pp s)
/-- the divisor, shifted so that its highest bit is 1 -/
theorem norm_top {b n s : Nat} (hb : b ≠ 0) (hn : n = dn 32 b) (hs : s = 32 - bl (dg 32 b (n - 1))) : 2 ^ (32 * n) ≤ 2 * (b * 2 ^ s) ∧ b * 2 ^ s < 2 ^ (32 * n) ∧ s < 32 := by
  have hd : dg 32 b (n - 1) ≠ 0 := by rw [hn]; exact dg_top (by omega) hb
  have hlt : dg 32 b (n - 1) < 2 ^ 32 := dg_lt 32 b (n - 1)
  have h1 := bl_le hlt
  have h2 : bl (dg 32 b (n - 1)) ≠ 0 := fun h => hd (by unfold bl at h; split at h <;> omega)
  have hbl := bl_dn (k := 32) (by omega) hb
  rw [← hn] at hbl
  have hnp : 0 < n := by rw [hn]; exact dn_pos hb
  have e : bl b + s = 32 * n := by omega
  have h3 := lt_bl b
  have h4 := le_bl hb
  refine ⟨?_, ?_, by omega⟩
  · have : 2 ^ (32 * n) = 2 * (2 ^ (bl b - 1) * 2 ^ s) := by rw [← Nat.pow_add, ← Nat.pow_succ']; congr 1; omega
    rw [this]
    exact Nat.mul_le_mul_left _ (Nat.mul_le_mul_right _ h4)
  · calc b * 2 ^ s < 2 ^ bl b * 2 ^ s := Nat.mul_lt_mul_of_pos_right h3 (pp _)
      _ = 2 ^ (32 * n) := by rw [← Nat.pow_add, e]
/-- two digits, and what lies below -/
theorem top_two {V n : Nat} (hn : 2 ≤ n) (h : V < 2 ^ (32 * n)) : V = (dg 32 V (n - 1) * 2 ^ 32 + dg 32 V (n - 2)) * 2 ^ (32 * (n - 2)) + V % 2 ^ (32 * (n - 2)) := by
  have h1 := dg_succ 32 V (n - 1)
  have h2 := dg_succ 32 V (n - 2)
  rw [show n - 1 + 1 = n by omega, Nat.mod_eq_of_lt h] at h1
  rw [show n - 2 + 1 = n - 1 by omega] at h2
  have h3 : 2 ^ (32 * (n - 1)) = 2 ^ 32 * 2 ^ (32 * (n - 2)) := by rw [← Nat.pow_add]; congr 1; omega
  rw [h3] at h1
  rw [Nat.add_mul, Nat.mul_assoc, Nat.add_assoc, ← h2, ← h3]
  rw [← h3] at h1
  exact h1
theorem top_three {R n : Nat} (hn : 2 ≤ n) (h : R < 2 ^ (32 * (n + 1))) : R = ((dg 32 R n * 2 ^ 32 + dg 32 R (n - 1)) * 2 ^ 32 + dg 32 R (n - 2)) * 2 ^ (32 * (n - 2)) + R % 2 ^ (32 * (n - 2)) := by
  have h1 := dg_succ 32 R n
  rw [Nat.mod_eq_of_lt h] at h1
  have h2 := top_two (V := R % 2 ^ (32 * n)) hn (Nat.mod_lt _ (pp _))
  rw [dg_mod (by omega), dg_mod (by omega), Nat.mod_mod_of_dvd _ (Nat.pow_dvd_pow 2 (by omega))] at h2
  have h3 : 2 ^ (32 * n) = 2 ^ 32 * 2 ^ 32 * 2 ^ (32 * (n - 2)) := by rw [← Nat.pow_add, ← Nat.pow_add]; congr 1; omega
  rw [h2, h3] at h1
  rw [Nat.add_mul, Nat.add_mul, Nat.add_mul]
  rw [Nat.add_mul] at h1
  simp only [Nat.mul_assoc] at h1 ⊢
  omega
theorem guess_of {R V n : Nat} (hn : 2 ≤ n) (hV : V < 2 ^ (32 * n)) (ht : 2 ^ (32 * n) ≤ 2 * V) (hR : R < 2 ^ 32 * V) :
    Guess (2 ^ 32) (2 ^ (32 * (n - 2))) (dg 32 V (n - 1)) (dg 32 V (n - 2)) (V % 2 ^ (32 * (n - 2))) (dg 32 R n * 2 ^ 32 + dg 32 R (n - 1)) (dg 32 R (n - 2)) (R % 2 ^ (32 * (n - 2))) V R where
  hK := pp _
  hB := by decide
  hv1 := dg_lt 32 V (n - 1)
  hv2 := dg_lt 32 V (n - 2)
  hvl := Nat.mod_lt _ (pp _)
  hu0 := dg_lt 32 R (n - 2)
  hrl := Nat.mod_lt _ (pp _)
  eV := top_two hn hV
  eR := top_three hn (Nat.lt_of_lt_of_le hR (by rw [pstep, Nat.mul_comm]; exact Nat.mul_le_mul_right _ (Nat.le_of_lt hV)))
  lt := hR
  hv := by
    have hd : dg 32 V (n - 1) = V / 2 ^ (32 * (n - 1)) := dg_div_eq (by rw [show n - 1 + 1 = n by omega]; exact hV)
    rw [hd]
    have h1 : 2 ^ (32 * n) = 2 * (2 ^ 31 * 2 ^ (32 * (n - 1))) := by rw [← Nat.pow_add, ← Nat.pow_succ']; congr 1; omega
    rw [h1] at ht
    have h2 : 2 ^ 31 * 2 ^ (32 * (n - 1)) ≤ V := by omega
    have := (Nat.le_div_iff_mul_le (pp (32 * (n - 1)))).2 h2
    omega
theorem start_lt {a b n l s : Nat} (ha : a < 2 ^ (32 * l)) (hnl : n ≤ l + 1) (hs : s < 32) (ht : 2 ^ (32 * n) ≤ 2 * (b * 2 ^ s)) : a * 2 ^ s < b * 2 ^ s * 2 ^ (32 * (l + 1 - n)) := by
  have h1 : a * 2 ^ s < 2 ^ (32 * l) * 2 ^ 31 := by
    calc a * 2 ^ s < 2 ^ (32 * l) * 2 ^ s := Nat.mul_lt_mul_of_pos_right ha (pp _)
      _ ≤ _ := Nat.mul_le_mul_left _ (pmono (by omega))
  have h2 : 2 * (2 ^ (32 * l) * 2 ^ 31) = 2 ^ (32 * n) * 2 ^ (32 * (l + 1 - n)) := by rw [← Nat.pow_add, ← Nat.pow_succ', ← Nat.pow_add]; congr 1; omega
  have h3 := Nat.mul_le_mul_right (2 ^ (32 * (l + 1 - n))) ht
  rw [Nat.mul_assoc 2] at h3
  omega
end Go.Proofs.Ytbfnafcpjbdbpaa

/- Division by one digit, and decimal digits, in plain Lean. -/
namespace Go.Proofs.Ytbfnafcpjbdbpaa
open Fil

/-- what is left of the digits above place i -/
def sr (x b i : Nat) : Nat := x / 2 ^ (32 * i) % b
theorem sr_top {x b n : Nat} (h : x < 2 ^ (32 * n)) : sr x b n = 0 := by unfold sr; rw [Nat.div_eq_of_lt h, Nat.zero_mod]
theorem sr_zero (x b : Nat) : sr x b 0 = x % b := by simp [sr]
theorem short_cur (x i : Nat) : x / 2 ^ (32 * i) = x / 2 ^ (32 * (i + 1)) * 2 ^ 32 + dg 32 x i := div_step 32 x i
theorem sr_step (x b i : Nat) : (sr x b (i + 1) * 2 ^ 32 + dg 32 x i) % b = sr x b i := by
  unfold sr
  rw [short_cur x i, Nat.add_mod, Nat.mod_mul_mod, ← Nat.add_mod]
theorem sr_dg {b : Nat} (x i : Nat) (hb : 0 < b) : (sr x b (i + 1) * 2 ^ 32 + dg 32 x i) / b = dg 32 (x / b) i := by
  have h1 : x / 2 ^ (32 * i) = b * (x / 2 ^ (32 * (i + 1)) / b * 2 ^ 32) + (sr x b (i + 1) * 2 ^ 32 + dg 32 x i) := by
    rw [short_cur x i]
    have h := Nat.div_add_mod (x / 2 ^ (32 * (i + 1))) b
    unfold sr
    rw [← Nat.mul_assoc, ← Nat.add_assoc, ← Nat.add_mul, h]
  have h2 : (sr x b (i + 1) * 2 ^ 32 + dg 32 x i) / b < 2 ^ 32 := by
    refine Nat.div_lt_of_lt_mul ?_
    have h3 : sr x b (i + 1) < b := Nat.mod_lt _ hb
    have h4 : dg 32 x i < 2 ^ 32 := dg_lt 32 x i
    have h5 : (sr x b (i + 1) + 1) * 2 ^ 32 ≤ b * 2 ^ 32 := Nat.mul_le_mul_right _ h3
    rw [Nat.add_mul] at h5
    omega
  have h6 : x / b / 2 ^ (32 * i) = x / 2 ^ (32 * (i + 1)) / b * 2 ^ 32 + (sr x b (i + 1) * 2 ^ 32 + dg 32 x i) / b := by
    rw [Nat.div_div_eq_div_mul, Nat.mul_comm, ← Nat.div_div_eq_div_mul, h1, Nat.mul_add_div hb]
  unfold dg
  unfold dg at h6 h2
  rw [h6, Nat.mul_add_mod_self_right, Nat.mod_eq_of_lt h2]
theorem sr_lt {b : Nat} (x i : Nat) (hb : 0 < b) : sr x b i < b := Nat.mod_lt _ hb
theorem short_bound {x b n : Nat} (h : x < 2 ^ (32 * n)) : x / b < 2 ^ (32 * n) := Nat.lt_of_le_of_lt (Nat.div_le_self _ _) h

/-- a number's decimal digits as signs, the lowest first; none of 0 -/
def decs (x : Nat) : List UInt8 := if h : x = 0 then [] else UInt8.ofNat (48 + x % 10) :: decs (x / 10)
termination_by x
decreasing_by omega
theorem decs_zero : decs 0 = [] := by unfold decs; simp
theorem decs_pos {x : Nat} (h : x ≠ 0) : decs x = UInt8.ofNat (48 + x % 10) :: decs (x / 10) := by rw [decs, dif_neg h]
/-- a number's text -/
def dtx (x : Nat) : List UInt8 := if x = 0 then [48] else (decs x).reverse
theorem decs_length_le : ∀ (n x : Nat), x < 10 ^ n → (decs x).length ≤ n
  | 0, x, h => by have : x = 0 := by simpa using h
                  subst this; simp [decs_zero]
  | n + 1, x, h => by
    by_cases h0 : x = 0
    · subst h0; simp [decs_zero]
    · rw [decs_pos h0, List.length_cons]
      have := decs_length_le n (x / 10) (Nat.div_lt_of_lt_mul (by rw [Nat.pow_succ, Nat.mul_comm] at h; exact h))
      omega
/-- the inner loop: d above nine digits, r what is left of nine, i of them done -/
def grp (d r i : Nat) : Nat := d * 10 ^ (9 - i) + r
theorem grp_zero_iff (d r i : Nat) : grp d r i = 0 ↔ d = 0 ∧ r = 0 := by
  unfold grp
  have := Nat.pow_pos (a := 10) (n := 9 - i) (by omega)
  constructor
  · intro h
    rcases Nat.eq_zero_or_pos d with h0 | h0
    · exact ⟨h0, by omega⟩
    · have := Nat.mul_le_mul h0 this; omega
  · rintro ⟨rfl, rfl⟩; simp
theorem grp_step {d r i : Nat} (hi : i < 9) (hne : grp d r i ≠ 0) : decs (grp d r i) = UInt8.ofNat (48 + r % 10) :: decs (grp d (r / 10) (i + 1)) := by
  have h : d * 10 ^ (9 - i) = 10 * (d * 10 ^ (9 - (i + 1))) := by rw [show 9 - i = (9 - (i + 1)) + 1 by omega, Nat.pow_succ, ← Nat.mul_assoc, Nat.mul_comm 10]
  have h1 : grp d r i % 10 = r % 10 := by unfold grp; omega
  have h2 : grp d r i / 10 = grp d (r / 10) (i + 1) := by unfold grp; omega
  rw [decs_pos hne, h1, h2]
theorem grp_start (x : Nat) : grp (x / 1000000000) (x % 1000000000) 0 = x := by
  unfold grp
  have := Nat.div_add_mod x 1000000000
  omega
theorem grp_nine {d r : Nat} (hr : r < 10 ^ (9 - 9)) : grp d r 9 = d := by unfold grp; simp at hr; simp [hr]
theorem grp_rest {r i : Nat} (hi : i < 9) (h : r < 10 ^ (9 - i)) : r / 10 < 10 ^ (9 - (i + 1)) := by
  rw [show 9 - i = (9 - (i + 1)) + 1 by omega, Nat.pow_succ, Nat.mul_comm] at h
  exact Nat.div_lt_of_lt_mul h

/-- the number that decimal signs spell, on top of n -/
def dval (n : Nat) (l : List UInt8) : Nat := l.foldl (fun n c => 10 * n + (c.toNat - 48)) n
theorem dval_nil (n : Nat) : dval n [] = n := by unfold dval; rw [List.foldl_nil]
theorem dval_cons (n : Nat) (c : UInt8) (r : List UInt8) : dval n (c :: r) = dval (10 * n + (c.toNat - 48)) r := by unfold dval; rw [List.foldl_cons]
theorem dval_append (l m : List UInt8) (n : Nat) : dval n (l ++ m) = dval (dval n l) m := List.foldl_append
theorem dval_add : ∀ (l : List UInt8) (n : Nat), dval n l = n * 10 ^ l.length + dval 0 l
  | [], n => by simp [dval_nil]
  | c :: r, n => by
    rw [dval_cons, dval_add r, dval_cons, dval_add r (10 * 0 + (c.toNat - 48)), List.length_cons, Nat.pow_succ]
    rw [Nat.add_mul, Nat.mul_zero, Nat.zero_add]
    have : 10 * n * 10 ^ r.length = n * (10 ^ r.length * 10) := by rw [Nat.mul_comm 10 n, Nat.mul_assoc, Nat.mul_comm 10]
    omega
/-- decimal signs -/
def isDec (c : UInt8) : Bool := decide (48 ≤ c.toNat ∧ c.toNat ≤ 57)
def allDec (l : List UInt8) : Prop := ∀ c ∈ l, isDec c = true
theorem dval_lt : ∀ (l : List UInt8), allDec l → dval 0 l < 10 ^ l.length
  | [], _ => by simp [dval_nil]
  | c :: r, h => by
    rw [dval_cons, dval_add, List.length_cons, Nat.pow_succ]
    have h1 := dval_lt r fun d hd => h d (List.mem_cons_of_mem _ hd)
    have h2 := h c (List.mem_cons_self ..)
    unfold isDec at h2
    have h2 := of_decide_eq_true h2
    have h3 : (10 * 0 + (c.toNat - 48)) * 10 ^ r.length ≤ 9 * 10 ^ r.length := Nat.mul_le_mul_right _ (by omega)
    omega
theorem u8_of_lt {n : Nat} (h : n < 256) : (UInt8.ofNat n).toNat = n := by simp [Nat.mod_eq_of_lt h]
theorem decs_allDec (x : Nat) : allDec (decs x) := by
  induction x using Nat.strongRecOn with
  | _ x ih =>
    by_cases h : x = 0
    · subst h; rw [decs_zero]; intro c hc; simp at hc
    · rw [decs_pos h]
      intro c hc
      rcases List.mem_cons.1 hc with rfl | hc
      · unfold isDec; rw [u8_of_lt (by omega)]; exact decide_eq_true (by omega)
      · exact ih (x / 10) (by omega) c hc
theorem dval_decs (x : Nat) : dval 0 (decs x).reverse = x := by
  induction x using Nat.strongRecOn with
  | _ x ih =>
    by_cases h : x = 0
    · subst h; rw [decs_zero]; rfl
    · rw [decs_pos h, List.reverse_cons, dval_append, ih (x / 10) (by omega), dval_cons, dval_nil, u8_of_lt (by omega)]
      omega
theorem dval_dtx (x : Nat) : dval 0 (dtx x) = x := by
  unfold dtx
  split
  · rename_i h; subst h; rfl
  · exact dval_decs x
theorem dtx_allDec (x : Nat) : allDec (dtx x) := by
  unfold dtx
  split
  · intro c hc; rcases List.mem_cons.1 hc with rfl | hc
    · rfl
    · simp at hc
  · intro c hc; exact decs_allDec x c (List.mem_reverse.1 hc)
/-- no 0 ahead of others -/
def bare (l : List UInt8) : Prop := l ≠ [] ∧ (l.head? = some 48 → l.length = 1)
theorem decs_last {x : Nat} (h : x ≠ 0) : ∃ c, (decs x).getLast? = some c ∧ c ≠ 48 := by
  induction x using Nat.strongRecOn with
  | _ x ih =>
    rw [decs_pos h]
    by_cases h0 : x / 10 = 0
    · rw [h0, decs_zero]
      refine ⟨UInt8.ofNat (48 + x % 10), rfl, fun he => ?_⟩
      have := congrArg UInt8.toNat he
      rw [u8_of_lt (by omega)] at this
      have h9 : (48 : UInt8).toNat = 48 := rfl
      omega
    · obtain ⟨c, hc, hne⟩ := ih (x / 10) (by omega) h0
      refine ⟨c, ?_, hne⟩
      rw [List.getLast?_cons, hc]; rfl
theorem dtx_bare (x : Nat) : bare (dtx x) := by
  unfold dtx
  split
  · exact ⟨by simp, fun _ => rfl⟩
  · rename_i h
    obtain ⟨c, hc, hne⟩ := decs_last h
    refine ⟨fun he => ?_, fun hh => ?_⟩
    · rw [List.reverse_eq_nil_iff] at he; rw [he] at hc; simp at hc
    · rw [List.head?_reverse, hc] at hh; injection hh with hh; exact absurd hh hne
end Go.Proofs.Ytbfnafcpjbdbpaa
