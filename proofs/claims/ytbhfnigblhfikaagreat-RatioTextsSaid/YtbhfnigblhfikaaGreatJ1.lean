/- Long division, digit by digit, in plain Lean. -/
import Derived.Test.YtbhfnigblhfikaaGreatB1
namespace Go.Proofs.YtbhfnigblhfikaaGreat
open Fil

/-- the carry of a multiple, i digits done -/
def gm (k g V i : Nat) : Nat := g * (V % 2 ^ (k * i)) / 2 ^ (k * i)
theorem gm_zero (k g V : Nat) : gm k g V 0 = 0 := by simp [gm, Nat.mod_one]
theorem gm_sum (k g V i : Nat) : gm k g V i + g * dg k V i = g * (V % 2 ^ (k * (i + 1))) / 2 ^ (k * i) := by
  rw [dg_succ, Nat.mul_add, ← Nat.mul_assoc, Nat.add_comm (g * dg k V i * 2 ^ (k * i)), Nat.add_mul_div_right _ _ (pp _)]
  rfl
theorem gm_dg (k g V i : Nat) : (gm k g V i + g * dg k V i) % 2 ^ k = dg k (g * V) i := by
  rw [gm_sum, ← dg_mod (k := k) (x := g * V) (n := i + 1) (Nat.lt_succ_self i), Nat.mul_mod g V, ← Nat.mod_mod_of_dvd (V) (Nat.dvd_refl (2 ^ (k * (i + 1)))), ← Nat.mul_mod, dg_mod (Nat.lt_succ_self i)]
  rw [Nat.mod_mod]
  rfl
theorem gm_succ (k g V i : Nat) : (gm k g V i + g * dg k V i) / 2 ^ k = gm k g V (i + 1) := by
  rw [gm_sum, Nat.div_div_eq_div_mul, ← pstep]
  rfl
theorem gm_lt {k g V : Nat} (hg : g < 2 ^ k) (i : Nat) : gm k g V i < 2 ^ k := by
  unfold gm
  refine Nat.div_lt_of_lt_mul ?_
  have h := Nat.mod_lt V (pp (k * i))
  calc g * (V % 2 ^ (k * i)) ≤ g * 2 ^ (k * i) := Nat.mul_le_mul_left _ (Nat.le_of_lt h)
    _ < 2 ^ k * 2 ^ (k * i) := Nat.mul_lt_mul_of_pos_right hg (pp _)
    _ = 2 ^ (k * i) * 2 ^ k := Nat.mul_comm _ _
theorem gm_top {k g V n : Nat} (hg : g < 2 ^ k) (hV : V < 2 ^ (k * n)) : gm k g V n = dg k (g * V) n := by
  have h := gm_dg k g V n
  rw [dg_zero_of hV, Nat.mul_zero, Nat.add_zero, Nat.mod_eq_of_lt (gm_lt hg n)] at h
  exact h
theorem mul_lt_next {k g V n : Nat} (hg : g < 2 ^ k) (hV : V < 2 ^ (k * n)) : g * V < 2 ^ (k * (n + 1)) := by
  rw [pstep, Nat.mul_comm g]
  exact Nat.mul_lt_mul'' hV hg
/-- a number above, of which the low digits are the old ones -/
theorem dg_high {k p x i : Nat} (h : i < p) : dg k (x + 2 ^ (k * p)) i = dg k x i := by
  rw [← dg_mod h, Nat.add_mod_right, dg_mod h]
theorem borrow_high {k p x y i : Nat} (h : i ≤ p) : borrow k (x + 2 ^ (k * p)) y i = borrow k x y i := by
  unfold borrow
  have hd : 2 ^ (k * i) ∣ 2 ^ (k * p) := Nat.pow_dvd_pow 2 (Nat.mul_le_mul_left k h)
  rw [Nat.add_mod, Nat.mod_eq_zero_of_dvd hd, Nat.add_zero, Nat.mod_mod]
theorem dg_join {k j x y t : Nat} (hx : x < 2 ^ (k * j)) : dg k (x + y * 2 ^ (k * j)) t = if t < j then dg k x t else dg k y (t - j) := by
  split
  · rename_i h
    rw [← dg_mod h, Nat.add_mul_mod_self_right, dg_mod h]
  · rename_i h
    obtain ⟨s, rfl⟩ : ∃ s, t = j + s := ⟨t - j, by omega⟩
    rw [← dg_div, Nat.add_mul_div_right _ _ (pp _), Nat.div_eq_of_lt hx, Nat.zero_add, Nat.add_sub_cancel_left]
/-- g - V's multiple, taken off, with 2^(k (n+1)) laid upon it -/
def offX (k n R y : Nat) : Nat := R + 2 ^ (k * (n + 1)) - y
theorem offX_le {k n R y : Nat} (hy : y < 2 ^ (k * (n + 1))) : y ≤ R + 2 ^ (k * (n + 1)) := by omega
theorem offX_dg {k n R y i : Nat} (hy : y < 2 ^ (k * (n + 1))) (hi : i ≤ n) : dg k (offX k n R y) i = (2 ^ k + dg k R i - dg k y i - borrow k R y i) % 2 ^ k := by
  unfold offX
  rw [sub_succ (offX_le hy), dg_high (by omega), borrow_high (by omega)]
theorem borrow_full {k n R y : Nat} (hR : R < 2 ^ (k * n)) (hy : y < 2 ^ (k * n)) : borrow k R y n = if R < y then 1 else 0 := by
  unfold borrow
  rw [Nat.mod_eq_of_lt hR, Nat.mod_eq_of_lt hy]
theorem offX_of_le {k n R y : Nat} (hR : R < 2 ^ (k * (n + 1))) (hy : y ≤ R) : offX k n R y % 2 ^ (k * (n + 1)) = R - y := by
  unfold offX
  rw [show R + 2 ^ (k * (n + 1)) - y = R - y + 2 ^ (k * (n + 1)) by omega, Nat.add_mod_right, Nat.mod_eq_of_lt (by omega)]
theorem offX_back {k n R y V : Nat} (hy : R < y) (hV : y ≤ R + V) (hb : V < 2 ^ (k * (n + 1))) : (offX k n R y + V) % 2 ^ (k * (n + 1)) = R + V - y := by
  unfold offX
  have h1 : R + V - y < 2 ^ (k * (n + 1)) := by omega
  rw [show R + 2 ^ (k * (n + 1)) - y + V = R + V - y + 2 ^ (k * (n + 1)) by omega, Nat.add_mod_right, Nat.mod_eq_of_lt h1]

/-- the guess of a digit: the divisor V = v1 B K + v2 K + vl, what is left R = two B K + u0 K + rl -/
structure Guess (B K v1 v2 vl two u0 rl V R : Nat) : Prop where
  hK : 0 < K
  hB : 2 ≤ B
  hv : B ≤ 2 * v1
  hv1 : v1 < B
  hv2 : v2 < B
  hvl : vl < K
  hu0 : u0 < B
  hrl : rl < K
  eV : V = (v1 * B + v2) * K + vl
  eR : R = (two * B + u0) * K + rl
  lt : R < B * V
namespace Guess
variable {B K v1 v2 vl two u0 rl V R g r : Nat}
theorem pos (h : Guess B K v1 v2 vl two u0 rl V R) : 0 < V := by
  have := h.lt
  rcases Nat.eq_zero_or_pos V with h0 | h0
  · rw [h0] at this; omega
  · exact h0
theorem two_le (h : Guess B K v1 v2 vl two u0 rl V R) : two ≤ v1 * B + v2 := by
  have h1 : two * B * K ≤ R := by rw [h.eR, Nat.add_mul]; omega
  have h2 : V < (v1 * B + v2 + 1) * K := by rw [h.eV, Nat.add_mul _ 1]; have := h.hvl; omega
  have h3 : two * B * K < (v1 * B + v2 + 1) * B * K := by
    calc two * B * K ≤ R := h1
      _ < B * V := h.lt
      _ ≤ B * ((v1 * B + v2 + 1) * K) := Nat.mul_le_mul_left _ (Nat.le_of_lt h2)
      _ = (v1 * B + v2 + 1) * B * K := by rw [← Nat.mul_assoc, Nat.mul_comm B]
  have h4 := Nat.lt_of_mul_lt_mul_right (Nat.lt_of_mul_lt_mul_right h3)
  omega
theorem digit_lt (h : Guess B K v1 v2 vl two u0 rl V R) : R / V < B := Nat.div_lt_of_lt_mul (by rw [Nat.mul_comm]; exact h.lt)
theorem first_le (h : Guess B K v1 v2 vl two u0 rl V R) : two / v1 ≤ B + 1 := by
  have h1 := h.two_le
  have h2 := h.hv
  have h3 := h.hv2
  have h4 := h.hB
  have h5 : two < (B + 2) * v1 := by rw [Nat.add_mul, Nat.mul_comm B]; omega
  have := Nat.div_lt_of_lt_mul (by rw [Nat.mul_comm] at h5; exact h5)
  omega
theorem first_ge (h : Guess B K v1 v2 vl two u0 rl V R) : R / V ≤ two / v1 := by
  refine Nat.le_of_not_lt fun hlt => ?_
  have hv1 : 0 < v1 := by have := h.hv; have := h.hB; omega
  have h1 : two < (R / V) * v1 := by
    have := Nat.lt_mul_of_div_lt hlt hv1
    exact this
  have h2 : (R / V) * V ≤ R := Nat.div_mul_le_self R V
  have h3 : (R / V) * (v1 * B * K) ≤ (R / V) * V := Nat.mul_le_mul_left _ (by rw [h.eV, Nat.add_mul]; omega)
  have h4 : (two + 1) * (B * K) ≤ (R / V) * v1 * (B * K) := Nat.mul_le_mul_right _ h1
  have h5 : (R / V) * v1 * (B * K) = (R / V) * (v1 * B * K) := by simp only [Nat.mul_assoc]
  have h6 : (two + 1) * (B * K) = two * B * K + B * K := by rw [Nat.add_mul, Nat.one_mul, Nat.mul_assoc]
  have h7 : R < two * B * K + B * K := by
    rw [h.eR, Nat.add_mul]
    have : u0 * K + K ≤ B * K := by rw [← Nat.succ_mul]; exact Nat.mul_le_mul_right _ h.hu0
    have := h.hrl
    omega
  omega
/-- while the test says 'too much' it is -/
theorem step_gt (h : Guess B K v1 v2 vl two u0 rl V R) (hq : R / V ≤ g) (e : two = g * v1 + r) (ht : B ≤ g ∨ r * B + u0 < g * v2) : R / V < g := by
  rcases ht with ht | ht
  · exact Nat.lt_of_lt_of_le h.digit_lt ht
  refine Nat.lt_of_le_of_ne hq fun he => ?_
  have h2 : g * V ≤ R := by rw [← he]; exact Nat.div_mul_le_self R V
  have h3 : g * V = (g * v1 * B + g * v2) * K + g * vl := by rw [h.eV, Nat.mul_add, ← Nat.mul_assoc, Nat.mul_add, ← Nat.mul_assoc]
  have h4 : (g * v1 * B + (r * B + u0) + 1) * K ≤ (g * v1 * B + g * v2) * K := Nat.mul_le_mul_right _ (by omega)
  have h5 : two * B + u0 = g * v1 * B + (r * B + u0) := by rw [e, Nat.add_mul]; omega
  have h6 := h.eR
  rw [h5] at h6
  rw [Nat.add_mul _ 1, Nat.one_mul] at h4
  have := h.hrl
  omega
/-- where it says 'no more' it is at most one too much -/
theorem stop_le (h : Guess B K v1 v2 vl two u0 rl V R) (e : two = g * v1 + r) (hg : g < B) (ht : g * v2 ≤ r * B + u0) : g ≤ R / V + 1 := by
  rcases Nat.eq_zero_or_pos g with h0 | h0
  · rw [h0]; exact Nat.zero_le _
  have h3 : g * V = (g * v1 * B + g * v2) * K + g * vl := by rw [h.eV, Nat.mul_add, ← Nat.mul_assoc, Nat.mul_add, ← Nat.mul_assoc]
  have h4 : (g * v1 * B + g * v2) * K ≤ (g * v1 * B + (r * B + u0)) * K := Nat.mul_le_mul_right _ (by omega)
  have h5 : two * B + u0 = g * v1 * B + (r * B + u0) := by rw [e, Nat.add_mul]; omega
  have h6 := h.eR
  rw [h5] at h6
  have h7 : g * vl < g * K := Nat.mul_lt_mul_of_pos_left h.hvl h0
  have h8 : g * K ≤ V := by
    rw [h.eV]
    have : g * K ≤ (v1 * B + v2) * K := Nat.mul_le_mul_right _ (by
      have : 1 * B ≤ v1 * B := Nat.mul_le_mul_right _ (by have := h.hv; have := h.hB; omega)
      omega)
    omega
  have h9 : (g - 1) * V ≤ R := by
    have : g * V = (g - 1) * V + V := by
      obtain ⟨p, rfl⟩ : ∃ p, g = p + 1 := ⟨g - 1, by omega⟩
      rw [Nat.add_mul, Nat.one_mul]; rfl
    omega
  have := (Nat.le_div_iff_mul_le h.pos).2 h9
  omega
/-- what is left of the two digits is no digit: no test is wanted -/
theorem stop_of_rest (h : Guess B K v1 v2 vl two u0 rl V R) (e : two = g * v1 + r) (hr : B ≤ r) : g < B ∧ g * v2 ≤ r * B + u0 := by
  have h1 := h.two_le
  have h2 := h.hv2
  have hg : g < B := by
    refine Nat.lt_of_not_le fun hle => ?_
    have : B * v1 ≤ g * v1 := Nat.mul_le_mul_right _ hle
    rw [Nat.mul_comm] at this
    omega
  refine ⟨hg, ?_⟩
  have h3 : g * v2 ≤ B * B := Nat.mul_le_mul (Nat.le_of_lt hg) (Nat.le_of_lt h2)
  have h4 : B * B ≤ r * B := Nat.mul_le_mul_right _ hr
  omega
end Guess

/-- the numbers A and V; what is left when the digits from j on are done -/
def rem' (A V j : Nat) : Nat := A % (V * 2 ^ (32 * j))
theorem rem_digit (A V j : Nat) : rem' A V (j + 1) / 2 ^ (32 * j) / V = dg 32 (A / V) j := by
  unfold rem' dg
  rw [pstep, ← Nat.mul_assoc, Nat.div_div_eq_div_mul, Nat.mul_comm (2 ^ (32 * j)) V, Nat.mod_mul_right_div_self, Nat.div_div_eq_div_mul]
theorem rem_next (A V j : Nat) : rem' A V j = rem' A V (j + 1) - rem' A V (j + 1) / 2 ^ (32 * j) / V * V * 2 ^ (32 * j) := by
  have h : rem' A V j = rem' A V (j + 1) % (V * 2 ^ (32 * j)) := by
    unfold rem'
    rw [Nat.mod_mod_of_dvd]
    rw [pstep, ← Nat.mul_assoc]
    exact Nat.dvd_mul_right _ _
  rw [h, Nat.mod_eq_sub_mul_div, Nat.div_div_eq_div_mul, Nat.mul_comm (2 ^ (32 * j)) V]
  congr 1
  rw [Nat.mul_comm, Nat.mul_assoc]
theorem rem_lt (A V j : Nat) (hV : 0 < V) : rem' A V (j + 1) / 2 ^ (32 * j) < 2 ^ 32 * V := by
  refine Nat.div_lt_of_lt_mul ?_
  refine Nat.lt_of_lt_of_le (Nat.mod_lt _ (Nat.mul_pos hV (pp _))) (Nat.le_of_eq ?_)
  rw [pstep, ← Nat.mul_assoc, Nat.mul_comm (2 ^ (32 * j)), Nat.mul_comm (2 ^ 32), Nat.mul_right_comm]
theorem rem_split (U j q V : Nat) (h : q * V ≤ U / 2 ^ (32 * j)) : U % 2 ^ (32 * j) + (U / 2 ^ (32 * j) - q * V) * 2 ^ (32 * j) = U - q * V * 2 ^ (32 * j) := by
  have h1 := Nat.mod_add_div U (2 ^ (32 * j))
  rw [Nat.mul_comm (2 ^ (32 * j))] at h1
  rw [Nat.sub_mul]
  have h2 : q * V * 2 ^ (32 * j) ≤ U / 2 ^ (32 * j) * 2 ^ (32 * j) := Nat.mul_le_mul_right _ h
  omega
theorem rem_zero (A V : Nat) : rem' A V 0 = A % V := by simp [rem']
theorem norm_mod (a b s : Nat) : a * 2 ^ s % (b * 2 ^ s) / 2 ^ s = a % b := by
  rw [Nat.mul_mod_mul_right, Nat.mul_div_cancel _ (pp s)]
theorem norm_div (a b s : Nat) : a * 2 ^ s / (b * 2 ^ s) = a / b := Nat.mul_div_mul_right _ _ (pp s)
/-- the divisor, shifted so that its highest bit is 1 -/
theorem norm_top {b n s : Nat} (hb : b ≠ 0) (hn : n = dn 32 b) (hs : s = 32 - bl (dg 32 b (n - 1))) : 2 ^ (32 * n) ≤ 2 * (b * 2 ^ s) ∧ b * 2 ^ s < 2 ^ (32 * n) ∧ s < 32 := by
  have hd : dg 32 b (n - 1) ≠ 0 := by rw [hn]; exact dg_top (by omega) hb
  have hlt : dg 32 b (n - 1) < 2 ^ 32 := dg_lt 32 b (n - 1)
  have h1 := bl_le hlt
  have h2 : bl (dg 32 b (n - 1)) ≠ 0 := fun h => hd (by unfold bl at h; split at h <;> omega)
  have hbl := bl_dn (k := 32) (by omega) hb
  rw [← hn] at hbl
  have hnp : 0 < n := by rw [hn]; exact dn_pos hb
  have e : bl b + s = 32 * n := by omega
  have h3 := lt_bl b
  have h4 := le_bl hb
  refine ⟨?_, ?_, by omega⟩
  · have : 2 ^ (32 * n) = 2 * (2 ^ (bl b - 1) * 2 ^ s) := by rw [← Nat.pow_add, ← Nat.pow_succ']; congr 1; omega
    rw [this]
    exact Nat.mul_le_mul_left _ (Nat.mul_le_mul_right _ h4)
  · calc b * 2 ^ s < 2 ^ bl b * 2 ^ s := Nat.mul_lt_mul_of_pos_right h3 (pp _)
      _ = 2 ^ (32 * n) := by rw [← Nat.pow_add, e]
/-- two digits, and what lies below -/
theorem top_two {V n : Nat} (hn : 2 ≤ n) (h : V < 2 ^ (32 * n)) : V = (dg 32 V (n - 1) * 2 ^ 32 + dg 32 V (n - 2)) * 2 ^ (32 * (n - 2)) + V % 2 ^ (32 * (n - 2)) := by
  have h1 := dg_succ 32 V (n - 1)
  have h2 := dg_succ 32 V (n - 2)
  rw [show n - 1 + 1 = n by omega, Nat.mod_eq_of_lt h] at h1
  rw [show n - 2 + 1 = n - 1 by omega] at h2
  have h3 : 2 ^ (32 * (n - 1)) = 2 ^ 32 * 2 ^ (32 * (n - 2)) := by rw [← Nat.pow_add]; congr 1; omega
  rw [h3] at h1
  rw [Nat.add_mul, Nat.mul_assoc, Nat.add_assoc, ← h2, ← h3]
  rw [← h3] at h1
  exact h1
theorem top_three {R n : Nat} (hn : 2 ≤ n) (h : R < 2 ^ (32 * (n + 1))) : R = ((dg 32 R n * 2 ^ 32 + dg 32 R (n - 1)) * 2 ^ 32 + dg 32 R (n - 2)) * 2 ^ (32 * (n - 2)) + R % 2 ^ (32 * (n - 2)) := by
  have h1 := dg_succ 32 R n
  rw [Nat.mod_eq_of_lt h] at h1
  have h2 := top_two (V := R % 2 ^ (32 * n)) hn (Nat.mod_lt _ (pp _))
  rw [dg_mod (by omega), dg_mod (by omega), Nat.mod_mod_of_dvd _ (Nat.pow_dvd_pow 2 (by omega))] at h2
  have h3 : 2 ^ (32 * n) = 2 ^ 32 * 2 ^ 32 * 2 ^ (32 * (n - 2)) := by rw [← Nat.pow_add, ← Nat.pow_add]; congr 1; omega
  rw [h2, h3] at h1
  rw [Nat.add_mul, Nat.add_mul, Nat.add_mul]
  rw [Nat.add_mul] at h1
  simp only [Nat.mul_assoc] at h1 ⊢
  omega
theorem guess_of {R V n : Nat} (hn : 2 ≤ n) (hV : V < 2 ^ (32 * n)) (ht : 2 ^ (32 * n) ≤ 2 * V) (hR : R < 2 ^ 32 * V) :
    Guess (2 ^ 32) (2 ^ (32 * (n - 2))) (dg 32 V (n - 1)) (dg 32 V (n - 2)) (V % 2 ^ (32 * (n - 2))) (dg 32 R n * 2 ^ 32 + dg 32 R (n - 1)) (dg 32 R (n - 2)) (R % 2 ^ (32 * (n - 2))) V R where
  hK := pp _
  hB := by decide
  hv1 := dg_lt 32 V (n - 1)
  hv2 := dg_lt 32 V (n - 2)
  hvl := Nat.mod_lt _ (pp _)
  hu0 := dg_lt 32 R (n - 2)
  hrl := Nat.mod_lt _ (pp _)
  eV := top_two hn hV
  eR := top_three hn (Nat.lt_of_lt_of_le hR (by rw [pstep, Nat.mul_comm]; exact Nat.mul_le_mul_right _ (Nat.le_of_lt hV)))
  lt := hR
  hv := by
    have hd : dg 32 V (n - 1) = V / 2 ^ (32 * (n - 1)) := dg_div_eq (by rw [show n - 1 + 1 = n by omega]; exact hV)
    rw [hd]
    have h1 : 2 ^ (32 * n) = 2 * (2 ^ 31 * 2 ^ (32 * (n - 1))) := by rw [← Nat.pow_add, ← Nat.pow_succ']; congr 1; omega
    rw [h1] at ht
    have h2 : 2 ^ 31 * 2 ^ (32 * (n - 1)) ≤ V := by omega
    have := (Nat.le_div_iff_mul_le (pp (32 * (n - 1)))).2 h2
    omega
theorem start_lt {a b n l s : Nat} (ha : a < 2 ^ (32 * l)) (hnl : n ≤ l + 1) (hs : s < 32) (ht : 2 ^ (32 * n) ≤ 2 * (b * 2 ^ s)) : a * 2 ^ s < b * 2 ^ s * 2 ^ (32 * (l + 1 - n)) := by
  have h1 : a * 2 ^ s < 2 ^ (32 * l) * 2 ^ 31 := by
    calc a * 2 ^ s < 2 ^ (32 * l) * 2 ^ s := Nat.mul_lt_mul_of_pos_right ha (pp _)
      _ ≤ _ := Nat.mul_le_mul_left _ (pmono (by omega))
  have h2 : 2 * (2 ^ (32 * l) * 2 ^ 31) = 2 ^ (32 * n) * 2 ^ (32 * (l + 1 - n)) := by rw [← Nat.pow_add, ← Nat.pow_succ', ← Nat.pow_add]; congr 1; omega
  have h3 := Nat.mul_le_mul_right (2 ^ (32 * (l + 1 - n))) ht
  rw [Nat.mul_assoc 2] at h3
  omega
end Go.Proofs.YtbhfnigblhfikaaGreat
