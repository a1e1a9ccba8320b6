/- Plain arithmetic: the noughts at a number's end, and how many bits it has. -/
import Derived.Test.YtgcifpjhhoalmaaDoorDg
import Derived.Lib.TrailingZeros
import Derived.Lib.BitFns
namespace Fil
open Go

theorem bitLenAux_log : ∀ (f x : Nat), x < 2 ^ f → Lib.bitLenAux f x = if x = 0 then 0 else x.log2 + 1
  | 0, x, h => by
    have : x = 0 := by simpa using h
    subst this; rfl
  | f + 1, x, h => by
    unfold Lib.bitLenAux
    by_cases h0 : x = 0
    · simp [h0]
    · rw [if_neg h0, if_neg h0, bitLenAux_log f (x / 2) (by rw [Nat.pow_succ] at h; omega)]
      by_cases h1 : x / 2 = 0
      · have : x = 1 := by omega
        subst this; rfl
      · rw [if_neg h1]
        have : x.log2 = (x / 2).log2 + 1 := by
          rw [Nat.log2_def, if_pos (by omega)]
        omega
theorem bitLen_log {x : Nat} (h : x < 18446744073709551616) : Lib.bitLen x = if x = 0 then 0 else x.log2 + 1 := bitLenAux_log 64 x (by omega)

/-- how many noughts a number's bits end with -/
def tz (x : Nat) : Nat := Lib.ctzFrom x x
theorem lt_two_pow (x : Nat) : x < 2 ^ x := Nat.lt_two_pow_self
theorem tz_spec {x : Nat} (h : x ≠ 0) : ∃ m, x = 2 ^ tz x * (2 * m + 1) := by
  obtain ⟨m, hm, _⟩ := Lib.ctzFrom_spec x x (by omega) (lt_two_pow x)
  exact ⟨m, hm⟩
theorem tz_zero : tz 0 = 0 := rfl
theorem odd_uniq {a b m n : Nat} (h : 2 ^ a * (2 * m + 1) = 2 ^ b * (2 * n + 1)) : a = b := by
  have key : ∀ a b m n : Nat, a < b → 2 ^ a * (2 * m + 1) ≠ 2 ^ b * (2 * n + 1) := by
    intro a b m n hab h
    obtain ⟨d, rfl⟩ : ∃ d, b = a + (d + 1) := ⟨b - a - 1, by omega⟩
    rw [Nat.pow_add, Nat.mul_assoc] at h
    have h2 := Nat.eq_of_mul_eq_mul_left (pp a) h
    rw [Nat.pow_succ, Nat.mul_comm (2 ^ d) 2, Nat.mul_assoc] at h2
    omega
  rcases Nat.lt_trichotomy a b with h1 | h1 | h1
  · exact absurd h (key _ _ _ _ h1)
  · exact h1
  · exact absurd h.symm (key _ _ _ _ h1)
theorem tz_of {x k m : Nat} (h : x = 2 ^ k * (2 * m + 1)) : tz x = k := by
  have hx : x ≠ 0 := by
    have := pp k
    have : 0 < 2 ^ k * (2 * m + 1) := Nat.mul_pos this (by omega)
    omega
  obtain ⟨n, hn⟩ := tz_spec hx
  exact odd_uniq (hn.symm.trans h)
theorem tz_div {x : Nat} (h : x ≠ 0) : x / 2 ^ tz x % 2 = 1 := by
  obtain ⟨m, hm⟩ := tz_spec h
  generalize tz x = k at *
  subst hm
  rw [Nat.mul_div_cancel_left _ (pp k)]; omega
theorem tz_mul {x : Nat} : x / 2 ^ tz x * 2 ^ tz x = x := by
  by_cases h : x = 0
  · subst h; simp
  · obtain ⟨m, hm⟩ := tz_spec h
    generalize tz x = k at *
    subst hm
    rw [Nat.mul_div_cancel_left _ (pp k), Nat.mul_comm]
theorem tz_odd {x : Nat} (h : x % 2 = 1) : tz x = 0 := tz_of (m := x / 2) (by rw [Nat.pow_zero]; omega)
theorem tz_shift {x k : Nat} (h : x ≠ 0) : tz (x * 2 ^ k) = tz x + k := by
  obtain ⟨m, hm⟩ := tz_spec h
  exact tz_of (m := m) (by rw [Nat.pow_add, Nat.mul_right_comm, ← hm])
theorem ctz_tz {n x : Nat} (h0 : x ≠ 0) (h : x < 2 ^ n) : Lib.ctz n x = tz x := by
  obtain ⟨m, hm, _⟩ := Lib.ctzFrom_spec n x (by omega) h
  unfold Lib.ctz
  rw [if_neg h0]
  exact (tz_of hm).symm
theorem ctz_lt {n x : Nat} (h0 : x ≠ 0) (h : x < 2 ^ n) : Lib.ctz n x < n := by
  obtain ⟨m, hm, hk⟩ := Lib.ctzFrom_spec n x (by omega) h
  unfold Lib.ctz
  rw [if_neg h0]; exact hk
/-- by digits: the first one that is not 0 -/
theorem tz_dg {x i : Nat} (h : x % 2 ^ (32 * i) = 0) (hd : dg 32 x i ≠ 0) : tz x = 32 * i + Lib.ctz 32 (dg 32 x i) := by
  have hlt := dg_lt 32 x i
  obtain ⟨m, hm, hk⟩ := Lib.ctzFrom_spec 32 (dg 32 x i) (by omega) hlt
  have e : Lib.ctz 32 (dg 32 x i) = Lib.ctzFrom 32 (dg 32 x i) := by unfold Lib.ctz; rw [if_neg hd]
  rw [e]
  generalize Lib.ctzFrom 32 (dg 32 x i) = t at *
  have h1 : x = 2 ^ (32 * i) * (x / 2 ^ (32 * i)) := by have := Nat.div_add_mod x (2 ^ (32 * i)); omega
  have h2 : x / 2 ^ (32 * i) = x / 2 ^ (32 * i) / 2 ^ 32 * 2 ^ 32 + dg 32 x i := by
    unfold dg; have := Nat.div_add_mod (x / 2 ^ (32 * i)) (2 ^ 32); rw [Nat.mul_comm] at this; omega
  generalize x / 2 ^ (32 * i) / 2 ^ 32 = r at *
  have h3 : (2 : Nat) ^ 32 = 2 ^ t * (2 * 2 ^ (31 - t)) := by
    rw [Nat.mul_comm 2, ← Nat.pow_succ, ← Nat.pow_add]; congr 1; omega
  rw [hm] at h2
  refine tz_of (m := r * 2 ^ (31 - t) + m) ?_
  rw [h1, h2, Nat.pow_add, Nat.mul_assoc]
  congr 1
  rw [h3]
  have e1 : r * (2 ^ t * (2 * 2 ^ (31 - t))) = 2 ^ t * (2 * (r * 2 ^ (31 - t))) := by
    rw [Nat.mul_left_comm, Nat.mul_left_comm r]
  rw [e1, ← Nat.mul_add]
  congr 1
  omega
theorem tz_le_log {x : Nat} (h : x ≠ 0) : tz x ≤ x.log2 := by
  obtain ⟨m, hm⟩ := tz_spec h
  refine (Nat.le_log2 h).2 ?_
  have : 2 ^ tz x * 1 ≤ 2 ^ tz x * (2 * m + 1) := Nat.mul_le_mul_left _ (by omega)
  omega
/-- the bits of a number -/
def bl (x : Nat) : Nat := if x = 0 then 0 else x.log2 + 1
theorem bl_zero : bl 0 = 0 := rfl
theorem lt_bl (x : Nat) : x < 2 ^ bl x := by
  unfold bl; split
  · omega
  · exact Nat.lt_log2_self
theorem bl_le {x n : Nat} (h : x < 2 ^ n) : bl x ≤ n := by
  unfold bl; split
  · omega
  · rename_i h0
    have := (Nat.log2_lt h0).2 h; omega
theorem le_bl {x : Nat} (h : x ≠ 0) : 2 ^ (bl x - 1) ≤ x := by
  unfold bl; rw [if_neg h]; exact Nat.log2_self_le h
theorem bl_eq {x n : Nat} (h1 : 2 ^ n ≤ x) (h2 : x < 2 ^ (n + 1)) : bl x = n + 1 := by
  have hx : x ≠ 0 := by have := pp n; omega
  unfold bl; rw [if_neg hx]
  have := (Nat.le_log2 hx).2 h1
  have := (Nat.log2_lt hx).2 h2
  omega
theorem bl_dn {k x : Nat} (hk : 0 < k) (h : x ≠ 0) : bl x = k * (dn k x - 1) + bl (dg k x (dn k x - 1)) := by
  have h1 := size_eq hk h
  have h2 := dg_top hk h
  unfold bl; rw [if_neg h, if_neg h2]; omega
theorem dn8_bl (x : Nat) : dn 8 x = (bl x + 7) / 8 := by
  unfold dn bl; split
  · rfl
  · omega
theorem bl_shift {x k : Nat} (h : x ≠ 0) : bl (x * 2 ^ k) = bl x + k := by
  have h1 := le_bl h
  have h2 := lt_bl x
  have h3 : bl x ≠ 0 := by unfold bl; rw [if_neg h]; omega
  have h4 : bl x = bl x - 1 + 1 := by omega
  have := bl_eq (x := x * 2 ^ k) (n := bl x - 1 + k) (by rw [Nat.pow_add]; exact Nat.mul_le_mul_right _ h1) (by
    rw [show bl x - 1 + k + 1 = bl x + k by omega, Nat.pow_add]; exact Nat.mul_lt_mul_of_pos_right h2 (pp k))
  omega
end Fil
