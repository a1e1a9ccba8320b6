/- Plain arithmetic: digits to the base 2^32 out of bytes. -/
import Derived.Test.YtgcifpjhhoalmaaDoorDg
namespace Fil
/-- the bytes from place m on -/
def top8 (x m : Nat) : Nat := x / 2 ^ (8 * m) * 2 ^ (8 * m)
theorem top8_all {x n : Nat} (h : x < 2 ^ (8 * n)) : top8 x n = 0 := by unfold top8; rw [Nat.div_eq_of_lt h, Nat.zero_mul]
theorem top8_zero (x : Nat) : top8 x 0 = x := by simp [top8]
theorem top8_step (x k : Nat) : top8 x k = top8 x (k + 1) + dg 8 x k * 2 ^ (8 * k) := by
  unfold top8
  rw [div_step 8 x k, Nat.add_mul, pstep, Nat.mul_assoc, Nat.mul_comm (2 ^ 8)]
theorem byte_at (k : Nat) : 8 * k = 32 * (k / 4) + 8 * (k % 4) := by omega
theorem byte_at1 (k : Nat) : 8 * (k + 1) = 32 * (k / 4) + (8 * (k % 4) + 8) := by omega
theorem top8_q (x k : Nat) : top8 x (k + 1) / 2 ^ (32 * (k / 4)) = x / 2 ^ (8 * (k + 1)) * 2 ^ (8 * (k % 4) + 8) := by
  unfold top8
  rw [show (2 : Nat) ^ (8 * (k + 1)) = 2 ^ (8 * (k % 4) + 8) * 2 ^ (32 * (k / 4)) by rw [← Nat.pow_add]; congr 1; omega, ← Nat.mul_assoc, Nat.mul_div_cancel _ (pp _)]
theorem top8_q0 (x k : Nat) : top8 x k / 2 ^ (32 * (k / 4)) = x / 2 ^ (8 * (k + 1)) * 2 ^ (8 * (k % 4) + 8) + dg 8 x k * 2 ^ (8 * (k % 4)) := by
  rw [top8_step, byte_at k, Nat.pow_add, Nat.mul_comm (2 ^ (32 * (k / 4))) (2 ^ (8 * (k % 4))), ← Nat.mul_assoc, Nat.add_mul_div_right _ _ (pp _), top8_q]
/-- the digit that a byte goes to -/
theorem top8_or (x k : Nat) : dg 32 (top8 x (k + 1)) (k / 4) ||| dg 8 x k * 2 ^ (8 * (k % 4)) = dg 32 (top8 x k) (k / 4) ∧ dg 8 x k * 2 ^ (8 * (k % 4)) < 2 ^ 32 := by
  have hd := dg_lt 8 x k
  have hr : k % 4 < 4 := Nat.mod_lt _ (by omega)
  unfold dg at hd ⊢
  rw [top8_q, top8_q0]
  generalize x / 2 ^ (8 * (k + 1)) = M
  unfold dg
  generalize x / 2 ^ (8 * k) % 2 ^ 8 = c at *
  generalize k % 4 = r at *
  have h32 : (2 : Nat) ^ 32 = 2 ^ (24 - 8 * r) * 2 ^ (8 * r + 8) := by rw [← Nat.pow_add]; congr 1; omega
  have hc : c * 2 ^ (8 * r) < 2 ^ (8 * r + 8) := by rw [Nat.add_comm, Nat.pow_add]; exact Nat.mul_lt_mul_of_pos_right hd (pp _)
  have e1 : M * 2 ^ (8 * r + 8) % 2 ^ 32 = M % 2 ^ (24 - 8 * r) * 2 ^ (8 * r + 8) := by rw [h32, Nat.mul_mod_mul_right]
  have h2 : M % 2 ^ (24 - 8 * r) < 2 ^ (24 - 8 * r) := Nat.mod_lt _ (pp _)
  have h3 : M % 2 ^ (24 - 8 * r) * 2 ^ (8 * r + 8) + c * 2 ^ (8 * r) < 2 ^ 32 := by
    have : (M % 2 ^ (24 - 8 * r) + 1) * 2 ^ (8 * r + 8) ≤ 2 ^ (24 - 8 * r) * 2 ^ (8 * r + 8) := Nat.mul_le_mul_right _ h2
    rw [Nat.add_mul] at this
    rw [h32]; omega
  refine ⟨?_, by omega⟩
  rw [e1, or_add hc, Nat.add_mod, e1, Nat.mod_eq_of_lt (show c * 2 ^ (8 * r) < 2 ^ 32 by omega), Nat.mod_eq_of_lt h3]
theorem top8_ne (x k : Nat) {j : Nat} (hj : j ≠ k / 4) : dg 32 (top8 x k) j = dg 32 (top8 x (k + 1)) j := by
  rcases Nat.lt_or_gt_of_ne hj with h | h
  · have z : ∀ m, 32 * (k / 4) ≤ 8 * m → dg 32 (top8 x m) j = 0 := by
      intro m hm
      unfold dg top8
      have e : 8 * m = 32 * j + (32 + (8 * m - 32 * j - 32)) := by omega
      rw [show (2 : Nat) ^ (8 * m) = 2 ^ (32 * j) * (2 ^ 32 * 2 ^ (8 * m - 32 * j - 32)) by rw [← Nat.pow_add, ← Nat.pow_add, ← e]]
      rw [Nat.mul_left_comm, Nat.mul_div_cancel_left _ (pp _), Nat.mul_left_comm, Nat.mul_mod_right]
    rw [z k (by omega), z (k + 1) (by omega)]
  · unfold dg
    congr 1
    have e : ∀ y, y / 2 ^ (32 * j) = y / 2 ^ (8 * (k + 1)) / 2 ^ (32 * j - 8 * (k + 1)) := by
      intro y
      rw [Nat.div_div_eq_div_mul, ← Nat.pow_add]; congr 2; omega
    rw [e, e (top8 x (k + 1))]
    congr 1
    rw [top8_step x k]
    unfold top8
    rw [Nat.add_comm, Nat.add_mul_div_right _ _ (pp _), Nat.mul_div_cancel _ (pp _), Nat.div_eq_of_lt]
    · omega
    · rw [pstep, Nat.mul_comm]; exact Nat.mul_lt_mul_of_pos_left (dg_lt 8 x k) (pp _)
/-- a byte out of a digit -/
theorem byte_of (x i : Nat) : dg 32 x (i / 4) / 2 ^ (8 * (i % 4)) % 256 = dg 8 x i := by
  unfold dg
  have h32 : (2 : Nat) ^ 32 = 2 ^ (8 * (i % 4)) * 2 ^ (8 + (24 - 8 * (i % 4))) := by rw [← Nat.pow_add]; congr 1; omega
  rw [h32, Nat.mod_mul_right_div_self, Nat.pow_add, Nat.mod_mul_right_mod, Nat.div_div_eq_div_mul, ← Nat.pow_add, ← byte_at]
theorem dn8_32 (x n : Nat) (h : x < 2 ^ (8 * n)) : dn 32 x ≤ n / 4 + 1 := dn_le (by omega) (Nat.lt_of_lt_of_le h (pmono (by omega)))
theorem dn8_le32 (x : Nat) : dn 8 x ≤ 4 * dn 32 x := by
  refine dn_le (by omega) (Nat.lt_of_lt_of_le (lt_dn (k := 32) (by omega) x) (pmono ?_))
  omega
end Fil
