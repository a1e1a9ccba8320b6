/- Rat's Float64. -/
import Derived.Test.YtbhfnigblhfikaaGreatJI
import Derived.Test.YtbhfnigblhfikaaGreatB7
import Derived.Shelf.Strconv.Itoa0

namespace Fil
theorem bl_pos {x : Nat} (h : x ≠ 0) : bl x = x.log2 + 1 := if_neg h
/-- by how many digits the quotient is moved, so that it has 60 or 61 -/
def fS (n d : Nat) : Int := 60 - ((bl n : Int) - bl d)
def fX (n d : Nat) : Nat := n * 2 ^ (fS n d).toNat
def fY (n d : Nat) : Nat := d * 2 ^ (-fS n d).toNat
def fQ (n d : Nat) : Nat := fX n d / fY n d
def fR (n d : Nat) : Nat := fX n d % fY n d
def fT (n d : Nat) : Nat := if fR n d = 0 then 0 else 1
/-- the quotient's digits with one that tells whether there is more; their place -/
def fV (n d : Nat) : Nat := 2 * fQ n d + fT n d
def fE (n d : Nat) : Int := -fS n d - 1
theorem fT_le (n d : Nat) : fT n d ≤ 1 := by unfold fT; split <;> omega
theorem fY_pos {n d : Nat} (hd : d ≠ 0) : 0 < fY n d := Nat.mul_pos (by omega) (Nat.two_pow_pos _)
theorem fQ_lo {n d : Nat} (hn : n ≠ 0) (hd : d ≠ 0) : 576460752303423488 ≤ fQ n d := by
  unfold fQ
  rw [Nat.le_div_iff_mul_le (fY_pos hd)]
  unfold fX fY
  have h1 := log_ge hn
  have h2 := lt_bl d
  have e1 := bl_pos hn
  have hS : fS n d = 60 - ((bl n : Int) - bl d) := rfl
  calc 576460752303423488 * (d * 2 ^ (-fS n d).toNat) ≤ 2 ^ 59 * (2 ^ bl d * 2 ^ (-fS n d).toNat) := Nat.mul_le_mul (by decide) (Nat.mul_le_mul_right _ (Nat.le_of_lt h2))
    _ = 2 ^ n.log2 * 2 ^ (fS n d).toNat := by rw [← Nat.pow_add, ← Nat.pow_add, ← Nat.pow_add]; congr 1; omega
    _ ≤ n * 2 ^ (fS n d).toNat := Nat.mul_le_mul_right _ h1
theorem fQ_hi {n d : Nat} (hd : d ≠ 0) : fQ n d < 2305843009213693952 := by
  unfold fQ
  rw [Nat.div_lt_iff_lt_mul (fY_pos hd)]
  unfold fX fY
  have h1 := log_ge hd
  have h2 := lt_bl n
  have e1 := bl_pos hd
  have hS : fS n d = 60 - ((bl n : Int) - bl d) := rfl
  calc n * 2 ^ (fS n d).toNat < 2 ^ bl n * 2 ^ (fS n d).toNat := Nat.mul_lt_mul_of_pos_right h2 (Nat.two_pow_pos _)
    _ = 2 ^ 61 * (2 ^ d.log2 * 2 ^ (-fS n d).toNat) := by rw [← Nat.pow_add, ← Nat.pow_add, ← Nat.pow_add]; congr 1; omega
    _ ≤ 2305843009213693952 * (d * 2 ^ (-fS n d).toNat) := Nat.mul_le_mul (by decide) (Nat.mul_le_mul_right _ h1)
theorem tl_log {q t : Nat} (hq : q ≠ 0) (ht : t ≤ 1) : (2 * q + t).log2 = q.log2 + 1 := by
  have h1 := log_ge hq
  have h2 := log_lt hq
  have h0 : 2 * q + t ≠ 0 := by omega
  rw [Nat.pow_succ] at h2
  apply Nat.le_antisymm
  · have : (2 * q + t).log2 < q.log2 + 1 + 1 := (Nat.log2_lt h0).2 (by rw [Nat.pow_succ, Nat.pow_succ]; omega)
    omega
  · exact (Nat.le_log2 h0).2 (by rw [Nat.pow_succ]; omega)
theorem tl_Q {q t : Nat} (hq : q ≠ 0) (ht : t ≤ 1) (S : Int) : rdQ (2 * q + t) (-S - 1) = max ((bl q : Int) - 1 - S - 52) (-1074) := by
  unfold rdQ tpI
  rw [tl_log hq ht, bl_pos hq]
  omega
theorem tl_div (q t k : Nat) (ht : t ≤ 1) : (2 * q + t) / 2 ^ (k + 1) = q / 2 ^ k := by
  rw [Nat.pow_succ, Nat.mul_comm (2 ^ k) 2, ← Nat.div_div_eq_div_mul, show (2 * q + t) / 2 = q by omega]
theorem tl_mod (q t k : Nat) (ht : t ≤ 1) : (2 * q + t) % 2 ^ (k + 1) = 2 * (q % 2 ^ k) + t := by
  rw [Nat.pow_succ, Nat.mul_comm (2 ^ k) 2, Nat.mod_mul, show (2 * q + t) / 2 = q by omega]
  omega
theorem tl_M {q t k : Nat} (ht : t ≤ 1) (S : Int) (hk : (k : Int) = rdQ (2 * q + t) (-S - 1) + S) : rdM (2 * q + t) (-S - 1) = q / 2 ^ k := by
  unfold rdM
  rw [if_neg (by omega), show (rdQ (2 * q + t) (-S - 1) - (-S - 1)).toNat = k + 1 by omega, tl_div q t k ht]
theorem tl_U {q t k : Nat} (ht : t ≤ 1) (S : Int) (hk : (k : Int) = rdQ (2 * q + t) (-S - 1) + S) (hk1 : 1 ≤ k) :
    rdUp (2 * q + t) (-S - 1) = (decide (2 ^ (k - 1) < q % 2 ^ k) || (decide (q % 2 ^ k = 2 ^ (k - 1)) && (decide (t = 1) || decide (q / 2 ^ k % 2 = 1)))) := by
  unfold rdUp rdX upB
  rw [decide_eq_false (by omega), show (rdQ (2 * q + t) (-S - 1) - (-S - 1)).toNat = k + 1 by omega, tl_div q t k ht, tl_mod q t k ht]
  obtain ⟨j, rfl⟩ : ∃ j, k = j + 1 := ⟨k - 1, by omega⟩
  rw [show j + 1 - 1 = j by omega, Nat.pow_succ 2 (j + 1), Nat.pow_succ 2 j]
  generalize q % (2 ^ j * 2) = o
  generalize q / (2 ^ j * 2) % 2 = m
  generalize 2 ^ j = p
  by_cases h1 : p < o
  · rw [decide_eq_true h1, decide_eq_true (by omega)]; rfl
  · rw [decide_eq_false h1]
    by_cases h2 : o = p
    · subst h2
      rcases (show t = 0 ∨ t = 1 by omega) with rfl | rfl
      · rw [show decide (o * 2 * 2 < 2 * (2 * o + 0)) = false from decide_eq_false (by omega), show decide (o * 2 * 2 = 2 * (2 * o + 0)) = true from decide_eq_true (by omega), show decide (o = o) = true from decide_eq_true rfl, show decide ((0 : Nat) = 1) = false from rfl]
        cases decide (m = 1) <;> rfl
      · rw [show decide (o * 2 * 2 < 2 * (2 * o + 1)) = true from decide_eq_true (by omega), show decide (o = o) = true from decide_eq_true rfl]; rfl
    · rw [decide_eq_false h2, decide_eq_false (by omega), decide_eq_false (by omega)]; rfl
theorem tl_far {q t k : Nat} (hq : q < 2305843009213693952) (ht : t ≤ 1) (S : Int) (hk : (k : Int) = rdQ (2 * q + t) (-S - 1) + S) (hk1 : 64 ≤ k) :
    rdM (2 * q + t) (-S - 1) = 0 ∧ rdUp (2 * q + t) (-S - 1) = false := by
  have hp : (2 : Nat) ^ 62 ≤ 2 ^ (k - 1) := Nat.pow_le_pow_right (by omega) (by omega)
  have hp' : (2 : Nat) ^ (k - 1) ≤ 2 ^ k := Nat.pow_le_pow_right (by omega) (by omega)
  have e : q / 2 ^ k = 0 := Nat.div_eq_of_lt (by omega)
  have e' : q % 2 ^ k = q := Nat.mod_eq_of_lt (by omega)
  refine ⟨by rw [tl_M ht S hk, e], ?_⟩
  rw [tl_U ht S hk (by omega), e', decide_eq_false (by omega), decide_eq_false (by omega)]
  rfl
end Fil

namespace Go.Proofs.YtbhfnigblhfikaaGreat
open Go Go.RowKit Go.PlainAid Fil

def Tryz.lays129_ren : Go.Shelf.Ren := ⟨fun | 129 => 108 | n => n, fun | 53 => 90 | 3 => 3 | 4 => 4 | 46 => 110 | 5 => 5 | 9 => 9 | n => n, fun | n => n⟩
theorem Tryz.lays129 : Go.Proofs.Lays.n129 Tryz.prog Tryz.lays129_ren := {
  mixed := by kernel_rfl
  f129 := Tryz.func108.trans (congrArg some (by kernel_rfl))
  t3 := Tryz.underlying3
  a3 := Tryz.isAgg3
  z3 := Tryz.sizeOf3
  v3 := Tryz.zeroValue3
  t4 := Tryz.underlying4
  a4 := Tryz.isAgg4
  z4 := Tryz.sizeOf4
  v4 := Tryz.zeroValue4
  t5 := Tryz.underlying5
  a5 := Tryz.isAgg5
  z5 := Tryz.sizeOf5
  v5 := Tryz.zeroValue5
  t9 := Tryz.underlying9
  a9 := Tryz.isAgg9
  z9 := Tryz.sizeOf9
  v9 := Tryz.zeroValue9
  t46 := Tryz.underlying110
  a46 := Tryz.isAgg110
  z46 := Tryz.sizeOf110
  v46 := Tryz.zeroValue110
  t53 := Tryz.underlying90
  a53 := Tryz.isAgg90
  z53 := Tryz.sizeOf90
  v53 := Tryz.zeroValue90 }
theorem len64_any (x : Nat) (w : World) (h1 : x < 18446744073709551616) :
    Calls Tryz.prog 108 #[.int .u64 x] w fun e w' => e = .returned (.int .i64 (bl x)) ∧ w = w' :=
  (Any.bits_Len64 Tryz.lays129 x w (by omega) (by omega)).mono fun _ _ ⟨he, hw⟩ => ⟨by rw [he, Int.toNat_natCast, bitLen_log (by omega)]; rfl, hw.symm⟩
end Go.Proofs.YtbhfnigblhfikaaGreat
