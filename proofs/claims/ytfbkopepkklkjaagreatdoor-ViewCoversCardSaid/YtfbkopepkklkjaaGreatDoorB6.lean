/- Floats by rungs and rounding: plain arithmetic, no program in sight. -/
import Derived.Test.YtfbkopepkklkjaaGreatDoorB1
import Derived.Laws.FloatArith

/- Floats by rungs: plain arithmetic, no program in sight. -/
namespace Fil
open Ieee

/-- a rung's magnitude, in units of the least place -/
def mv (r : Nat) : Nat := if r < 4503599627370496 then r else (4503599627370496 + r % 4503599627370496) * 2 ^ (r / 4503599627370496 - 1)
theorem mv_small {r : Nat} (h : r < 4503599627370496) : mv r = r := if_pos h
theorem mv_big {r : Nat} (h : ¬ r < 4503599627370496) : mv r = (4503599627370496 + r % 4503599627370496) * 2 ^ (r / 4503599627370496 - 1) := if_neg h
theorem mv_succ (r : Nat) : mv (r + 1) = mv r + 2 ^ (r / 4503599627370496 - 1) := by
 by_cases h1 : r + 1 < 4503599627370496
 ·rw [mv_small h1, mv_small (by omega), show r / 4503599627370496 = 0 by omega]
 ·by_cases h2 : r < 4503599627370496
  ·rw [mv_big h1, mv_small h2, show (r + 1) % 4503599627370496 = 0 by omega, show (r + 1) / 4503599627370496 = 1 by omega, show r / 4503599627370496 = 0 by omega]
   simp only [Nat.sub_self, Nat.pow_zero, Nat.zero_sub]
   omega
  ·rw [mv_big h1, mv_big h2]
   by_cases h3 : r % 4503599627370496 + 1 < 4503599627370496
   ·rw [show (r + 1) % 4503599627370496 = r % 4503599627370496 + 1 by omega, show (r + 1) / 4503599627370496 = r / 4503599627370496 by omega, ← Nat.add_assoc, Nat.add_mul, Nat.one_mul]
   ·obtain ⟨p, hp⟩ : ∃ p, r / 4503599627370496 = p + 1 := ⟨r / 4503599627370496 - 1, by omega⟩
    rw [show (r + 1) % 4503599627370496 = 0 by omega, show (r + 1) / 4503599627370496 = p + 2 by omega, hp, show r % 4503599627370496 = 4503599627370495 by omega, show p + 2 - 1 = p + 1 by omega, show p + 1 - 1 = p by omega, Nat.pow_succ]
    generalize 2 ^ p = t
    omega
theorem mv_lt_succ (r : Nat) : mv r < mv (r + 1) := by rw [mv_succ]; have := Nat.two_pow_pos (r / 4503599627370496 - 1); omega
theorem mv_lt {r s : Nat} (h : r < s) : mv r < mv s := by
 induction s with
 | zero => omega
 | succ s ih =>
  rcases Nat.lt_or_ge r s with h1 | h1
  ·exact Nat.lt_trans (ih h1) (mv_lt_succ s)
  ·have : r = s := by omega
   subst this; exact mv_lt_succ r
theorem mv_le {r s : Nat} (h : r ≤ s) : mv r ≤ mv s := by
 rcases Nat.lt_or_ge r s with h1 | h1
 ·exact Nat.le_of_lt (mv_lt h1)
 ·have : r = s := by omega
  subst this; exact Nat.le_refl _
theorem lt_of_mv {r s : Nat} (h : mv r < mv s) : r < s := by
 rcases Nat.lt_or_ge r s with h1 | h1
 ·exact h1
 ·have := mv_le h1; omega
theorem mv_inj {r s : Nat} (h : mv r = mv s) : r = s := by
 rcases Nat.lt_trichotomy r s with h1 | h1 | h1
 ·have := mv_lt h1; omega
 ·exact h1
 ·have := mv_lt h1; omega
theorem mv_pos {r : Nat} (h : r ≠ 0) : mv r ≠ 0 := by have := mv_lt (show 0 < r by omega); omega

theorem d_sign : double.signWeight = 9223372036854775808 := by decide
theorem d_binade : double.binade = 4503599627370496 := by decide
theorem d_inf : double.infRung = 9218868437227405312 := by decide
theorem d_least : double.leastPlace = -1074 := by decide

/-- a float's sign, its rung -/
def fs (w : Nat) : Bool := w / 9223372036854775808 % 2 == 1
def fr (w : Nat) : Nat := w % 9223372036854775808
theorem read_num {w : Nat} (h : fr w < 9218868437227405312) : ∃ m p, double.read w = .number (fs w) m p ∧ -1074 ≤ p ∧ p ≤ 971 ∧ mv (fr w) = m * 2 ^ (p + 1074).toNat ∧ m < 9007199254740992 := by
 unfold Format.read
 rw [d_sign, d_binade, d_inf, d_least]
 have e : w % 9223372036854775808 = fr w := rfl
 have e2 : (w / 9223372036854775808 % 2 == 1) = fs w := rfl
 simp only [e, e2]
 by_cases h1 : fr w < 4503599627370496
 ·rw [if_pos h1]
  exact ⟨fr w, -1074, rfl, by omega, by omega, by rw [mv_small h1, show ((-1074 : Int) + 1074).toNat = 0 from rfl, Nat.pow_zero, Nat.mul_one], by omega⟩
 ·rw [if_neg h1, if_pos h]
  exact ⟨_, _, rfl, by omega, by omega, by rw [mv_big h1]; congr 2; omega, by omega⟩
theorem read_inf {w : Nat} (h : fr w = 9218868437227405312) : double.read w = .infinity (fs w) := by
 unfold Format.read
 rw [d_sign, d_binade, d_inf, d_least]
 have e : w % 9223372036854775808 = fr w := rfl
 have e2 : (w / 9223372036854775808 % 2 == 1) = fs w := rfl
 simp only [e, e2, h]
 rw [if_neg (by omega), if_neg (by omega), if_pos trivial]
theorem read_nan {w : Nat} (h : 9218868437227405312 < fr w) : ∃ t, double.read w = .nan (fs w) t := by
 unfold Format.read
 rw [d_sign, d_binade, d_inf, d_least]
 have e : w % 9223372036854775808 = fr w := rfl
 have e2 : (w / 9223372036854775808 % 2 == 1) = fs w := rfl
 simp only [e, e2]
 rw [if_neg (by omega), if_neg (by omega), if_neg (by omega)]
 exact ⟨_, rfl⟩

/-- a float that is no NaN, by its order: its rung with the sign -/
def fk (w : Nat) : Int := if fs w then -(fr w : Int) else fr w
theorem signed_eq (s : Bool) (m k : Nat) : signed s m k = if s then -((m * 2 ^ k : Nat) : Int) else ((m * 2 ^ k : Nat) : Int) := by
 unfold signed; rw [Nat.shiftLeft_eq]
theorem compare_of {a b c d : Int} (h1 : a < b ↔ c < d) (h2 : b < a ↔ d < c) : compare a b = compare c d := by
 rcases Int.lt_trichotomy a b with h | h | h
 ·rw [Int.compare_eq_lt.2 h, Int.compare_eq_lt.2 (h1.1 h)]
 ·have : c = d := by omega
  rw [Int.compare_eq_eq.2 h, Int.compare_eq_eq.2 this]
 ·rw [Int.compare_eq_gt.2 h, Int.compare_eq_gt.2 (h2.1 h)]
/-- the value in units of the least place -/
def fv (w : Nat) : Int := if fs w then -(mv (fr w) : Int) else mv (fr w)
theorem fv_lt {a b : Nat} : fv a < fv b ↔ fk a < fk b := by
 unfold fv fk
 have h1 := @mv_lt (fr a) (fr b)
 have h2 := @mv_lt (fr b) (fr a)
 have h3 := @lt_of_mv (fr a) (fr b)
 have h4 := @lt_of_mv (fr b) (fr a)
 have h5 : fr a ≠ 0 → mv (fr a) ≠ 0 := mv_pos
 have h6 : fr b ≠ 0 → mv (fr b) ≠ 0 := mv_pos
 have h7 : mv (fr a) ≠ 0 → fr a ≠ 0 := fun h e => h (by rw [e]; rfl)
 have h8 : mv (fr b) ≠ 0 → fr b ≠ 0 := fun h e => h (by rw [e]; rfl)
 cases fs a <;> cases fs b <;> simp only [Bool.false_eq_true, if_true, if_false] <;> constructor <;> intro h <;> omega
theorem signed_base {s : Bool} {m : Nat} {i base : Int} (h1 : -1074 ≤ base) (h2 : base ≤ i) {v : Nat} (hv : v = m * 2 ^ (i + 1074).toNat) :
  signed s m (i - base).toNat * (2 ^ (base + 1074).toNat : Nat) = if s then -(v : Int) else v := by
 have e : m * 2 ^ (i - base).toNat * 2 ^ (base + 1074).toNat = v := by
  rw [hv, Nat.mul_assoc, ← Nat.pow_add]; congr 2; omega
 rw [signed_eq]
 cases s
 ·simp only [Bool.false_eq_true, if_false]
  rw [← Int.natCast_mul, e]
 ·simp only [if_true]
  rw [Int.neg_mul, ← Int.natCast_mul, e]
/-- the order of two finite floats -/
theorem order_fin {a b : Nat} (ha : fr a < 9218868437227405312) (hb : fr b < 9218868437227405312) : double.order a b = some (compare (fk a) (fk b)) := by
 obtain ⟨m, i, ra, hi, _, va, _⟩ := read_num ha
 obtain ⟨n, j, rb, hj, _, vb, _⟩ := read_num hb
 unfold Format.order
 rw [ra, rb]
 show some (compare _ _) = _
 congr 1
 have hp : (0 : Int) < ((2 ^ (min i j + 1074).toNat : Nat) : Int) := by have := Nat.two_pow_pos (min i j + 1074).toNat; omega
 have e1 := signed_base (s := fs a) (m := m) (i := i) (base := min i j) (by omega) (by omega) va
 have e2 := signed_base (s := fs b) (m := n) (i := j) (base := min i j) (by omega) (by omega) vb
 have f1 : (if fs a then -(mv (fr a) : Int) else mv (fr a)) = fv a := rfl
 have f2 : (if fs b then -(mv (fr b) : Int) else mv (fr b)) = fv b := rfl
 rw [f1] at e1
 rw [f2] at e2
 generalize signed (fs a) m (i - min i j).toNat = x at *
 generalize signed (fs b) n (j - min i j).toNat = y at *
 generalize ((2 ^ (min i j + 1074).toNat : Nat) : Int) = q at *
 refine compare_of ?_ ?_
 ·rw [← fv_lt, ← e1, ← e2]; exact (Int.mul_lt_mul_right hp).symm
 ·rw [← fv_lt, ← e1, ← e2]; exact (Int.mul_lt_mul_right hp).symm
/-- the order of two floats, neither of them a NaN -/
theorem order_some {a b : Nat} (ha : fr a ≤ 9218868437227405312) (hb : fr b ≤ 9218868437227405312) : double.order a b = some (compare (fk a) (fk b)) := by
 rcases Nat.lt_or_eq_of_le ha with ha1 | ha1 <;> rcases Nat.lt_or_eq_of_le hb with hb1 | hb1
 ·exact order_fin ha1 hb1
 ·obtain ⟨m, i, ra, _⟩ := read_num ha1
  unfold Format.order
  rw [ra, read_inf hb1]
  show some (if fs b then Ordering.gt else Ordering.lt) = _
  congr 1
  unfold fk
  cases fs b
  ·simp only [Bool.false_eq_true, if_false]; symm; rw [Int.compare_eq_lt]; split <;> omega
  ·simp only [if_true]; symm; rw [Int.compare_eq_gt]; split <;> omega
 ·obtain ⟨m, i, rb, _⟩ := read_num hb1
  unfold Format.order
  rw [rb, read_inf ha1]
  show some (if fs a then Ordering.lt else Ordering.gt) = _
  congr 1
  unfold fk
  cases fs a
  ·simp only [Bool.false_eq_true, if_false]; symm; rw [Int.compare_eq_gt]; split <;> omega
  ·simp only [if_true]; symm; rw [Int.compare_eq_lt]; split <;> omega
 ·unfold Format.order
  rw [read_inf ha1, read_inf hb1]
  show some (compare (fs b).toNat (fs a).toNat) = _
  congr 1
  unfold fk
  rw [ha1, hb1]
  cases fs a <;> cases fs b <;> rfl
theorem order_nan {a b : Nat} (h : 9218868437227405312 < fr a ∨ 9218868437227405312 < fr b) : double.order a b = none := by
 unfold Format.order
 rcases h with h | h
 ·obtain ⟨t, ht⟩ := read_nan h
  rw [ht]; rfl
 ·obtain ⟨t, ht⟩ := read_nan h
  rw [ht]; cases double.read a <;> rfl
end Fil

/- The nearest float of an exact number: plain arithmetic, no program in sight. -/
namespace Fil
open Ieee

theorem cut_drop0 (neg : Bool) (n : Nat) : Toward.even.cut neg n 0 = n := by
 unfold Toward.cut
 rw [Nat.zero_min]
 simp only [Nat.shiftLeft_zero, Nat.div_one, Nat.mod_one]
 simp
theorem log2_shl {a k : Nat} (h : a ≠ 0) : (a * 2 ^ k).log2 = a.log2 + k := by
 have hp := Nat.two_pow_pos k
 have h0 : a * 2 ^ k ≠ 0 := Nat.mul_ne_zero h (by omega)
 have h1 : a < 2 ^ (a.log2 + 1) := (Nat.log2_lt h).1 (by omega)
 have h2 : 2 ^ a.log2 ≤ a := (Nat.le_log2 h).1 (Nat.le_refl _)
 apply Nat.le_antisymm
 ·have : (a * 2 ^ k).log2 < a.log2 + k + 1 := (Nat.log2_lt h0).2 (by rw [show a.log2 + k + 1 = a.log2 + 1 + k by omega, Nat.pow_add]; exact Nat.mul_lt_mul_of_pos_right h1 hp)
  omega
 ·exact (Nat.le_log2 h0).2 (by rw [Nat.pow_add]; exact Nat.mul_le_mul_right _ h2)
theorem cut_gap (n k : Nat) : (1 <<< min k (n.log2 + 2)) = 2 ^ min k (n.log2 + 2) := by rw [Nat.shiftLeft_eq, Nat.one_mul]
/-- what is cut off is nothing -/
theorem cut_exact (neg : Bool) (a k : Nat) (h : a ≠ 0) : Toward.even.cut neg (a * 2 ^ k) k = a := by
 unfold Toward.cut
 rw [cut_gap, log2_shl h, Nat.min_eq_left (by omega)]
 have hp := Nat.two_pow_pos k
 simp only [Nat.mul_div_cancel _ hp, Nat.mul_mod_left]
 simp
/-- the nearest of a number that is a float's -/
theorem nearest_exact (neg : Bool) {mag r : Nat} {place : Int} (d : Nat) (hr : r < 9218868437227405312) (hp : -1074 ≤ place + d) (h : mag * 2 ^ (place + 1074 + d).toNat = mv r * 2 ^ d) : double.nearest neg mag place = double.word neg r := by
 unfold Format.nearest
 by_cases h0 : mag = 0
 ·rw [if_pos h0]
  subst h0
  have : mv r = 0 := by
   rw [Nat.zero_mul] at h
   rcases Nat.mul_eq_zero.1 h.symm with h1 | h1
   ·exact h1
   ·have := Nat.two_pow_pos d; omega
  have : r = 0 := mv_inj (by rw [this]; rfl)
  rw [this]
 ·rw [if_neg h0]
  have hV : mv r ≠ 0 := by
   intro e
   rw [e, Nat.zero_mul] at h
   rcases Nat.mul_eq_zero.1 h with h1 | h1
   ·exact h0 h1
   ·have := Nat.two_pow_pos (place + 1074 + d).toNat; omega
  have hl : (mag.log2 : Int) + place = (mv r).log2 - 1074 := by
   have e1 := congrArg Nat.log2 h
   rw [log2_shl h0, log2_shl hV] at e1
   omega
  rw [d_least, show ((double.fractionBits : Nat) : Int) = 52 from rfl, d_binade, d_inf]
  have hr0 : r ≠ 0 := fun e => hV (by rw [e]; rfl)
  -- the kept digits and their place
  obtain ⟨K, L, hK, hL, hrL⟩ : ∃ (K L : Nat), mv r = K * 2 ^ L ∧ (L : Int) = max (place + mag.log2 - 52) (-1074) + 1074 ∧ r = L * 4503599627370496 + K := by
   by_cases hs : r < 4503599627370496
   ·refine ⟨r, 0, by rw [mv_small hs, Nat.pow_zero, Nat.mul_one], ?_, by omega⟩
    have h1 : (mv r).log2 < 52 := by rw [mv_small hs]; exact (Nat.log2_lt hr0).2 (by omega)
    omega
   ·have hb := mv_big hs
    refine ⟨4503599627370496 + r % 4503599627370496, r / 4503599627370496 - 1, hb, ?_, by omega⟩
    have hk0 : 4503599627370496 + r % 4503599627370496 ≠ 0 := by omega
    have h2 : (4503599627370496 + r % 4503599627370496).log2 = 52 := by
     apply Nat.le_antisymm
     ·have := (Nat.log2_lt hk0 (k := 53)).2 (by omega)
      omega
     ·exact (Nat.le_log2 hk0).2 (by omega)
    have h1 := log2_shl (k := r / 4503599627370496 - 1) hk0
    rw [← hb, h2] at h1
    omega
  rw [← show (L : Int) - 1074 = max (place + mag.log2 - 52) (-1074) by omega]
  have hK0 : K ≠ 0 := fun e => hV (by rw [hK, e, Nat.zero_mul])
  have hcut : Toward.even.cut neg (mag <<< (place - ((L : Int) - 1074)).toNat) ((L : Int) - 1074 - place).toNat = K := by
   rw [Nat.shiftLeft_eq]
   by_cases hc : (L : Int) - 1074 ≤ place
   ·rw [show ((L : Int) - 1074 - place).toNat = 0 by omega, cut_drop0]
    apply Nat.eq_of_mul_eq_mul_right (Nat.two_pow_pos (L + d))
    rw [Nat.mul_assoc, ← Nat.pow_add, show (place - ((L : Int) - 1074)).toNat + (L + d) = (place + 1074 + d).toNat by omega, h, hK, Nat.mul_assoc, ← Nat.pow_add]
   ·rw [show (place - ((L : Int) - 1074)).toNat = 0 by omega, Nat.pow_zero, Nat.mul_one]
    have e : mag = K * 2 ^ ((L : Int) - 1074 - place).toNat := by
     apply Nat.eq_of_mul_eq_mul_right (Nat.two_pow_pos (place + 1074 + d).toNat)
     rw [h, hK, Nat.mul_assoc, Nat.mul_assoc, ← Nat.pow_add, ← Nat.pow_add]
     congr 2; omega
    conv => lhs; rw [e]
    exact cut_exact neg K _ hK0
  dsimp only
  rw [hcut, show ((L : Int) - 1074 - -1074).toNat = L by omega, ← hrL, Nat.min_eq_left (by omega)]
end Fil

/- Rounding an exact number to a float: plain arithmetic, no program in sight. -/
namespace Fil
open Ieee

/-- the number's highest bit's power -/
def tpI (x : Nat) (e : Int) : Int := (x.log2 : Int) + e
/-- the last place that is kept -/
def rdQ (x : Nat) (e : Int) : Int := max (tpI x e - 52) (-1074)
/-- the digits that are kept -/
def rdM (x : Nat) (e : Int) : Nat := if rdQ x e ≤ e then x * 2 ^ (e - rdQ x e).toNat else x / 2 ^ (rdQ x e - e).toNat
/-- is nothing cut off? -/
def rdX (x : Nat) (e : Int) : Bool := decide (rdQ x e ≤ e)
/-- is what is cut off, by k digits, more than a half, or a half of an odd number? -/
def upB (x k : Nat) : Bool := decide (2 ^ k < 2 * (x % 2 ^ k)) || (decide (2 ^ k = 2 * (x % 2 ^ k)) && decide (x / 2 ^ k % 2 = 1))
def rdUp (x : Nat) (e : Int) : Bool := !rdX x e && upB x (rdQ x e - e).toNat
/-- the rung of what is kept -/
def rdR (x : Nat) (e : Int) : Nat := (rdQ x e + 1074).toNat * 4503599627370496 + rdM x e
/-- the rung of the nearest float -/
def rgN (x : Nat) (e : Int) : Nat := if 1024 ≤ tpI x e then 9218868437227405312 else rdR x e + (rdUp x e).toNat
/-- the rung of the greatest float not above; is it the number itself? -/
def rgL (x : Nat) (e : Int) : Nat := if 1024 ≤ tpI x e then 9218868437227405311 else rdR x e
def rgX (x : Nat) (e : Int) : Bool := decide (tpI x e < 1024) && rdX x e

theorem log_ge {x : Nat} (h : x ≠ 0) : 2 ^ x.log2 ≤ x := (Nat.le_log2 h).1 (Nat.le_refl _)
theorem log_lt {x : Nat} (h : x ≠ 0) : x < 2 ^ (x.log2 + 1) := (Nat.log2_lt h).1 (Nat.lt_succ_self _)

theorem rdM_lt {x : Nat} (h : x ≠ 0) (e : Int) : rdM x e < 9007199254740992 := by
 have h1 := log_lt h
 unfold rdM
 have hq : rdQ x e = max (tpI x e - 52) (-1074) := rfl
 unfold tpI at hq
 split
 ·rename_i hc
  have h2 : x * 2 ^ (e - rdQ x e).toNat < 2 ^ (x.log2 + 1) * 2 ^ (e - rdQ x e).toNat := Nat.mul_lt_mul_of_pos_right h1 (Nat.two_pow_pos _)
  rw [← Nat.pow_add] at h2
  have h3 : (2 : Nat) ^ (x.log2 + 1 + (e - rdQ x e).toNat) ≤ 2 ^ 53 := Nat.pow_le_pow_right (by omega) (by omega)
  omega
 ·rename_i hc
  refine Nat.div_lt_of_lt_mul ?_
  have h3 : (2 : Nat) ^ (x.log2 + 1) ≤ 2 ^ ((rdQ x e - e).toNat + 53) := Nat.pow_le_pow_right (by omega) (by omega)
  rw [Nat.pow_add 2 (rdQ x e - e).toNat 53] at h3
  omega
theorem rdM_ge {x : Nat} (h : x ≠ 0) {e : Int} (hq0 : -1074 < rdQ x e) : 4503599627370496 ≤ rdM x e := by
 have h1 := log_ge h
 unfold rdM
 have hq : rdQ x e = max (tpI x e - 52) (-1074) := rfl
 unfold tpI at hq
 split
 ·rename_i hc
  have h2 : 2 ^ x.log2 * 2 ^ (e - rdQ x e).toNat ≤ x * 2 ^ (e - rdQ x e).toNat := Nat.mul_le_mul_right _ h1
  rw [← Nat.pow_add] at h2
  have h3 : (2 : Nat) ^ 52 ≤ 2 ^ (x.log2 + (e - rdQ x e).toNat) := Nat.pow_le_pow_right (by omega) (by omega)
  omega
 ·rename_i hc
  rw [Nat.le_div_iff_mul_le (Nat.two_pow_pos _)]
  have h3 : (2 : Nat) ^ (52 + (rdQ x e - e).toNat) ≤ 2 ^ x.log2 := Nat.pow_le_pow_right (by omega) (by omega)
  rw [Nat.pow_add 2 52] at h3
  omega
theorem rdQ_lo (x : Nat) (e : Int) : -1074 ≤ rdQ x e := by unfold rdQ; omega
theorem rdQ_hi {x : Nat} {e : Int} (h : tpI x e < 1024) : rdQ x e ≤ 971 := by unfold rdQ; omega
theorem rdR_lt {x : Nat} (h0 : x ≠ 0) {e : Int} (h : tpI x e < 1024) : rdR x e < 9218868437227405312 := by
 have h1 := rdM_lt h0 e
 have h2 := rdQ_hi h
 have h3 := rdQ_lo x e
 unfold rdR
 omega
/-- the rung of m times 2^q and its magnitude -/
theorem mv_rung {m : Nat} {q : Int} (_h0 : -1074 ≤ q) (h1 : -1074 < q → 4503599627370496 ≤ m) (hm : m ≤ 9007199254740992) : mv ((q + 1074).toNat * 4503599627370496 + m) = m * 2 ^ (q + 1074).toNat := by
 obtain ⟨L, hL⟩ : ∃ L, L = (q + 1074).toNat := ⟨_, rfl⟩
 rw [← hL]
 by_cases hs : m < 4503599627370496
 ·have : L = 0 := by omega
  subst this
  rw [Nat.zero_mul, Nat.zero_add, mv_small hs, Nat.pow_zero, Nat.mul_one]
 ·rw [mv_big (by omega)]
  by_cases ht : m = 9007199254740992
  ·subst ht
   rw [show (L * 4503599627370496 + 9007199254740992) % 4503599627370496 = 0 by omega, show (L * 4503599627370496 + 9007199254740992) / 4503599627370496 - 1 = L + 1 by omega, Nat.pow_succ]
   omega
  ·rw [show (L * 4503599627370496 + m) % 4503599627370496 = m - 4503599627370496 by omega, show (L * 4503599627370496 + m) / 4503599627370496 - 1 = L by omega, show 4503599627370496 + (m - 4503599627370496) = m by omega]

/-- a whole number up to 2^53 by its highest bit -/
theorem int_parts {m : Nat} (h0 : m ≠ 0) (h : m ≤ 9007199254740992) : ∃ L F, L ≤ 53 ∧ L = m.log2 ∧ F < 4503599627370496 ∧ (4503599627370496 + F) * 2 ^ L = m * 4503599627370496 ∧ (L = 53 → m = 9007199254740992) := by
 have h1 := log_lt h0
 have h2 := log_ge h0
 by_cases ht : m = 9007199254740992
 ·refine ⟨53, 0, by omega, ?_, by omega, by omega, fun _ => ht⟩
  subst ht; decide
 ·have hL : m.log2 < 53 := (Nat.log2_lt h0).2 (by omega)
  obtain ⟨L, hl⟩ : ∃ L, L = m.log2 := ⟨_, rfl⟩
  rw [← hl] at h1 h2 hL
  have hp : (2 : Nat) ^ (52 - L) * 2 ^ L = 4503599627370496 := by rw [← Nat.pow_add, show 52 - L + L = 52 by omega]
  have e1 : m * 2 ^ (52 - L) * 2 ^ L = m * 4503599627370496 := by rw [Nat.mul_assoc, hp]
  have e2 : 4503599627370496 ≤ m * 2 ^ (52 - L) := by
   have := Nat.mul_le_mul_right (2 ^ (52 - L)) h2
   rw [Nat.mul_comm, hp] at this; exact this
  have e3 : m * 2 ^ (52 - L) < 9007199254740992 := by
   have := Nat.mul_lt_mul_of_pos_right h1 (Nat.two_pow_pos (52 - L))
   rw [Nat.pow_succ, Nat.mul_right_comm, Nat.mul_comm (2 ^ L), hp] at this; exact this
  exact ⟨L, m * 2 ^ (52 - L) - 4503599627370496, by omega, hl, by omega, by rw [show 4503599627370496 + (m * 2 ^ (52 - L) - 4503599627370496) = m * 2 ^ (52 - L) by omega]; exact e1, fun h => by omega⟩

theorem fr_lt {w : Nat} (h : w < 9223372036854775808) : fr w = w := Nat.mod_eq_of_lt h
theorem fs_lt {w : Nat} (h : w < 9223372036854775808) : fs w = false := by unfold fs; rw [Nat.div_eq_of_lt h]; rfl
theorem d_word (r : Nat) : double.word false r = r := rfl

/-- the float of a whole number -/
theorem float_int {m L F : Nat} (hL : L ≤ 53) (hF : F < 4503599627370496) (h : (4503599627370496 + F) * 2 ^ L = m * 4503599627370496) : double.nearest false m 0 = (L + 1023) * 4503599627370496 + F := by
 rw [nearest_exact false (r := (L + 1023) * 4503599627370496 + F) 0 (by omega) (by omega), d_word]
 have h1 := mv_rung (m := 4503599627370496 + F) (q := (L : Int) - 52) (by omega) (by omega) (by omega)
 rw [show ((L : Int) - 52 + 1074).toNat = L + 1022 by omega, show (L + 1022) * 4503599627370496 + (4503599627370496 + F) = (L + 1023) * 4503599627370496 + F by omega] at h1
 rw [h1, Nat.pow_zero, Nat.mul_one]
 have key : ∀ K : Nat, K = 1022 → m * 2 ^ ((0 : Int) + 1074 + ((0 : Nat) : Int)).toNat = (4503599627370496 + F) * 2 ^ (L + K) := fun K hK => by
  rw [show ((0 : Int) + 1074 + ((0 : Nat) : Int)).toNat = 52 + K by omega, Nat.pow_add 2 52 K, Nat.pow_add 2 L K, ← Nat.mul_assoc, ← Nat.mul_assoc, h, show (2 : Nat) ^ 52 = 4503599627370496 by rfl]
 exact key 1022 rfl

/-- a product that is a float's -/
theorem mul_exact {a b r : Nat} (ha : fr a < 9218868437227405312) (hb : fr b < 9218868437227405312) (hr : r < 9218868437227405312) (h : mv (fr a) * mv (fr b) = mv r * 2 ^ 1074) : double.mul a b = some (double.word (fs a ^^ fs b) r) := by
 obtain ⟨m, p, ra, p1, p2, va, -⟩ := read_num ha
 obtain ⟨n, q, rb, q1, q2, vb, -⟩ := read_num hb
 have hn := nearest_exact (fs a ^^ fs b) (mag := m * n) (place := p + q) 1074 hr (by omega) (by
  rw [← h, va, vb, show (p + q + 1074 + (1074 : Nat)).toNat = (p + 1074).toNat + (q + 1074).toNat by omega, Nat.pow_add, Nat.mul_mul_mul_comm])
 unfold Format.mul
 rw [ra, rb]
 show some (double.nearest (fs a ^^ fs b) (m * n) (p + q)) = _
 rw [hn]
end Fil
