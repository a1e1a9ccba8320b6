/- Merged: B6 B7 -/
import Derived.Test.YtfdnbogbankjjaaGreatDoorB1
import Derived.Laws.FloatArith
import Derived.Test.YtfdnbogbankjjaaGreatDoorB5
import Derived.Laws.BitsAllLaws

/- Floats by rungs and rounding: plain arithmetic, no program in sight. -/
/- Floats by rungs: plain arithmetic, no program in sight. -/
namespace Fil
open Ieee

/-- a rung's magnitude, in units of the least place -/
def mv (r : Nat) : Nat := if r < 4503599627370496 then r else (4503599627370496 + r % 4503599627370496) * 2 ^ (r / 4503599627370496 - 1)
theorem mv_small {r : Nat} (h : r < 4503599627370496) : mv r = r := if_pos h
theorem mv_big {r : Nat} (h : ¬ r < 4503599627370496) : mv r = (4503599627370496 + r % 4503599627370496) * 2 ^ (r / 4503599627370496 - 1) := if_neg h
theorem mv_zero : mv 0 = 0 := rfl
theorem mv_succ (r : Nat) : mv (r + 1) = mv r + 2 ^ (r / 4503599627370496 - 1) := by
 by_cases h1 : r + 1 < 4503599627370496
 ·rw [mv_small h1, mv_small (by omega), show r / 4503599627370496 = 0 by omega]
 ·by_cases h2 : r < 4503599627370496
  ·rw [mv_big h1, mv_small h2, show (r + 1) % 4503599627370496 = 0 by omega, show (r + 1) / 4503599627370496 = 1 by omega, show r / 4503599627370496 = 0 by omega]
   simp only [Nat.sub_self, Nat.pow_zero, Nat.zero_sub]
   omega
  ·rw [mv_big h1, mv_big h2]
   by_cases h3 : r % 4503599627370496 + 1 < 4503599627370496
   ·rw [show (r + 1) % 4503599627370496 = r % 4503599627370496 + 1 by omega, show (r + 1) / 4503599627370496 = r / 4503599627370496 by omega, ← Nat.add_assoc, Nat.add_mul, Nat.one_mul]
   ·obtain ⟨p, hp⟩ : ∃ p, r / 4503599627370496 = p + 1 := ⟨r / 4503599627370496 - 1, by omega⟩
    rw [show (r + 1) % 4503599627370496 = 0 by omega, show (r + 1) / 4503599627370496 = p + 2 by omega, hp, show r % 4503599627370496 = 4503599627370495 by omega, show p + 2 - 1 = p + 1 by omega, show p + 1 - 1 = p by omega, Nat.pow_succ]
    generalize 2 ^ p = t
    omega
theorem mv_lt_succ (r : Nat) : mv r < mv (r + 1) := by rw [mv_succ]; have := Nat.two_pow_pos (r / 4503599627370496 - 1); omega
theorem mv_lt {r s : Nat} (h : r < s) : mv r < mv s := by
 induction s with
 | zero => omega
 | succ s ih =>
  rcases Nat.lt_or_ge r s with h1 | h1
  ·exact Nat.lt_trans (ih h1) (mv_lt_succ s)
  ·have : r = s := by omega
   subst this; exact mv_lt_succ r
theorem mv_le {r s : Nat} (h : r ≤ s) : mv r ≤ mv s := by
 rcases Nat.lt_or_ge r s with h1 | h1
 ·exact Nat.le_of_lt (mv_lt h1)
 ·have : r = s := by omega
  subst this; exact Nat.le_refl _
theorem lt_of_mv {r s : Nat} (h : mv r < mv s) : r < s := by
 rcases Nat.lt_or_ge r s with h1 | h1
 ·exact h1
 ·have := mv_le h1; omega
theorem mv_pos {r : Nat} (h : r ≠ 0) : mv r ≠ 0 := by have := mv_lt (show 0 < r by omega); omega

theorem d_sign : double.signWeight = 9223372036854775808 := by decide
theorem d_binade : double.binade = 4503599627370496 := by decide
theorem d_inf : double.infRung = 9218868437227405312 := by decide
theorem d_least : double.leastPlace = -1074 := by decide

/-- a float's sign, its rung -/
def fs (w : Nat) : Bool := w / 9223372036854775808 % 2 == 1
def fr (w : Nat) : Nat := w % 9223372036854775808
theorem fw_eq {w : Nat} (h : w < 18446744073709551616) : w = double.word (fs w) (fr w) := by
 unfold Format.word fs fr
 rw [d_sign]
 by_cases h1 : w / 9223372036854775808 % 2 = 1
 ·rw [h1]; simp only [beq_self_eq_true, if_true]; omega
 ·rw [beq_eq_false_iff_ne.2 h1]; simp only [Bool.false_eq_true, if_false]; omega

theorem read_num {w : Nat} (h : fr w < 9218868437227405312) : ∃ m p, double.read w = .number (fs w) m p ∧ -1074 ≤ p ∧ p ≤ 971 ∧ mv (fr w) = m * 2 ^ (p + 1074).toNat ∧ m < 9007199254740992 := by
 unfold Format.read
 rw [d_sign, d_binade, d_inf, d_least]
 have e : w % 9223372036854775808 = fr w := rfl
 have e2 : (w / 9223372036854775808 % 2 == 1) = fs w := rfl
 simp only [e, e2]
 by_cases h1 : fr w < 4503599627370496
 ·rw [if_pos h1]
  exact ⟨fr w, -1074, rfl, by omega, by omega, by rw [mv_small h1, show ((-1074 : Int) + 1074).toNat = 0 from rfl, Nat.pow_zero, Nat.mul_one], by omega⟩
 ·rw [if_neg h1, if_pos h]
  exact ⟨_, _, rfl, by omega, by omega, by rw [mv_big h1]; congr 2; omega, by omega⟩
theorem read_inf {w : Nat} (h : fr w = 9218868437227405312) : double.read w = .infinity (fs w) := by
 unfold Format.read
 rw [d_sign, d_binade, d_inf, d_least]
 have e : w % 9223372036854775808 = fr w := rfl
 have e2 : (w / 9223372036854775808 % 2 == 1) = fs w := rfl
 simp only [e, e2, h]
 rw [if_neg (by omega), if_neg (by omega), if_pos trivial]
theorem read_nan {w : Nat} (h : 9218868437227405312 < fr w) : ∃ t, double.read w = .nan (fs w) t := by
 unfold Format.read
 rw [d_sign, d_binade, d_inf, d_least]
 have e : w % 9223372036854775808 = fr w := rfl
 have e2 : (w / 9223372036854775808 % 2 == 1) = fs w := rfl
 simp only [e, e2]
 rw [if_neg (by omega), if_neg (by omega), if_neg (by omega)]
 exact ⟨_, rfl⟩

/-- a float that is no NaN, by its order: its rung with the sign -/
def fk (w : Nat) : Int := if fs w then -(fr w : Int) else fr w
theorem signed_eq (s : Bool) (m k : Nat) : signed s m k = if s then -((m * 2 ^ k : Nat) : Int) else ((m * 2 ^ k : Nat) : Int) := by
 unfold signed; rw [Nat.shiftLeft_eq]
theorem compare_of {a b c d : Int} (h1 : a < b ↔ c < d) (h2 : b < a ↔ d < c) : compare a b = compare c d := by
 rcases Int.lt_trichotomy a b with h | h | h
 ·rw [Int.compare_eq_lt.2 h, Int.compare_eq_lt.2 (h1.1 h)]
 ·have : c = d := by omega
  rw [Int.compare_eq_eq.2 h, Int.compare_eq_eq.2 this]
 ·rw [Int.compare_eq_gt.2 h, Int.compare_eq_gt.2 (h2.1 h)]
/-- the value in units of the least place -/
def fv (w : Nat) : Int := if fs w then -(mv (fr w) : Int) else mv (fr w)
theorem fv_lt {a b : Nat} : fv a < fv b ↔ fk a < fk b := by
 unfold fv fk
 have h1 := @mv_lt (fr a) (fr b)
 have h2 := @mv_lt (fr b) (fr a)
 have h3 := @lt_of_mv (fr a) (fr b)
 have h4 := @lt_of_mv (fr b) (fr a)
 have h5 : fr a ≠ 0 → mv (fr a) ≠ 0 := mv_pos
 have h6 : fr b ≠ 0 → mv (fr b) ≠ 0 := mv_pos
 have h7 : mv (fr a) ≠ 0 → fr a ≠ 0 := fun h e => h (by rw [e]; rfl)
 have h8 : mv (fr b) ≠ 0 → fr b ≠ 0 := fun h e => h (by rw [e]; rfl)
 cases fs a <;> cases fs b <;> simp only [Bool.false_eq_true, if_true, if_false] <;> constructor <;> intro h <;> omega
theorem signed_base {s : Bool} {m : Nat} {i base : Int} (h1 : -1074 ≤ base) (h2 : base ≤ i) {v : Nat} (hv : v = m * 2 ^ (i + 1074).toNat) :
  signed s m (i - base).toNat * (2 ^ (base + 1074).toNat : Nat) = if s then -(v : Int) else v := by
 have e : m * 2 ^ (i - base).toNat * 2 ^ (base + 1074).toNat = v := by
  rw [hv, Nat.mul_assoc, ← Nat.pow_add]; congr 2; omega
 rw [signed_eq]
 cases s
 ·simp only [Bool.false_eq_true, if_false]
  rw [← Int.natCast_mul, e]
 ·simp only [if_true]
  rw [Int.neg_mul, ← Int.natCast_mul, e]
/-- the order of two finite floats -/
theorem order_fin {a b : Nat} (ha : fr a < 9218868437227405312) (hb : fr b < 9218868437227405312) : double.order a b = some (compare (fk a) (fk b)) := by
 obtain ⟨m, i, ra, hi, _, va, _⟩ := read_num ha
 obtain ⟨n, j, rb, hj, _, vb, _⟩ := read_num hb
 unfold Format.order
 rw [ra, rb]
 show some (compare _ _) = _
 congr 1
 have hp : (0 : Int) < ((2 ^ (min i j + 1074).toNat : Nat) : Int) := by have := Nat.two_pow_pos (min i j + 1074).toNat; omega
 have e1 := signed_base (s := fs a) (m := m) (i := i) (base := min i j) (by omega) (by omega) va
 have e2 := signed_base (s := fs b) (m := n) (i := j) (base := min i j) (by omega) (by omega) vb
 have f1 : (if fs a then -(mv (fr a) : Int) else mv (fr a)) = fv a := rfl
 have f2 : (if fs b then -(mv (fr b) : Int) else mv (fr b)) = fv b := rfl
 rw [f1] at e1
 rw [f2] at e2
 generalize signed (fs a) m (i - min i j).toNat = x at *
 generalize signed (fs b) n (j - min i j).toNat = y at *
 generalize ((2 ^ (min i j + 1074).toNat : Nat) : Int) = q at *
 refine compare_of ?_ ?_
 ·rw [← fv_lt, ← e1, ← e2]; exact (Int.mul_lt_mul_right hp).symm
 ·rw [← fv_lt, ← e1, ← e2]; exact (Int.mul_lt_mul_right hp).symm
/-- the order of two floats, neither of them a NaN -/
theorem order_some {a b : Nat} (ha : fr a ≤ 9218868437227405312) (hb : fr b ≤ 9218868437227405312) : double.order a b = some (compare (fk a) (fk b)) := by
 rcases Nat.lt_or_eq_of_le ha with ha1 | ha1 <;> rcases Nat.lt_or_eq_of_le hb with hb1 | hb1
 ·exact order_fin ha1 hb1
 ·obtain ⟨m, i, ra, _⟩ := read_num ha1
  unfold Format.order
  rw [ra, read_inf hb1]
  show some (if fs b then Ordering.gt else Ordering.lt) = _
  congr 1
  unfold fk
  cases fs b
  ·simp only [Bool.false_eq_true, if_false]; symm; rw [Int.compare_eq_lt]; split <;> omega
  ·simp only [if_true]; symm; rw [Int.compare_eq_gt]; split <;> omega
 ·obtain ⟨m, i, rb, _⟩ := read_num hb1
  unfold Format.order
  rw [rb, read_inf ha1]
  show some (if fs a then Ordering.lt else Ordering.gt) = _
  congr 1
  unfold fk
  cases fs a
  ·simp only [Bool.false_eq_true, if_false]; symm; rw [Int.compare_eq_gt]; split <;> omega
  ·simp only [if_true]; symm; rw [Int.compare_eq_lt]; split <;> omega
 ·unfold Format.order
  rw [read_inf ha1, read_inf hb1]
  show some (compare (fs b).toNat (fs a).toNat) = _
  congr 1
  unfold fk
  rw [ha1, hb1]
  cases fs a <;> cases fs b <;> rfl
theorem order_nan {a b : Nat} (h : 9218868437227405312 < fr a ∨ 9218868437227405312 < fr b) : double.order a b = none := by
 unfold Format.order
 rcases h with h | h
 ·obtain ⟨t, ht⟩ := read_nan h
  rw [ht]; rfl
 ·obtain ⟨t, ht⟩ := read_nan h
  rw [ht]; cases double.read a <;> rfl
end Fil

/- The nearest float of an exact number: plain arithmetic, no program in sight. -/
namespace Fil
open Ieee

theorem cut_drop0 (neg : Bool) (n : Nat) : Toward.even.cut neg n 0 = n := by
 unfold Toward.cut
 rw [Nat.zero_min]
 simp only [Nat.shiftLeft_zero, Nat.div_one, Nat.mod_one]
 simp
theorem cut_gap (n k : Nat) : (1 <<< min k (n.log2 + 2)) = 2 ^ min k (n.log2 + 2) := by rw [Nat.shiftLeft_eq, Nat.one_mul]
end Fil

/- Rounding an exact number to a float: plain arithmetic, no program in sight. -/
namespace Fil
open Ieee

/-- the number's highest bit's power -/
def tpI (x : Nat) (e : Int) : Int := (x.log2 : Int) + e
/-- the last place that is kept -/
def rdQ (x : Nat) (e : Int) : Int := max (tpI x e - 52) (-1074)
/-- the digits that are kept -/
def rdM (x : Nat) (e : Int) : Nat := if rdQ x e ≤ e then x * 2 ^ (e - rdQ x e).toNat else x / 2 ^ (rdQ x e - e).toNat
/-- is nothing cut off? -/
def rdX (x : Nat) (e : Int) : Bool := decide (rdQ x e ≤ e)
/-- is what is cut off, by k digits, more than a half, or a half of an odd number? -/
def upB (x k : Nat) : Bool := decide (2 ^ k < 2 * (x % 2 ^ k)) || (decide (2 ^ k = 2 * (x % 2 ^ k)) && decide (x / 2 ^ k % 2 = 1))
def rdUp (x : Nat) (e : Int) : Bool := !rdX x e && upB x (rdQ x e - e).toNat
/-- the rung of what is kept -/
def rdR (x : Nat) (e : Int) : Nat := (rdQ x e + 1074).toNat * 4503599627370496 + rdM x e
/-- the rung of the nearest float -/
def rgN (x : Nat) (e : Int) : Nat := if 1024 ≤ tpI x e then 9218868437227405312 else rdR x e + (rdUp x e).toNat
/-- the rung of the greatest float not above; is it the number itself? -/
def rgL (x : Nat) (e : Int) : Nat := if 1024 ≤ tpI x e then 9218868437227405311 else rdR x e
def rgX (x : Nat) (e : Int) : Bool := decide (tpI x e < 1024) && rdX x e

theorem log_ge {x : Nat} (h : x ≠ 0) : 2 ^ x.log2 ≤ x := (Nat.le_log2 h).1 (Nat.le_refl _)
theorem log_lt {x : Nat} (h : x ≠ 0) : x < 2 ^ (x.log2 + 1) := (Nat.log2_lt h).1 (Nat.lt_succ_self _)

theorem even_cut (neg : Bool) {x : Nat} (h : x ≠ 0) (k : Nat) : Toward.even.cut neg x k = x / 2 ^ k + (upB x k).toNat := by
 have h1 := log_lt h
 unfold Toward.cut
 rw [cut_gap]
 by_cases hk : k ≤ x.log2 + 2
 ·rw [Nat.min_eq_left hk]
  dsimp only
  unfold upB
  generalize 2 ^ k = p
  congr 2
 ·rw [Nat.min_eq_right (by omega)]
  have h2 : 2 * x < 2 ^ (x.log2 + 2) := by rw [Nat.pow_succ]; omega
  have h3 : (2 : Nat) ^ (x.log2 + 2) ≤ 2 ^ k := Nat.pow_le_pow_right (by omega) (by omega)
  have u : upB x k = false := by
   unfold upB
   rw [Nat.mod_eq_of_lt (show x < 2 ^ k by omega), decide_eq_false (by omega), decide_eq_false (by omega)]
   rfl
  rw [u]
  dsimp only
  generalize 2 ^ (x.log2 + 2) = g at *
  have hm : x % g = x := Nat.mod_eq_of_lt (by omega)
  rw [hm, Nat.div_eq_of_lt (show x < g by omega), Nat.div_eq_of_lt (show x < 2 ^ k by omega)]
  have d1 : decide (g < 2 * x) = false := decide_eq_false (by omega)
  have d2 : (g == 2 * x) = false := by rw [beq_eq_false_iff_ne]; omega
  rw [d1, d2]
  rfl

theorem rdM_lt {x : Nat} (h : x ≠ 0) (e : Int) : rdM x e < 9007199254740992 := by
 have h1 := log_lt h
 unfold rdM
 have hq : rdQ x e = max (tpI x e - 52) (-1074) := rfl
 unfold tpI at hq
 split
 ·rename_i hc
  have h2 : x * 2 ^ (e - rdQ x e).toNat < 2 ^ (x.log2 + 1) * 2 ^ (e - rdQ x e).toNat := Nat.mul_lt_mul_of_pos_right h1 (Nat.two_pow_pos _)
  rw [← Nat.pow_add] at h2
  have h3 : (2 : Nat) ^ (x.log2 + 1 + (e - rdQ x e).toNat) ≤ 2 ^ 53 := Nat.pow_le_pow_right (by omega) (by omega)
  omega
 ·rename_i hc
  refine Nat.div_lt_of_lt_mul ?_
  have h3 : (2 : Nat) ^ (x.log2 + 1) ≤ 2 ^ ((rdQ x e - e).toNat + 53) := Nat.pow_le_pow_right (by omega) (by omega)
  rw [Nat.pow_add 2 (rdQ x e - e).toNat 53] at h3
  omega
theorem rdM_ge {x : Nat} (h : x ≠ 0) {e : Int} (hq0 : -1074 < rdQ x e) : 4503599627370496 ≤ rdM x e := by
 have h1 := log_ge h
 unfold rdM
 have hq : rdQ x e = max (tpI x e - 52) (-1074) := rfl
 unfold tpI at hq
 split
 ·rename_i hc
  have h2 : 2 ^ x.log2 * 2 ^ (e - rdQ x e).toNat ≤ x * 2 ^ (e - rdQ x e).toNat := Nat.mul_le_mul_right _ h1
  rw [← Nat.pow_add] at h2
  have h3 : (2 : Nat) ^ 52 ≤ 2 ^ (x.log2 + (e - rdQ x e).toNat) := Nat.pow_le_pow_right (by omega) (by omega)
  omega
 ·rename_i hc
  rw [Nat.le_div_iff_mul_le (Nat.two_pow_pos _)]
  have h3 : (2 : Nat) ^ (52 + (rdQ x e - e).toNat) ≤ 2 ^ x.log2 := Nat.pow_le_pow_right (by omega) (by omega)
  rw [Nat.pow_add 2 52] at h3
  omega
theorem rdQ_lo (x : Nat) (e : Int) : -1074 ≤ rdQ x e := by unfold rdQ; omega
theorem rdQ_hi {x : Nat} {e : Int} (h : tpI x e < 1024) : rdQ x e ≤ 971 := by unfold rdQ; omega
theorem rdR_lt {x : Nat} (h0 : x ≠ 0) {e : Int} (h : tpI x e < 1024) : rdR x e < 9218868437227405312 := by
 have h1 := rdM_lt h0 e
 have h2 := rdQ_hi h
 have h3 := rdQ_lo x e
 unfold rdR
 omega
theorem nearest_eq (neg : Bool) {x : Nat} (h : x ≠ 0) (e : Int) : double.nearest neg x e = double.word neg (rgN x e) := by
 have hm1 := rdM_lt h e
 have hq : rdQ x e = max (tpI x e - 52) (-1074) := rfl
 unfold Format.nearest
 rw [if_neg h, d_least, show ((double.fractionBits : Nat) : Int) = 52 from rfl, d_binade, d_inf]
 have hl : max (e + (x.log2 : Int) - 52) (-1074) = rdQ x e := by unfold tpI at hq; omega
 rw [hl]
 dsimp only
 rw [Nat.shiftLeft_eq]
 have hc : Toward.even.cut neg (x * 2 ^ (e - rdQ x e).toNat) (rdQ x e - e).toNat = rdM x e + (rdUp x e).toNat := by
  unfold rdM rdUp rdX
  by_cases hx : rdQ x e ≤ e
  ·rw [if_pos hx, decide_eq_true hx, show (rdQ x e - e).toNat = 0 by omega, cut_drop0]; rfl
  ·rw [if_neg hx, decide_eq_false hx, show (e - rdQ x e).toNat = 0 by omega, Nat.pow_zero, Nat.mul_one, even_cut neg h]; rfl
 rw [hc, show rdQ x e - -1074 = rdQ x e + 1074 by omega]
 congr 1
 unfold rgN
 by_cases ht : 1024 ≤ tpI x e
 ·rw [if_pos ht]
  have hg := rdM_ge h (e := e) (by omega)
  omega
 ·rw [if_neg ht, ← Nat.add_assoc]
  have := rdR_lt h (e := e) (by omega)
  unfold rdR at *
  have hb : (rdUp x e).toNat ≤ 1 := by cases rdUp x e <;> simp
  omega

/-- the rung of m times 2^q and its magnitude -/
theorem mv_rung {m : Nat} {q : Int} (_h0 : -1074 ≤ q) (h1 : -1074 < q → 4503599627370496 ≤ m) (hm : m ≤ 9007199254740992) : mv ((q + 1074).toNat * 4503599627370496 + m) = m * 2 ^ (q + 1074).toNat := by
 obtain ⟨L, hL⟩ : ∃ L, L = (q + 1074).toNat := ⟨_, rfl⟩
 rw [← hL]
 by_cases hs : m < 4503599627370496
 ·have : L = 0 := by omega
  subst this
  rw [Nat.zero_mul, Nat.zero_add, mv_small hs, Nat.pow_zero, Nat.mul_one]
 ·rw [mv_big (by omega)]
  by_cases ht : m = 9007199254740992
  ·subst ht
   rw [show (L * 4503599627370496 + 9007199254740992) % 4503599627370496 = 0 by omega, show (L * 4503599627370496 + 9007199254740992) / 4503599627370496 - 1 = L + 1 by omega, Nat.pow_succ]
   omega
  ·rw [show (L * 4503599627370496 + m) % 4503599627370496 = m - 4503599627370496 by omega, show (L * 4503599627370496 + m) / 4503599627370496 - 1 = L by omega, show 4503599627370496 + (m - 4503599627370496) = m by omega]

theorem fr_lt {w : Nat} (h : w < 9223372036854775808) : fr w = w := Nat.mod_eq_of_lt h
theorem fs_lt {w : Nat} (h : w < 9223372036854775808) : fs w = false := by unfold fs; rw [Nat.div_eq_of_lt h]; rfl
end Fil

/- The walks of math's functions, of filigreelaw03.awake. -/
/- The walks over math.IsNaN, Abs, IsInf, normalize, Ldexp at a positive float that is neither subnormal nor infinite. -/
namespace Go.Proofs.YtfdnbogbankjjaaGreatDoor
open Go Go.RowKit Go.PlainAid Fil

theorem run_f64bits (b : Nat) (w : World) : (callFunc 90 #[.float .f64 b]).run Tryz.prog w = .ok (.value (.int .u64 b)) w := by
 rw [run_callFunc_extern (e := Extern.MathFloatBits.float64bits) Tryz.func90 (by kernel_rfl) (by kernel_rfl) (by kernel_rfl) (by kernel_rfl)]
 rfl
theorem run_f64from (n : Int) (w : World) : (callFunc 97 #[.int .u64 n]).run Tryz.prog w = .ok (.value (.float .f64 n.toNat)) w := by
 rw [run_callFunc_extern (e := Extern.MathFloatBits.float64frombits) Tryz.func97 (by kernel_rfl) (by kernel_rfl) (by kernel_rfl) (by kernel_rfl)]
 rfl

/-- a float's bits without the sign -/
def magB (b : Nat) : Nat := b % 9223372036854775808
theorem magB_bits (b : Nat) (h : b < 18446744073709551616) : bits BinOp.andNot IntKind.u64 (b : Int) 9223372036854775808 = ((magB b : Nat) : Int) := by
 have h1 := u64_andNot_nat b 9223372036854775808 h (by omega)
 rw [show ((9223372036854775808 : Nat) : Int) = 9223372036854775808 from rfl] at h1
 rw [h1, show 18446744073709551615 - 9223372036854775808 = 2 ^ 63 - 1 by rfl, Nat.and_two_pow_sub_one_eq_mod]
 rfl
set_option maxRecDepth 20000 in
set_option maxHeartbeats 1000000 in
theorem mabs_any (b : Nat) (w : World) (h : b < 18446744073709551616) : Calls Tryz.prog 65 #[.float .f64 b] w fun r w' => r = .returned (.float .f64 (magB b)) ∧ w = w' := by
 have h1 := run_f64bits
 have h2 := run_f64from
 have h3 := magB_bits b h
 clear h
 go_enter Tryz.func65, Tryz.ntmps65
 go_wp2
 go_ret
 exact ⟨rfl, rfl⟩

set_option maxRecDepth 20000 in
set_option maxHeartbeats 1000000 in
/-- IsInf(x, 0) -/
theorem isinf_any (b : Nat) (w : World) (h : b < 18446744073709551616) : Calls Tryz.prog 57 #[.float .f64 b, .int .i64 0] w fun r w' => r = .returned (.bool (FloatKind.f64.format.order (magB b) 9218868437227405311 == some .gt)) ∧ w = w' := by
 have hm := fun W => mabs_any b W h
 clear h
 go_enter Tryz.func57, Tryz.ntmps57
 go_wp2_with (go_at_call 65; go_must (refine (hm _).mono ?_); rintro r w1 ⟨rfl, rfl⟩)
 go_ret
 exact ⟨rfl, rfl⟩

end Go.Proofs.YtfdnbogbankjjaaGreatDoor

/- The walk over dyad.Near at the number 3 (awake). -/
namespace Go.Proofs.YtfdnbogbankjjaaGreatDoor
open Go Go.RowKit Go.PlainAid Fil

end Go.Proofs.YtfdnbogbankjjaaGreatDoor

/- The walk over filigreelaw03.awake: it answers true. -/
namespace Go.Proofs.YtfdnbogbankjjaaGreatDoor
open Go Go.RowKit Go.PlainAid Fil

end Go.Proofs.YtfdnbogbankjjaaGreatDoor

/- The walks over math.Ldexp at whole numbers up to 2^53, where the answer is a float or the infinity. -/
namespace Go.Proofs.YtfdnbogbankjjaaGreatDoor
open Go Go.RowKit Go.PlainAid Fil

theorem cmp_lt {a b : Int} (h : a < b) : compare a b = .lt := by
 rw [Int.compare_eq_lt]; exact h
theorem cmp_gt {a b : Int} (h : b < a) : compare a b = .gt := by
 rw [Int.compare_eq_gt]; exact h
set_option maxRecDepth 20000 in
set_option maxHeartbeats 1000000 in
theorem minf_pos (w : World) : Calls Tryz.prog 75 #[.int .i64 1] w fun r w' => r = .returned (.float .f64 9218868437227405312) ∧ w = w' := by
 have h2 := run_f64from
 go_enter Tryz.func75, Tryz.ntmps75
 go_wp2
 go_ret
 exact ⟨rfl, rfl⟩
end Go.Proofs.YtfdnbogbankjjaaGreatDoor

/- The walks over math.Copysign, the reference's packed and signed, filigreelaw03.bits. -/
namespace Go.Proofs.YtfdnbogbankjjaaGreatDoor
open Go Go.RowKit Go.PlainAid Fil

theorem ret_f64 {a b : Nat} (h : a = b) : Ending.returned (.float .f64 a) = .returned (.float .f64 b) := by rw [h]
theorem d_word_t (r : Nat) : Ieee.double.word true r = 9223372036854775808 + r := rfl
theorem d_word_f (r : Nat) : Ieee.double.word false r = r := rfl

set_option maxRecDepth 20000 in
set_option maxHeartbeats 1000000 in
/-- signed, of a rung -/
theorem rsigned_any (neg : Bool) (r : Nat) (w : World) (h : r < 9223372036854775808) : Calls Tryz.prog 53 #[.bool neg, .float .f64 r] w fun e w' => e = .returned (.float .f64 (Ieee.double.word neg r)) ∧ w = w' := by
 have h1 := run_f64bits
 have h2 := run_f64from
 cases neg
 ·rw [d_word_f]
  clear h
  go_enter Tryz.func53, Tryz.ntmps53
  go_wp2
  go_ret
  exact ⟨rfl, rfl⟩
 ·rw [d_word_t]
  have i1 : (r : Int) < 9223372036854775808 := by omega
  clear h
  go_enter Tryz.func53, Tryz.ntmps53
  go_wp2
  go_ret
  exact ⟨ret_f64 (by omega), rfl⟩

set_option maxRecDepth 20000 in
set_option maxHeartbeats 2000000 in
theorem rpacked_any (neg : Bool) (m : Nat) (q : Int) (w : World) (hm : m ≤ 9007199254740992) (hq0 : -1074 ≤ q) (hq1 : q ≤ 971) (hq : -1074 < q → 4503599627370496 ≤ m) :
  Calls Tryz.prog 95 #[.bool neg, .int .u64 m, .int .i64 q] w fun r w' => r = .returned (.float .f64 (Ieee.double.word neg ((q + 1074).toNat * 4503599627370496 + m))) ∧ w = w' := by
 have h2 := run_f64from
 obtain ⟨z, hz⟩ : ∃ z, z = Ieee.double.word neg ((q + 1074).toNat * 4503599627370496 + m) := ⟨_, rfl⟩
 rw [← hz]
 by_cases h53 : m = 9007199254740992
 ·subst h53
  by_cases ho : q = 971
  ·subst ho
   clear hq hq0 hq1 hm
   have Hz := Lib.hid hz
   clear hz
   cases neg
   ·go_enter Tryz.func95, Tryz.ntmps95
    go_wp2
    go_ret
    exact ⟨ret_f64 (by rw [Hz.out, d_word_f]; decide), rfl⟩
   ·go_enter Tryz.func95, Tryz.ntmps95
    go_wp2
    go_ret
    exact ⟨ret_f64 (by rw [Hz.out, d_word_t]; decide), rfl⟩
  ·have i1 : q ≤ 970 := by omega
   clear hq hm ho hq1
   have Hz := Lib.hid hz
   clear hz
   cases neg
   ·go_enter Tryz.func95, Tryz.ntmps95
    go_wp2
    go_ret
    exact ⟨ret_f64 (by rw [Hz.out, d_word_f]; omega), rfl⟩
   ·go_enter Tryz.func95, Tryz.ntmps95
    go_wp2
    go_ret
    exact ⟨ret_f64 (by rw [Hz.out, d_word_t]; omega), rfl⟩
 ·have e1 : ((m : Int) == 9007199254740992) = false := by rw [beq_eq_false_iff_ne]; omega
  have i1 : (m : Int) ≤ 9007199254740991 := by omega
  clear hm h53
  by_cases h52 : 4503599627370496 ≤ m
  ·have i2 : 4503599627370496 ≤ (m : Int) := by omega
   have e2 : decide (4503599627370496 ≤ (m : Int)) = true := by rw [decide_eq_true_eq]; omega
   have Hz := Lib.hid hz
   clear hz hq h52
   cases neg
   ·go_enter Tryz.func95, Tryz.ntmps95
    go_wp2
    go_ret
    exact ⟨ret_f64 (by rw [Hz.out, d_word_f]; omega), rfl⟩
   ·go_enter Tryz.func95, Tryz.ntmps95
    go_wp2
    go_ret
    exact ⟨ret_f64 (by rw [Hz.out, d_word_t]; omega), rfl⟩
  ·obtain rfl : q = -1074 := by omega
   have i2 : (m : Int) < 4503599627370496 := by omega
   have e2 : decide (4503599627370496 ≤ (m : Int)) = false := by rw [decide_eq_false_iff_not]; omega
   have Hz := Lib.hid hz
   clear hz hq h52 hq0 hq1
   cases neg
   ·go_enter Tryz.func95, Tryz.ntmps95
    go_wp2
    go_ret
    exact ⟨ret_f64 (by rw [Hz.out, d_word_f]; omega), rfl⟩
   ·go_enter Tryz.func95, Tryz.ntmps95
    go_wp2
    go_ret
    exact ⟨ret_f64 (by rw [Hz.out, d_word_t]; omega), rfl⟩

end Go.Proofs.YtfdnbogbankjjaaGreatDoor
