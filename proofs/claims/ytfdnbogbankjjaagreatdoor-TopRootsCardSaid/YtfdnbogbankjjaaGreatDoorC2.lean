/- Merged: C4 C1 C2 -/
import Derived.Test.YtfdnbogbankjjaaGreatDoorV3

/- Floats as whole numbers of the least unit: what rounding takes away. In plain Lean. -/
namespace Go.Proofs.YtfdnbogbankjjaaGreatDoor
open Go Go.RowKit Go.PlainAid Fil

/-- a float's number, in units of 2^-lowM -/
def fu (b : Nat) : Int := sz (fs b) (mv (fr b) * uN)
theorem gap_small {L : Nat} (h : L < 4503599627370496) : mv (L + 1) = mv L + 1 := by rw [mv_succ, show L / 4503599627370496 = 0 by omega]
theorem gap_big {L : Nat} (h : 4503599627370496 ≤ L) : 4503599627370496 * (mv (L + 1) - mv L) ≤ mv L := by
 rw [mv_succ, Nat.add_sub_cancel_left, mv_big (by omega)]
 exact Nat.mul_le_mul_right _ (by omega)
/-- a rounded magnitude: how far it is -/
theorem near_err {x : Nat} {e : Int} (R : Rung x e) (h : rgN x e < 9218868437227405312) :
  9007199254740992 * ((mv (rgN x e) * uN : Nat) - (mg x e : Int)).natAbs ≤ mv (rgN x e) * uN ∨ 2 * ((mv (rgN x e) * uN : Nat) - (mg x e : Int)).natAbs ≤ uN := by
 have hlt := R.lt
 have hlo := R.lo
 rcases R.hi with hhi | hhi
 ·obtain ⟨L, hL⟩ : ∃ L, L = rgL x e := ⟨_, rfl⟩
  have hup := R.up hhi
  have hor := rgN_or R
  rw [← hL] at hup hhi hlo hor hlt
  have hm := mv_lt_succ L
  obtain ⟨g, hg⟩ : ∃ g, mv (L + 1) = mv L + g := ⟨mv (L + 1) - mv L, by omega⟩
  -- twice what is lost is at most a gap
  have key : 2 * ((mv (rgN x e) * uN : Nat) - (mg x e : Int)).natAbs ≤ g * uN ∧ mv L * uN ≤ mv (rgN x e) * uN := by
   rw [hg, Nat.add_mul] at hhi
   rw [hg, show mv L + (mv L + g) = 2 * mv L + g by omega, Nat.add_mul, Nat.mul_assoc] at hup
   rcases hup with ⟨h1, h2⟩ | ⟨h1, h2⟩
   ·rw [h1, hg, Nat.add_mul]
    constructor <;> omega
   ·rw [h1]
    constructor <;> omega
  by_cases hs : L < 4503599627370496
  ·have := gap_small hs
   have hg1 : g = 1 := by omega
   rw [hg1, Nat.one_mul] at key
   exact .inr key.1
  ·have h3 := gap_big (show 4503599627370496 ≤ L by omega)
   rw [hg, Nat.add_sub_cancel_left] at h3
   have h4 : 4503599627370496 * g * uN ≤ mv L * uN := Nat.mul_le_mul_right _ h3
   rw [Nat.mul_assoc] at h4
   exact .inl (by omega)
 ·omega
theorem fu_word {n : Bool} {r : Nat} (h : r < 9223372036854775808) : fu (Ieee.double.word n r) = sz n (mv r * uN) := by unfold fu; rw [fs_word h, fr_word h]
/-- the same of any exact number -/
theorem own_err {o : Nat} {z e : Int} (he : -(lowM : Int) ≤ e) (h : OwnOf o z e) (hf : fr o < 9218868437227405312) :
  9007199254740992 * (fu o - W z e).natAbs ≤ (fu o).natAbs ∨ 2 * (fu o - W z e).natAbs ≤ uN := by
 rcases h with ⟨hz, rfl⟩ | ⟨rfl, h0, _⟩
 ·have R := rung (x := z.natAbs) (by omega) he
  have hr := rgN_le R
  rw [fr_word (by omega)] at hf
  have k := near_err R hf
  rw [fu_word (by omega)]
  have e1 : W z e = sz (sg z) (mg z.natAbs e) := by rw [← W_sz, sz_self]
  rw [e1]
  cases sg z
  ·rw [sz_f, sz_f, Int.natAbs_natCast]; exact k
  ·rw [sz_t, sz_t, Int.natAbs_neg, Int.natAbs_natCast]
   have e2 : (-((mv (rgN z.natAbs e) * uN : Nat) : Int) - -((mg z.natAbs e : Nat) : Int)).natAbs = (((mv (rgN z.natAbs e) * uN : Nat) : Int) - (mg z.natAbs e : Int)).natAbs := by omega
   rw [e2]; exact k
 ·have : fu o = 0 := by unfold fu; rw [h0, mv_zero, Nat.zero_mul]; cases fs o <;> rfl
  have hW : W 0 e = 0 := by unfold W; exact Int.zero_mul _
  rw [this, hW]
  exact .inl (by omega)
/-- the next float up is not below what was rounded (from 0 on) -/
theorem own_up {o : Nat} {z e : Int} (he : -(lowM : Int) ≤ e) (hz : 0 ≤ z) (h : OwnOf o z e) : fr o ≤ 9218868437227405312 ∧ (fr o + 1 < 9218868437227405312 → W z e ≤ ((mv (fr o + 1) * uN : Nat) : Int)) ∧ (z ≠ 0 → fs o = false) := by
 rcases h with ⟨hz0, rfl⟩ | ⟨rfl, h0, _⟩
 ·have R := rung (x := z.natAbs) (by omega) he
  have hr := rgN_le R
  have hsg : sg z = false := by unfold sg; exact decide_eq_false (by omega)
  rw [fr_word (by omega), fs_word (by omega), hsg]
  refine ⟨hr, fun hlt => ?_, fun _ => rfl⟩
  have e1 : W z e = sz (sg z) (mg z.natAbs e) := by rw [← W_sz, sz_self]
  rw [e1, hsg, sz_f]
  have hor := rgN_or R
  rcases R.hi with hhi | hhi
  ·have h2 := mvu_le (show rgL z.natAbs e + 1 ≤ rgN z.natAbs e + 1 by omega)
   omega
  ·omega
 ·have hW : W 0 e = 0 := by unfold W; exact Int.zero_mul _
  rw [h0, hW]
  exact ⟨by omega, fun _ => Int.natCast_nonneg _, fun h => absurd rfl h⟩
end Go.Proofs.YtfdnbogbankjjaaGreatDoor

/- Complex rationals: bounds by a radius; polynomials and their derivatives; a contraction and its root. In plain Lean. -/
namespace Fil

/-- a complex rational -/
structure CQ where
 re : Rat
 im : Rat
theorem CQ.ext {a b : CQ} (h1 : a.re = b.re) (h2 : a.im = b.im) : a = b := by cases a; cases b; simp_all
def CQ.add (a b : CQ) : CQ := ⟨a.re + b.re, a.im + b.im⟩
def CQ.sub (a b : CQ) : CQ := ⟨a.re - b.re, a.im - b.im⟩
def CQ.neg (a : CQ) : CQ := ⟨-a.re, -a.im⟩
def CQ.mul (a b : CQ) : CQ := ⟨a.re * b.re - a.im * b.im, a.re * b.im + a.im * b.re⟩
def CQ.sc (t : Rat) (a : CQ) : CQ := ⟨t * a.re, t * a.im⟩
def CQ.nsq (a : CQ) : Rat := a.re * a.re + a.im * a.im
instance : Add CQ := ⟨CQ.add⟩
instance : Sub CQ := ⟨CQ.sub⟩
instance : Neg CQ := ⟨CQ.neg⟩
instance : Mul CQ := ⟨CQ.mul⟩
theorem cq_add (a b : CQ) : a + b = ⟨a.re + b.re, a.im + b.im⟩ := rfl
theorem cq_sub (a b : CQ) : a - b = ⟨a.re - b.re, a.im - b.im⟩ := rfl
theorem cq_neg (a : CQ) : -a = ⟨-a.re, -a.im⟩ := rfl
theorem cq_mul (a b : CQ) : a * b = ⟨a.re * b.re - a.im * b.im, a.re * b.im + a.im * b.re⟩ := rfl
theorem cq_sc (t : Rat) (a : CQ) : CQ.sc t a = ⟨t * a.re, t * a.im⟩ := rfl
/-- |u| ≤ r -/
def Nb (u : CQ) (r : Rat) : Prop := 0 ≤ r ∧ u.nsq ≤ r * r
theorem rsq_nn (x : Rat) : 0 ≤ x * x := by
 rcases Rat.le_total (a := 0) (b := x) with h | h
 ·exact Rat.mul_nonneg h h
 ·have : 0 ≤ -x * -x := Rat.mul_nonneg (by grind) (by grind)
  grind
theorem nsq_nn (u : CQ) : 0 ≤ u.nsq := Rat.add_nonneg (rsq_nn _) (rsq_nn _)
theorem rsq_le {x y : Rat} (hx : 0 ≤ x) (h : x ≤ y) : x * x ≤ y * y :=
 Rat.le_trans (Rat.mul_le_mul_of_nonneg_left h hx) (Rat.mul_le_mul_of_nonneg_right h (Rat.le_trans hx h))
theorem le_of_rsq {x y : Rat} (hy : 0 ≤ y) (h : x * x ≤ y * y) : x ≤ y := by
 rcases Rat.le_total (a := x) (b := y) with k | k
 ·exact k
 ·by_cases e : x = y
  ·rw [e]; exact Rat.le_refl
  ·have hlt : y < x := by grind
   have h1 : y * y ≤ y * x := Rat.mul_le_mul_of_nonneg_left k hy
   have h2 : y * x < x * x := Rat.mul_lt_mul_of_pos_right hlt (by grind)
   grind
theorem nb_mono {u : CQ} {a b : Rat} (h : Nb u a) (hab : a ≤ b) : Nb u b := ⟨Rat.le_trans h.1 hab, Rat.le_trans h.2 (rsq_le h.1 hab)⟩
theorem nb_zero (a : Rat) (h : 0 ≤ a) : Nb ⟨0, 0⟩ a := ⟨h, by show (0 : Rat) * 0 + 0 * 0 ≤ a * a; have := rsq_nn a; grind⟩
theorem nb_neg {u : CQ} {a : Rat} (h : Nb u a) : Nb (-u) a := ⟨h.1, by
 have e : (-u).nsq = u.nsq := by show -u.re * -u.re + -u.im * -u.im = u.re * u.re + u.im * u.im; grind
 rw [e]; exact h.2⟩
theorem nb_add {u v : CQ} {a b : Rat} (h : Nb u a) (k : Nb v b) : Nb (u + v) (a + b) := by
 obtain ⟨ha, hu⟩ := h
 obtain ⟨hb, hv⟩ := k
 refine ⟨Rat.add_nonneg ha hb, ?_⟩
 have h1 : u.nsq * v.nsq ≤ (a * a) * (b * b) := Rat.le_trans (Rat.mul_le_mul_of_nonneg_right hu (nsq_nn v)) (Rat.mul_le_mul_of_nonneg_left hv (rsq_nn a))
 have h2 : u.nsq * v.nsq = (u.re * v.re + u.im * v.im) * (u.re * v.re + u.im * v.im) + (u.re * v.im - u.im * v.re) * (u.re * v.im - u.im * v.re) := by unfold CQ.nsq; grind
 have h3 := rsq_nn (u.re * v.im - u.im * v.re)
 have h4 : u.re * v.re + u.im * v.im ≤ a * b := le_of_rsq (Rat.mul_nonneg ha hb) (by grind)
 have h5 : (u + v).nsq = u.nsq + v.nsq + 2 * (u.re * v.re + u.im * v.im) := by show (u.re + v.re) * (u.re + v.re) + (u.im + v.im) * (u.im + v.im) = _; unfold CQ.nsq; grind
 rw [h5]
 grind
theorem nb_sub {u v : CQ} {a b : Rat} (h : Nb u a) (k : Nb v b) : Nb (u - v) (a + b) := by
 have := nb_add h (nb_neg k)
 have e : u + -v = u - v := by rw [cq_add, cq_neg, cq_sub]; apply CQ.ext <;> grind
 rw [e] at this; exact this
theorem nsq_mul (u v : CQ) : (u * v).nsq = u.nsq * v.nsq := by rw [cq_mul]; unfold CQ.nsq; grind
theorem nb_mul {u v : CQ} {a b : Rat} (h : Nb u a) (k : Nb v b) : Nb (u * v) (a * b) := by
 refine ⟨Rat.mul_nonneg h.1 k.1, ?_⟩
 rw [nsq_mul]
 have := Rat.le_trans (Rat.mul_le_mul_of_nonneg_right h.2 (nsq_nn v)) (Rat.mul_le_mul_of_nonneg_left k.2 (rsq_nn a))
 grind
theorem nsq_sc (t : Rat) (u : CQ) : (CQ.sc t u).nsq = t * t * u.nsq := by rw [cq_sc]; unfold CQ.nsq; grind
theorem nb_sc {u : CQ} {a t : Rat} (ht : 0 ≤ t) (h : Nb u a) : Nb (CQ.sc t u) (t * a) := by
 refine ⟨Rat.mul_nonneg ht h.1, ?_⟩
 rw [nsq_sc]
 have := Rat.mul_le_mul_of_nonneg_left h.2 (rsq_nn t)
 grind
/-- a rational is below some whole number -/
theorem rat_arch (x : Rat) : ∃ n : Nat, 0 < n ∧ x ≤ (n : Rat) := by
 refine ⟨x.num.natAbs + 1, by omega, ?_⟩
 rw [Rat.le_iff]
 have h1 : ((x.num.natAbs + 1 : Nat) : Rat).num = (x.num.natAbs + 1 : Nat) := rfl
 have h2 : ((x.num.natAbs + 1 : Nat) : Rat).den = 1 := rfl
 rw [h1, h2]
 have h3 : x.num * ((1 : Nat) : Int) = x.num := by omega
 rw [h3]
 have h4 : (1 : Int) ≤ (x.den : Int) := by have := x.den_pos; omega
 have h5 : ((x.num.natAbs + 1 : Nat) : Int) * 1 ≤ ((x.num.natAbs + 1 : Nat) : Int) * (x.den : Int) := Int.mul_le_mul_of_nonneg_left h4 (by omega)
 omega
/-- what is below s + K / n for each n is below s, squared -/
theorem sq_limit {X s K : Rat} (hK : 0 ≤ K) (h : ∀ n : Nat, 0 < n → X ≤ (s + K / (n : Rat)) * (s + K / (n : Rat))) : X ≤ s * s := by
 rcases Rat.le_total (a := X) (b := s * s) with k | k
 ·exact k
 by_cases e : X = s * s
 ·rw [e]; exact Rat.le_refl
 exfalso
 have hd : 0 < X - s * s := by grind
 obtain ⟨n, hn, hle⟩ := rat_arch ((2 * s * K + K * K + 1) / (X - s * s))
 have hn' : (0 : Rat) < (n : Rat) := by
  have : (1 : Rat) ≤ (n : Rat) := by exact_mod_cast hn
  grind
 have h1 := h n hn
 obtain ⟨t, ht⟩ : ∃ t, t = K / (n : Rat) := ⟨_, rfl⟩
 have ht2 : t * (n : Rat) = K := by rw [ht]; exact Rat.div_mul_cancel (by grind)
 rw [← ht] at h1
 have hlt : 2 * s * K + K * K + 1 ≤ (n : Rat) * (X - s * s) := by
  have h3 : (2 * s * K + K * K + 1) / (X - s * s) * (X - s * s) = 2 * s * K + K * K + 1 := Rat.div_mul_cancel (by grind)
  have h4 := Rat.mul_le_mul_of_nonneg_right hle (Rat.le_of_lt hd)
  rw [h3] at h4
  exact h4
 have h5 : (n : Rat) * X ≤ (n : Rat) * ((s + t) * (s + t)) := Rat.mul_le_mul_of_nonneg_left h1 (Rat.le_of_lt hn')
 have h6 : (n : Rat) * ((s + t) * (s + t)) = (n : Rat) * (s * s) + 2 * s * K + K * t := by
  have : (n : Rat) * ((s + t) * (s + t)) = (n : Rat) * (s * s) + 2 * s * (t * (n : Rat)) + (t * (n : Rat)) * t := by grind
  rw [this, ht2]
 have hn1 : (1 : Rat) ≤ (n : Rat) := by exact_mod_cast hn
 have htn : 0 ≤ t := by
  rcases Rat.le_total (a := 0) (b := t) with k | k
  ·exact k
  ·by_cases e0 : t = 0
   ·rw [e0]; exact Rat.le_refl
   ·have : t * (n : Rat) < 0 * (n : Rat) := Rat.mul_lt_mul_of_pos_right (by grind) hn'
    grind
 have h7 : t ≤ K := by
  have := Rat.mul_le_mul_of_nonneg_left hn1 htn
  grind
 have h8 : K * t ≤ K * K := Rat.mul_le_mul_of_nonneg_left h7 hK
 grind
theorem nb_limit {u : CQ} {s K : Rat} (hs : 0 ≤ s) (hK : 0 ≤ K) (h : ∀ n : Nat, 0 < n → Nb u (s + K / (n : Rat))) : Nb u s := ⟨hs, sq_limit hK fun n hn => (h n hn).2⟩
/-- powers of what is below 1 -/
theorem pow_small {q : Rat} (h0 : 0 ≤ q) : ∀ k : Nat, q ^ k * (1 + (k : Rat) * (1 - q)) ≤ 1 := by
 intro k
 induction k with
 | zero => rw [Rat.pow_zero]; grind
 | succ k ih =>
  have hp : 0 ≤ q ^ k := Rat.pow_nonneg h0
  have hk : (0 : Rat) ≤ (k : Rat) := by exact_mod_cast Nat.zero_le k
  have hc : ((k + 1 : Nat) : Rat) = (k : Rat) + 1 := by rw [Rat.natCast_add]; rfl
  rw [Rat.pow_succ, hc]
  have h2 : q * (1 + ((k : Rat) + 1) * (1 - q)) ≤ 1 + (k : Rat) * (1 - q) := by
   have h3 : 0 ≤ ((k : Rat) + 1) * ((1 - q) * (1 - q)) := Rat.mul_nonneg (by grind) (rsq_nn _)
   grind
  have h4 := Rat.mul_le_mul_of_nonneg_left h2 hp
  grind
end Fil

/- Polynomials over the complex rationals: values, derivatives, what is left; how far a Newton step leads. In plain Lean. -/
namespace Fil

def pev : List CQ → CQ → CQ
 | [], _ => ⟨0, 0⟩
 | c :: p, z => c + z * pev p z
def pdv : List CQ → CQ → CQ
 | [], _ => ⟨0, 0⟩
 | _ :: p, z => pev p z + z * pdv p z
def prm : List CQ → CQ → CQ → CQ
 | [], _, _ => ⟨0, 0⟩
 | _ :: p, z, h => pdv p z + (z + h) * prm p z h
theorem pev_shift : ∀ (p : List CQ) (z h : CQ), pev p (z + h) = pev p z + h * pdv p z + h * h * prm p z h
 | [], z, h => by
  show (⟨0, 0⟩ : CQ) = (⟨0, 0⟩ : CQ) + h * ⟨0, 0⟩ + h * h * ⟨0, 0⟩
  simp only [cq_add, cq_mul]; apply CQ.ext <;> grind
 | c :: p, z, h => by
  have ih := pev_shift p z h
  show c + (z + h) * pev p (z + h) = (c + z * pev p z) + h * (pev p z + z * pdv p z) + h * h * (pdv p z + (z + h) * prm p z h)
  rw [ih]
  generalize pev p z = E
  generalize pdv p z = D
  generalize prm p z h = R
  simp only [cq_add, cq_mul]; apply CQ.ext <;> grind
theorem nb_some (u : CQ) : ∃ M, Nb u M := by
 refine ⟨1 + u.nsq, Rat.add_nonneg (by decide) (nsq_nn u), ?_⟩
 have := nsq_nn u
 have := rsq_nn u.nsq
 grind
theorem pev_bd (B : Rat) : ∀ p : List CQ, ∃ C, 0 ≤ C ∧ ∀ z, Nb z B → Nb (pev p z) C
 | [] => ⟨0, by decide, fun _ _ => nb_zero 0 (by decide)⟩
 | c :: p => by
  obtain ⟨C, hC, h⟩ := pev_bd B p
  obtain ⟨M, hM⟩ := nb_some c
  by_cases hB : 0 ≤ B
  ·exact ⟨M + B * C, Rat.add_nonneg hM.1 (Rat.mul_nonneg hB hC), fun z hz => nb_add hM (nb_mul hz (h z hz))⟩
  ·exact ⟨0, by decide, fun z hz => absurd hz.1 hB⟩
theorem pdv_bd (B : Rat) : ∀ p : List CQ, ∃ C, 0 ≤ C ∧ ∀ z, Nb z B → Nb (pdv p z) C
 | [] => ⟨0, by decide, fun _ _ => nb_zero 0 (by decide)⟩
 | c :: p => by
  obtain ⟨C, hC, h⟩ := pdv_bd B p
  obtain ⟨M, hM, k⟩ := pev_bd B p
  by_cases hB : 0 ≤ B
  ·exact ⟨M + B * C, Rat.add_nonneg hM (Rat.mul_nonneg hB hC), fun z hz => nb_add (k z hz) (nb_mul hz (h z hz))⟩
  ·exact ⟨0, by decide, fun z hz => absurd hz.1 hB⟩
theorem prm_bd (B H : Rat) : ∀ p : List CQ, ∃ C, 0 ≤ C ∧ ∀ z h, Nb z B → Nb h H → Nb (prm p z h) C
 | [] => ⟨0, by decide, fun _ _ _ _ => nb_zero 0 (by decide)⟩
 | c :: p => by
  obtain ⟨C, hC, h⟩ := prm_bd B H p
  obtain ⟨M, hM, k⟩ := pdv_bd B p
  by_cases hB : 0 ≤ B ∧ 0 ≤ H
  ·exact ⟨M + (B + H) * C, Rat.add_nonneg hM (Rat.mul_nonneg (Rat.add_nonneg hB.1 hB.2) hC), fun z x hz hx => nb_add (k z hz) (nb_mul (nb_add hz hx) (h z x hz hx))⟩
  ·exact ⟨0, by decide, fun z x hz hx => absurd ⟨hz.1, hx.1⟩ hB⟩
/-- a Newton step with slope y -/
def nw (p : List CQ) (y z : CQ) : CQ := z - y * pev p z
theorem nw_step (p : List CQ) (y z h : CQ) : nw p y (z + h) - nw p y z = h * (⟨1, 0⟩ - y * pdv p z) - y * (h * h * prm p z h) := by
 unfold nw
 rw [pev_shift]
 generalize pev p z = E
 generalize pdv p z = D
 generalize prm p z h = R
 simp only [cq_add, cq_mul, cq_sub]; apply CQ.ext <;> grind
theorem nb_cvx {u v : CQ} {r t : Rat} (h0 : 0 ≤ t) (h1 : t ≤ 1) (hu : Nb u r) (hv : Nb v r) : Nb (CQ.sc (1 - t) u + CQ.sc t v) r := by
 have := nb_add (nb_sc (t := 1 - t) (by grind) hu) (nb_sc h0 hv)
 have e : (1 - t) * r + t * r = r := by grind
 rw [e] at this; exact this
/-- the steps lie nearer to each other by q -/
theorem lip (p : List CQ) (y z0 : CQ) (r q : Rat) (hq : 0 ≤ q) (hd : ∀ z, Nb (z - z0) r → Nb ((⟨1, 0⟩ : CQ) - y * pdv p z) q) {a b : CQ} (ha : Nb (a - z0) r) (hb : Nb (b - z0) r) {ρ : Rat} (hρ : Nb (a - b) ρ) :
  Nb (nw p y a - nw p y b) (q * ρ) := by
 obtain ⟨M, hM⟩ := nb_some z0
 obtain ⟨Y, hY⟩ := nb_some y
 obtain ⟨C, hC, hR⟩ := prm_bd (M + r) ρ p
 refine nb_limit (K := Y * C * ρ * ρ) (Rat.mul_nonneg hq hρ.1) (Rat.mul_nonneg (Rat.mul_nonneg (Rat.mul_nonneg hY.1 hC) hρ.1) hρ.1) fun n hn => ?_
 have hn1 : (1 : Rat) ≤ (n : Rat) := by exact_mod_cast hn
 obtain ⟨s, hs⟩ : ∃ s, s = 1 / (n : Rat) := ⟨_, rfl⟩
 have hsn : s * (n : Rat) = 1 := by rw [hs]; exact Rat.div_mul_cancel (by grind)
 have hs0 : 0 ≤ s := by
  rcases Rat.le_total (a := 0) (b := s) with k | k
  ·exact k
  ·by_cases e0 : s = 0
   ·rw [e0]; exact Rat.le_refl
   ·have : s * (n : Rat) < 0 * (n : Rat) := Rat.mul_lt_mul_of_pos_right (by grind) (by grind)
    grind
 have hs1 : s ≤ 1 := by
  have := Rat.mul_le_mul_of_nonneg_left hn1 hs0
  grind
 obtain ⟨h, hh⟩ : ∃ h, h = CQ.sc s (a - b) := ⟨_, rfl⟩
 have hhb : Nb h (s * ρ) := by rw [hh]; exact nb_sc hs0 hρ
 have hhρ : Nb h ρ := nb_mono hhb (by have := Rat.mul_le_mul_of_nonneg_right hs1 hρ.1; grind)
 have key : ∀ k : Nat, (k : Rat) * s ≤ 1 → Nb (nw p y (b + CQ.sc ((k : Rat) * s) (a - b)) - nw p y b) ((k : Rat) * (s * ρ * q + Y * (s * ρ * (s * ρ) * C))) := by
  intro k
  induction k with
  | zero =>
   intro _
   have e : b + CQ.sc (((0 : Nat) : Rat) * s) (a - b) = b := by
    have e0 : ((0 : Nat) : Rat) = 0 := rfl
    rw [e0]; simp only [cq_add, cq_sc, cq_sub]; apply CQ.ext <;> grind
   rw [e]
   have e2 : nw p y b - nw p y b = ⟨0, 0⟩ := by simp only [cq_sub]; apply CQ.ext <;> grind
   rw [e2]
   exact nb_zero _ (by have e0 : ((0 : Nat) : Rat) = 0 := rfl; rw [e0]; grind)
  | succ k ih =>
   intro hk
   have hc : ((k + 1 : Nat) : Rat) = (k : Rat) + 1 := by rw [Rat.natCast_add]; rfl
   rw [hc] at hk ⊢
   have hk0 : (k : Rat) * s ≤ 1 := by grind
   have hkn : 0 ≤ (k : Rat) * s := Rat.mul_nonneg (by exact_mod_cast Nat.zero_le k) hs0
   have ih := ih hk0
   obtain ⟨x, hx⟩ : ∃ x, x = b + CQ.sc ((k : Rat) * s) (a - b) := ⟨_, rfl⟩
   have hxb : Nb (x - z0) r := by
    have := nb_cvx hkn hk0 hb ha
    have e : CQ.sc (1 - (k : Rat) * s) (b - z0) + CQ.sc ((k : Rat) * s) (a - z0) = x - z0 := by
     rw [hx]; simp only [cq_add, cq_sc, cq_sub]; apply CQ.ext <;> grind
    rw [e] at this; exact this
   have hxM : Nb x (M + r) := by
    have := nb_add hM hxb
    have e : z0 + (x - z0) = x := by simp only [cq_add, cq_sub]; apply CQ.ext <;> grind
    rw [e] at this; exact this
   have e1 : b + CQ.sc (((k : Rat) + 1) * s) (a - b) = x + h := by
    rw [hx, hh]; simp only [cq_add, cq_sc, cq_sub]; apply CQ.ext <;> grind
   rw [e1]
   rw [← hx] at ih
   have st := nw_step p y x h
   have b1 : Nb (nw p y (x + h) - nw p y x) (s * ρ * q + Y * (s * ρ * (s * ρ) * C)) := by
    rw [st]
    exact nb_sub (nb_mul hhb (hd x hxb)) (nb_mul hY (nb_mul (nb_mul hhb hhb) (hR x h hxM hhρ)))
   have := nb_add ih b1
   have e2 : nw p y x - nw p y b + (nw p y (x + h) - nw p y x) = nw p y (x + h) - nw p y b := by simp only [cq_add, cq_sub]; apply CQ.ext <;> grind
   rw [e2] at this
   have e3 : (k : Rat) * (s * ρ * q + Y * (s * ρ * (s * ρ) * C)) + (s * ρ * q + Y * (s * ρ * (s * ρ) * C)) = ((k : Rat) + 1) * (s * ρ * q + Y * (s * ρ * (s * ρ) * C)) := by grind
   rw [e3] at this; exact this
 have hf := key n (by grind)
 have e1 : b + CQ.sc ((n : Rat) * s) (a - b) = a := by
  have : (n : Rat) * s = 1 := by grind
  rw [this]; simp only [cq_add, cq_sc, cq_sub]; apply CQ.ext <;> grind
 rw [e1] at hf
 refine nb_mono hf ?_
 have e2 : (n : Rat) * (s * ρ * q + Y * (s * ρ * (s * ρ) * C)) = q * ρ * (s * (n : Rat)) + Y * C * ρ * ρ * s * (s * (n : Rat)) := by grind
 have e3 : Y * C * ρ * ρ / (n : Rat) = Y * C * ρ * ρ * s := by rw [hs, Rat.div_def, Rat.div_def]; grind
 rw [e2, hsn, e3]
 grind
end Fil
