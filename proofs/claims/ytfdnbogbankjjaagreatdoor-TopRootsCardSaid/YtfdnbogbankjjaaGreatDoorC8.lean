/- Merged: C7 C8 -/
import Derived.Test.YtfdnbogbankjjaaGreatDoorF1
import Derived.Test.YtfdnbogbankjjaaGreatDoorFS

/- What ball reckons up is not below the exact value: plus, times. In plain Lean. -/
namespace Go.Proofs.YtfdnbogbankjjaaGreatDoor
open Go Go.RowKit Go.PlainAid Fil

/-- from 0 on, or a nought -/
def Nn (X : FV) : Prop := ∀ b, X = some b → fs b = false ∨ fr b = 0
/-- X is at least p, if it is a number -/
structure Ub (X : FV) (p : Rat) : Prop where
 wd : Wd X
 nn : Nn X
 ge : ∀ x, Rl X x → p ≤ fq x
theorem Ub.mono {X : FV} {p q : Rat} (h : Ub X p) (k : q ≤ p) : Ub X q := ⟨h.wd, h.nn, fun x hx => Rat.le_trans k (h.ge x hx)⟩
theorem fq_nn {x : Nat} (h : fs x = false ∨ fr x = 0) : 0 ≤ fq x := by
 have h1 : (0 : Int) ≤ fu x := by
  unfold fu
  rcases h with h | h
  ·rw [h, sz_f]; exact Int.natCast_nonneg _
  ·rw [h, mv_zero, Nat.zero_mul, sz_zero]; exact Int.le_refl _
 unfold fq
 rw [Rat.div_def]
 exact Rat.mul_nonneg (by exact_mod_cast h1) (Rat.le_of_lt (Rat.inv_pos.2 PP_pos))
theorem Ub.nonneg {X : FV} {p : Rat} (h : Ub X p) {x : Nat} (k : Rl X x) : 0 ≤ fq x := fq_nn (h.nn x k.1)
theorem fq_le {x : Nat} {v : Int} (h : v ≤ fu x) : (v : Rat) / PP ≤ fq x := by
 unfold fq
 rw [Rat.div_def, Rat.div_def]
 exact Rat.mul_le_mul_of_nonneg_right (by exact_mod_cast h) (Rat.le_of_lt (Rat.inv_pos.2 PP_pos))
/-- the next float up of what an exact number from 0 on was rounded to -/
theorem up_own {o : Nat} {z e : Int} (he : -(lowM : Int) ≤ e) (hz : 0 ≤ z) (h : OwnOf o z e) (ho : o < 18446744073709551616) :
  Nn (fup (some o)) ∧ ∀ u, Rl (fup (some o)) u → W z e ≤ fu u := by
 obtain ⟨h1, h2, h3⟩ := own_up he hz h
 have hs : fr o ≠ 0 → fs o = false := fun k => h3 fun e0 => by
  rcases h with ⟨hz0, _⟩ | ⟨_, h0, _⟩
  ·exact hz0 e0
  ·exact k h0
 have heq : fs o = false → o = fr o := fun k => by
  have := fw_eq ho
  rw [k] at this; exact this
 have hup : fup (some o) = some (if o = 9218868437227405312 then o else if fr o = 0 then 1 else if 9223372036854775808 ≤ o then o - 1 else o + 1) := rfl
 rw [hup]
 by_cases c1 : o = 9218868437227405312
 ·rw [if_pos c1]
  refine ⟨fun b hb => ?_, fun u hu => ?_⟩
  ·cases hb; rw [c1]; left; decide
  ·obtain ⟨hu1, _, hu2⟩ := hu
   cases hu1; rw [c1] at hu2; exact absurd hu2 (by decide)
 ·rw [if_neg c1]
  by_cases c2 : fr o = 0
  ·rw [if_pos c2]
   refine ⟨fun b hb => ?_, fun u hu => ?_⟩
   ·cases hb; left; decide
   ·obtain ⟨hu1, _, hu2⟩ := hu
    cases hu1
    have k := h2 (by rw [c2]; decide)
    rw [c2] at k
    have e1 : fu 1 = ((mv (0 + 1) * uN : Nat) : Int) := by
     unfold fu
     rw [show fs 1 = false by decide, show fr 1 = 0 + 1 by decide, sz_f]
    rw [e1]; exact k
  ·rw [if_neg c2]
   have c3 := hs c2
   have c4 := heq c3
   have c5 : ¬ 9223372036854775808 ≤ o := by omega
   rw [if_neg c5]
   have c6 : fs (o + 1) = false := fs_lt (by omega)
   refine ⟨fun b hb => ?_, fun u hu => ?_⟩
   ·cases hb; left; exact c6
   ·obtain ⟨hu1, _, hu2⟩ := hu
    cases hu1
    have c7 : fr (o + 1) = fr o + 1 := by rw [fr_lt (by omega)]; omega
    rw [c7] at hu2
    have k := h2 hu2
    have e1 : fu (o + 1) = ((mv (fr o + 1) * uN : Nat) : Int) := by
     unfold fu
     rw [c6, c7, sz_f]
    rw [e1]; exact k
theorem wd_up {X : FV} (h : Wd X) : Wd (fup X) := by
 obtain ⟨b, hb⟩ := h
 rcases hb.cases with ⟨_, rfl⟩ | ⟨k, rfl⟩
 ·exact ⟨nanB 0, nanB_fl 0⟩
 ·have hl := hb.lt
  show Wd (some (if b = 9218868437227405312 then b else if fr b = 0 then 1 else if 9223372036854775808 ≤ b then b - 1 else b + 1))
  split
  ·exact ⟨b, hb⟩
  ·split
   ·exact ⟨1, fl_some (by decide) (by decide)⟩
   ·split
    ·exact ⟨b - 1, fl_some (by omega) (by unfold fr at *; omega)⟩
    ·exact ⟨b + 1, fl_some (by omega) (by unfold fr at *; omega)⟩
/-- a float is a number, an infinity or a NaN -/
theorem wd_cases {X : FV} (h : Wd X) : X = none ∨ (∃ x, Rl X x) ∨ ∃ b, X = some b ∧ fr b = 9218868437227405312 ∧ b < 18446744073709551616 := by
 obtain ⟨b, hb⟩ := h
 rcases hb.cases with ⟨_, rfl⟩ | ⟨k, rfl⟩
 ·exact .inl rfl
 ·rcases Nat.lt_or_eq_of_le k with k | k
  ·exact .inr (.inl ⟨b, rfl, hb.lt, k⟩)
  ·exact .inr (.inr ⟨b, rfl, k, hb.lt⟩)
theorem nn_inf {b : Nat} (h : fr b = 9218868437227405312) (hl : b < 18446744073709551616) (hn : Nn (some b)) : b = 9218868437227405312 := by
 rcases hn b rfl with k | k
 ·have := fw_eq hl
  rw [k, h] at this; exact this
 ·omega
theorem feq0 {X : FV} (hX : Wd X) (h : feq X (some 0) = true) : ∃ x, Rl X x ∧ fq x = 0 := by
 rcases wd_cases hX with rfl | ⟨x, hx⟩ | ⟨b, rfl, hb, hl⟩
 ·exact absurd h (by decide)
 ·refine ⟨x, hx, ?_⟩
  obtain ⟨rfl, h1, h2⟩ := hx
  have h' : (Ieee.double.order x 0 == some .eq) = true := h
  rw [order_some (by omega) (by decide), show fk 0 = 0 by decide] at h'
  have hk : fk x = 0 := by
   rcases Int.lt_trichotomy (fk x) 0 with k | k | k
   ·rw [cmp_lt k] at h'; exact absurd h' (by decide)
   ·exact k
   ·rw [cmp_gt k] at h'; exact absurd h' (by decide)
  have hfr : fr x = 0 := by unfold fk at hk; split at hk <;> omega
  unfold fq fu
  rw [hfr, mv_zero, Nat.zero_mul, sz_zero]
  simp [Rat.div_def]
 ·exfalso
  have h' : (Ieee.double.order b 0 == some .eq) = true := h
  rw [order_some (by omega) (by decide), show fk 0 = 0 by decide] at h'
  have hk : fk b ≠ 0 := by unfold fk; split <;> omega
  rcases Int.lt_or_gt_of_ne hk with k | k
  ·rw [cmp_lt k] at h'; exact absurd h' (by decide)
  ·rw [cmp_gt k] at h'; exact absurd h' (by decide)
theorem add_inf {b y : Nat} (hb : b = 9218868437227405312) (hy : fr y ≤ 9218868437227405312) (hn : fs y = false ∨ fr y = 0) : floatBits .add .f64 b y = some 9218868437227405312 ∧ floatBits .add .f64 y b = some 9218868437227405312 := by
 subst hb
 rcases Nat.lt_or_eq_of_le hy with k | k
 ·obtain ⟨m, p, e, _⟩ := read_num k
  constructor
  ·show (Ieee.Datum.sum _ _).map _ = _
   show ((Ieee.double.read 9218868437227405312).sum (Ieee.double.read y)).map Ieee.double.write = _
   rw [e, read_inf (by decide)]; rfl
  ·show ((Ieee.double.read y).sum (Ieee.double.read 9218868437227405312)).map Ieee.double.write = _
   rw [e, read_inf (by decide)]; rfl
 ·have hs : fs y = false := by rcases hn with h | h; exact h; omega
  constructor
  ·show ((Ieee.double.read 9218868437227405312).sum (Ieee.double.read y)).map Ieee.double.write = _
   rw [read_inf k, read_inf (by decide), hs]; rfl
  ·show ((Ieee.double.read y).sum (Ieee.double.read 9218868437227405312)).map Ieee.double.write = _
   rw [read_inf k, read_inf (by decide), hs]; rfl
theorem not_rl_inf {u : Nat} (h : Rl (fup (some 9218868437227405312)) u) : False := by
 obtain ⟨h1, _, h2⟩ := h
 have e : fup (some 9218868437227405312) = some 9218868437227405312 := rfl
 rw [e] at h1
 cases h1
 exact absurd h2 (by decide)
theorem nn_upinf : Nn (fup (some 9218868437227405312)) := by
 intro b hb
 have e : fup (some 9218868437227405312) = some 9218868437227405312 := rfl
 rw [e] at hb
 cases hb
 left; decide
theorem wd_some {b : Nat} (h : Wd (some b)) : b < 18446744073709551616 ∧ fr b ≤ 9218868437227405312 := by
 obtain ⟨c, hc⟩ := h
 obtain ⟨rfl, h1, h2⟩ := hc.val
 exact ⟨h2, h1⟩
theorem rat_add_div (a b : Int) : ((a + b : Int) : Rat) / PP = (a : Rat) / PP + (b : Rat) / PP := by
 rw [Rat.div_def, Rat.div_def, Rat.div_def, Rat.intCast_add, Rat.add_mul]
theorem z_nn {z e : Int} (h : 0 ≤ W z e) : 0 ≤ z := by
 rcases Int.lt_or_le z 0 with k | k
 ·have hp : (0 : Int) < 2 ^ (e + lowM).toNat := Int.pow_pos (by decide)
  have := Int.mul_neg_of_neg_of_pos k hp
  unfold W at h
  omega
 ·exact k
theorem fu_nn {x : Nat} (h : fs x = false ∨ fr x = 0) : 0 ≤ fu x := by
 unfold fu
 rcases h with h | h
 ·rw [h, sz_f]; exact Int.natCast_nonneg _
 ·rw [h, mv_zero, Nat.zero_mul, sz_zero]; exact Int.le_refl _
theorem add_fin {X Y : FV} {x y : Nat} (hx : Rl X x) (hy : Rl Y y) (nx : fs x = false ∨ fr x = 0) (ny : fs y = false ∨ fr y = 0) : Nn (fup (fop .add X Y)) ∧ ∀ u, Rl (fup (fop .add X Y)) u → fq x + fq y ≤ fq u := by
 obtain ⟨rfl, hx1, hx2⟩ := hx
 obtain ⟨rfl, hy1, hy2⟩ := hy
 obtain ⟨o, ho, hown⟩ := add_own (Fn.q hx2) (Fn.q hy2)
 have e : fop .add (some x) (some y) = some o := ho
 have hw := wd_fop .add (some x) (some y)
 rw [e] at hw ⊢
 have hsum := sum_W hx2 hy2
 have hlo : -(lowM : Int) ≤ min (flE x) (flE y) := by have := flE_lo x; have := flE_lo y; omega
 have k1 := fu_nn nx
 have k2 := fu_nn ny
 have hz := z_nn (show 0 ≤ W (addZ (sz (fs x) (flM x)) (flE x) (sz (fs y) (flM y)) (flE y)) (min (flE x) (flE y)) by rw [hsum]; omega)
 obtain ⟨h1, h2⟩ := up_own hlo hz hown (wd_some hw).1
 refine ⟨h1, fun u hu => ?_⟩
 have k := h2 u hu
 rw [hsum] at k
 have k3 := fq_le k
 rw [rat_add_div] at k3
 exact k3
/-- plus -/
theorem ub_plus {X Y : FV} {p q : Rat} (hX : Ub X p) (hY : Ub Y q) : Ub (fPlus X Y) (p + q) := by
 simp only [fPlus]
 cases c1 : feq X (some 0)
 ·cases c2 : feq Y (some 0)
  ·show Ub (fup (fop .add X Y)) (p + q)
   have key : Nn (fup (fop .add X Y)) ∧ ∀ u, Rl (fup (fop .add X Y)) u → p + q ≤ fq u := by
    rcases wd_cases hX.wd with rfl | ⟨x, hx⟩ | ⟨b, rfl, hb, hl⟩
    ·exact ⟨fun b hb => (by cases hb), fun u hu => (by cases hu.1)⟩
    ·rcases wd_cases hY.wd with rfl | ⟨y, hy⟩ | ⟨b, rfl, hb, hl⟩
     ·obtain ⟨rfl, _⟩ := hx
      exact ⟨fun b hb => (by cases hb), fun u hu => (by cases hu.1)⟩
     ·obtain ⟨h1, h2⟩ := add_fin hx hy (hX.nn x hx.1) (hY.nn y hy.1)
      refine ⟨h1, fun u hu => ?_⟩
      have k1 := hX.ge x hx
      have k2 := hY.ge y hy
      have k3 := h2 u hu
      grind
     ·have hbi := nn_inf hb hl hY.nn
      obtain ⟨rfl, hx1, hx2⟩ := hx
      have e : fop .add (some x) (some b) = some 9218868437227405312 := (add_inf hbi (by omega) (hX.nn x rfl)).2
      rw [e]
      exact ⟨nn_upinf, fun u hu => (not_rl_inf hu).elim⟩
    ·have hbi := nn_inf hb hl hX.nn
     cases Y with
     | none => exact ⟨fun b hb => (by cases hb), fun u hu => (by cases hu.1)⟩
     | some y =>
      have e : fop .add (some b) (some y) = some 9218868437227405312 := (add_inf hbi (wd_some hY.wd).2 (hY.nn y rfl)).1
      rw [e]
      exact ⟨nn_upinf, fun u hu => (not_rl_inf hu).elim⟩
   exact ⟨wd_up (wd_fop _ _ _), key.1, key.2⟩
  ·obtain ⟨y, hy, h0⟩ := feq0 hY.wd c2
   have k := hY.ge y hy
   exact hX.mono (by grind)
 ·obtain ⟨x, hx, h0⟩ := feq0 hX.wd c1
  have k := hX.ge x hx
  exact hY.mono (by grind)
theorem mul_W {x y : Nat} (hx : Fn x) (hy : Fn y) : W (sz (fs x) (flM x) * sz (fs y) (flM y)) (flE x + flE y) * 2 ^ lowM = fu x * fu y := by
 rw [fu_flY hx, fu_flY hy]
 refine W_mul _ _ (flE_lo x) (flE_lo y) ?_
 have h1 := flE_bd x
 have h2 := flE_bd y
 have := lowM_ge
 omega
theorem PP_int : (((2 : Int) ^ lowM : Int) : Rat) = PP := by
 unfold PP
 push_cast
 rfl
theorem mul_fin {X Y : FV} {x y : Nat} (hx : Rl X x) (hy : Rl Y y) (nx : fs x = false ∨ fr x = 0) (ny : fs y = false ∨ fr y = 0) : Nn (fup (fop .mul X Y)) ∧ ∀ u, Rl (fup (fop .mul X Y)) u → fq x * fq y ≤ fq u := by
 obtain ⟨rfl, hx1, hx2⟩ := hx
 obtain ⟨rfl, hy1, hy2⟩ := hy
 obtain ⟨o, ho, hown⟩ := mul_own (Fn.q hx2) (Fn.q hy2)
 have e : fop .mul (some x) (some y) = some o := ho
 have hw := wd_fop .mul (some x) (some y)
 rw [e] at hw ⊢
 have hm := mul_W hx2 hy2
 have hlo : -(lowM : Int) ≤ flE x + flE y := by
  have h1 := flE_bd x
  have h2 := flE_bd y
  have := lowM_ge
  omega
 have k1 := fu_nn nx
 have k2 := fu_nn ny
 have hP : (0 : Int) < 2 ^ lowM := Int.pow_pos (by decide)
 have hz := z_nn (show 0 ≤ W (sz (fs x) (flM x) * sz (fs y) (flM y)) (flE x + flE y) by
  rcases Int.lt_or_le (W (sz (fs x) (flM x) * sz (fs y) (flM y)) (flE x + flE y)) 0 with k | k
  ·have k3 := Int.mul_neg_of_neg_of_pos k hP
   have k4 := Int.mul_nonneg k1 k2
   omega
  ·exact k)
 obtain ⟨h1, h2⟩ := up_own hlo hz hown (wd_some hw).1
 refine ⟨h1, fun u hu => ?_⟩
 have k := fq_le (h2 u hu)
 have hm2 := congrArg (fun n : Int => (n : Rat)) hm
 simp only [Rat.intCast_mul] at hm2
 rw [PP_int] at hm2
 have hPP := PP_pos
 have e2 : fq x * fq y = ((W (sz (fs x) (flM x) * sz (fs y) (flM y)) (flE x + flE y) : Int) : Rat) / PP := by
  unfold fq
  rw [Rat.div_def, Rat.div_def, Rat.div_def]
  have hi : PP * PP⁻¹ = 1 := Rat.mul_inv_cancel _ (by grind)
  grind
 rw [e2]; exact k
end Go.Proofs.YtfdnbogbankjjaaGreatDoor

/- What ball reckons up is not below the exact value: products, what a sum loses. In plain Lean. -/
namespace Go.Proofs.YtfdnbogbankjjaaGreatDoor
open Go Go.RowKit Go.PlainAid Fil

theorem mul_inf {b y : Nat} (hb : b = 9218868437227405312) (hy : fr y ≤ 9218868437227405312) (hn : fs y = false ∨ fr y = 0) : (floatBits .mul .f64 b y = some 9218868437227405312 ∨ floatBits .mul .f64 b y = none) ∧ (floatBits .mul .f64 y b = some 9218868437227405312 ∨ floatBits .mul .f64 y b = none) := by
 subst hb
 have e1 : floatBits .mul .f64 9218868437227405312 y = ((Ieee.double.read 9218868437227405312).product (Ieee.double.read y)).map Ieee.double.write := rfl
 have e2 : floatBits .mul .f64 y 9218868437227405312 = ((Ieee.double.read y).product (Ieee.double.read 9218868437227405312)).map Ieee.double.write := rfl
 rw [e1, e2, read_inf (by decide : fr 9218868437227405312 = 9218868437227405312)]
 rcases Nat.lt_or_eq_of_le hy with k | k
 ·obtain ⟨m, p, e, _, _, hmv, _⟩ := read_num k
  rw [e]
  by_cases hm : m = 0
  ·subst hm
   exact ⟨.inr rfl, .inr rfl⟩
  ·have hs : fs y = false := by
    rcases hn with h | h
    ·exact h
    ·exfalso
     rw [h, mv_zero] at hmv
     have := Nat.two_pow_pos (p + 1074).toNat
     rcases Nat.mul_eq_zero.1 hmv.symm with h2 | h2
     ·exact hm h2
     ·omega
   rw [hs]
   constructor <;> left
   ·show Option.map _ (if m = 0 then none else some (Ieee.Datum.infinity _)) = _
    rw [if_neg hm]; rfl
   ·show Option.map _ (if m = 0 then none else some (Ieee.Datum.infinity _)) = _
    rw [if_neg hm]; rfl
 ·have hs : fs y = false := by rcases hn with h | h; exact h; omega
  rw [read_inf k, hs]
  exact ⟨.inl rfl, .inl rfl⟩
theorem up_none_or {X : FV} (h : X = some 9218868437227405312 ∨ X = none) : Nn (fup X) ∧ ∀ u, Rl (fup X) u → False := by
 rcases h with rfl | rfl
 ·exact ⟨nn_upinf, fun u hu => not_rl_inf hu⟩
 ·exact ⟨fun b hb => (by cases hb), fun u hu => (by cases hu.1)⟩
theorem nn_zero : Nn (some 0) := fun b hb => by cases hb; exact .inl (by decide)
theorem fq_zero : fq 0 = 0 := by
 unfold fq fu
 rw [show fr 0 = 0 from rfl, mv_zero, Nat.zero_mul, sz_zero]
 simp [Rat.div_def]
theorem ub_zero {p : Rat} (h : p ≤ 0) : Ub (some 0) p := ⟨⟨0, fl_zero⟩, nn_zero, fun x hx => by
 obtain ⟨h1, _⟩ := hx
 cases h1
 rw [fq_zero]; exact h⟩
/-- times -/
theorem ub_times {X Y : FV} {p q : Rat} (hX : Ub X p) (hY : Ub Y q) (hp : 0 ≤ p) (hq : 0 ≤ q) : Ub (fTimes X Y) (p * q) := by
 simp only [fTimes]
 cases c1 : feq X (some 0)
 ·cases c2 : feq Y (some 0)
  ·show Ub (fup (fop .mul X Y)) (p * q)
   have key : Nn (fup (fop .mul X Y)) ∧ ∀ u, Rl (fup (fop .mul X Y)) u → p * q ≤ fq u := by
    have inf : ∀ {Z : FV}, (Z = some 9218868437227405312 ∨ Z = none) → Nn (fup Z) ∧ ∀ u, Rl (fup Z) u → p * q ≤ fq u := fun h => ⟨(up_none_or h).1, fun u hu => ((up_none_or h).2 u hu).elim⟩
    rcases wd_cases hX.wd with rfl | ⟨x, hx⟩ | ⟨b, rfl, hb, hl⟩
    ·exact inf (.inr rfl)
    ·rcases wd_cases hY.wd with rfl | ⟨y, hy⟩ | ⟨b, rfl, hb, hl⟩
     ·obtain ⟨rfl, _⟩ := hx
      exact inf (.inr rfl)
     ·obtain ⟨h1, h2⟩ := mul_fin hx hy (hX.nn x hx.1) (hY.nn y hy.1)
      refine ⟨h1, fun u hu => Rat.le_trans ?_ (h2 u hu)⟩
      have k1 := Rat.mul_le_mul_of_nonneg_right (hX.ge x hx) hq
      have k2 := Rat.mul_le_mul_of_nonneg_left (hY.ge y hy) (hX.nonneg hx)
      exact Rat.le_trans k1 k2
     ·have hbi := nn_inf hb hl hY.nn
      obtain ⟨rfl, hx1, hx2⟩ := hx
      exact inf (mul_inf hbi (by omega) (hX.nn x rfl)).2
    ·have hbi := nn_inf hb hl hX.nn
     cases Y with
     | none => exact inf (.inr rfl)
     | some y => exact inf (mul_inf hbi (wd_some hY.wd).2 (hY.nn y rfl)).1
   exact ⟨wd_up (wd_fop _ _ _), key.1, key.2⟩
  ·obtain ⟨y, hy, h0⟩ := feq0 hY.wd c2
   have k := hY.ge y hy
   have e : q = 0 := by grind
   rw [e]
   exact ub_zero (by grind)
 ·obtain ⟨x, hx, h0⟩ := feq0 hX.wd c1
  have k := hX.ge x hx
  have e : p = 0 := by grind
  rw [e]
  exact ub_zero (by grind)
/-- a power of two among the floats -/
theorem fq_lit {b E k : Nat} (hs : fs b = false) (hb : fr b = (E + 1) * 4503599627370496) (h : 52 + E + k = 1074) : fq b * (2 ^ k : Rat) = 1 := by
 have hl : 1074 ≤ lowM := by decide
 have hm : mv (fr b) = 2 ^ (52 + E) := by
  rw [hb, mv_big (by omega), show (E + 1) * 4503599627370496 % 4503599627370496 = 0 by omega, show (E + 1) * 4503599627370496 / 4503599627370496 - 1 = E by omega, Nat.pow_add]
 have e1 : mv (fr b) * uN * 2 ^ k = 2 ^ lowM := by
  rw [hm]
  unfold uN
  rw [Nat.mul_right_comm, ← Nat.pow_add, ← Nat.pow_add, show 52 + E + k + (lowM - 1074) = lowM by omega]
 have e2 : fu b = ((mv (fr b) * uN : Nat) : Int) := by unfold fu; rw [hs, sz_f]
 have hPP := PP_pos
 have e3 : ((fu b : Int) : Rat) * (2 ^ k : Rat) = PP := by
  rw [e2]
  unfold PP
  rw [← e1]
  push_cast
  rfl
 unfold fq
 rw [Rat.div_def]
 have hi : PP * PP⁻¹ = 1 := Rat.mul_inv_cancel _ (by grind)
 grind
theorem fq_53 : fq 4368491638549381120 * (2 ^ 53 : Rat) = 1 := fq_lit (E := 969) (by decide) (by decide) (by decide)
theorem fq_51 : fq 4377498837804122112 * (2 ^ 51 : Rat) = 1 := fq_lit (E := 971) (by decide) (by decide) (by decide)
theorem fq_one : fq 4607182418800017408 = 1 := by
 have h := fq_lit (b := 4607182418800017408) (E := 1022) (k := 0) (by decide) (by decide) (by decide)
 grind
/-- the float without its sign -/
theorem abs_real {X : FV} {x : Nat} (h : Rl X x) : Rl (fabs X) (fr x) ∧ Nn (fabs X) ∧ (fq (fr x) = fq x ∨ fq (fr x) = -fq x) := by
 obtain ⟨rfl, h1, h2⟩ := h
 have e1 : fr (fr x) = fr x := by unfold fr; omega
 have e2 : fs (fr x) = false := fs_lt (by unfold fr; omega)
 refine ⟨⟨rfl, by unfold fr; omega, by rw [e1]; exact h2⟩, fun b hb => ?_, ?_⟩
 ·cases hb; exact .inl e2
 ·have k1 : fu (fr x) = ((mv (fr x) * uN : Nat) : Int) := by unfold fu; rw [e1, e2, sz_f]
  cases hs : fs x
  ·left
   have k2 : fu x = ((mv (fr x) * uN : Nat) : Int) := by unfold fu; rw [hs, sz_f]
   unfold fq
   rw [k1, k2]
  ·right
   have k2 : fu x = -((mv (fr x) * uN : Nat) : Int) := by unfold fu; rw [hs, sz_t]
   unfold fq
   rw [k1, k2, Rat.div_def, Rat.div_def, Rat.intCast_neg]
   grind
theorem fq_abs {x : Nat} (h : fq (fr x) = fq x ∨ fq (fr x) = -fq x) (hn : 0 ≤ fq (fr x)) : fq x ≤ fq (fr x) ∧ -fq (fr x) ≤ fq x := by
 rcases h with h | h <;> constructor <;> grind
end Go.Proofs.YtfdnbogbankjjaaGreatDoor
