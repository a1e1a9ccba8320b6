/- Merged: CD CE -/
import Derived.Test.YtfdnbogbankjjaaGreatDoorCC

/- Balls hold what they should: the errors of products. In plain Lean. -/
namespace Go.Proofs.YtfdnbogbankjjaaGreatDoor
open Go Go.RowKit Go.PlainAid Fil

theorem write_inf (s : Bool) : fr (Ieee.double.write (.infinity s)) = 9218868437227405312 := by cases s <;> decide
/-- what is finite is a sum of finite ones -/
theorem fin_add {X Y : FV} {o : Nat} (hX : Wd X) (hY : Wd Y) (h : Rl (fop .add X Y) o) : (∃ x, Rl X x) ∧ ∃ y, Rl Y y := by
 obtain ⟨h1, _, h3⟩ := h
 rcases wd_cases hX with rfl | hx | ⟨b, rfl, hb, hl⟩
 ·cases h1
 ·refine ⟨hx, ?_⟩
  obtain ⟨x, rfl, _, hx2⟩ := hx
  rcases wd_cases hY with rfl | hy | ⟨b, rfl, hb, hl⟩
  ·cases h1
  ·exact hy
  ·exfalso
   obtain ⟨m, p, e, _⟩ := read_num hx2
   have k : ((Ieee.double.read x).sum (Ieee.double.read b)).map Ieee.double.write = some o := h1
   rw [e, read_inf hb] at k
   have k2 := Option.some.inj (show some (Ieee.double.write (.infinity (fs b))) = some o from k)
   rw [← k2, write_inf] at h3
   exact absurd h3 (by decide)
 ·exfalso
  cases Y with
  | none => cases h1
  | some y =>
   have hy := (wd_some hY).2
   have k : ((Ieee.double.read b).sum (Ieee.double.read y)).map Ieee.double.write = some o := h1
   rcases Nat.lt_or_eq_of_le hy with k3 | k3
   ·obtain ⟨m, p, e, _⟩ := read_num k3
    rw [e, read_inf hb] at k
    have k2 := Option.some.inj (show some (Ieee.double.write (.infinity (fs b))) = some o from k)
    rw [← k2, write_inf] at h3
    exact absurd h3 (by decide)
   ·rw [read_inf k3, read_inf hb] at k
    have k2 : (if fs b = fs y then some (Ieee.Datum.infinity (fs b)) else none).map Ieee.double.write = some o := k
    split at k2
    ·have k4 := Option.some.inj k2
     rw [← k4, write_inf] at h3
     exact absurd h3 (by decide)
    ·cases k2
theorem sub_inf_neg {X Y : FV} {o : Nat} (hX : Wd X) (hY : Wd Y) (h : Rl (fop .sub X Y) o) : (∃ x, Rl X x) ∧ ∃ y, Rl Y y := by
 obtain ⟨h1, _, h3⟩ := h
 rcases wd_cases hX with rfl | hx | ⟨b, rfl, hb, hl⟩
 ·cases h1
 ·refine ⟨hx, ?_⟩
  obtain ⟨x, rfl, _, hx2⟩ := hx
  rcases wd_cases hY with rfl | hy | ⟨b, rfl, hb, hl⟩
  ·cases h1
  ·exact hy
  ·exfalso
   obtain ⟨m, p, e, _⟩ := read_num hx2
   have k : ((Ieee.double.read x).sum (Ieee.double.read b).opposite).map Ieee.double.write = some o := h1
   rw [e, read_inf hb] at k
   have k2 := Option.some.inj (show some (Ieee.double.write (.infinity (!fs b))) = some o from k)
   rw [← k2, write_inf] at h3
   exact absurd h3 (by decide)
 ·exfalso
  cases Y with
  | none => cases h1
  | some y =>
   have hy := (wd_some hY).2
   have k : ((Ieee.double.read b).sum (Ieee.double.read y).opposite).map Ieee.double.write = some o := h1
   rcases Nat.lt_or_eq_of_le hy with k3 | k3
   ·obtain ⟨m, p, e, _⟩ := read_num k3
    rw [e, read_inf hb] at k
    have k2 := Option.some.inj (show some (Ieee.double.write (.infinity (fs b))) = some o from k)
    rw [← k2, write_inf] at h3
    exact absurd h3 (by decide)
   ·rw [read_inf k3, read_inf hb] at k
    have k2 : (if fs b = !fs y then some (Ieee.Datum.infinity (fs b)) else none).map Ieee.double.write = some o := k
    split at k2
    ·have k4 := Option.some.inj k2
     rw [← k4, write_inf] at h3
     exact absurd h3 (by decide)
    ·cases k2
theorem fq_nneg (x : Nat) : 0 ≤ fq (fr x) := fq_nn (.inl (fs_lt (by unfold fr; omega)))
theorem fq_unit : fq 1 = (uN : Rat) / PP := by
 have e1 : fu 1 = (uN : Int) := by
  unfold fu
  rw [show fs 1 = false by decide, show fr 1 = 1 by decide, sz_f, show mv 1 = 1 from by decide, Nat.one_mul]
 unfold fq
 rw [e1]
 rfl
theorem fq_16 : fq 16 = 16 * fq 1 := by
 have e1 : fu 16 = ((16 * uN : Nat) : Int) := by
  unfold fu
  rw [show fs 16 = false by decide, show fr 16 = 16 by decide, sz_f, show mv 16 = 16 from by decide]
 rw [fq_unit]
 unfold fq
 rw [e1, Rat.div_def, Rat.div_def]
 push_cast
 grind
/-- how far a rounded sum is -/
theorem add_errq {X Y : FV} {x y o : Nat} (hx : Rl X x) (hy : Rl Y y) (ho : Rl (fop .add X Y) o) :
  (9007199254740992 : Rat) * (fq o - (fq x + fq y)) ≤ fq (fr o) ∧ -fq (fr o) ≤ (9007199254740992 : Rat) * (fq o - (fq x + fq y)) := by
 obtain ⟨k1, _⟩ := add_err hx hy ho
 have d1 : (9007199254740992 : Int) * (fu o - (fu x + fu y)) ≤ fu (fr o) := by rw [fu_abs]; omega
 have d2 : -fu (fr o) ≤ (9007199254740992 : Int) * (fu o - (fu x + fu y)) := by rw [fu_abs]; omega
 have r1 := rat_div_le d1
 have r2 := rat_div_le d2
 have e1 : (((9007199254740992 : Int) * (fu o - (fu x + fu y)) : Int) : Rat) / PP = (9007199254740992 : Rat) * (fq o - (fq x + fq y)) := by
  unfold fq
  push_cast
  rw [Rat.div_def, Rat.div_def, Rat.div_def, Rat.div_def]
  grind
 have e2 : ((-fu (fr o) : Int) : Rat) / PP = -fq (fr o) := by
  unfold fq
  rw [Rat.div_def, Rat.div_def, Rat.intCast_neg]
  grind
 rw [e1] at r1 r2
 rw [e2] at r2
 exact ⟨r1, r2⟩
theorem sub_errq {X Y : FV} {x y o : Nat} (hx : Rl X x) (hy : Rl Y y) (ho : Rl (fop .sub X Y) o) :
  (9007199254740992 : Rat) * (fq o - (fq x - fq y)) ≤ fq (fr o) ∧ -fq (fr o) ≤ (9007199254740992 : Rat) * (fq o - (fq x - fq y)) := by
 obtain ⟨n, hn, en⟩ := neg_real hy
 rw [sub_add hx hy] at ho
 have k := add_errq hx hn ho
 rw [en, ← Rat.sub_eq_add_neg] at k
 exact k
/-- how far a rounded product is -/
theorem mul_errq {X Y : FV} {x y o : Nat} (hx : Rl X x) (hy : Rl Y y) (ho : Rl (fop .mul X Y) o) :
  ((9007199254740992 : Rat) * (fq o - fq x * fq y) ≤ fq (fr o) + 4503599627370496 * fq 1 ∧ -(fq (fr o) + 4503599627370496 * fq 1) ≤ (9007199254740992 : Rat) * (fq o - fq x * fq y)) ∧ (fq x = 0 ∨ fq y = 0 → fq o = 0) := by
 obtain ⟨rfl, hx1, hx2⟩ := hx
 obtain ⟨rfl, hy1, hy2⟩ := hy
 obtain ⟨o', ho', hown⟩ := mul_own (Fn.q hx2) (Fn.q hy2)
 have e : fop .mul (some x) (some y) = some o' := ho'
 rw [e] at ho
 obtain ⟨h1, h2, h3⟩ := ho
 obtain rfl : o' = o := Option.some.inj h1
 have hm := mul_W hx2 hy2
 have hlo : -(lowM : Int) ≤ flE x + flE y := by
  have h1 := flE_bd x
  have h2 := flE_bd y
  have := lowM_ge
  omega
 obtain ⟨w, hw⟩ : ∃ w, w = W (sz (fs x) (flM x) * sz (fs y) (flM y)) (flE x + flE y) := ⟨_, rfl⟩
 rw [← hw] at hm
 have hm2 := congrArg (fun n : Int => (n : Rat)) hm
 simp only [Rat.intCast_mul] at hm2
 rw [PP_int] at hm2
 have hPP := PP_pos
 have hi : PP * PP⁻¹ = 1 := Rat.mul_inv_cancel _ (by grind)
 have e2 : fq x * fq y = (w : Rat) / PP := by
  unfold fq
  rw [Rat.div_def, Rat.div_def, Rat.div_def]
  grind
 have herr := own_err hlo hown h3
 rw [← hw] at herr
 refine ⟨?_, fun h0 => ?_⟩
 ·have hA : (0 : Int) ≤ fu (fr o') := by rw [fu_abs]; omega
  have hab := fu_abs o'
  have hu := uN_pos
  have d1 : (9007199254740992 : Int) * (fu o' - w) ≤ fu (fr o') + 4503599627370496 * (uN : Int) := by
   generalize uN = U at *
   rcases herr with k | k <;> omega
  have d2 : -(fu (fr o') + 4503599627370496 * (uN : Int)) ≤ (9007199254740992 : Int) * (fu o' - w) := by
   generalize uN = U at *
   rcases herr with k | k <;> omega
  have r1 := rat_div_le d1
  have r2 := rat_div_le d2
  have e1 : (((9007199254740992 : Int) * (fu o' - w) : Int) : Rat) / PP = (9007199254740992 : Rat) * (fq o' - fq x * fq y) := by
   rw [e2]
   unfold fq
   push_cast
   rw [Rat.div_def, Rat.div_def, Rat.div_def]
   grind
  have e3 : ((fu (fr o') + 4503599627370496 * (uN : Int) : Int) : Rat) / PP = fq (fr o') + 4503599627370496 * fq 1 := by
   rw [fq_unit]
   unfold fq
   push_cast
   rw [Rat.div_def, Rat.div_def, Rat.div_def]
   grind
  have e4 : ((-(fu (fr o') + 4503599627370496 * (uN : Int)) : Int) : Rat) / PP = -(fq (fr o') + 4503599627370496 * fq 1) := by
   rw [← e3, Rat.div_def, Rat.div_def, Rat.intCast_neg]
   grind
  rw [e1, e3] at r1
  rw [e4, e1] at r2
  exact ⟨r1, r2⟩
 ·have hw0 : fq x * fq y = 0 := by rcases h0 with h | h <;> rw [h] <;> grind
  have hw1 : (w : Rat) = 0 := by
   rw [e2, Rat.div_def] at hw0
   have : (w : Rat) * PP⁻¹ * PP = 0 := by rw [hw0]; grind
   grind
  have hw2 : w = 0 := by
   have h3 : ((w : Int) : Rat) = ((0 : Int) : Rat) := by rw [hw1]; rfl
   exact_mod_cast h3
  have f0 : fu 0 = 0 := by unfold fu; rw [show fr 0 = 0 from rfl, mv_zero, Nat.zero_mul, sz_zero]
  have k := own_exact (y := 0) hlo hown (by decide) (by rw [← hw, hw2, f0])
  rw [← hw, hw2] at k
  unfold fq
  rw [k]
  simp [Rat.div_def]
end Go.Proofs.YtfdnbogbankjjaaGreatDoor

/- The float above a rounded quotient or root is not below the exact one. In plain Lean. -/
namespace Go.Proofs.YtfdnbogbankjjaaGreatDoor
open Go Go.RowKit Go.PlainAid Fil

theorem mv_pow (K : Nat) : ∃ m k, mv K = m * 2 ^ k ∧ m < 9007199254740992 := by
 by_cases h : K < 4503599627370496
 ·exact ⟨K, 0, by rw [mv_small h]; simp, by omega⟩
 ·exact ⟨_, _, mv_big h, by omega⟩
theorem pow_even_aux {x m g K : Nat} (hm : m < 9007199254740992) (hx : 18014398509481984 ≤ x) (h : x * 2 ^ g ≤ m * 2 ^ K) (ho : x % 2 = 1) : (x + 1) * 2 ^ g ≤ m * 2 ^ K := by
 have hK : g + 2 ≤ K := by
  rcases Nat.lt_or_ge K (g + 2) with c | c
  ·exfalso
   have k1 : 2 ^ K ≤ 2 ^ (g + 1) := Nat.pow_le_pow_right (by decide) (by omega)
   have k2 : m * 2 ^ K ≤ m * 2 ^ (g + 1) := Nat.mul_le_mul_left _ k1
   have k3 : m * 2 ^ (g + 1) = 2 * m * 2 ^ g := by rw [Nat.pow_succ, Nat.mul_comm (2 ^ g), ← Nat.mul_assoc, Nat.mul_comm m 2]
   have k4 : x * 2 ^ g ≤ 2 * m * 2 ^ g := by omega
   have k5 := Nat.le_of_mul_le_mul_right k4 (Nat.two_pow_pos g)
   omega
  ·exact c
 obtain ⟨d, rfl⟩ : ∃ d, K = d + 1 + g := ⟨K - g - 1, by omega⟩
 have e : m * 2 ^ (d + 1 + g) = m * 2 ^ d * 2 * 2 ^ g := by rw [Nat.pow_add, Nat.pow_succ, ← Nat.mul_assoc, ← Nat.mul_assoc]
 rw [e] at h ⊢
 have k := Nat.le_of_mul_le_mul_right h (Nat.two_pow_pos g)
 exact Nat.mul_le_mul_right _ (by omega)
theorem mv_even {K x g : Nat} (hx : 18014398509481984 ≤ x) (h : x * 2 ^ g ≤ mv K * uN) (ho : x % 2 = 1) : (x + 1) * 2 ^ g ≤ mv K * uN := by
 obtain ⟨m, k, hm, hlt⟩ := mv_pow K
 have e : mv K * uN = m * 2 ^ (k + (lowM - 1074)) := by rw [hm, Nat.pow_add, ← Nat.mul_assoc]; rfl
 rw [e] at h ⊢
 generalize k + (lowM - 1074) = T at *
 exact pow_even_aux hlt hx h ho
theorem fu_mv {u : Nat} (h : fs u = false ∨ fr u = 0) : fu u = ((mv (fr u) * uN : Nat) : Int) := by
 unfold fu
 rcases h with h | h
 ·rw [h, sz_f]
 ·rw [h, mv_zero, Nat.zero_mul]; cases fs u <;> rfl
theorem up_sticky {o f s : Nat} {e : Int} (he : -(lowM : Int) ≤ e) (hs : s ≤ 1) (hf : 9007199254740992 ≤ f) (h : OwnOf o ((2 * f + s : Nat) : Int) e) (ho : o < 18446744073709551616) :
  Nn (fup (some o)) ∧ ∀ u, Rl (fup (some o)) u → W ((2 * (f + s) : Nat) : Int) e ≤ fu u := by
 obtain ⟨h1, h2⟩ := up_own he (Int.natCast_nonneg _) h ho
 refine ⟨h1, fun u hu => ?_⟩
 have k := h2 u hu
 rw [fu_mv (h1 u hu.1)] at k ⊢
 unfold W at k ⊢
 generalize (e + (lowM : Int)).toNat = g at *
 have k' : (2 * f + s) * 2 ^ g ≤ mv (fr u) * uN := by
  have e1 : ((2 * f + s : Nat) : Int) * 2 ^ g = (((2 * f + s) * 2 ^ g : Nat) : Int) := by push_cast; rfl
  rw [e1] at k
  exact Int.ofNat_le.1 k
 have e1 : ((2 * (f + s) : Nat) : Int) * 2 ^ g = ((2 * (f + s) * 2 ^ g : Nat) : Int) := by push_cast; rfl
 rw [e1]
 refine Int.ofNat_le.2 ?_
 rcases Nat.eq_zero_or_pos s with h0 | h0
 ·subst h0; exact k'
 ·obtain rfl : s = 1 := by omega
  have := mv_even (by omega) k' (by omega)
  rw [show 2 * (f + 1) = 2 * f + 1 + 1 by omega]
  exact this
theorem fu_read {x m : Nat} {p : Int} (h : fs x = false ∨ fr x = 0) (hp : -1074 ≤ p) (hm : mv (fr x) = m * 2 ^ (p + 1074).toNat) : fu x = W (m : Int) p := by
 rw [fu_mv h, hm]
 unfold W uN
 have hl := lowM_ge
 have e : (p + (lowM : Int)).toNat = (p + 1074).toNat + (lowM - 1074) := by omega
 rw [e, Nat.mul_assoc, ← Nat.pow_add]
 push_cast
 rfl
theorem quo_low {m n more f s : Nat} (hn : 0 < n) (hf : f = m * 2 ^ more / n) (hs : s = (m * 2 ^ more % n != 0).toNat) : m * 2 ^ more ≤ n * (f + s) := by
 subst hf hs
 have h1 := Nat.div_add_mod (m * 2 ^ more) n
 have h2 := Nat.mod_lt (m * 2 ^ more) hn
 rw [Nat.mul_add]
 generalize m * 2 ^ more = D at *
 generalize n * (D / n) = q at *
 by_cases c : D % n = 0
 ·rw [c]; simp; omega
 ·have e : (D % n != 0).toNat = 1 := by simp [c]
  rw [e]; omega
theorem quo_big {m n : Nat} (hm : m ≠ 0) (hn : n ≠ 0) : 9007199254740992 ≤ m * 2 ^ (54 + n.log2 - m.log2) / n := by
 rw [Nat.le_div_iff_mul_le (by omega)]
 have h1 : n < 2 ^ (n.log2 + 1) := Nat.lt_log2_self
 have h2 : 2 ^ m.log2 ≤ m := Nat.log2_self_le hm
 have h3 : 2 ^ (54 + n.log2) ≤ m * 2 ^ (54 + n.log2 - m.log2) := by
  refine Nat.le_trans ?_ (Nat.mul_le_mul_right _ h2)
  rw [← Nat.pow_add]
  exact Nat.pow_le_pow_right (by decide) (by omega)
 refine Nat.le_trans ?_ h3
 rw [show 54 + n.log2 = 53 + (n.log2 + 1) by omega, Nat.pow_add]
 exact Nat.mul_le_mul_left _ (Nat.le_of_lt h1)
theorem W_nat (z : Nat) (e : Int) : W (z : Int) e = ((z * 2 ^ (e + lowM).toNat : Nat) : Int) := by unfold W; push_cast; rfl
theorem log2_lt {n : Nat} (h : n < 9007199254740992) : n.log2 ≤ 53 := by
 by_cases h0 : n = 0
 ·subst h0; decide
 ·have h2 : 2 ^ n.log2 ≤ n := Nat.log2_self_le h0
  rcases Nat.lt_or_ge 53 n.log2 with c | c
  ·have k : 2 ^ 54 ≤ 2 ^ n.log2 := Nat.pow_le_pow_right (by decide) c
   omega
  ·exact c
theorem quo_fin {X Y : FV} {x y : Nat} (hx : Rl X x) (hy : Rl Y y) (nx : fs x = false) (ny : fs y = false) (x0 : fr x ≠ 0) (y0 : fr y ≠ 0) :
  Nn (fup (fop .quo X Y)) ∧ ∀ u, Rl (fup (fop .quo X Y)) u → fu x * 2 ^ lowM ≤ fu u * fu y := by
 obtain ⟨rfl, hx1, hx2⟩ := hx
 obtain ⟨rfl, hy1, hy2⟩ := hy
 obtain ⟨m, i, em, hi1, hi2, hm, hml⟩ := read_num hx2
 obtain ⟨n, j, en, hj1, hj2, hn, hnl⟩ := read_num hy2
 have hm0 : m ≠ 0 := fun h => by rw [h, Nat.zero_mul] at hm; exact x0 (by have := mv_lt (show 0 < fr x by omega); rw [mv_zero] at this; omega)
 have hn0 : n ≠ 0 := fun h => by rw [h, Nat.zero_mul] at hn; exact y0 (by have := mv_lt (show 0 < fr y by omega); rw [mv_zero] at this; omega)
 obtain ⟨more, hmore⟩ : ∃ k, k = 54 + n.log2 - m.log2 := ⟨_, rfl⟩
 obtain ⟨f, hf⟩ : ∃ f, f = m * 2 ^ more / n := ⟨_, rfl⟩
 obtain ⟨s, hs⟩ : ∃ s, s = (m * 2 ^ more % n != 0).toNat := ⟨_, rfl⟩
 have e0 : fop .quo (some x) (some y) = some (Ieee.double.write (.number false (2 * f + s) (i - j - more - 1))) := by
  show ((Ieee.double.read x).quotient (Ieee.double.fractionBits + 2) (Ieee.double.read y)).map Ieee.double.write = _
  rw [em, en, nx, ny]
  unfold Ieee.Datum.quotient
  simp only [if_neg hn0]
  rw [show Ieee.double.fractionBits + 2 = 54 from rfl, ← hmore, Nat.shiftLeft_eq, ← hf, ← hs]
  rfl
 have hb : 9007199254740992 ≤ f := by rw [hf, hmore]; exact quo_big hm0 hn0
 have hlm := log2_lt hml
 have hln := log2_lt hnl
 have hl := lowM_ge
 have hs1 : s ≤ 1 := by rw [hs]; cases (m * 2 ^ more % n != 0) <;> decide
 have hlow : -(lowM : Int) ≤ i - j - more - 1 := by omega
 have hown : OwnOf (Ieee.double.write (.number false (2 * f + s) (i - j - more - 1))) ((2 * f + s : Nat) : Int) (i - j - more - 1) := by
  have k := own_write (s := false) (z := ((2 * f + s : Nat) : Int)) (e := i - j - more - 1) (fun _ => by unfold sg; exact (decide_eq_false (by omega)).symm)
  rw [Int.natAbs_natCast] at k
  exact k
 have hw := wd_fop .quo (some x) (some y)
 rw [e0] at hw ⊢
 obtain ⟨h1, h2⟩ := up_sticky hlow hs1 hb hown (wd_some hw).1
 refine ⟨h1, fun u hu => ?_⟩
 have k := h2 u hu
 have kq := quo_low (Nat.pos_of_ne_zero hn0) hf hs
 rw [fu_read (.inl nx) hi1 hm, fu_read (.inl ny) hj1 hn]
 rw [W_nat] at k
 rw [W_nat, W_nat]
 have hfu := fu_mv (h1 u hu.1)
 rw [hfu] at k ⊢
 have k' := Int.ofNat_le.1 k
 have e1 : ((m * 2 ^ (i + (lowM : Int)).toNat : Nat) : Int) * 2 ^ lowM = ((m * 2 ^ (i + (lowM : Int)).toNat * 2 ^ lowM : Nat) : Int) := by push_cast; rfl
 rw [e1, ← Int.natCast_mul]
 refine Int.ofNat_le.2 ?_
 refine Nat.le_trans ?_ (Nat.mul_le_mul_right _ k')
 have e2 : m * 2 ^ (i + (lowM : Int)).toNat * 2 ^ lowM = m * 2 ^ more * 2 ^ ((i - j - more - 1 + (lowM : Int)).toNat + (j + (lowM : Int)).toNat + 1) := by
  rw [Nat.mul_assoc, Nat.mul_assoc, ← Nat.pow_add, ← Nat.pow_add]
  congr 2
  omega
 rw [e2]
 refine Nat.le_trans (Nat.mul_le_mul_right _ kq) ?_
 generalize (i - j - more - 1 + (lowM : Int)).toNat = g
 generalize (j + (lowM : Int)).toNat = h
 rw [Nat.pow_add, Nat.pow_add]
 have e3 : n * (f + s) * (2 ^ g * 2 ^ h * 2 ^ 1) = 2 * (f + s) * 2 ^ g * (n * 2 ^ h) := by
  generalize 2 ^ g = G
  generalize 2 ^ h = H
  rw [show 2 ^ 1 = 2 from rfl]
  generalize f + s = F
  grind
 rw [e3]
 exact Nat.le_refl _
/-- the root found by one digit after the other -/
theorem rootFrom_spec (n : Nat) : ∀ (t r : Nat), r * r ≤ n → n < (r + 2 ^ t) * (r + 2 ^ t) → Ieee.Datum.rootFrom n t r * Ieee.Datum.rootFrom n t r ≤ n ∧ n < (Ieee.Datum.rootFrom n t r + 1) * (Ieee.Datum.rootFrom n t r + 1)
 | 0, r, h1, h2 => ⟨h1, h2⟩
 | t + 1, r, h1, h2 => by
  unfold Ieee.Datum.rootFrom
  have e : (1 : Nat) <<< t = 2 ^ t := by rw [Nat.shiftLeft_eq, Nat.one_mul]
  rw [e]
  by_cases c : (r + 2 ^ t) * (r + 2 ^ t) ≤ n
  ·simp only [if_pos c]
   refine rootFrom_spec n t _ c ?_
   rw [Nat.add_assoc, ← Nat.two_mul, Nat.mul_comm 2, ← Nat.pow_succ]
   exact h2
  ·simp only [if_neg c]
   exact rootFrom_spec n t _ h1 (by omega)
theorem root_spec (n : Nat) : Ieee.Datum.rootFrom n (n.log2 / 2 + 1) 0 * Ieee.Datum.rootFrom n (n.log2 / 2 + 1) 0 ≤ n ∧ n < (Ieee.Datum.rootFrom n (n.log2 / 2 + 1) 0 + 1) * (Ieee.Datum.rootFrom n (n.log2 / 2 + 1) 0 + 1) := by
 refine rootFrom_spec n _ 0 (Nat.zero_le _) ?_
 rw [Nat.zero_add, ← Nat.pow_add]
 exact Nat.lt_of_lt_of_le Nat.lt_log2_self (Nat.pow_le_pow_right (by decide) (by omega))
theorem root_big {n r : Nat} (h : 2 ^ 107 ≤ n) (hr : n < (r + 1) * (r + 1)) : 9007199254740992 ≤ r := by
 rcases Nat.lt_or_ge r 9007199254740992 with c | c
 ·exfalso
  have := Nat.mul_le_mul (show r + 1 ≤ 9007199254740992 by omega) (show r + 1 ≤ 9007199254740992 by omega)
  omega
 ·exact c
theorem sqrt_fin {X : FV} {x : Nat} (hx : Rl X x) (nx : fs x = false) (x0 : fr x ≠ 0) :
  Wd (fsqrt X) ∧ Nn (fup (fsqrt X)) ∧ ∀ u, Rl (fup (fsqrt X)) u → fu x * 2 ^ lowM ≤ fu u * fu u := by
 obtain ⟨rfl, hx1, hx2⟩ := hx
 obtain ⟨m, i, em, hi1, hi2, hm, hml⟩ := read_num hx2
 have hm0 : m ≠ 0 := fun h => by rw [h, Nat.zero_mul] at hm; exact x0 (by have := mv_lt (show 0 < fr x by omega); rw [mv_zero] at this; omega)
 obtain ⟨more, hmore⟩ : ∃ k : Nat, k = 2 * 54 - m.log2 + ((i - (2 * 54 - m.log2 : Nat)) % 2).toNat := ⟨_, rfl⟩
 obtain ⟨n, hn⟩ : ∃ n, n = m * 2 ^ more := ⟨_, rfl⟩
 obtain ⟨f, hf⟩ : ∃ f, f = Ieee.Datum.rootFrom n (n.log2 / 2 + 1) 0 := ⟨_, rfl⟩
 obtain ⟨s, hs⟩ : ∃ s, s = (f * f != n).toNat := ⟨_, rfl⟩
 have e0 : fsqrt (some x) = some (Ieee.double.write (.number false (2 * f + s) ((i - more) / 2 - 1))) := by
  show ((Ieee.double.read x).root (Ieee.double.fractionBits + 2)).map Ieee.double.write = _
  rw [em, nx]
  unfold Ieee.Datum.root
  simp only [if_neg hm0]
  rw [show Ieee.double.fractionBits + 2 = 54 from rfl, ← hmore, Nat.shiftLeft_eq, ← hn, ← hf, ← hs]
  rfl
 have hlm := log2_lt hml
 have hmod := Int.emod_nonneg (i - (2 * 54 - m.log2 : Nat)) (show (2 : Int) ≠ 0 by decide)
 have hmod2 := Int.emod_lt_of_pos (i - (2 * 54 - m.log2 : Nat)) (show (0 : Int) < 2 by decide)
 have heven : (i - more) % 2 = 0 := by omega
 have hl := lowM_ge
 have hlow : -(lowM : Int) ≤ (i - more) / 2 - 1 := by omega
 obtain ⟨r1, r2⟩ := root_spec n
 rw [← hf] at r1 r2
 have hnb : 2 ^ 107 ≤ n := by
  rw [hn]
  have h2 : 2 ^ m.log2 ≤ m := Nat.log2_self_le hm0
  refine Nat.le_trans ?_ (Nat.mul_le_mul_right _ h2)
  rw [← Nat.pow_add]
  exact Nat.pow_le_pow_right (by decide) (by omega)
 have hb := root_big hnb r2
 have hs1 : s ≤ 1 := by rw [hs]; cases (f * f != n) <;> decide
 have hown : OwnOf (Ieee.double.write (.number false (2 * f + s) ((i - more) / 2 - 1))) ((2 * f + s : Nat) : Int) ((i - more) / 2 - 1) := by
  have k := own_write (s := false) (z := ((2 * f + s : Nat) : Int)) (e := (i - more) / 2 - 1) (fun _ => by unfold sg; exact (decide_eq_false (by omega)).symm)
  rw [Int.natAbs_natCast] at k
  exact k
 have hlt : Ieee.double.write (.number false (2 * f + s) ((i - more) / 2 - 1)) < 18446744073709551616 := by
  rcases hown with ⟨hz, ho⟩ | ⟨_, _, ho⟩
  ·rw [ho]
   have R := rung (x := (((2 * f + s : Nat) : Int)).natAbs) (by omega) hlow
   have hr := rgN_le R
   rw [show sg ((2 * f + s : Nat) : Int) = false by unfold sg; exact decide_eq_false (by omega)]
   show rgN _ _ < _
   omega
  ·exact ho
 have hfin : Wd (fsqrt (some x)) := by
  rw [e0]
  obtain ⟨h1, _⟩ := own_up hlow (Int.natCast_nonneg _) hown
  exact ⟨_, fl_some hlt h1⟩
 refine ⟨hfin, ?_⟩
 rw [e0]
 obtain ⟨h1, h2⟩ := up_sticky hlow hs1 hb hown hlt
 refine ⟨h1, fun u hu => ?_⟩
 have k := h2 u hu
 rw [fu_read (.inl nx) hi1 hm]
 rw [W_nat] at k ⊢
 have hfu := fu_mv (h1 u hu.1)
 rw [hfu] at k ⊢
 have k' := Int.ofNat_le.1 k
 have e1 : ((m * 2 ^ (i + (lowM : Int)).toNat : Nat) : Int) * 2 ^ lowM = ((m * 2 ^ (i + (lowM : Int)).toNat * 2 ^ lowM : Nat) : Int) := by push_cast; rfl
 rw [e1, ← Int.natCast_mul]
 refine Int.ofNat_le.2 ?_
 refine Nat.le_trans ?_ (Nat.mul_le_mul k' k')
 have e2 : m * 2 ^ (i + (lowM : Int)).toNat * 2 ^ lowM = n * 2 ^ (((i - more) / 2 - 1 + (lowM : Int)).toNat + ((i - more) / 2 - 1 + (lowM : Int)).toNat + 2) := by
  rw [hn, Nat.mul_assoc, Nat.mul_assoc, ← Nat.pow_add, ← Nat.pow_add]
  congr 2
  omega
 rw [e2]
 have kn : n ≤ (f + s) * (f + s) := by
  by_cases c : f * f = n
  ·have e : s = 0 := by rw [hs, c]; simp
   rw [e, ← c]; exact Nat.le_refl _
  ·have e : s = 1 := by rw [hs]; simp [c]
   rw [e]; omega
 refine Nat.le_trans (Nat.mul_le_mul_right _ kn) ?_
 generalize ((i - more) / 2 - 1 + (lowM : Int)).toNat = g
 rw [Nat.pow_add, Nat.pow_add]
 have e3 : (f + s) * (f + s) * (2 ^ g * 2 ^ g * 2 ^ 2) = 2 * (f + s) * 2 ^ g * (2 * (f + s) * 2 ^ g) := by
  generalize 2 ^ g = G
  rw [show 2 ^ 2 = 4 from rfl]
  generalize f + s = F
  grind
 rw [e3]
 exact Nat.le_refl _
end Go.Proofs.YtfdnbogbankjjaaGreatDoor
