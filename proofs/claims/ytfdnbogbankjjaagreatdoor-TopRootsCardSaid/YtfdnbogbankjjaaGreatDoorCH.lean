/- Merged: CF CG CH -/
import Derived.Test.YtfdnbogbankjjaaGreatDoorCE

/- Hi is not below the size of a number; products of balls hold. In plain Lean. -/
namespace Go.Proofs.YtfdnbogbankjjaaGreatDoor
open Go Go.RowKit Go.PlainAid Fil

theorem ub_fadd {X Y : FV} {p q : Rat} (hX : Ub X p) (hY : Ub Y q) : Ub (fup (fop .add X Y)) (p + q) := by
 have key : Nn (fup (fop .add X Y)) ∧ ∀ u, Rl (fup (fop .add X Y)) u → p + q ≤ fq u := by
  rcases wd_cases hX.wd with rfl | ⟨x, hx⟩ | ⟨b, rfl, hb, hl⟩
  ·exact ⟨fun b hb => (by cases hb), fun u hu => (by cases hu.1)⟩
  ·rcases wd_cases hY.wd with rfl | ⟨y, hy⟩ | ⟨b, rfl, hb, hl⟩
   ·obtain ⟨rfl, _⟩ := hx
    exact ⟨fun b hb => (by cases hb), fun u hu => (by cases hu.1)⟩
   ·obtain ⟨h1, h2⟩ := add_fin hx hy (hX.nn x hx.1) (hY.nn y hy.1)
    refine ⟨h1, fun u hu => ?_⟩
    have k1 := hX.ge x hx
    have k2 := hY.ge y hy
    have k3 := h2 u hu
    grind
   ·have hbi := nn_inf hb hl hY.nn
    obtain ⟨rfl, hx1, hx2⟩ := hx
    have e : fop .add (some x) (some b) = some 9218868437227405312 := (add_inf hbi (by omega) (hX.nn x rfl)).2
    rw [e]
    exact ⟨nn_upinf, fun u hu => (not_rl_inf hu).elim⟩
  ·have hbi := nn_inf hb hl hX.nn
   cases Y with
   | none => exact ⟨fun b hb => (by cases hb), fun u hu => (by cases hu.1)⟩
   | some y =>
    have e : fop .add (some b) (some y) = some 9218868437227405312 := (add_inf hbi (wd_some hY.wd).2 (hY.nn y rfl)).1
    rw [e]
    exact ⟨nn_upinf, fun u hu => (not_rl_inf hu).elim⟩
 exact ⟨wd_up (wd_fop _ _ _), key.1, key.2⟩
theorem ub_fmul {X Y : FV} {p q : Rat} (hX : Ub X p) (hY : Ub Y q) (hq : 0 ≤ q) : Ub (fup (fop .mul X Y)) (p * q) := by
 have key : Nn (fup (fop .mul X Y)) ∧ ∀ u, Rl (fup (fop .mul X Y)) u → p * q ≤ fq u := by
  have inf : ∀ {Z : FV}, (Z = some 9218868437227405312 ∨ Z = none) → Nn (fup Z) ∧ ∀ u, Rl (fup Z) u → p * q ≤ fq u := fun h => ⟨(up_none_or h).1, fun u hu => ((up_none_or h).2 u hu).elim⟩
  rcases wd_cases hX.wd with rfl | ⟨x, hx⟩ | ⟨b, rfl, hb, hl⟩
  ·exact inf (.inr rfl)
  ·rcases wd_cases hY.wd with rfl | ⟨y, hy⟩ | ⟨b, rfl, hb, hl⟩
   ·obtain ⟨rfl, _⟩ := hx
    exact inf (.inr rfl)
   ·obtain ⟨h1, h2⟩ := mul_fin hx hy (hX.nn x hx.1) (hY.nn y hy.1)
    refine ⟨h1, fun u hu => Rat.le_trans ?_ (h2 u hu)⟩
    have k1 := Rat.mul_le_mul_of_nonneg_right (hX.ge x hx) hq
    have k2 := Rat.mul_le_mul_of_nonneg_left (hY.ge y hy) (hX.nonneg hx)
    exact Rat.le_trans k1 k2
   ·have hbi := nn_inf hb hl hY.nn
    obtain ⟨rfl, hx1, hx2⟩ := hx
    exact inf (mul_inf hbi (by omega) (hX.nn x rfl)).2
  ·have hbi := nn_inf hb hl hX.nn
   cases Y with
   | none => exact inf (.inr rfl)
   | some y => exact inf (mul_inf hbi (wd_some hY.wd).2 (hY.nn y rfl)).1
 exact ⟨wd_up (wd_fop _ _ _), key.1, key.2⟩
theorem fq_prodM {a b c M : Int} (hM : (M : Rat) = PP) (h : a * M ≤ b * c) : (a : Rat) / PP ≤ ((b : Rat) / PP) * ((c : Rat) / PP) := by
 have k : ((a * M : Int) : Rat) ≤ ((b * c : Int) : Rat) := Rat.intCast_le_intCast.2 h
 rw [Rat.intCast_mul, Rat.intCast_mul, hM] at k
 have hPP := PP_pos
 have hi : PP * PP⁻¹ = 1 := Rat.mul_inv_cancel _ (by grind)
 have hinv : 0 ≤ PP⁻¹ * PP⁻¹ := Rat.mul_nonneg (Rat.le_of_lt (Rat.inv_pos.2 hPP)) (Rat.le_of_lt (Rat.inv_pos.2 hPP))
 have k2 := Rat.mul_le_mul_of_nonneg_right k hinv
 rw [Rat.div_def, Rat.div_def, Rat.div_def]
 have e1 : (a : Rat) * PP * (PP⁻¹ * PP⁻¹) = (a : Rat) * PP⁻¹ := by grind
 have e2 : (b : Rat) * (c : Rat) * (PP⁻¹ * PP⁻¹) = (b : Rat) * PP⁻¹ * ((c : Rat) * PP⁻¹) := by grind
 rw [e1, e2] at k2
 exact k2
theorem fq_prod {a b c : Int} (h : a * 2 ^ lowM ≤ b * c) : (a : Rat) / PP ≤ ((b : Rat) / PP) * ((c : Rat) / PP) := fq_prodM PP_int h
theorem fq_pos {x : Nat} (h : fs x = false) (h0 : fr x ≠ 0) : 0 < fq x := by
 have k : (0 : Int) < fu x := by
  rw [fu_mv (.inl h)]
  have h1 := mvu_lt (show 0 < fr x by omega)
  rw [mv_zero, Nat.zero_mul] at h1
  exact_mod_cast h1
 unfold fq
 rw [Rat.div_def]
 exact Rat.mul_pos (by exact_mod_cast k) (Rat.inv_pos.2 PP_pos)
theorem ub_none (p : Rat) : Ub none p := ⟨⟨nanB 0, nanB_fl 0⟩, fun _ h => (by cases h), fun _ h => (by cases h.1)⟩
theorem ub_sqrt {X : FV} {p : Rat} (hX : Ub X p) (hp : 0 < p) : ∃ s, 0 ≤ s ∧ p ≤ s * s ∧ Ub (fup (fsqrt X)) s := by
 have any : 0 ≤ 1 + p ∧ p ≤ (1 + p) * (1 + p) := by
  refine ⟨by grind, ?_⟩
  have := rsq_nn p
  grind
 rcases wd_cases hX.wd with rfl | ⟨x, hx⟩ | ⟨b, rfl, hb, hl⟩
 ·exact ⟨1 + p, any.1, any.2, ub_none _⟩
 ·have hge := hX.ge x hx
  have hn := hX.nn x hx.1
  have h0 : fr x ≠ 0 := fun h => by
   have e : fu x = 0 := by unfold fu; rw [h, mv_zero, Nat.zero_mul]; cases fs x <;> rfl
   have e2 : fq x = 0 := by unfold fq; rw [e]; simp [Rat.div_def]
   grind
  have hs : fs x = false := by rcases hn with h | h; exact h; exact absurd h h0
  obtain ⟨h1, h2, h3⟩ := sqrt_fin hx hs h0
  rcases Classical.em (∃ u, Rl (fup (fsqrt X)) u) with ⟨u, hu⟩ | hno
  ·refine ⟨fq u, fq_nn (h2 u hu.1), Rat.le_trans hge (fq_prod (h3 u hu)), wd_up h1, h2, fun v hv => ?_⟩
   have e := hu.1.symm.trans hv.1
   rw [Option.some.inj e]
   exact Rat.le_refl
  ·exact ⟨1 + p, any.1, any.2, wd_up h1, h2, fun v hv => (hno ⟨v, hv⟩).elim⟩
 ·have hbi := nn_inf hb hl hX.nn
  subst hbi
  have e : fsqrt (some 9218868437227405312) = some 9218868437227405312 := by
   show (Ieee.double.sqrt 9218868437227405312) = _
   unfold Ieee.Format.sqrt
   rw [read_inf (by decide)]
   rfl
  obtain ⟨h1, h2⟩ := up_none_or (.inl e)
  refine ⟨1 + p, any.1, any.2, wd_up ?_, h1, fun v hv => (h2 v hv).elim⟩
  rw [e]; exact wd_inf
theorem ub_real {x : Nat} (h : Rl (some x) x) (hs : fs x = false) : Ub (some x) (fq x) := ⟨h.fl.wd, fun b hb => (by cases hb; exact .inl hs), fun z hz => (by cases hz.1; exact Rat.le_refl)⟩
theorem reach_ub {P Q : Nat} (hP : Rl (some P) P) (hQ : Rl (some Q) Q) (sP : fs P = false) (sQ : fs Q = false) (P0 : fr P ≠ 0) (Q0 : fr Q ≠ 0) :
  ∃ T s, 0 ≤ s ∧ fq Q ≤ T * fq P ∧ 1 + T * T ≤ s * s ∧ Ub (cReach (some P) (some Q)) (fq P * s) := by
 have hp := fq_pos sP P0
 have hq := fq_pos sQ Q0
 obtain ⟨T, hT⟩ : ∃ T, T = fq Q / fq P := ⟨_, rfl⟩
 have hTP : T * fq P = fq Q := by
  rw [hT, Rat.div_def]
  have := Rat.inv_mul_cancel (fq P) (by grind)
  grind
 have hT0 : 0 ≤ T := by rw [hT, Rat.div_def]; exact Rat.mul_nonneg (Rat.le_of_lt hq) (Rat.le_of_lt (Rat.inv_pos.2 hp))
 obtain ⟨d1, d2⟩ := quo_fin hQ hP sQ sP Q0 P0
 have u2 : Ub (fup (fop .quo (some Q) (some P))) T := ⟨wd_up (wd_fop _ _ _), d1, fun u hu => by
  have k := fq_prod (d2 u hu)
  have k1 : fq Q ≤ fq u * fq P := k
  rw [← hTP] at k1
  exact Rat.le_of_mul_le_mul_right k1 hp⟩
 have u4 := ub_fmul u2 u2 hT0
 have one : Ub (some 4607182418800017408) 1 := by
  have k := ub_real (x := 4607182418800017408) ⟨rfl, by decide, by decide⟩ (by decide)
  rw [fq_one] at k; exact k
 have u6 := ub_fadd one u4
 have hTT := rsq_nn T
 obtain ⟨s, s0, s1, s2⟩ := ub_sqrt u6 (by grind)
 have u10 := ub_fmul (ub_real hP sP) s2 s0
 exact ⟨T, s, s0, by rw [hTP]; exact Rat.le_refl, s1, u10⟩
theorem flt_lt {a b : Nat} (ha : Rl (some a) a) (hb : Rl (some b) b) (sa : fs a = false) (sb : fs b = false) : flt (some a) (some b) = decide (fr a < fr b) := by
 show (Ieee.double.order a b == some .lt) = _
 rw [order_some (by have := ha.2.2; omega) (by have := hb.2.2; omega)]
 have e1 : fk a = (fr a : Int) := by unfold fk; rw [sa]; rfl
 have e2 : fk b = (fr b : Int) := by unfold fk; rw [sb]; rfl
 rw [e1, e2]
 by_cases h : fr a < fr b
 ·rw [cmp_lt (by omega), decide_eq_true h]; rfl
 ·rw [decide_eq_false h]
  rcases Nat.lt_or_eq_of_le (show fr b ≤ fr a by omega) with k | k
  ·have e : compare (fr a : Int) (fr b : Int) = .gt := Int.compare_eq_gt.2 (by omega)
   rw [e]; rfl
  ·have e : compare (fr a : Int) (fr b : Int) = .eq := Int.compare_eq_eq.2 (by omega)
   rw [e]; rfl
theorem feq_zero_iff {a : Nat} (ha : Rl (some a) a) (h : feq (some a) (some 0) = false) : fr a ≠ 0 := fun h0 => by
 have e : feq (some a) (some 0) = true := by
  show (Ieee.double.order a 0 == some .eq) = true
  rw [order_some (by have := ha.2.2; omega) (by decide)]
  have e1 : fk a = 0 := by unfold fk; rw [h0]; cases fs a <;> rfl
  rw [e1]; decide
 rw [e] at h; exact absurd h (by decide)
/-- Hi -/
theorem hi_ub {Z : CV} {x y : Nat} (hx : Rl Z.1 x) (hy : Rl Z.2 y) : ∃ p, 0 ≤ p ∧ Nb ⟨fq x, fq y⟩ p ∧ Ub (cHi Z) p := by
 have hf : cFin (Z.1, Z.2) = true := real_cfin hx hy
 obtain ⟨ax, nx, ex⟩ := abs_real hx
 obtain ⟨ay, ny, ey⟩ := abs_real hy
 have ex0 := ax.1
 have ey0 := ay.1
 rw [ex0] at ax
 rw [ey0] at ay
 obtain ⟨A, hA⟩ : ∃ A, A = fr x := ⟨_, rfl⟩
 obtain ⟨B, hB⟩ : ∃ B, B = fr y := ⟨_, rfl⟩
 rw [← hA] at ax ex ex0
 rw [← hB] at ay ey ey0
 have sA : fs A = false := by rw [hA]; exact fs_lt (by unfold fr; omega)
 have sB : fs B = false := by rw [hB]; exact fs_lt (by unfold fr; omega)
 have qx : fq x * fq x = fq A * fq A := by rcases ex with h | h <;> rw [h] <;> grind
 have qy : fq y * fq y = fq B * fq B := by rcases ey with h | h <;> rw [h] <;> grind
 have main : ∀ P Q : Nat, Rl (some P) P → Rl (some Q) Q → fs P = false → fs Q = false → fr Q ≤ fr P → ((fq x * fq x = fq P * fq P ∧ fq y * fq y = fq Q * fq Q) ∨ (fq x * fq x = fq Q * fq Q ∧ fq y * fq y = fq P * fq P)) → ∃ p, 0 ≤ p ∧ Nb ⟨fq x, fq y⟩ p ∧ Ub (bif feq (some Q) (some 0) then some P else cReach (some P) (some Q)) p := by
  intro P Q hP hQ sP sQ hle hxy
  cases c : feq (some Q) (some 0)
  ·have q0 := feq_zero_iff hQ c
   have p0 : fr P ≠ 0 := by omega
   obtain ⟨T, s, s0, h1, h2, h3⟩ := reach_ub hP hQ sP sQ p0 q0
   have hp := fq_pos sP p0
   have hq := fq_pos sQ q0
   exact ⟨fq P * s, Rat.mul_nonneg (Rat.le_of_lt hp) s0, nb_hi hp (Rat.le_of_lt hq) hxy h1 s0 h2 Rat.le_refl, h3⟩
  ·obtain ⟨q, hq, hq0⟩ := feq0 hQ.fl.wd c
   cases hq.1
   refine ⟨fq P, fq_nn (.inl sP), ⟨fq_nn (.inl sP), ?_⟩, ub_real hP sP⟩
   show fq x * fq x + fq y * fq y ≤ fq P * fq P
   rw [hq0] at hxy
   rcases hxy with ⟨h1, h2⟩ | ⟨h1, h2⟩ <;> rw [h1, h2] <;> grind
 simp only [cHi, cSizes]
 rw [hf, ex0, ey0, flt_lt ax ay sA sB]
 by_cases h : fr A < fr B
 ·rw [decide_eq_true h]
  exact main B A ay ax sB sA (by omega) (.inr ⟨qx, qy⟩)
 ·rw [decide_eq_false h]
  exact main A B ax ay sA sB (by omega) (.inl ⟨qx, qy⟩)
end Go.Proofs.YtfdnbogbankjjaaGreatDoor

/- Products of balls hold; what Contracts says. In plain Lean. -/
namespace Go.Proofs.YtfdnbogbankjjaaGreatDoor
open Go Go.RowKit Go.PlainAid Fil

theorem err_core {P Q p q R AP AQ AR o : Rat} (a1 : AP = P ∨ AP = -P) (a2 : AQ = Q ∨ AQ = -Q) (a3 : AR = R ∨ AR = -R) (n1 : 0 ≤ AP) (n2 : 0 ≤ AQ)
  (h1 : (9007199254740992 : Rat) * (P - p) ≤ AP + 4503599627370496 * o) (h2 : -(AP + 4503599627370496 * o) ≤ (9007199254740992 : Rat) * (P - p))
  (h3 : (9007199254740992 : Rat) * (Q - q) ≤ AQ + 4503599627370496 * o) (h4 : -(AQ + 4503599627370496 * o) ≤ (9007199254740992 : Rat) * (Q - q))
  (h5 : (9007199254740992 : Rat) * (R - (P + Q)) ≤ AR) (h6 : -AR ≤ (9007199254740992 : Rat) * (R - (P + Q))) :
  (9007199254740992 : Rat) * (R - (p + q)) ≤ 3 * (AP + AQ) + 9007199254740992 * o ∧ -(3 * (AP + AQ) + 9007199254740992 * o) ≤ (9007199254740992 : Rat) * (R - (p + q)) := by
 have b1 : P ≤ AP ∧ -AP ≤ P := by rcases a1 with h | h <;> constructor <;> grind
 have b2 : Q ≤ AQ ∧ -AQ ≤ Q := by rcases a2 with h | h <;> constructor <;> grind
 have hR : AR ≤ 2 * (AP + AQ) := by rcases a3 with h | h <;> grind
 constructor <;> grind
/-- an absolute value, as a bound -/
theorem ub_abs {X : FV} {x : Nat} (h : Rl X x) : Ub (fabs X) (fq (fr x)) := by
 obtain ⟨a, b, _⟩ := abs_real h
 exact ⟨a.fl.wd, b, fun z hz => by
  have e := a.1.symm.trans hz.1
  rw [Option.some.inj e]; exact Rat.le_refl⟩
theorem zero_small {R A : Rat} (a : A = R ∨ A = -R) (h1 : (9007199254740992 : Rat) * R ≤ A) (h2 : -A ≤ (9007199254740992 : Rat) * R) : R = 0 := by rcases a with h | h <;> grind
/-- what a product's centre loses -/
theorem spoilt_ok {Z V : CV} {x0 y0 x1 y1 x y : Nat} (hx0 : Rl Z.1 x0) (hy0 : Rl Z.2 y0) (hx1 : Rl V.1 x1) (hy1 : Rl V.2 y1) (hx : Rl (cMul Z V).1 x) (hy : Rl (cMul Z V).2 y) :
  ∃ e, 0 ≤ e ∧ Ub (fSpoilt Z V) e ∧ Nb ((⟨fq x, fq y⟩ : CQ) - ⟨fq x0, fq y0⟩ * ⟨fq x1, fq y1⟩) e := by
 have hx' : Rl (fop .sub (fop .mul Z.1 V.1) (fop .mul Z.2 V.2)) x := hx
 have hy' : Rl (fop .add (fop .mul Z.1 V.2) (fop .mul Z.2 V.1)) y := hy
 obtain ⟨⟨a, ha⟩, b, hb⟩ := sub_inf_neg (wd_fop _ _ _) (wd_fop _ _ _) hx'
 obtain ⟨⟨c, hc⟩, d, hd⟩ := fin_add (wd_fop _ _ _) (wd_fop _ _ _) hy'
 obtain ⟨⟨ma1, ma2⟩, ma0⟩ := mul_errq hx0 hx1 ha
 obtain ⟨⟨mb1, mb2⟩, mb0⟩ := mul_errq hy0 hy1 hb
 obtain ⟨⟨mc1, mc2⟩, mc0⟩ := mul_errq hx0 hy1 hc
 obtain ⟨⟨md1, md2⟩, md0⟩ := mul_errq hy0 hx1 hd
 obtain ⟨s1, s2⟩ := sub_errq ha hb hx'
 obtain ⟨t1, t2⟩ := add_errq hc hd hy'
 have aa := (abs_real ha).2.2
 have ab := (abs_real hb).2.2
 have ac := (abs_real hc).2.2
 have ad := (abs_real hd).2.2
 have ax := (abs_real hx').2.2
 have ay := (abs_real hy').2.2
 have na := fq_nneg a
 have nb := fq_nneg b
 have nc := fq_nneg c
 have nd := fq_nneg d
 have nx := fq_nneg x
 have ny := fq_nneg y
 have no : 0 ≤ fq 1 := fq_nn (.inl (by decide))
 have e0 : (⟨fq x, fq y⟩ : CQ) - (⟨fq x0, fq y0⟩ : CQ) * ⟨fq x1, fq y1⟩ = ⟨fq x - (fq x0 * fq x1 - fq y0 * fq y1), fq y - (fq x0 * fq y1 + fq y0 * fq x1)⟩ := rfl
 rw [e0]
 have zero : (fq x0 = 0 ∧ fq y0 = 0) ∨ (fq x1 = 0 ∧ fq y1 = 0) → ∃ e, 0 ≤ e ∧ Ub (some 0) e ∧ Nb ⟨fq x - (fq x0 * fq x1 - fq y0 * fq y1), fq y - (fq x0 * fq y1 + fq y0 * fq x1)⟩ e := fun h => by
  have za : fq a = 0 := ma0 (by rcases h with h | h; exact .inl h.1; exact .inr h.1)
  have zb : fq b = 0 := mb0 (by rcases h with h | h; exact .inl h.2; exact .inr h.2)
  have zc : fq c = 0 := mc0 (by rcases h with h | h; exact .inl h.1; exact .inr h.2)
  have zd : fq d = 0 := md0 (by rcases h with h | h; exact .inl h.2; exact .inr h.1)
  rw [za, zb] at s1 s2
  rw [zc, zd] at t1 t2
  have zx : fq x = 0 := zero_small ax (by grind) (by grind)
  have zy : fq y = 0 := zero_small ay (by grind) (by grind)
  refine ⟨0, Rat.le_refl, ub_zero Rat.le_refl, ?_⟩
  have e1 : fq x - (fq x0 * fq x1 - fq y0 * fq y1) = 0 := by
   rw [zx]
   rcases h with ⟨h1, h2⟩ | ⟨h1, h2⟩ <;> rw [h1, h2] <;> grind
  have e2 : fq y - (fq x0 * fq y1 + fq y0 * fq x1) = 0 := by
   rw [zy]
   rcases h with ⟨h1, h2⟩ | ⟨h1, h2⟩ <;> rw [h1, h2] <;> grind
  rw [e1, e2]
  exact nb_zero 0 Rat.le_refl
 have both : ∀ {X Y : FV} {u v : Nat}, Rl X u → Rl Y v → (feq X (some 0) && feq Y (some 0)) = true → fq u = 0 ∧ fq v = 0 := fun {X Y u v} hu hv h => by
  have h1 := Bool.and_eq_true_iff.1 h
  obtain ⟨u', hu', e1⟩ := feq0 hu.fl.wd h1.1
  obtain ⟨v', hv', e2⟩ := feq0 hv.fl.wd h1.2
  obtain rfl := Option.some.inj (hu.1.symm.trans hu'.1)
  obtain rfl := Option.some.inj (hv.1.symm.trans hv'.1)
  exact ⟨e1, e2⟩
 simp only [fSpoilt]
 cases c1 : (feq Z.1 (some 0) && feq Z.2 (some 0))
 ·cases c2 : (feq V.1 (some 0) && feq V.2 (some 0))
  ·show ∃ e, 0 ≤ e ∧ Ub (fPlus (fup (fop .mul (fPlus (fPlus (fabs (fop .mul Z.1 V.1)) (fabs (fop .mul Z.2 V.2))) (fPlus (fabs (fop .mul Z.1 V.2)) (fabs (fop .mul Z.2 V.1)))) (some 4377498837804122112))) (some 16)) e ∧ _
   have uS := ub_plus (ub_plus (ub_abs ha) (ub_abs hb)) (ub_plus (ub_abs hc) (ub_abs hd))
   have hl0 : 0 ≤ fq 4377498837804122112 := fq_nn (.inl (by decide))
   have u51 := ub_real (x := 4377498837804122112) ⟨rfl, by decide, by decide⟩ (by decide)
   have u16 := ub_real (x := 16) ⟨rfl, by decide, by decide⟩ (by decide)
   have uE := ub_plus (ub_fmul uS u51 hl0) u16
   have h51 : fq 4377498837804122112 * (2251799813685248 : Rat) = 1 := by
    have e : (2 ^ 51 : Rat) = 2251799813685248 := by decide +kernel
    rw [← e]; exact fq_51
   rw [fq_16] at uE
   generalize fq 4377498837804122112 = l at *
   have r1 : (9007199254740992 : Rat) * (fq x - (fq x0 * fq x1 + -(fq y0 * fq y1))) ≤ 3 * (fq (fr a) + fq (fr b)) + 9007199254740992 * fq 1 ∧ -(3 * (fq (fr a) + fq (fr b)) + 9007199254740992 * fq 1) ≤ (9007199254740992 : Rat) * (fq x - (fq x0 * fq x1 + -(fq y0 * fq y1))) := by
    refine err_core (P := fq a) (Q := -fq b) aa ?_ ax na nb ma1 ma2 ?_ ?_ ?_ ?_
    ·rcases ab with h | h <;> grind
    ·grind
    ·grind
    ·rw [← Rat.sub_eq_add_neg]; exact s1
    ·rw [← Rat.sub_eq_add_neg]; exact s2
   have r2 := err_core ac ad ay nc nd mc1 mc2 md1 md2 t1 t2
   rw [← Rat.sub_eq_add_neg] at r1
   generalize fq x - (fq x0 * fq x1 - fq y0 * fq y1) = D at *
   generalize fq y - (fq x0 * fq y1 + fq y0 * fq x1) = E at *
   generalize fq (fr a) = A at *
   generalize fq (fr b) = B at *
   generalize fq (fr c) = C at *
   generalize fq (fr d) = F at *
   generalize fq 1 = o at *
   -- D bounded by k1, E by k2
   obtain ⟨k1, hk1⟩ : ∃ k, k * (9007199254740992 : Rat) = 3 * (A + B) + 9007199254740992 * o := ⟨(3 * (A + B) + 9007199254740992 * o) / 9007199254740992, by grind⟩
   obtain ⟨k2, hk2⟩ : ∃ k, k * (9007199254740992 : Rat) = 3 * (C + F) + 9007199254740992 * o := ⟨(3 * (C + F) + 9007199254740992 * o) / 9007199254740992, by grind⟩
   have hlA : l * (A + B + (C + F)) * 2251799813685248 = A + B + (C + F) := by grind
   refine ⟨_, ?_, uE, nb_mono (nb_parts (u := ⟨D, E⟩) (a := k1) (b := k2) ?_ ?_ ?_ ?_ ?_ ?_) ?_⟩
   ·have := Rat.mul_nonneg (show 0 ≤ A + B + (C + F) by grind) hl0
    grind
   ·grind
   ·grind
   ·show D ≤ k1
    grind
   ·show -k1 ≤ D
    grind
   ·show E ≤ k2
    grind
   ·show -k2 ≤ E
    grind
   ·rw [Rat.mul_comm (A + B + (C + F)) l]
    generalize l * (A + B + (C + F)) = M at *
    grind
  ·exact zero (.inr (both hx1 hy1 c2))
 ·exact zero (.inl (both hx0 hy0 c1))
end Go.Proofs.YtfdnbogbankjjaaGreatDoor

/- Products of balls hold; what Contracts says. In plain Lean. -/
namespace Go.Proofs.YtfdnbogbankjjaaGreatDoor
open Go Go.RowKit Go.PlainAid Fil

theorem wd_spoilt (Z V : CV) : Wd (fSpoilt Z V) := by
 simp only [fSpoilt]
 cases (feq Z.1 (some 0) && feq Z.2 (some 0))
 ·cases (feq V.1 (some 0) && feq V.2 (some 0))
  ·exact wd_plus (wd_up (wd_fop _ _ _)) (lit_real (b := 16) (by decide) (by decide)).fl.wd
  ·exact wd_0
 ·exact wd_0
theorem mul_hold {a b : BV} {u v : CQ} (ha : Hold a u) (hb : Hold b v) : Hold (bMul a b) (u * v) ∧ WdB (bMul a b) := by
 simp only [bMul]
 rcases ha with ha | ⟨x0, y0, r0, ga, ia⟩
 ·rw [show bIsWhole ((a.1.1, a.1.2), a.2) = true from ha]
  exact ⟨hold_whole _, wdb_whole⟩
 ·rw [show bIsWhole ((a.1.1, a.1.2), a.2) = false from ga.not]
  rcases hb with hb | ⟨x1, y1, r1, gb, ib⟩
  ·rw [show bIsWhole ((b.1.1, b.1.2), b.2) = true from hb]
   exact ⟨hold_whole _, wdb_whole⟩
  ·rw [show bIsWhole ((b.1.1, b.1.2), b.2) = false from gb.not]
   obtain ⟨p, p0, np, up⟩ := hi_ub (Z := (a.1.1, a.1.2)) ga.x ga.y
   obtain ⟨q, q0, nq, uq⟩ := hi_ub (Z := (b.1.1, b.1.2)) gb.x gb.y
   have hr0 : 0 ≤ fq r0 := ga.ub.nonneg ga.r
   have hr1 : 0 ≤ fq r1 := gb.ub.nonneg gb.r
   refine told_hold (Z := ((cMul (a.1.1, a.1.2) (b.1.1, b.1.2)).1, (cMul (a.1.1, a.1.2) (b.1.1, b.1.2)).2)) (wd_fop _ _ _) (wd_fop _ _ _) ?_ ?_
   ·refine wd_plus (wd_plus (wd_times _ _) (wd_times _ _)) (wd_plus (wd_times _ _) (wd_spoilt _ _))
   ·intro x y r hx hy hr
    obtain ⟨e, e0, ue, ne⟩ := spoilt_ok (Z := (a.1.1, a.1.2)) (V := (b.1.1, b.1.2)) ga.x ga.y gb.x gb.y hx hy
    have hU := ub_plus (ub_plus (ub_times up gb.ub p0 hr1) (ub_times uq ga.ub q0 hr0)) (ub_plus (ub_times ga.ub gb.ub hr0 hr1) ue)
    have hR := hU.ge r hr
    refine inr_mul ia ib np nq ne ?_
    grind
theorem fk_nn {c : Nat} (h : fs c = false ∨ fr c = 0) : fk c = (fr c : Int) := by
 unfold fk
 rcases h with h | h
 ·rw [h]; rfl
 ·rw [h]; cases fs c <;> rfl
theorem fq_mono {a b : Nat} (ha : fs a = false ∨ fr a = 0) (hb : fs b = false ∨ fr b = 0) (h : fr a ≤ fr b) : fq a ≤ fq b := by
 have k : fu a ≤ fu b := by
  rw [fu_mv ha, fu_mv hb]
  exact Int.ofNat_le.2 (mvu_le h)
 exact fq_le (v := fu a) k
theorem fq_lt {a b : Nat} (ha : fs a = false ∨ fr a = 0) (hb : fs b = false ∨ fr b = 0) (h : fr a < fr b) : fq a < fq b := by
 have k : fu a < fu b := by
  rw [fu_mv ha, fu_mv hb]
  exact Int.ofNat_lt.2 (mvu_lt h)
 unfold fq
 rw [Rat.div_def, Rat.div_def]
 exact Rat.mul_lt_mul_of_pos_right (Rat.intCast_lt_intCast.2 k) (Rat.inv_pos.2 PP_pos)
/-- neither NaN nor below 0 -/
structure Ok (X : FV) : Prop where
 wd : Wd X
 nn : Nn X
 ne : X ≠ none
theorem ok_cases {X : FV} (h : Ok X) : (∃ x, Rl X x ∧ (fs x = false ∨ fr x = 0)) ∨ X = some 9218868437227405312 := by
 rcases wd_cases h.wd with k | ⟨x, hx⟩ | ⟨b, rfl, hb, hl⟩
 ·exact absurd k h.ne
 ·exact .inl ⟨x, hx, h.nn x hx.1⟩
 ·exact .inr (congrArg some (nn_inf hb hl h.nn))
theorem ok_inf : Ok (some 9218868437227405312) := ⟨wd_inf, fun b hb => (by cases hb; left; decide), by decide⟩
theorem ok_real {X : FV} {x : Nat} (h : Rl X x) (hs : fs x = false ∨ fr x = 0) : Ok X := ⟨h.fl.wd, fun b hb => (by have e := h.1.symm.trans hb; rw [← Option.some.inj e]; exact hs), by rw [h.1]; exact nofun⟩
theorem up_ne {X : FV} (h : X ≠ none) : fup X ≠ none := by
 cases X with
 | none => exact absurd rfl h
 | some a => exact nofun
theorem add_ne {X Y : FV} (hX : Ok X) (hY : Ok Y) : fop .add X Y ≠ none := by
 rcases ok_cases hX with ⟨x, hx, sx⟩ | rfl
 ·rcases ok_cases hY with ⟨y, hy, sy⟩ | rfl
  ·obtain ⟨rfl, _, hx2⟩ := hx
   obtain ⟨rfl, _, hy2⟩ := hy
   obtain ⟨o, ho, _⟩ := add_own (Fn.q hx2) (Fn.q hy2)
   have e : fop .add (some x) (some y) = some o := ho
   rw [e]; exact nofun
  ·obtain ⟨rfl, _, hx2⟩ := hx
   have e : fop .add (some x) (some 9218868437227405312) = some 9218868437227405312 := (add_inf rfl (by omega) sx).2
   rw [e]; exact nofun
 ·cases Y with
  | none => exact absurd rfl hY.ne
  | some y =>
   have e : fop .add (some 9218868437227405312) (some y) = some 9218868437227405312 := (add_inf rfl (wd_some hY.wd).2 (hY.nn y rfl)).1
   rw [e]; exact nofun
theorem mul_real_ne {X Y : FV} {x y : Nat} (hx : Rl X x) (hy : Rl Y y) : fop .mul X Y ≠ none := by
 obtain ⟨rfl, _, hx2⟩ := hx
 obtain ⟨rfl, _, hy2⟩ := hy
 obtain ⟨o, ho, _⟩ := mul_own (Fn.q hx2) (Fn.q hy2)
 have e : fop .mul (some x) (some y) = some o := ho
 rw [e]; exact nofun
theorem inf_mul_ne {y : Nat} (hy : fr y ≤ 9218868437227405312) (h0 : fr y ≠ 0) : fop .mul (some 9218868437227405312) (some y) ≠ none ∧ fop .mul (some y) (some 9218868437227405312) ≠ none := by
 have e1 : fop .mul (some 9218868437227405312) (some y) = ((Ieee.double.read 9218868437227405312).product (Ieee.double.read y)).map Ieee.double.write := rfl
 have e2 : fop .mul (some y) (some 9218868437227405312) = ((Ieee.double.read y).product (Ieee.double.read 9218868437227405312)).map Ieee.double.write := rfl
 rw [e1, e2, read_inf (by decide : fr 9218868437227405312 = 9218868437227405312)]
 rcases Nat.lt_or_eq_of_le hy with k | k
 ·obtain ⟨m, p, e, _, _, hm, _⟩ := read_num k
  have hm0 : m ≠ 0 := fun h => by rw [h, Nat.zero_mul] at hm; exact h0 (by have := mv_lt (show 0 < fr y by omega); rw [mv_zero] at this; omega)
  rw [e]
  constructor
  ·show Option.map _ (if m = 0 then none else some (Ieee.Datum.infinity _)) ≠ none
   rw [if_neg hm0]; exact nofun
  ·show Option.map _ (if m = 0 then none else some (Ieee.Datum.infinity _)) ≠ none
   rw [if_neg hm0]; exact nofun
 ·rw [read_inf k]
  exact ⟨nofun, nofun⟩
theorem ok_plus {X Y : FV} (hX : Ok X) (hY : Ok Y) : Ok (fPlus X Y) := by
 have hu := ub_plus (X := X) (Y := Y) (p := 0) (q := 0) ⟨hX.wd, hX.nn, fun x hx => fq_nn (hX.nn x hx.1)⟩ ⟨hY.wd, hY.nn, fun x hx => fq_nn (hY.nn x hx.1)⟩
 refine ⟨hu.wd, hu.nn, ?_⟩
 simp only [fPlus]
 cases feq X (some 0)
 ·cases feq Y (some 0)
  ·exact up_ne (add_ne hX hY)
  ·exact hX.ne
 ·exact hY.ne
theorem ok_mulr {X Y : FV} (hX : Ok X) (hY : Ok Y) (h : (∃ x, Rl X x) ∧ (∃ y, Rl Y y)) : Ok (fup (fop .mul X Y)) := by
 have hu := ub_fmul (X := X) (Y := Y) (p := 0) (q := 0) ⟨hX.wd, hX.nn, fun x hx => fq_nn (hX.nn x hx.1)⟩ ⟨hY.wd, hY.nn, fun x hx => fq_nn (hY.nn x hx.1)⟩ Rat.le_refl
 obtain ⟨⟨x, hx⟩, y, hy⟩ := h
 exact ⟨hu.wd, hu.nn, up_ne (mul_real_ne hx hy)⟩
theorem ok_times {X Y : FV} {x y : Nat} (hx : Rl X x) (hy : Rl Y y) (sx : fs x = false ∨ fr x = 0) (sy : fs y = false ∨ fr y = 0) : Ok (fTimes X Y) := by
 simp only [fTimes]
 cases feq X (some 0)
 ·cases feq Y (some 0)
  ·exact ok_mulr (ok_real hx sx) (ok_real hy sy) ⟨⟨x, hx⟩, y, hy⟩
  ·exact ok_real rl_zero (.inl (by decide))
 ·exact ok_real rl_zero (.inl (by decide))
theorem sq_ne {X : FV} (hX : Ok X) : fop .mul X X ≠ none := by
 rcases ok_cases hX with ⟨x, hx, sx⟩ | rfl
 ·exact mul_real_ne hx hx
 ·exact (inf_mul_ne (by decide) (by decide)).1
theorem sqrt_ok {X : FV} (hX : Ok X) (h0 : ∀ x, Rl X x → fr x ≠ 0) : Ok (fup (fsqrt X)) := by
 rcases ok_cases hX with ⟨x, hx, sx⟩ | rfl
 ·have hs : fs x = false := by rcases sx with h | h; exact h; exact absurd h (h0 x hx)
  obtain ⟨h1, h2, _⟩ := sqrt_fin hx hs (h0 x hx)
  refine ⟨wd_up h1, h2, up_ne ?_⟩
  obtain ⟨rfl, _, hx2⟩ := hx
  obtain ⟨m, i, em, _⟩ := read_num hx2
  show ((Ieee.double.read x).root (Ieee.double.fractionBits + 2)).map Ieee.double.write ≠ none
  rw [em, hs]
  unfold Ieee.Datum.root
  by_cases c : m = 0
  ·simp only [if_pos c]; exact nofun
  ·simp only [if_neg c]; exact nofun
 ·have e : fsqrt (some 9218868437227405312) = some 9218868437227405312 := by
   show (Ieee.double.sqrt 9218868437227405312) = _
   unfold Ieee.Format.sqrt
   rw [read_inf (by decide)]
   rfl
  rw [e]
  exact ⟨wd_up wd_inf, nn_upinf, by decide⟩
end Go.Proofs.YtfdnbogbankjjaaGreatDoor
