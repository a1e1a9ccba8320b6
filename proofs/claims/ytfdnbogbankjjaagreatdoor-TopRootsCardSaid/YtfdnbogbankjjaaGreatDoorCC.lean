/- Merged: C9 CA CB CC -/
import Derived.Test.YtfdnbogbankjjaaGreatDoorC8
import Derived.Test.YtfdnbogbankjjaaGreatDoorFY

/- What a float sum loses is told by lost. In plain Lean. -/
namespace Go.Proofs.YtfdnbogbankjjaaGreatDoor
open Go Go.RowKit Go.PlainAid Fil

/-- an exact number that is a float's own is rounded to it -/
theorem own_exact {o y : Nat} {z e : Int} (he : -(lowM : Int) ≤ e) (h : OwnOf o z e) (hy : fr y < 9218868437227405312) (hW : W z e = fu y) : fu o = W z e := by
 rcases h with ⟨hz, rfl⟩ | ⟨rfl, h0, _⟩
 ·have R := rung (x := z.natAbs) (by omega) he
  have e1 : W z e = sz (sg z) (mg z.natAbs e) := by rw [← W_sz, sz_self]
  have hmg : mg z.natAbs e = mv (fr y) * uN := by
   have k := congrArg Int.natAbs hW
   rw [e1, sz_abs] at k
   rw [k]
   unfold fu
   exact sz_abs _ _
  have hne := mg_ne (x := z.natAbs) (by omega) e
  have hfr : fr y ≠ 0 := fun k => by rw [k, mv_zero, Nat.zero_mul] at hmg; exact hne hmg
  have hv := flY_v (fin_Q hy)
  rw [show (flY y).v = sz (flY y).n (mg (flY y).x (flY y).e) from W_sz _ _ _] at hv
  have hk := flY_ok y
  have hd : mg (flY y).x (flY y).e = mv (fr y) * uN := by
   have k := congrArg Int.natAbs hv
   rw [sz_abs, sz_abs] at k
   exact k
  have hx0 : (flY y).x ≠ 0 := fun k => by rw [k, mg_zero] at hd; exact hne (hmg.trans hd.symm)
  have R2 := rung hx0 hk.lo
  have ho : (flY y).x % 2 = 1 := by
   rcases hk with ⟨k, _⟩ | ⟨k, _⟩
   ·exact absurd k hx0
   ·exact k
  have h1 := (rg_own R2 ho hy hd).2.2
  have h2 := rgN_one R R2 (hmg.trans hd.symm)
  rw [h1] at h2
  rw [h2, fu_word (by omega), e1, hmg]
 ·have hW0 : W 0 e = 0 := by unfold W; exact Int.zero_mul _
  rw [hW0]
  unfold fu
  rw [h0, mv_zero, Nat.zero_mul, sz_zero]
theorem fu_units (x : Nat) : ∃ k : Int, fu x = k * (uN : Int) := by
 unfold fu
 cases fs x
 ·exact ⟨(mv (fr x) : Int), by rw [sz_f]; push_cast; rfl⟩
 ·exact ⟨-(mv (fr x) : Int), by rw [sz_t]; push_cast; rw [Int.neg_mul]⟩
/-- a float sum: how far it may be off -/
theorem add_err {X Y : FV} {x y o : Nat} (hx : Rl X x) (hy : Rl Y y) (ho : Rl (fop .add X Y) o) :
  9007199254740992 * (fu o - (fu x + fu y)).natAbs ≤ (fu o).natAbs ∧ (fu x = 0 ∨ fu y = 0 ∨ fu o = 0 → fu o = fu x + fu y) := by
 obtain ⟨rfl, hx1, hx2⟩ := hx
 obtain ⟨rfl, hy1, hy2⟩ := hy
 obtain ⟨o', ho', hown⟩ := add_own (Fn.q hx2) (Fn.q hy2)
 have e : fop .add (some x) (some y) = some o' := ho'
 rw [e] at ho
 obtain ⟨h1, h2, h3⟩ := ho
 obtain rfl : o' = o := Option.some.inj h1
 have hsum := sum_W hx2 hy2
 have hlo : -(lowM : Int) ≤ min (flE x) (flE y) := by have := flE_lo x; have := flE_lo y; omega
 have key : 9007199254740992 * (fu o' - (fu x + fu y)).natAbs ≤ (fu o').natAbs := by
  rcases own_err hlo hown h3 with k | k
  ·rw [hsum] at k; exact k
  ·rw [hsum] at k
   obtain ⟨a, ha⟩ := fu_units o'
   obtain ⟨b, hb⟩ := fu_units x
   obtain ⟨c, hc⟩ := fu_units y
   have hu := uN_pos
   have hd : fu o' - (fu x + fu y) = (a - (b + c)) * (uN : Int) := by rw [ha, hb, hc, Int.sub_mul, Int.add_mul]
   rw [hd, Int.natAbs_mul, Int.natAbs_natCast] at k ⊢
   by_cases h0 : a - (b + c) = 0
   ·rw [h0]; simp
   ·have h1 : 1 ≤ (a - (b + c)).natAbs := by omega
    have h2 := Nat.mul_le_mul_right uN h1
    omega
 refine ⟨key, fun h => ?_⟩
 rcases h with h | h | h
 ·have k := own_exact hlo hown hy2 (by rw [hsum]; omega)
  rw [hsum] at k; exact k
 ·have k := own_exact hlo hown hx2 (by rw [hsum]; omega)
  rw [hsum] at k; exact k
 ·rw [h] at key ⊢
  simp at key
  omega
end Go.Proofs.YtfdnbogbankjjaaGreatDoor

/- Balls hold what they should: sums. In plain Lean. -/
namespace Go.Proofs.YtfdnbogbankjjaaGreatDoor
open Go Go.RowKit Go.PlainAid Fil

theorem rat_div_le {a b : Int} (h : a ≤ b) : (a : Rat) / PP ≤ (b : Rat) / PP := by
 rw [Rat.div_def, Rat.div_def]
 exact Rat.mul_le_mul_of_nonneg_right (by exact_mod_cast h) (Rat.le_of_lt (Rat.inv_pos.2 PP_pos))
theorem fu_abs (o : Nat) : fu (fr o) = ((fu o).natAbs : Int) := by
 have e1 : fr (fr o) = fr o := by unfold fr; omega
 have e2 : fs (fr o) = false := fs_lt (by unfold fr; omega)
 unfold fu
 rw [e1, e2, sz_f, sz_abs]
theorem lit_real {b : Nat} (h1 : b < 18446744073709551616) (h2 : fr b < 9218868437227405312) : Rl (some b) b := ⟨rfl, h1, h2⟩
/-- lost -/
theorem ub_lost {X Y : FV} {x y o : Nat} (hx : Rl X x) (hy : Rl Y y) (ho : Rl (fop .add X Y) o) :
  ∃ e : Rat, 0 ≤ e ∧ Ub (fLost X Y) e ∧ fq o - (fq x + fq y) ≤ e ∧ -e ≤ fq o - (fq x + fq y) := by
 obtain ⟨k1, k2⟩ := add_err hx hy ho
 have zero : fu o = fu x + fu y → ∃ e : Rat, 0 ≤ e ∧ Ub (some 0) e ∧ fq o - (fq x + fq y) ≤ e ∧ -e ≤ fq o - (fq x + fq y) := fun h => by
  refine ⟨0, Rat.le_refl, ub_zero Rat.le_refl, ?_, ?_⟩ <;> (have e : fq o = fq x + fq y := by (unfold fq; rw [h, rat_add_div])) <;> rw [e] <;> grind
 have fu0 : ∀ {Z : FV} {z : Nat}, Rl Z z → feq Z (some 0) = true → fu z = 0 := fun {Z z} hz h => by
  obtain ⟨z', hz', h0⟩ := feq0 hz.fl.wd h
  obtain rfl : z' = z := (hz.1.symm.trans hz'.1 |> Option.some.inj).symm
  have := fq_mul z'
  rw [h0] at this
  have h3 : ((fu z' : Int) : Rat) = ((0 : Int) : Rat) := by rw [← this]; simp
  exact_mod_cast h3
 simp only [fLost]
 cases c1 : feq X (some 0)
 ·cases c2 : feq Y (some 0)
  ·cases c3 : feq (fop .add X Y) (some 0)
   ·show ∃ e : Rat, 0 ≤ e ∧ Ub (fup (fop .mul (fabs (fop .add X Y)) (some 4368491638549381120))) e ∧ _
    obtain ⟨a1, a2, _⟩ := abs_real ho
    have hl : Rl (some 4368491638549381120) 4368491638549381120 := lit_real (by decide) (by decide)
    obtain ⟨m1, m2⟩ := mul_fin a1 hl (a2 _ a1.1) (.inl (by decide))
    have hn : 0 ≤ fq (fr o) := fq_nn (a2 _ a1.1)
    have hl0 : 0 ≤ fq 4368491638549381120 := fq_nn (.inl (by decide))
    refine ⟨fq (fr o) * fq 4368491638549381120, Rat.mul_nonneg hn hl0, ⟨wd_up (wd_fop _ _ _), m1, m2⟩, ?_⟩
    have h53 := fq_53
    have hP := PP_pos
    -- |d| in units
    have d1 : (9007199254740992 : Int) * (fu o - (fu x + fu y)) ≤ fu (fr o) := by rw [fu_abs]; omega
    have d2 : -fu (fr o) ≤ (9007199254740992 : Int) * (fu o - (fu x + fu y)) := by rw [fu_abs]; omega
    have r1 := rat_div_le d1
    have r2 := rat_div_le d2
    have e1 : (((9007199254740992 : Int) * (fu o - (fu x + fu y)) : Int) : Rat) / PP = (9007199254740992 : Rat) * (fq o - (fq x + fq y)) := by
     unfold fq
     push_cast
     rw [Rat.div_def, Rat.div_def, Rat.div_def, Rat.div_def]
     grind
    have e2 : ((-fu (fr o) : Int) : Rat) / PP = -fq (fr o) := by
     unfold fq
     rw [Rat.div_def, Rat.div_def, Rat.intCast_neg]
     grind
    rw [e1] at r1 r2
    rw [e2] at r2
    have r1' : (9007199254740992 : Rat) * (fq o - (fq x + fq y)) ≤ fq (fr o) := r1
    have h53' : fq 4368491638549381120 * (9007199254740992 : Rat) = 1 := by
     have e : (2 ^ 53 : Rat) = 9007199254740992 := by decide +kernel
     rw [← e]; exact h53
    generalize fq 4368491638549381120 = l at *
    generalize fq o - (fq x + fq y) = d at *
    generalize fq (fr o) = a at *
    have q1 := Rat.mul_le_mul_of_nonneg_left r1' hl0
    have q2 := Rat.mul_le_mul_of_nonneg_left r2 hl0
    have e3 : l * ((9007199254740992 : Rat) * d) = d := by rw [← Rat.mul_assoc, h53', Rat.one_mul]
    rw [e3] at q1 q2
    refine ⟨by rw [Rat.mul_comm]; exact q1, ?_⟩
    have e4 : l * -a = -(a * l) := by rw [Rat.mul_neg, Rat.mul_comm]
    rw [e4] at q2; exact q2
   ·exact zero (k2 (.inr (.inr (fu0 ho c3))))
  ·exact zero (k2 (.inr (.inl (fu0 hy c2))))
 ·exact zero (k2 (.inl (fu0 hx c1)))
end Go.Proofs.YtfdnbogbankjjaaGreatDoor

/- Balls hold what they should: points, sums, the negative. In plain Lean. -/
namespace Go.Proofs.YtfdnbogbankjjaaGreatDoor
open Go Go.RowKit Go.PlainAid Fil

/-- the ball b holds u -/
def Hold (b : BV) (u : CQ) : Prop := bIsWhole b = true ∨ ∃ x y r, GB b x y r ∧ InR ⟨fq x, fq y⟩ (fq r) u
def WdB (b : BV) : Prop := Wd b.1.1 ∧ Wd b.1.2 ∧ Wd b.2
theorem wd_inf : Wd (some 9218868437227405312) := ⟨_, fl_some (by decide) (by decide)⟩
theorem wd_0 : Wd (some 0) := ⟨_, fl_zero⟩
theorem wdb_whole : WdB bWhole := ⟨wd_0, wd_0, wd_inf⟩
theorem whole_whole : bIsWhole bWhole = true := by decide
theorem hold_whole (u : CQ) : Hold bWhole u := .inl whole_whole
/-- a ball told: whatever its centre and radius, so long as the radius bounds the error -/
theorem told_hold {Z : CV} {R : FV} {u : CQ} (w1 : Wd Z.1) (w2 : Wd Z.2) (w3 : Wd R) (h : ∀ x y r, Rl Z.1 x → Rl Z.2 y → Rl R r → InR ⟨fq x, fq y⟩ (fq r) u) : Hold (bTold Z R) u ∧ WdB (bTold Z R) := by
 simp only [bTold]
 cases c1 : bFin (Z.1, Z.2)
 ·exact ⟨hold_whole u, wdb_whole⟩
 ·cases c2 : fFin R
  ·exact ⟨hold_whole u, wdb_whole⟩
  ·refine ⟨?_, w1, w2, w3⟩
   show Hold ((Z.1, Z.2), R) u
   cases c3 : bIsWhole ((Z.1, Z.2), R)
   ·obtain ⟨x, y, r, g⟩ := not_whole (b := ((Z.1, Z.2), R)) w1 w2 w3 c3
    exact .inr ⟨x, y, r, g, h x y r g.x g.y g.r⟩
   ·exact .inl c3
theorem GB.nn {b : BV} {x y r : Nat} (g : GB b x y r) : Nn b.2 := by
 intro c hc
 left
 have e := g.r.1
 have hs := g.s
 rw [hc] at hs
 have hl : c < 9223372036854775808 := by
  have h2 : decide (9223372036854775808 ≤ c) = false := hs
  have := of_decide_eq_false h2
  omega
 exact fs_lt hl
theorem GB.ub {b : BV} {x y r : Nat} (g : GB b x y r) : Ub b.2 (fq r) := ⟨g.r.fl.wd, g.nn, fun z hz => by
 have e := g.r.1.symm.trans hz.1
 rw [Option.some.inj e]
 exact Rat.le_refl⟩
theorem wd_plus {X Y : FV} (hX : Wd X) (hY : Wd Y) : Wd (fPlus X Y) := by
 simp only [fPlus]
 cases feq X (some 0)
 ·cases feq Y (some 0)
  ·exact wd_up (wd_fop _ _ _)
  ·exact hX
 ·exact hY
theorem wd_times (X Y : FV) : Wd (fTimes X Y) := by
 simp only [fTimes]
 cases feq X (some 0)
 ·cases feq Y (some 0)
  ·exact wd_up (wd_fop _ _ _)
  ·exact wd_0
 ·exact wd_0
theorem wd_lost (X Y : FV) : Wd (fLost X Y) := by
 simp only [fLost]
 cases feq X (some 0)
 ·cases feq Y (some 0)
  ·cases feq (fop .add X Y) (some 0)
   ·exact wd_up (wd_fop _ _ _)
   ·exact wd_0
  ·exact wd_0
 ·exact wd_0
theorem wd_lostB (Z V : CV) : Wd (fLostB Z V) := wd_plus (wd_lost _ _) (wd_lost _ _)
theorem point_hold {Z : CV} {x y : Nat} (hx : Rl Z.1 x) (hy : Rl Z.2 y) : Hold (bPoint Z) ⟨fq x, fq y⟩ := by
 rw [point_real hx hy]
 refine .inr ⟨x, y, 0, ⟨hx, hy, rl_zero, rfl⟩, ?_⟩
 rw [fq_zero]
 exact inr_point _
theorem wdb_point {Z : CV} {x y : Nat} (hx : Rl Z.1 x) (hy : Rl Z.2 y) : WdB (bPoint Z) := by
 rw [point_real hx hy]
 exact ⟨hx.fl.wd, hy.fl.wd, wd_0⟩
/-- sums -/
theorem add_hold {a b : BV} {u v : CQ} (ha : Hold a u) (hb : Hold b v) : Hold (bAdd a b) (u + v) ∧ WdB (bAdd a b) := by
 simp only [bAdd]
 rcases ha with ha | ⟨x0, y0, r0, ga, ia⟩
 ·rw [show bIsWhole ((a.1.1, a.1.2), a.2) = true from ha]
  exact ⟨hold_whole _, wdb_whole⟩
 ·rw [show bIsWhole ((a.1.1, a.1.2), a.2) = false from ga.not]
  rcases hb with hb | ⟨x1, y1, r1, gb, ib⟩
  ·rw [show bIsWhole ((b.1.1, b.1.2), b.2) = true from hb]
   exact ⟨hold_whole _, wdb_whole⟩
  ·rw [show bIsWhole ((b.1.1, b.1.2), b.2) = false from gb.not]
   refine told_hold (Z := ((cAdd (a.1.1, a.1.2) (b.1.1, b.1.2)).1, (cAdd (a.1.1, a.1.2) (b.1.1, b.1.2)).2)) (wd_fop _ _ _) (wd_fop _ _ _) ?_ ?_
   ·exact wd_plus (wd_plus ga.r.fl.wd gb.r.fl.wd) (wd_lostB _ _)
   ·intro x y r hx hy hr
    obtain ⟨e1, p1, q1, s1, t1⟩ := ub_lost ga.x gb.x hx
    obtain ⟨e2, p2, q2, s2, t2⟩ := ub_lost ga.y gb.y hy
    have hU := ub_plus (ub_plus ga.ub gb.ub) (ub_plus q1 q2)
    have hR := hU.ge r hr
    refine inr_add ia ib (e := e1 + e2) ?_ ?_
    ·refine nb_parts p1 p2 ?_ ?_ ?_ ?_
     ·exact s1
     ·exact t1
     ·exact s2
     ·exact t2
    ·exact hR
/-- the negative of a number -/
theorem neg_real {X : FV} {x : Nat} (h : Rl X x) : ∃ y, Rl (fneg X) y ∧ fq y = -fq x := by
 obtain ⟨rfl, h1, h2⟩ := h
 have e : fneg (some x) = some (if x < 9223372036854775808 then x + 9223372036854775808 else x - 9223372036854775808) := rfl
 obtain ⟨y, hy⟩ : ∃ y, y = (if x < 9223372036854775808 then x + 9223372036854775808 else x - 9223372036854775808) := ⟨_, rfl⟩
 have f1 : fr y = fr x := by rw [hy]; unfold fr; split <;> omega
 have f2 : fs y = !fs x := by
  rw [hy]
  unfold fs
  split
  ·rw [show x / 9223372036854775808 = 0 by omega, show (x + 9223372036854775808) / 9223372036854775808 = 1 by omega]; rfl
  ·rw [show x / 9223372036854775808 = 1 by omega, show (x - 9223372036854775808) / 9223372036854775808 = 0 by omega]; rfl
 refine ⟨y, ⟨by rw [e, ← hy], by rw [hy]; split <;> omega, by rw [f1]; exact h2⟩, ?_⟩
 have k : fu y = -fu x := by
  unfold fu
  rw [f1, f2]
  cases fs x
  ·rw [show (!false) = true from rfl, sz_t, sz_f]
  ·rw [show (!true) = false from rfl, sz_t, sz_f]; omega
 unfold fq
 rw [k, Rat.div_def, Rat.div_def, Rat.intCast_neg]
 grind
theorem neg_hold {a : BV} {u : CQ} (ha : Hold a u) : Hold (bNeg a) (-u) ∧ WdB (bNeg a) := by
 simp only [bNeg]
 rcases ha with ha | ⟨x0, y0, r0, ga, ia⟩
 ·rw [show bIsWhole ((a.1.1, a.1.2), a.2) = true from ha]
  exact ⟨hold_whole _, wdb_whole⟩
 ·rw [show bIsWhole ((a.1.1, a.1.2), a.2) = false from ga.not]
  obtain ⟨nx, hx, ex⟩ := neg_real ga.x
  obtain ⟨ny, hy, ey⟩ := neg_real ga.y
  refine ⟨.inr ⟨nx, ny, r0, ⟨hx, hy, ga.r, ga.s⟩, ?_⟩, hx.fl.wd, hy.fl.wd, ga.r.fl.wd⟩
  rw [ex, ey]
  have k := inr_neg ia
  have e : ∀ p q : Rat, -(⟨p, q⟩ : CQ) = ⟨-p, -q⟩ := fun _ _ => rfl
  rw [e] at k
  exact k
end Go.Proofs.YtfdnbogbankjjaaGreatDoor

/- Balls hold what they should: differences. In plain Lean. -/
namespace Go.Proofs.YtfdnbogbankjjaaGreatDoor
open Go Go.RowKit Go.PlainAid Fil

theorem neg_bits' {x y : Nat} (hx : Rl (some x) x) (hy : fneg (some x) = some y) : fr y = fr x ∧ fs y = !fs x := by
 obtain ⟨_, h1, h2⟩ := hx
 have e : fneg (some x) = some (if x < 9223372036854775808 then x + 9223372036854775808 else x - 9223372036854775808) := rfl
 rw [e] at hy
 have hy2 := Option.some.inj hy
 constructor
 ·rw [← hy2]; unfold fr; split <;> omega
 ·rw [← hy2]
  unfold fs
  split
  ·rw [show x / 9223372036854775808 = 0 by omega, show (x + 9223372036854775808) / 9223372036854775808 = 1 by omega]; rfl
  ·rw [show x / 9223372036854775808 = 1 by omega, show (x - 9223372036854775808) / 9223372036854775808 = 0 by omega]; rfl
theorem flQ_same {x y : Nat} (h : fr x = fr y) : flQ x = flQ y := by unfold flQ; unfold fr at h; omega
/-- a difference is the sum with the negative -/
theorem sub_add {X Y : FV} {x y : Nat} (hx : Rl X x) (hy : Rl Y y) : fop .sub X Y = fop .add X (fneg Y) := by
 obtain ⟨n, hn, _⟩ := neg_real hy
 obtain ⟨rfl, hx1, hx2⟩ := hx
 obtain ⟨rfl, hy1, hy2⟩ := hy
 obtain ⟨f1, f2⟩ := neg_bits' ⟨rfl, hy1, hy2⟩ hn.1
 have hq : flQ n ≠ 2047 := by rw [flQ_same f1]; exact fin_Q hy2
 rw [hn.1]
 show ((Ieee.double.read x).sum (Ieee.double.read y).opposite).map Ieee.double.write = ((Ieee.double.read x).sum (Ieee.double.read n)).map Ieee.double.write
 have e1 : flM n = flM y := by unfold flM; rw [flQ_same f1, show n % 4503599627370496 = y % 4503599627370496 by unfold fr at f1; omega]
 have e2 : flE n = flE y := by unfold flE; rw [flQ_same f1]
 rw [read_fl (fin_Q hy2), read_fl hq, e1, e2, f2]
 rfl
theorem sub_hold {a b : BV} {u v : CQ} (ha : Hold a u) (hb : Hold b v) : Hold (bSub a b) (u - v) ∧ WdB (bSub a b) := by
 simp only [bSub]
 rcases ha with ha | ⟨x0, y0, r0, ga, ia⟩
 ·rw [show bIsWhole ((a.1.1, a.1.2), a.2) = true from ha]
  exact ⟨hold_whole _, wdb_whole⟩
 ·rw [show bIsWhole ((a.1.1, a.1.2), a.2) = false from ga.not]
  rcases hb with hb | ⟨x1, y1, r1, gb, ib⟩
  ·rw [show bIsWhole ((b.1.1, b.1.2), b.2) = true from hb]
   exact ⟨hold_whole _, wdb_whole⟩
  ·rw [show bIsWhole ((b.1.1, b.1.2), b.2) = false from gb.not]
   obtain ⟨nx, hnx, ex⟩ := neg_real gb.x
   obtain ⟨ny, hny, ey⟩ := neg_real gb.y
   refine told_hold (Z := ((cSub (a.1.1, a.1.2) (b.1.1, b.1.2)).1, (cSub (a.1.1, a.1.2) (b.1.1, b.1.2)).2)) (wd_fop _ _ _) (wd_fop _ _ _) ?_ ?_
   ·exact wd_plus (wd_plus ga.r.fl.wd gb.r.fl.wd) (wd_lostB _ _)
   ·intro x y r hx hy hr
    have hx' : Rl (fop .add a.1.1 (fneg b.1.1)) x := by rw [← sub_add ga.x gb.x]; exact hx
    have hy' : Rl (fop .add a.1.2 (fneg b.1.2)) y := by rw [← sub_add ga.y gb.y]; exact hy
    obtain ⟨e1, p1, q1, s1, t1⟩ := ub_lost ga.x hnx hx'
    obtain ⟨e2, p2, q2, s2, t2⟩ := ub_lost ga.y hny hy'
    have hU := ub_plus (ub_plus ga.ub gb.ub) (ub_plus q1 q2)
    have hR := hU.ge r hr
    rw [ex] at s1 t1
    rw [ey] at s2 t2
    refine inr_sub ia ib (e := e1 + e2) ?_ hR
    have e0 : (⟨fq x, fq y⟩ : CQ) - ((⟨fq x0, fq y0⟩ : CQ) - ⟨fq x1, fq y1⟩) = ⟨fq x - (fq x0 - fq x1), fq y - (fq y0 - fq y1)⟩ := rfl
    rw [e0]
    refine nb_parts p1 p2 ?_ ?_ ?_ ?_
    ·show fq x - (fq x0 - fq x1) ≤ e1
     rw [Rat.sub_eq_add_neg (fq x0)]; exact s1
    ·show -e1 ≤ fq x - (fq x0 - fq x1)
     rw [Rat.sub_eq_add_neg (fq x0)]; exact t1
    ·show fq y - (fq y0 - fq y1) ≤ e2
     rw [Rat.sub_eq_add_neg (fq y0)]; exact s2
    ·show -e2 ≤ fq y - (fq y0 - fq y1)
     rw [Rat.sub_eq_add_neg (fq y0)]; exact t2
end Go.Proofs.YtfdnbogbankjjaaGreatDoor
