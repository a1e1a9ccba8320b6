/- The discs' laws and Side taken round: plain arithmetic, no program in sight. -/
import Derived.Test.YtgcifpjhhoalmaaDoorGL
namespace Go.Proofs.YtgcifpjhhoalmaaDoor
open Go Go.RowKit Go.PlainAid Fil

theorem bstr_inj {x y : Nat} (h : bstr x = bstr y) : x = y := bs_inj (by rw [← bstr_toList, h, bstr_toList])
theorem GY.raw_inj {a b : GY} (h : a.raw = b.raw) : a = b := by
  obtain ⟨⟨n, x, e⟩, ⟨m, y, f⟩⟩ := a
  obtain ⟨⟨n', x', e'⟩, ⟨m', y', f'⟩⟩ := b
  simp only [GY.raw, GR.mk.injEq] at h
  obtain ⟨rfl, h1, rfl, rfl, h2, rfl⟩ := h
  rw [bstr_inj h1, bstr_inj h2]
theorem DY.raw_inj {a b : DY} (h : a.raw = b.raw) : a = b := by
  obtain ⟨n, x, e⟩ := a
  obtain ⟨n', x', e'⟩ := b
  simp only [DY.raw, DRw.mk.injEq] at h
  obtain ⟨rfl, h1, rfl⟩ := h
  rw [bstr_inj h1]
theorem DY.nonneg {r : DY} (h : r.n = false) : 0 ≤ r.v := by
  unfold DY.v DY.z W sz
  rw [h]
  exact Int.mul_nonneg (by simp) (Int.le_of_lt (ppi _))
/-- squares -/
theorem sq_nn (a : Int) : 0 ≤ a * a := by
  rcases Int.le_total 0 a with h | h
  · exact Int.mul_nonneg h h
  · have := Int.mul_nonneg (show 0 ≤ -a by omega) (show 0 ≤ -a by omega)
    rwa [Int.neg_mul_neg] at this
theorem sq_lt {a b : Int} (ha : 0 ≤ a) (h : a < b) : a * a < b * b := by
  have h1 : a * a ≤ a * b := Int.mul_le_mul_of_nonneg_left (by omega) ha
  have h2 : a * b < b * b := Int.mul_lt_mul_of_pos_right h (by omega)
  omega
/-- the triangle's inequality -/
theorem tri {x y u v r t : Int} (hr : 0 ≤ r) (ht : 0 ≤ t) (h1 : x * x + y * y ≤ r * r) (h2 : u * u + v * v ≤ t * t) : (x + u) * (x + u) + (y + v) * (y + v) ≤ (r + t) * (r + t) := by
  have hP : x * u + y * v ≤ r * t := by
    rcases Int.lt_or_le (r * t) (x * u + y * v) with h | h
    · exfalso
      have k1 := sq_lt (Int.mul_nonneg hr ht) h
      have k2 : (x * x + y * y) * (u * u + v * v) = (x * u + y * v) * (x * u + y * v) + (x * v - y * u) * (x * v - y * u) := by grind
      have k3 := sq_nn (x * v - y * u)
      have k4 : (x * x + y * y) * (u * u + v * v) ≤ (r * r) * (u * u + v * v) := Int.mul_le_mul_of_nonneg_right h1 (by have := sq_nn u; have := sq_nn v; omega)
      have k5 : (r * r) * (u * u + v * v) ≤ (r * r) * (t * t) := Int.mul_le_mul_of_nonneg_left h2 (sq_nn r)
      have k6 : (r * r) * (t * t) = (r * t) * (r * t) := by grind
      omega
    · exact h
  have e1 : (x + u) * (x + u) + (y + v) * (y + v) = (x * x + y * y) + (u * u + v * v) + 2 * (x * u + y * v) := by grind
  have e2 : (r + t) * (r + t) = r * r + t * t + 2 * (r * t) := by grind
  omega
/-- the squared distance -/
def dist2 (a b : GY) : Int := (a.re.v - b.re.v) * (a.re.v - b.re.v) + (a.im.v - b.im.v) * (a.im.v - b.im.v)
theorem dist2_comm (a b : GY) : dist2 a b = dist2 b a := by unfold dist2; grind
theorem gFar_v {a b : GY} {r : DY} (ha : a.ok) (hb : b.ok) (hr : r.ok) (h : (gFar a b r).2 = 0) : ((gFar a b r).1 ≤ 0 ↔ dist2 a b ≤ r.v * r.v) ∧ (0 < (gFar a b r).1 ↔ r.v * r.v < dist2 a b) := by
  unfold gFar at h ⊢
  by_cases h1 : (gSub a b).2 = 0
  · rw [if_pos h1] at h ⊢
    by_cases h2 : (gNorm (gSub a b).1).2 = 0
    · rw [if_pos h2] at h ⊢
      by_cases h3 : (yMul r r).2 = 0
      · rw [if_pos h3] at h ⊢
        obtain ⟨s1, s2⟩ := gSub_v ha hb h1
        have n := gNorm_v (gSub_ok a b) h2
        have m := yMul_v hr hr h3
        rw [s1, s2] at n
        have g := @yCmp_gt (gNorm (gSub a b).1).1 (yMul r r).1
        have hp := pw_pos
        have k : (yMul r r).1.v < (gNorm (gSub a b).1).1.v ↔ r.v * r.v < dist2 a b := by
          unfold dist2
          rw [← n, ← m]
          exact ⟨fun h => Int.mul_lt_mul_of_pos_right h hp, fun h => Int.lt_of_mul_lt_mul_right h (Int.le_of_lt hp)⟩
        dsimp only
        rw [k] at g
        refine ⟨?_, g⟩
        constructor
        · intro hh
          rcases Int.lt_or_le (r.v * r.v) (dist2 a b) with hl | hl
          · have := g.2 hl; omega
          · exact hl
        · intro hh
          rcases Int.lt_or_le 0 (yCmp (gNorm (gSub a b).1).1 (yMul r r).1) with hl | hl
          · have := g.1 hl; omega
          · exact hl
      · rw [if_neg h3] at h; cases h
    · rw [if_neg h2] at h; cases h
  · rw [if_neg h1] at h; cases h
theorem gIn_v {a c : GY} {r : DY} (ha : a.ok) (hc : c.ok) (hr : r.ok) (h : (gIn a c r).2 = 0) : (gIn a c r).1 = true ↔ dist2 a c ≤ r.v * r.v := by
  unfold gIn at h ⊢
  by_cases h1 : (gFar a c r).2 = 0
  · rw [if_pos h1]
    dsimp only
    rw [decide_eq_true_iff, (gFar_v ha hc hr h1).1]
  · rw [if_neg h1] at h
    exact absurd h h1
theorem within_v {c d : GY} {r s : DY} (hc : c.ok) (hr : r.ok) (hd : d.ok) (hs : s.ok) (h : (gWithin c r d s).2 = 0) : (gWithin c r d s).1 = true ↔ r.v ≤ s.v ∧ dist2 c d ≤ (s.v - r.v) * (s.v - r.v) := by
  unfold gWithin at h ⊢
  by_cases h1 : 0 < yCmp r s
  · rw [if_pos h1]
    rw [yCmp_gt] at h1
    constructor
    · intro h; cases h
    · rintro ⟨h2, _⟩; omega
  · rw [if_neg h1] at h ⊢
    rw [yCmp_gt] at h1
    by_cases h2 : (ySub s r).2 = 0
    · rw [if_pos h2] at h ⊢
      rw [gIn_v hc hd (ySub_ok s r) h, ySub_v hs hr h2]
      exact ⟨fun h => ⟨by omega, h⟩, fun h => h.2⟩
    · rw [if_neg h2] at h
      exact absurd h h2
theorem apart_v {c d : GY} {r s : DY} (hc : c.ok) (hr : r.ok) (hd : d.ok) (hs : s.ok) (h : (gApart c r d s).2 = 0) : (gApart c r d s).1 = true ↔ (r.v + s.v) * (r.v + s.v) < dist2 c d := by
  unfold gApart at h ⊢
  by_cases h2 : (yAdd r s).2 = 0
  · rw [if_pos h2] at h ⊢
    unfold gOut at h ⊢
    by_cases h1 : (gFar c d (yAdd r s).1).2 = 0
    · rw [if_pos h1]
      dsimp only
      rw [decide_eq_true_iff, (gFar_v hc hd (yAdd_ok r s) h1).2, yAdd_v hr hs h2]
    · rw [if_neg h1] at h
      exact absurd h h1
  · rw [if_neg h2] at h
    exact absurd h h2
theorem xIn_some {o p : Option GY} {q : Option DY} (h : (xIn o p q).2 = 0) : ∃ A C R, o = some A ∧ p = some C ∧ q = some R ∧ R.n = false ∧ xIn o p q = gIn A C R := by
  cases o with
  | none => cases h
  | some A =>
    cases p with
    | none => cases h
    | some C =>
      cases q with
      | none => cases h
      | some R =>
        cases hR : R.n
        · exact ⟨A, C, R, rfl, rfl, rfl, hR, by show (if R.n = true then _ else _) = _; rw [hR]; rfl⟩
        · have hx : xIn (some A) (some C) (some R) = (false, 2) := by show (if R.n = true then _ else _) = _; rw [hR]; rfl
          rw [hx] at h
          cases h
theorem xDisc_some {f : GY → DY → GY → DY → Bool × Int} {o p : Option GY} {q t : Option DY} (h : (xDisc f o q p t).2 = 0) : ∃ C R D S, o = some C ∧ q = some R ∧ p = some D ∧ t = some S ∧ R.n = false ∧ S.n = false ∧ xDisc f o q p t = f C R D S := by
  cases o with
  | none => cases q <;> cases p <;> cases t <;> cases h
  | some C =>
    cases q with
    | none => cases p <;> cases t <;> cases h
    | some R =>
      cases p with
      | none => cases t <;> cases h
      | some D =>
        cases t with
        | none => cases h
        | some S =>
          cases hR : (R.n || S.n)
          · refine ⟨C, R, D, S, rfl, rfl, rfl, rfl, ?_, ?_, by show (if (R.n || S.n) = true then _ else _) = _; rw [hR]; rfl⟩
            · rw [Bool.or_eq_false_iff] at hR; exact hR.1
            · rw [Bool.or_eq_false_iff] at hR; exact hR.2
          · have hx : xDisc f (some C) (some R) (some D) (some S) = (false, 2) := by show (if (R.n || S.n) = true then _ else _) = _; rw [hR]; rfl
            rw [hx] at h
            cases h
section
variable {g c d : GR} {r s : DRw} {og oc od : Option GY} {qr qs : Option DY} (hg : Rep g og) (hc : Rep c oc) (hd : Rep d od) (hr : RepD r qr) (hs : RepD s qs)
include hg hc hd hr hs
theorem round_1 (e1 : (xIn og oc qr).2 = 0) (e2 : (xIn og od qs).2 = 0) (e3 : (xDisc gWithin oc qr od qs).2 = 0) (h1 : (xIn og oc qr).1 = true) (h2 : (xDisc gWithin oc qr od qs).1 = true) : (xIn og od qs).1 = true := by
  obtain ⟨A, C, R, rfl, rfl, rfl, rn, ex1⟩ := xIn_some e1
  obtain ⟨A', D, S, hA', rfl, rfl, sn, ex2⟩ := xIn_some e2
  obtain rfl := Option.some.inj hA'
  obtain ⟨C', R', D', S', hC', hR', hD', hS', -, -, ex3⟩ := xDisc_some e3
  obtain rfl := Option.some.inj hC'
  obtain rfl := Option.some.inj hR'
  obtain rfl := Option.some.inj hD'
  obtain rfl := Option.some.inj hS'
  rw [ex1] at e1 h1
  rw [ex2] at e2 ⊢
  rw [ex3] at e3 h2
  have k1 := (gIn_v hg.1 hc.1 hr.1 e1).1 h1
  obtain ⟨k2, k3⟩ := (within_v hc.1 hr.1 hd.1 hs.1 e3).1 h2
  rw [gIn_v hg.1 hd.1 hs.1 e2]
  unfold dist2 at k1 k3 ⊢
  have := tri (DY.nonneg rn) (show 0 ≤ S.v - R.v by omega) k1 k3
  have e1 : A.re.v - C.re.v + (C.re.v - D.re.v) = A.re.v - D.re.v := by omega
  have e2 : A.im.v - C.im.v + (C.im.v - D.im.v) = A.im.v - D.im.v := by omega
  have e3 : R.v + (S.v - R.v) = S.v := by omega
  rwa [e1, e2, e3] at this
theorem round_2 (e1 : (xIn og oc qr).2 = 0) (e2 : (xIn og od qs).2 = 0) (e3 : (xDisc gApart oc qr od qs).2 = 0) (h1 : (xIn og oc qr).1 = true) (h2 : (xDisc gApart oc qr od qs).1 = true) : (xIn og od qs).1 = false := by
  obtain ⟨A, C, R, rfl, rfl, rfl, rn, ex1⟩ := xIn_some e1
  obtain ⟨A', D, S, hA', rfl, rfl, sn, ex2⟩ := xIn_some e2
  obtain rfl := Option.some.inj hA'
  obtain ⟨C', R', D', S', hC', hR', hD', hS', -, -, ex3⟩ := xDisc_some e3
  obtain rfl := Option.some.inj hC'
  obtain rfl := Option.some.inj hR'
  obtain rfl := Option.some.inj hD'
  obtain rfl := Option.some.inj hS'
  rw [ex1] at e1 h1
  rw [ex2] at e2 ⊢
  rw [ex3] at e3 h2
  have k1 := (gIn_v hg.1 hc.1 hr.1 e1).1 h1
  have k2 := (apart_v hc.1 hr.1 hd.1 hs.1 e3).1 h2
  cases hI : (gIn A D S).1
  · rfl
  · have k3 := (gIn_v hg.1 hd.1 hs.1 e2).1 hI
    rw [dist2_comm A C] at k1
    unfold dist2 at k1 k2 k3
    have := tri (DY.nonneg rn) (DY.nonneg sn) k1 k3
    have e1 : C.re.v - A.re.v + (A.re.v - D.re.v) = C.re.v - D.re.v := by omega
    have e2 : C.im.v - A.im.v + (A.im.v - D.im.v) = C.im.v - D.im.v := by omega
    rw [e1, e2] at this
    omega
omit hg
theorem round_3 (e1 : (xDisc gWithin oc qr od qs).2 = 0) (e3 : (xDisc gApart oc qr od qs).2 = 0) (h1 : (xDisc gWithin oc qr od qs).1 = true) : (xDisc gApart oc qr od qs).1 = false := by
  obtain ⟨C, R, D, S, rfl, rfl, rfl, rfl, rn, sn, ex1⟩ := xDisc_some e1
  obtain ⟨C', R', D', S', hC', hR', hD', hS', -, -, ex3⟩ := xDisc_some e3
  obtain rfl := Option.some.inj hC'
  obtain rfl := Option.some.inj hR'
  obtain rfl := Option.some.inj hD'
  obtain rfl := Option.some.inj hS'
  rw [ex1] at e1 h1
  rw [ex3] at e3 ⊢
  obtain ⟨k1, k2⟩ := (within_v hc.1 hr.1 hd.1 hs.1 e1).1 h1
  cases hA : (gApart C R D S).1
  · rfl
  · have k3 := (apart_v hc.1 hr.1 hd.1 hs.1 e3).1 hA
    have h4 := Int.mul_nonneg (DY.nonneg rn) (DY.nonneg sn)
    have e4 : (R.v + S.v) * (R.v + S.v) = (S.v - R.v) * (S.v - R.v) + 4 * (R.v * S.v) := by grind
    omega
theorem round_4 (e1 : (xDisc gWithin oc qr od qs).2 = 0) (e2 : (xDisc gWithin od qs oc qr).2 = 0) : ((xDisc gWithin oc qr od qs).1 = true ∧ (xDisc gWithin od qs oc qr).1 = true) ↔ (c = d ∧ r = s) := by
  obtain ⟨C, R, D, S, rfl, rfl, rfl, rfl, rn, sn, ex1⟩ := xDisc_some e1
  obtain ⟨C', R', D', S', hC', hR', hD', hS', -, -, ex3⟩ := xDisc_some e2
  obtain rfl := Option.some.inj hC'
  obtain rfl := Option.some.inj hR'
  obtain rfl := Option.some.inj hD'
  obtain rfl := Option.some.inj hS'
  rw [ex1] at e1 ⊢
  rw [ex3] at e2 ⊢
  rw [within_v hc.1 hr.1 hd.1 hs.1 e1, within_v hd.1 hs.1 hc.1 hr.1 e2, hc.2, hd.2, hr.2, hs.2]
  constructor
  · rintro ⟨⟨k1, k2⟩, k3, -⟩
    have hv : R.v = S.v := by omega
    have hRS : R = S := DY.inj hr.1 hs.1 hv
    rw [hv, Int.sub_self, Int.mul_zero] at k2
    unfold dist2 at k2
    have q1 := sq_nn (C.re.v - D.re.v)
    have q2 := sq_nn (C.im.v - D.im.v)
    have z1 : C.re.v - D.re.v = 0 := by
      rcases Int.mul_eq_zero.1 (show (C.re.v - D.re.v) * (C.re.v - D.re.v) = 0 by omega) with h | h <;> exact h
    have z2 : C.im.v - D.im.v = 0 := by
      rcases Int.mul_eq_zero.1 (show (C.im.v - D.im.v) * (C.im.v - D.im.v) = 0 by omega) with h | h <;> exact h
    have hCD : C = D := GY.inj hc.1 hd.1 (by omega) (by omega)
    rw [hRS, hCD]
    exact ⟨rfl, rfl⟩
  · rintro ⟨k1, k2⟩
    obtain rfl := GY.raw_inj k1
    obtain rfl := DY.raw_inj k2
    unfold dist2
    simp only [Int.sub_self, Int.mul_zero, Int.add_zero]
    exact ⟨⟨Int.le_refl _, Int.le_refl _⟩, Int.le_refl _, Int.le_refl _⟩
omit hd hs
theorem round_5 (e1 : (xDisc gWithin oc qr oc qr).2 = 0) : (xDisc gWithin oc qr oc qr).1 = true := by
  obtain ⟨C, R, D, S, rfl, rfl, hD, hS, rn, sn, ex1⟩ := xDisc_some e1
  obtain rfl := Option.some.inj hD
  obtain rfl := Option.some.inj hS
  rw [ex1] at e1 ⊢
  rw [within_v hc.1 hr.1 hc.1 hr.1 e1]
  unfold dist2
  simp only [Int.sub_self, Int.mul_zero, Int.add_zero]
  exact ⟨Int.le_refl _, Int.le_refl _⟩
end
theorem gSide_v {a b c : GY} (ha : a.ok) (hb : b.ok) (hc : c.ok) (h : (gSide a b c).2 = 0) : (gSide a b c).1 = ((b.re.v - a.re.v) * (c.im.v - a.im.v) - (b.im.v - a.im.v) * (c.re.v - a.re.v)).sign := by
  unfold gSide at h ⊢
  by_cases h1 : (gSub b a).2 = 0 ∧ (gSub c a).2 = 0
  · rw [if_pos h1] at h ⊢
    dsimp only at h ⊢
    obtain ⟨p1, p2⟩ := gSub_v hb ha h1.1
    obtain ⟨q1, q2⟩ := gSub_v hc ha h1.2
    have k := gCross_v (gSub_ok b a) (gSub_ok c a) h
    rw [p1, p2, q1, q2] at k
    rw [← DY.v_sign, ← k, sign_mul_pos pw_pos]
  · rw [if_neg h1] at h
    cases h
theorem x3_some {α : Type} {z : α} {f : GY → GY → GY → α × Int} {o p q : Option GY} (h : (x3 z f o p q).2 = 0) : ∃ A B C, o = some A ∧ p = some B ∧ q = some C := by
  cases o with
  | none => cases p <;> cases q <;> cases h
  | some A =>
    cases p with
    | none => cases q <;> cases h
    | some B =>
      cases q with
      | none => cases h
      | some C => exact ⟨A, B, C, rfl, rfl, rfl⟩
theorem round_6 {g c d : GR} {og oc od : Option GY} (hg : Rep g og) (hc : Rep c oc) (hd : Rep d od) (e1 : (x3 0 gSide og oc od).2 = 0) (e2 : (x3 0 gSide oc od og).2 = 0) (e3 : (x3 0 gSide oc og od).2 = 0) :
    (x3 0 gSide oc od og).1 = (x3 0 gSide og oc od).1 ∧ (x3 0 gSide oc og od).1 = -(x3 0 gSide og oc od).1 := by
  obtain ⟨A, C, D, rfl, rfl, rfl⟩ := x3_some e1
  have k1 := gSide_v hg.1 hc.1 hd.1 e1
  have k2 := gSide_v hc.1 hd.1 hg.1 e2
  have k3 := gSide_v hc.1 hg.1 hd.1 e3
  refine ⟨k2.trans (Eq.trans ?_ k1.symm), k3.trans (Eq.trans ?_ (congrArg Neg.neg k1).symm)⟩
  · congr 1; grind
  · rw [← Int.sign_neg]; congr 1; grind
theorem gSide_or (a b c : GY) : (gSide a b c).1 = -1 ∨ (gSide a b c).1 = 0 ∨ (gSide a b c).1 = 1 := by
  unfold gSide
  split
  · dsimp only
    rcases sign_cases (gCross (gSub b a).1 (gSub c a).1).1.z with ⟨_, h⟩ | ⟨_, h⟩ | ⟨_, h⟩ <;> rw [h] <;> simp
  · exact .inr (.inl rfl)
theorem side_or (o p q : Option GY) : (x3 0 gSide o p q).1 = -1 ∨ (x3 0 gSide o p q).1 = 0 ∨ (x3 0 gSide o p q).1 = 1 := by
  cases o with
  | none => cases p <;> cases q <;> exact .inr (.inl rfl)
  | some A =>
    cases p with
    | none => cases q <;> exact .inr (.inl rfl)
    | some B =>
      cases q with
      | none => exact .inr (.inl rfl)
      | some C => exact gSide_or A B C
end Go.Proofs.YtgcifpjhhoalmaaDoor
