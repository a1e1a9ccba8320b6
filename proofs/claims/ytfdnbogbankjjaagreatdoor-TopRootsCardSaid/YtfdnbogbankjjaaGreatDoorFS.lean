/- Floats that are numbers: what finite, May, Contracts and Certify say of them. -/
import Derived.Test.YtfdnbogbankjjaaGreatDoorFL
namespace Go.Proofs.YtfdnbogbankjjaaGreatDoor
open Go Go.RowKit Go.PlainAid Fil

/-- what a float may be worth -/
def Wd (X : FV) : Prop := ∃ b, Fl b X
/-- X is the finite number x -/
def Rl (X : FV) (x : Nat) : Prop := X = some x ∧ x < 18446744073709551616 ∧ fr x < 9218868437227405312
theorem Fl.wd {b : Nat} {X : FV} (h : Fl b X) : Wd X := ⟨b, h⟩
theorem Rl.fl {X : FV} {x : Nat} (h : Rl X x) : Fl x X := by
 obtain ⟨rfl, h1, h2⟩ := h
 exact fl_some h1 (by omega)
theorem wd_fop (op : BinOp) (X Y : FV) : Wd (fop op X Y) := by
 cases X with
 | none => exact ⟨nanB 0, nanB_fl 0⟩
 | some a =>
  cases Y with
  | none => exact ⟨nanB 0, nanB_fl 0⟩
  | some b =>
   show Wd (floatBits op .f64 a b)
   cases h : floatBits op .f64 a b with
   | none => exact ⟨nanB 0, nanB_fl 0⟩
   | some r =>
    obtain ⟨h1, h2⟩ := bits_fr h
    exact ⟨r, fl_some h2 h1⟩
theorem fsub_own {w : Nat} (h : fr w < 9218868437227405312) : Ieee.double.sub w w = some 0 := by
 obtain ⟨m, p, hr, _⟩ := read_num h
 unfold Ieee.Format.sub
 rw [hr]
 unfold Ieee.Datum.opposite Ieee.Datum.sum
 simp only [Int.min_self, Int.sub_self]
 have hz : Ieee.signed (fs w) m (Int.toNat 0) + Ieee.signed (!fs w) m (Int.toNat 0) = 0 := by
  unfold Ieee.signed; cases fs w <;> simp <;> omega
 rw [hz, if_pos rfl]
 show some (Ieee.double.nearest (fs w && !fs w) 0 p) = some 0
 unfold Ieee.Format.nearest
 rw [if_pos rfl]
 cases fs w <;> rfl
theorem fsub_inf {w : Nat} (h : fr w = 9218868437227405312) : Ieee.double.sub w w = none := by
 unfold Ieee.Format.sub
 rw [read_inf h]
 cases fs w <;> rfl
theorem Rl.sub {X : FV} {x : Nat} (h : Rl X x) : fop .sub X X = some 0 := by
 obtain ⟨rfl, _, h2⟩ := h
 exact fsub_own h2
theorem Rl.fin {X : FV} {x : Nat} (h : Rl X x) : fFin X = true := by
 simp only [fFin]
 rw [h.sub]
 decide
theorem fin_real {X : FV} (hX : Wd X) (h : fFin X = true) : ∃ x, Rl X x := by
 obtain ⟨b, hb⟩ := hX
 rcases hb.cases with ⟨_, rfl⟩ | ⟨k, rfl⟩
 ·exact absurd rfl (fFin_ne h)
 ·rcases Nat.lt_or_eq_of_le k with k | k
  ·exact ⟨b, rfl, hb.lt, k⟩
  ·exfalso
   simp only [fFin] at h
   have e : fop .sub (some b) (some b) = none := fsub_inf k
   rw [e] at h
   exact absurd h (by first | decide | simp)
theorem order_max {b : Nat} (h : b ≤ 9218868437227405312) : fgt (some b) (some 9218868437227405311) = decide (b = 9218868437227405312) := by
 show (Ieee.double.order b 9218868437227405311 == some .gt) = _
 rw [order_some (by unfold fr; omega) (by decide), show fk 9218868437227405311 = 9218868437227405311 by decide]
 have hf : fk b = (b : Int) := by unfold fk; rw [fs_lt (by omega), fr_lt (by omega)]; rfl
 rw [hf]
 by_cases e : b = 9218868437227405312
 ·rw [decide_eq_true e, e]; rfl
 ·rw [decide_eq_false e]
  rcases Nat.lt_or_ge b 9218868437227405311 with k | k
  ·rw [cmp_lt (by omega)]; rfl
  ·rw [show b = 9218868437227405311 by omega]; rfl
theorem inf_fr {b : Nat} (h : fr b ≤ 9218868437227405312) : fisinf (some b) = decide (fr b = 9218868437227405312) := order_max h
theorem cNaN_some {b : Nat} (h : fr b ≤ 9218868437227405312) : cNaN (some b) = false := by
 simp only [cNaN]
 have e : feq (some b) (some b) = true := by show (Ieee.double.order b b == some .eq) = true; rw [order_some h h]; simp
 rw [e]; rfl
theorem Rl.inf {X : FV} {x : Nat} (h : Rl X x) : cInf1 X = false := by
 obtain ⟨rfl, _, h2⟩ := h
 simp only [cInf1]
 rw [inf_fr (by omega), decide_eq_false (by omega)]; rfl
theorem Rl.nan {X : FV} {x : Nat} (h : Rl X x) : cNaN X = false := by
 obtain ⟨rfl, _, h2⟩ := h
 exact cNaN_some (by omega)
theorem real_cfin {Z : CV} {x y : Nat} (hx : Rl Z.1 x) (hy : Rl Z.2 y) : cFin Z = true := by
 have e : cKind Z = 0 := by
  simp only [cKind]
  rw [hx.inf, hy.inf, hx.nan, hy.nan]; rfl
 exact decide_eq_true e
theorem part_real {X : FV} (hX : Wd X) (h1 : cInf1 X = false) (h2 : cNaN X = false) : ∃ x, Rl X x := by
 obtain ⟨b, hb⟩ := hX
 rcases hb.cases with ⟨_, rfl⟩ | ⟨k, rfl⟩
 ·exact absurd h2 (by decide)
 ·refine ⟨b, rfl, hb.lt, ?_⟩
  rcases Nat.lt_or_eq_of_le k with k | k
  ·exact k
  ·simp only [cInf1] at h1
   rw [inf_fr (by omega), decide_eq_true k] at h1
   exact absurd h1 (by decide)
theorem cfin_real {Z : CV} (h1 : Wd Z.1) (h2 : Wd Z.2) (h : cFin Z = true) : ∃ x y, Rl Z.1 x ∧ Rl Z.2 y := by
 have hk := of_decide_eq_true h
 simp only [cKind] at hk
 cases a : cInf1 Z.1 <;> cases b : cInf1 Z.2 <;> cases c : cNaN Z.1 <;> cases d : cNaN Z.2 <;> rw [a, b, c, d] at hk <;> first | (exact absurd hk (by decide)) | skip
 obtain ⟨x, hx⟩ := part_real h1 a c
 obtain ⟨y, hy⟩ := part_real h2 b d
 exact ⟨x, y, hx, hy⟩
theorem rfin_cfin {Z : CV} (h : rFin Z = true) : cFin Z = true := by
 simp only [rFin] at h
 cases a : cFin (Z.1, Z.2)
 ·rw [a] at h
  cases b : (feq (fop .sub Z.1 Z.1) (fop .sub Z.1 Z.1) && feq (fop .sub Z.2 Z.2) (fop .sub Z.2 Z.2)) <;> rw [b] at h <;> exact absurd h (by first | decide | simp)
 ·rfl
theorem rfin_real {Z : CV} (h1 : Wd Z.1) (h2 : Wd Z.2) (h : rFin Z = true) : ∃ x y, Rl Z.1 x ∧ Rl Z.2 y := cfin_real h1 h2 (rfin_cfin h)
theorem real_rfin {Z : CV} {x y : Nat} (hx : Rl Z.1 x) (hy : Rl Z.2 y) : rFin Z = true := by
 simp only [rFin]
 rw [hx.sub, hy.sub, show cFin (Z.1, Z.2) = true from real_cfin hx hy]
 decide
theorem rl_zero : Rl (some 0) 0 := ⟨rfl, by decide, by decide⟩
theorem Rl.inf1 {X : FV} {x : Nat} (h : Rl X x) : fisinf1 X = false := by
 obtain ⟨rfl, h1, h2⟩ := h
 show (Ieee.double.order x 9218868437227405311 == some .gt) = false
 rw [order_some (by omega) (by decide), show fk 9218868437227405311 = 9218868437227405311 by decide]
 have hk : fk x ≤ 9218868437227405311 := by unfold fk; split <;> omega
 rcases Int.lt_or_eq_of_le hk with k | k
 ·rw [cmp_lt k]; rfl
 ·rw [k]; rfl
theorem real_bfin {Z : CV} {x y : Nat} (hx : Rl Z.1 x) (hy : Rl Z.2 y) : bFin Z = true := by
 simp only [bFin]
 rw [show cFin (Z.1, Z.2) = true from real_cfin hx hy]; rfl
theorem point_real {Z : CV} {x y : Nat} (hx : Rl Z.1 x) (hy : Rl Z.2 y) : bPoint Z = (Z, some 0) := by
 simp only [bPoint, bTold]
 rw [show bFin (Z.1, Z.2) = true from real_bfin hx hy, rl_zero.fin]; rfl
theorem may_point {Z : CV} {x y : Nat} (hx : Rl Z.1 x) (hy : Rl Z.2 y) : bMay (bPoint Z) = true := by
 rw [point_real hx hy]
 simp only [bMay]
 rw [rl_zero.inf1, show bFin (Z.1, Z.2) = true from real_bfin hx hy, rl_zero.fin]
 rfl
/-- a ball that is no whole sphere -/
structure GB (b : BV) (x y r : Nat) : Prop where
 x : Rl b.1.1 x
 y : Rl b.1.2 y
 r : Rl b.2 r
 s : fsb b.2 = false
theorem GB.may {b : BV} {x y r : Nat} (h : GB b x y r) : bMay b = true := by
 simp only [bMay]
 rw [h.r.inf1, show bFin (b.1.1, b.1.2) = true from real_bfin h.x h.y, h.r.fin, h.s]; rfl
theorem GB.not {b : BV} {x y r : Nat} (h : GB b x y r) : bIsWhole b = false := by
 simp only [bIsWhole]
 rw [show bMay ((b.1.1, b.1.2), b.2) = true from h.may, h.r.inf1]; rfl
theorem not_whole {b : BV} (w1 : Wd b.1.1) (w2 : Wd b.1.2) (w3 : Wd b.2) (h : bIsWhole b = false) : ∃ x y r, GB b x y r := by
 simp only [bIsWhole] at h
 have hm : bMay ((b.1.1, b.1.2), b.2) = true := by
  cases k : bMay ((b.1.1, b.1.2), b.2)
  ·rw [k] at h; exact absurd h (by first | decide | simp)
  ·rfl
 rw [hm] at h
 have hi : fisinf1 b.2 = false := by
  cases k : fisinf1 b.2
  ·rfl
  ·rw [k] at h; exact absurd h (by first | decide | simp)
 simp only [bMay] at hm
 rw [hi] at hm
 cases k1 : bFin (b.1.1, b.1.2)
 ·rw [k1] at hm; exact absurd hm (by first | decide | simp)
 ·rw [k1] at hm
  cases k2 : fFin b.2
  ·rw [k2] at hm; exact absurd hm (by first | decide | simp)
  ·rw [k2] at hm
   cases k3 : fsb b.2
   ·simp only [bFin] at k1
    have k4 : cFin (b.1.1, b.1.2) = true := by
     cases k : cFin (b.1.1, b.1.2)
     ·rw [k] at k1; exact absurd k1 (by first | decide | simp)
     ·rfl
    obtain ⟨x, y, hx, hy⟩ := cfin_real (Z := (b.1.1, b.1.2)) w1 w2 k4
    obtain ⟨r, hr⟩ := fin_real w3 k2
    exact ⟨x, y, r, hx, hy, hr, k3⟩
   ·rw [k3] at hm; exact absurd hm (by first | decide | simp)
theorem ceLoop_test {T : FV → Bool} : ∀ {k : Nat} {r R : FV}, ceLoop T k r = some R → T R = true
 | 0, r, R, h => by cases h
 | k + 1, r, R, h => by
  cases ht : T r
  ·have h2 : (bif T r then some r else ceLoop T k (fop .mul r (some 4616189618054758400))) = some R := h
   rw [ht] at h2
   exact ceLoop_test h2
  ·have h2 : (bif T r then some r else ceLoop T k (fop .mul r (some 4616189618054758400))) = some R := h
   rw [ht] at h2
   cases h2; exact ht
theorem test_parts {L : List CV} {Z : CV} {mv py : BV} {R : FV} (h : ceTest L Z mv py R = true) : bMay (Z, R) = true ∧ (bContracts mv (bSub (bPoint (some 4607182418800017408, some 0)) (bMul py (onF (slF L) (Z, R)))) R).2 = true := by
 unfold ceTest at h
 cases k : bMay (Z, R)
 ·rw [k] at h; exact absurd h (by first | decide | simp)
 ·rw [k] at h; exact ⟨rfl, h⟩
theorem ce_some {L : List CV} {Z : CV} {R : FV} (h : ceF L Z = some R) : rFin (cQuo (some 4607182418800017408, some 0) (atF (stF L) Z)) = true ∧ ceTest L Z (bNeg (bMul (bPoint (cQuo (some 4607182418800017408, some 0) (atF (stF L) Z))) (onF (ptsF L) (bPoint Z)))) (bPoint (cQuo (some 4607182418800017408, some 0) (atF (stF L) Z))) R = true := by
 simp only [ceF] at h
 cases a : rFin (atF (stF L) Z)
 ·rw [a] at h; cases h
 ·rw [a] at h
  cases b : rFin (cQuo (some 4607182418800017408, some 0) (atF (stF L) Z))
  ·rw [b] at h; cases h
  ·rw [b] at h
   cases c : (feq (atF (stF L) Z).1 (some 0) && feq (atF (stF L) Z).2 (some 0))
   ·rw [c] at h
    exact ⟨rfl, ceLoop_test h⟩
   ·rw [c] at h; cases h
theorem contracts_fin {a b : BV} {R : FV} (h : (bContracts a b R).2 = true) : fFin R = true := by
 simp only [bContracts] at h
 cases k : fFin R
 ·rw [k] at h; exact absurd h (by first | decide | simp)
 ·rfl
/-- the ball that Certify tells is no whole sphere -/
theorem ce_ball {L : List CV} {Z : CV} {R : FV} (h1 : Wd Z.1) (h2 : Wd Z.2) (h3 : Wd R) (h : ceF L Z = some R) : ∃ x y r, GB (Z, R) x y r := by
 obtain ⟨_, ht⟩ := ce_some h
 obtain ⟨hm, hc⟩ := test_parts ht
 obtain ⟨r, hr⟩ := fin_real h3 (contracts_fin hc)
 refine not_whole h1 h2 h3 ?_
 simp only [bIsWhole]
 rw [show bMay ((Z.1, Z.2), R) = true from hm, hr.inf1]; rfl
end Go.Proofs.YtfdnbogbankjjaaGreatDoor
