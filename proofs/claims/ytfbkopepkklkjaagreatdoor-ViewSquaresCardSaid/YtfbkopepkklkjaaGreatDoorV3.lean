/- Merged: V1 V2 V3 -/
import Derived.Test.YtfbkopepkklkjaaGreatDoorBD
import Derived.Test.YtfbkopepkklkjaaGreatDoorBM
import Derived.Test.YtfbkopepkklkjaaGreatDoorBC

/- Rounding to floats by the number's magnitude: plain arithmetic, no program in sight. -/
namespace Go.Proofs.YtfbkopepkklkjaaGreatDoor
open Go Go.RowKit Go.PlainAid Fil

/-- the least place's unit, as a multiple of the low power's -/
def uN : Nat := 2 ^ (lowM - 1074)
/-- a magnitude as a multiple of the low power -/
def mg (x : Nat) (e : Int) : Nat := x * 2 ^ (e + lowM).toNat
theorem mv_unit {m : Nat} {q : Int} (h0 : -1074 ≤ q) (h1 : -1074 < q → 4503599627370496 ≤ m) (hm : m ≤ 9007199254740992) : mv ((q + 1074).toNat * 4503599627370496 + m) * uN = m * 2 ^ (q + lowM).toNat := by
  have hl := lowM_ge
  rw [mv_rung h0 h1 hm]
  unfold uN
  rw [Nat.mul_assoc, ← Nat.pow_add]
  congr 2
  omega
/-- all that is needed of the rungs -/
structure Rung (x : Nat) (e : Int) : Prop where
  lt : rgL x e < 9218868437227405312
  lo : mv (rgL x e) * uN ≤ mg x e
  hi : mg x e < mv (rgL x e + 1) * uN ∨ (rgL x e = 9218868437227405311 ∧ mv 9218868437227405312 * uN ≤ mg x e ∧ rgX x e = false ∧ rgN x e = 9218868437227405312)
  ex : rgX x e = true → mg x e = mv (rgL x e) * uN
  od : x % 2 = 1 → rgX x e = false → mg x e ≠ mv (rgL x e) * uN
  up : mg x e < mv (rgL x e + 1) * uN → (rgN x e = rgL x e + 1 ∧ ((mv (rgL x e) + mv (rgL x e + 1)) * uN < 2 * mg x e ∨ ((mv (rgL x e) + mv (rgL x e + 1)) * uN = 2 * mg x e ∧ rgL x e % 2 = 1))) ∨ (rgN x e = rgL x e ∧ ¬ ((mv (rgL x e) + mv (rgL x e + 1)) * uN < 2 * mg x e ∨ ((mv (rgL x e) + mv (rgL x e + 1)) * uN = 2 * mg x e ∧ rgL x e % 2 = 1)))
theorem mvu_le {r s : Nat} (h : r ≤ s) : mv r * uN ≤ mv s * uN := Nat.mul_le_mul_right _ (mv_le h)
end Go.Proofs.YtfbkopepkklkjaaGreatDoor

/- Floats around a Dyad: plain arithmetic, no program in sight. -/
namespace Go.Proofs.YtfbkopepkklkjaaGreatDoor
open Go Go.RowKit Go.PlainAid Fil

theorem W_sz (n : Bool) (x : Nat) (e : Int) : W (sz n x) e = sz n (mg x e) := by unfold W mg; exact sz_shl n x _
theorem fl_mg {b : Nat} : mg (flM b) (flE b) = mv (fr b) * uN ∨ flQ b = 2047 := by
  by_cases hi : flQ b = 2047
  · exact .inr hi
  left
  have hq := flQ_lt b
  by_cases h0 : flQ b = 0
  · have hm : flM b = b % 4503599627370496 := if_pos h0
    have he : flE b = -1074 := by unfold flE; rw [if_pos h0]; rfl
    have hr : fr b = b % 4503599627370496 := by unfold flQ at h0; unfold fr; omega
    have h1 := mv_unit (m := b % 4503599627370496) (q := -1074) (by omega) (by omega) (by omega)
    rw [show ((-1074 : Int) + 1074).toNat * 4503599627370496 + b % 4503599627370496 = fr b by omega] at h1
    rw [h1]; unfold mg; rw [hm, he]
  · have hm : flM b = b % 4503599627370496 + 4503599627370496 := if_neg h0
    have he : flE b = (flQ b : Int) - 1075 := by unfold flE; rw [if_neg h0]
    have hr : fr b = flQ b * 4503599627370496 + b % 4503599627370496 := by unfold flQ; unfold fr; omega
    have h1 := mv_unit (m := b % 4503599627370496 + 4503599627370496) (q := (flQ b : Int) - 1075) (by omega) (by omega) (by omega)
    rw [show ((flQ b : Int) - 1075 + 1074).toNat * 4503599627370496 + (b % 4503599627370496 + 4503599627370496) = fr b by omega] at h1
    rw [h1]; unfold mg; rw [hm, he]
theorem fl_mg' {b : Nat} (h : flQ b ≠ 2047) : mg (flM b) (flE b) = mv (fr b) * uN := fl_mg.resolve_right h
theorem flQ_fin {b : Nat} (h : fr b < 9218868437227405312) : flQ b ≠ 2047 := fun e => by have := flQ_inf.1 e; omega
theorem fr_fin {b : Nat} (h : flQ b ≠ 2047) : fr b < 9218868437227405312 := by
  rcases Nat.lt_or_ge (fr b) 9218868437227405312 with h1 | h1
  · exact h1
  · exact absurd (flQ_inf.2 h1) h
theorem okD.lo {n : Bool} {x : Nat} {e : Int} (h : okD n x e) : -(lowM : Int) ≤ e := by have h1 := h.e1; have := lowM_ge; omega

/-- the Dyad of a float -/
def flY (b : Nat) : DY := mkD (sz (fs b) (flM b)) (flE b)
theorem flY_ok (b : Nat) : (flY b).ok := mkD_ok _ _
theorem flE_lo (b : Nat) : -(lowM : Int) ≤ flE b := by have h1 := flE_bd b; have := lowM_ge; omega
theorem flY_v {b : Nat} (h : flQ b ≠ 2047) : (flY b).v = sz (fs b) (mv (fr b) * uN) := by
  unfold flY
  rw [mkD_v (fl_ok h) (flE_lo b), W_sz, fl_mg' h]
end Go.Proofs.YtfbkopepkklkjaaGreatDoor

/- Go's own sums and products are the exact ones, rounded: plain arithmetic, no program in sight. -/
namespace Go.Proofs.YtfbkopepkklkjaaGreatDoor
open Go Go.RowKit Go.PlainAid Fil

theorem read_fl {b : Nat} (h : flQ b ≠ 2047) : Ieee.double.read b = .number (fs b) (flM b) (flE b) := by
  have hf := fr_fin h
  unfold Ieee.Format.read
  rw [d_sign, d_binade, d_inf, d_least]
  have e : b % 9223372036854775808 = fr b := rfl
  have e2 : (b / 9223372036854775808 % 2 == 1) = fs b := rfl
  simp only [e, e2]
  have hq : flQ b = fr b / 4503599627370496 := flQ_fr b
  have hm : fr b % 4503599627370496 = b % 4503599627370496 := by unfold fr; omega
  by_cases h1 : fr b < 4503599627370496
  · rw [if_pos h1]
    have h0 : flQ b = 0 := by omega
    have e3 : flM b = fr b := by unfold flM; rw [if_pos h0]; omega
    have e4 : flE b = -1074 := by unfold flE; rw [if_pos h0]; rfl
    rw [e3, e4]
  · rw [if_neg h1, if_pos hf]
    have h0 : flQ b ≠ 0 := by omega
    have e3 : flM b = 4503599627370496 + fr b % 4503599627370496 := by unfold flM; rw [if_neg h0]; omega
    have e4 : flE b = -1074 + ((fr b / 4503599627370496 - 1 : Nat) : Int) := by unfold flE; rw [if_neg h0]; omega
    rw [e3, e4]
theorem signed_sz (s : Bool) (m k : Nat) : Ieee.signed s m k = sz s m * 2 ^ k := by
  unfold Ieee.signed
  rw [Nat.shiftLeft_eq, sz_shl]
  rfl
theorem sum_num (s t : Bool) (m n : Nat) (i j : Int) : (Ieee.Datum.number s m i).sum (.number t n j) = some (.number (if addZ (sz s m) i (sz t n) j = 0 then (s && t) else decide (addZ (sz s m) i (sz t n) j < 0)) (addZ (sz s m) i (sz t n) j).natAbs (min i j)) := by
  simp only [Ieee.Datum.sum, signed_sz, addZ]
  rfl
theorem flM_53 (b : Nat) : flM b < 2 ^ 53 := flM_lt b
theorem yMul_small {a b : DY} (ha : a.ok) (hb : b.ok) {za ea zb eb : Int} (va : a.v = W za ea) (vb : b.v = W zb eb) (hea : -(lowM : Int) ≤ ea) (heb : -(lowM : Int) ≤ eb) (hs : -(lowM : Int) ≤ ea + eb) (hk : mkOk (za * zb) (ea + eb) = true) :
    (yMul a b).2 = 0 ∧ (yMul a b).1.v = W (za * zb) (ea + eb) := by
  have h1 : W (a.z * b.z) (a.e + b.e) = W (za * zb) (ea + eb) := by
    refine pow_cancel ?_
    rw [W_mul _ _ ha.lo hb.lo (lo_sum ha hb), W_mul _ _ hea heb hs, ← va, ← vb]; rfl
  have h2 := mkOk_congr h1 (lo_sum ha hb) hs
  have h3 : (yMul a b).2 = 0 := mkR_ok (h2.trans hk)
  exact ⟨h3, (mkD_v (h2.trans hk) (lo_sum ha hb)).trans h1⟩
/-- an exact number's nearest float is Go's own -/
structure Goes (d : DY) (o : Nat) : Prop where
  ok : d.ok
  lt : o < 18446744073709551616
  fr : fr o ≤ 9218868437227405312
  fk : fk (nearF d.n d.x d.e) = fk o
  same : d.x ≠ 0 → nearF d.n d.x d.e = o
end Go.Proofs.YtfbkopepkklkjaaGreatDoor
