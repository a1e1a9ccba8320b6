/- Floats around a Dyad: plain arithmetic, no program in sight. -/
import Derived.Test.YtppebjnmollojaaGreatDoorV1
import Derived.Test.YtppebjnmollojaaGreatDoorBC
namespace Go.Proofs.YtppebjnmollojaaGreatDoor
open Go Go.RowKit Go.PlainAid Fil

theorem fr_word {n : Bool} {r : Nat} (h : r < 9223372036854775808) : fr (Ieee.double.word n r) = r := by
  cases n
  · rw [d_word_f]; unfold fr; omega
  · rw [d_word_t]; unfold fr; omega
theorem word_lt {n : Bool} {r : Nat} (h : r < 9223372036854775808) : Ieee.double.word n r < 18446744073709551616 := by
  cases n
  · rw [d_word_f]; omega
  · rw [d_word_t]; omega
theorem W_sz (n : Bool) (x : Nat) (e : Int) : W (sz n x) e = sz n (mg x e) := by unfold W mg; exact sz_shl n x _
theorem fl_mg {b : Nat} : mg (flM b) (flE b) = mv (fr b) * uN ∨ flQ b = 2047 := by
  by_cases hi : flQ b = 2047
  · exact .inr hi
  left
  have hq := flQ_lt b
  by_cases h0 : flQ b = 0
  · have hm : flM b = b % 4503599627370496 := if_pos h0
    have he : flE b = -1074 := by unfold flE; rw [if_pos h0]; rfl
    have hr : fr b = b % 4503599627370496 := by unfold flQ at h0; unfold fr; omega
    have h1 := mv_unit (m := b % 4503599627370496) (q := -1074) (by omega) (by omega) (by omega)
    rw [show ((-1074 : Int) + 1074).toNat * 4503599627370496 + b % 4503599627370496 = fr b by omega] at h1
    rw [h1]; unfold mg; rw [hm, he]
  · have hm : flM b = b % 4503599627370496 + 4503599627370496 := if_neg h0
    have he : flE b = (flQ b : Int) - 1075 := by unfold flE; rw [if_neg h0]
    have hr : fr b = flQ b * 4503599627370496 + b % 4503599627370496 := by unfold flQ; unfold fr; omega
    have h1 := mv_unit (m := b % 4503599627370496 + 4503599627370496) (q := (flQ b : Int) - 1075) (by omega) (by omega) (by omega)
    rw [show ((flQ b : Int) - 1075 + 1074).toNat * 4503599627370496 + (b % 4503599627370496 + 4503599627370496) = fr b by omega] at h1
    rw [h1]; unfold mg; rw [hm, he]
theorem fl_mg' {b : Nat} (h : flQ b ≠ 2047) : mg (flM b) (flE b) = mv (fr b) * uN := fl_mg.resolve_right h
theorem flQ_fin {b : Nat} (h : fr b < 9218868437227405312) : flQ b ≠ 2047 := fun e => by have := flQ_inf.1 e; omega
theorem fr_fin {b : Nat} (h : flQ b ≠ 2047) : fr b < 9218868437227405312 := by
  rcases Nat.lt_or_ge (fr b) 9218868437227405312 with h1 | h1
  · exact h1
  · exact absurd (flQ_inf.2 h1) h
theorem okD.lo {n : Bool} {x : Nat} {e : Int} (h : okD n x e) : -(lowM : Int) ≤ e := by have h1 := h.e1; have := lowM_ge; omega

theorem nearF_eq {n : Bool} {x : Nat} {e : Int} (h : x ≠ 0) : nearF n x e = Ieee.double.word n (rgN x e) := if_neg h
theorem okD.rung {n : Bool} {x : Nat} {e : Int} (h : okD n x e) (hx : x ≠ 0) : Rung x e := Go.Proofs.YtppebjnmollojaaGreatDoor.rung hx h.lo
theorem rgN_le {x : Nat} {e : Int} (R : Rung x e) : rgN x e ≤ 9218868437227405312 := by
  have := R.lt; rcases rgN_or R with h | h <;> omega
theorem sz_inj {n m : Bool} {x y : Nat} (h : sz n x = sz m y) (hx : x ≠ 0) : n = m ∧ x = y := by
  unfold sz at h
  cases n <;> cases m <;> simp at h ⊢ <;> omega
/-- the Dyad of a float -/
def flY (b : Nat) : DY := mkD (sz (fs b) (flM b)) (flE b)
theorem flY_ok (b : Nat) : (flY b).ok := mkD_ok _ _
theorem flE_lo (b : Nat) : -(lowM : Int) ≤ flE b := by have h1 := flE_bd b; have := lowM_ge; omega
theorem flY_v {b : Nat} (h : flQ b ≠ 2047) : (flY b).v = sz (fs b) (mv (fr b) * uN) := by
  unfold flY
  rw [mkD_v (fl_ok h) (flE_lo b), W_sz, fl_mg' h]
end Go.Proofs.YtppebjnmollojaaGreatDoor
