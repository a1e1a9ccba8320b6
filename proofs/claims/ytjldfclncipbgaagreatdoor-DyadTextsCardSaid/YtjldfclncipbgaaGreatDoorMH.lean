/- Decimal signs: the library's words (Lib.itoa, Lib.atoi) and mine (dtx, dval). -/
import Derived.Test.YtjldfclncipbgaaGreatDoorJ5
import Derived.Lib.Atoi
import Derived.Lib.AtoiBound
import Derived.Lib.ItoaLen
import Derived.Lib.ItoaMem
namespace Go.Proofs.YtjldfclncipbgaaGreatDoor
open Go Go.RowKit Go.PlainAid Fil

theorem dec_dtx (u : Nat) : Lib.decDigits u = dtx u := by
  induction u using Nat.strongRecOn with
  | ind u ih =>
    by_cases h : u < 10
    · rw [Lib.decDigits, dif_pos h]
      unfold dtx
      by_cases h0 : u = 0
      · subst h0; rfl
      · rw [if_neg h0, decs_pos h0, Nat.div_eq_of_lt h, decs_zero, Nat.mod_eq_of_lt h]; rfl
    · rw [Lib.decDigits, dif_neg h, ih (u / 10) (by omega)]
      unfold dtx
      rw [if_neg (by omega), if_neg (by omega), decs_pos (x := u) (by omega), List.reverse_cons]
/-- the text of a whole number -/
def itx (e : Int) : List UInt8 := (if e < 0 then [45] else []) ++ dtx e.natAbs
theorem itoa_itx (e : Int) : Lib.itoa e = itx e := by
  unfold Lib.itoa itx
  by_cases h : e < 0
  · rw [if_pos h, if_pos h, dec_dtx]; rfl
  · rw [if_neg h, if_neg h, dec_dtx, show e.toNat = e.natAbs by omega]; rfl
theorem digitVal_dec {c : UInt8} (h : isDec c = true) : Lib.digitVal c = some (c.toNat - 48) := by
  unfold Lib.digitVal
  exact if_pos (of_decide_eq_true h)
theorem decFrom_dval : ∀ (l : List UInt8) (n : Nat), allDec l → Lib.decFrom n l = some (dval n l) := by
  intro l
  induction l with
  | nil => intro n _; rw [dval_nil]; rfl
  | cons c r ih =>
    intro n h
    have h1 := digitVal_dec (h c (List.mem_cons_self ..))
    have h2 := ih (n * 10 + (c.toNat - 48)) (fun x hx => h x (List.mem_cons_of_mem _ hx))
    rw [dval_cons, Nat.mul_comm 10 n, ← h2]
    show (match Lib.digitVal c with | some d => Lib.decFrom (n * 10 + d) r | none => none) = _
    rw [h1]
theorem decNat_dtx (n : Nat) : Lib.decNat (dtx n) = some n := by
  have h1 := (dtx_bare n).1
  unfold Lib.decNat
  rw [if_neg (by simpa [List.isEmpty_iff] using h1), decFrom_dval _ _ (dtx_allDec n), dval_dtx]
theorem atoi_itx (e : Int) : Lib.atoi (itx e) = some e := by
  unfold itx
  by_cases h : e < 0
  · rw [if_pos h]
    show Lib.atoi (45 :: dtx e.natAbs) = _
    unfold Lib.atoi
    dsimp only
    rw [if_pos (by decide), decNat_dtx]
    show some (-(e.natAbs : Int)) = some e
    congr 1; omega
  · rw [if_neg h]
    have hd := decNat_dtx e.natAbs
    have ha := dtx_allDec e.natAbs
    cases hl : dtx e.natAbs with
    | nil => exact absurd hl (dtx_bare _).1
    | cons b r =>
      rw [hl] at hd ha
      have hb := of_decide_eq_true (ha b (List.mem_cons_self ..))
      have n1 : (b == 45) = false := by rw [beq_eq_false_iff_ne]; rintro rfl; have : (45 : UInt8).toNat = 45 := rfl; omega
      have n2 : (b == 43) = false := by rw [beq_eq_false_iff_ne]; rintro rfl; have : (43 : UInt8).toNat = 43 := rfl; omega
      rw [List.nil_append]
      unfold Lib.atoi
      dsimp only
      rw [n1, n2, hd]
      show some (e.natAbs : Int) = some e
      congr 1; omega
end Go.Proofs.YtjldfclncipbgaaGreatDoor
