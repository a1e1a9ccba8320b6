/- wide.Int.GCD; ratio.May. -/
import Derived.Test.YtjldfclncipbgaaGreatDoorJC
namespace Go.Proofs.YtjldfclncipbgaaGreatDoor
open Go Go.RowKit Go.PlainAid Fil

theorem natB_bstr {x : Nat} (h : Fil.dn 8 x ≤ 16384) : natB (bstr x) = true := by
  unfold natB
  rw [bstr_size]
  by_cases hx : x = 0
  · subst hx; rw [dn_zero]; rfl
  have hp := dn_pos (k := 8) hx
  rw [bstr_bt x 0 hp]
  have ht := dg_top (k := 8) (by omega) hx
  have d1 : decide (Fil.dn 8 x ≤ 16384) = true := decide_eq_true h
  have d2 : ((dg 8 x (Fil.dn 8 x - 1 - 0) : Int) == 0) = false := by rw [beq_eq_false_iff_ne, Nat.sub_zero]; omega
  rw [d1, d2]; simp
theorem nb_bstr (x : Nat) : nb (bstr x).toList = x := by rw [bstr_toList, nb_bs]
end Go.Proofs.YtjldfclncipbgaaGreatDoor
