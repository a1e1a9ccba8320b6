/- The walks over dyad.Make, the reference's Make and Of. -/
import Derived.Test.YtbfnafcpjbdbpaaGreatBJ
namespace Go.Proofs.YtbfnafcpjbdbpaaGreat
open Go Go.RowKit Go.PlainAid Fil

theorem natB_bstr2 {x : Nat} (h : Fil.dn 8 x ≤ 16384) : natB (bstr x) = true := by
  by_cases hx : x = 0
  · subst hx
    unfold natB
    rw [bstr_size, dn_zero]; rfl
  · have hp := dn_pos (k := 8) hx
    unfold natB
    rw [bstr_size, bstr_bt x 0 hp]
    have ht := dg_top (k := 8) (by omega) hx
    have d1 : decide (Fil.dn 8 x ≤ 16384) = true := decide_eq_true h
    have d2 : ((dg 8 x (Fil.dn 8 x - 1 - 0) : Int) == 0) = false := by
      rw [beq_eq_false_iff_ne, Nat.sub_zero]; omega
    rw [d1, d2]; simp
theorem nat_of_natB2 {s : ByteArray} (h : natB s = true) : ∃ x, s = bstr x ∧ Fil.dn 8 x ≤ 16384 := by
  by_cases h0 : s.size = 0
  · refine ⟨0, ?_, by rw [dn_zero]; omega⟩
    apply ByteArray.ext
    rw [Array.eq_empty_of_size_eq_zero h0]
    simp [bstr, bs_zero]
  · have hl : s.data.toList.length = s.size := Array.length_toList
    unfold natB at h
    simp only [Bool.and_eq_true, Bool.or_eq_true, decide_eq_true_eq, Bool.not_eq_true', beq_eq_false_iff_ne] at h
    have hc : cano s.data.toList := by
      intro hp h00
      rcases h.2 with h3 | h3
      · exact h0 h3
      · apply h3
        rw [bt_get (by omega)]
        have : s[0] = s.data.toList[0] := by simp [ByteArray.getElem_eq_getElem_data]
        rw [this, h00]; rfl
    have hb := bs_nb hc
    refine ⟨nb s.data.toList, ?_, ?_⟩
    · unfold bstr; rw [hb]
    · rw [dn_nb hc, hl]; exact h.1
theorem DyAt.but9 {w w' : World} {b p o : Nat} {neg : Bool} {s : ByteArray} {e : Int} (h : DyAt w b neg s e) (hw : But w w' p o) (hb : b ≠ p) : DyAt w' b neg s e := by
  have hk := hw.far b h.lt hb
  have c : ∀ i : Nat, w'.cell? ⟨b, i, none⟩ = w.cell? ⟨b, i, none⟩ := fun i => World.cell?_of_block (w := w) hk
  have f : ∀ i : Nat, w'.frozen? ⟨b, i, none⟩ = w.frozen? ⟨b, i, none⟩ := fun i => by unfold World.frozen?; rw [hk]
  exact ⟨(c 0).trans h.c0, (c 1).trans h.c1, (c 2).trans h.c2, (f 0).trans h.f0, (f 1).trans h.f1, (f 2).trans h.f2⟩
theorem bstr_le {x : Nat} (h : Fil.dn 8 x ≤ 16384) : (bstr x).size ≤ 9223372036854775807 := by rw [bstr_size]; omega

end Go.Proofs.YtbfnafcpjbdbpaaGreat
