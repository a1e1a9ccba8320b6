/- Proved: filigreelaw04.RatioFloors returns true for every input and leaves its arguments as they were. Conditions: none. -/
import Derived.Test.YtbfnafcpjbdbpaaGreatUE
import Derived.Test.YtbfnafcpjbdbpaaGreatKa
namespace Go.Proofs.YtbfnafcpjbdbpaaGreat
open Go Go.RowKit Go.PlainAid Fil Go.ChangeShapes Go.WideShapes Go.ChangeAt

set_option maxRecDepth 100000 in
theorem ratioFloors_lifted (os : Os) (started : os.Started) (H : Type) (enc : TypeId × Value → H) :
    ReturnsInHanded {} Tryz.checked os 5 .any (Rows.ratioFloorsSpec.pre6 enc Tryz.prog Tryz.f5 Rows.ratioFloorsRow.domain false) (Rows.ratioFloorsSpec.post enc Tryz.prog Tryz.f5 false true false false) := by
  refine returnsInHanded_of_change (C := Tryz.checked) own started (by kernel_rfl) Tryz.func5
    (ChangeSpec.witness6 (enc := enc) (C := Tryz.checked) false ⟨#[], #[.agg #[.bool false, .string { data := #[] }, .string { data := #[] }]], []⟩ 8 (by kernel_rfl) (by kernel_rfl) (by kernel_rfl) (by kernel_rfl)) ?_
  intro W base args ds gs before hval0 hW _ _
  have hval : ∀ (j : Nat) t v, Tryz.f5.params[j]? = some t → args[j]? = some v → Value.okWide Tryz.prog W .any base t v := hval0
  have hW' := hW
  obtain ⟨p, q, hA0, hV, rfl, _, _⟩ := hW
  have hA : DataW.TrodAll enc Tryz.prog W 0 (fun _ => true) true Tryz.f5.params.toList args.toList ds p := hA0
  rw [Tryz.params5] at hA hval
  obtain ⟨v0, d0, rfl, rfl, h0⟩ := trodAll_one hA
  obtain ⟨rfl, rfl⟩ := trodVars_none hV
  obtain ⟨n0, s0, t0, rfl, rfl, rfl, hs0, ht0⟩ := open_ratio (hval 0 24 v0 rfl rfl) h0
  simp only [List.append_nil] at hW'
  refine (ratioFloors_any n0 s0 t0 W (by unfold maxLen at hs0; omega) (by unfold maxLen at ht0; omega)).mono fun r W' ⟨hr, hb⟩ => ?_
  subst hr
  exact ⟨_, rfl, _, _, _, [], [], [], hW', trodAll_mk1 (shut_bool Tryz.underlying4 _), trodAll_mk1 (shut_ratio n0 s0 t0 hs0 ht0), rfl, hb.frame _, fun h => by cases h⟩

theorem ratioFloors_holds : Rows.RatioFloorsSaid :=
  OpenClaim.holds_of_wide 5 Tryz.f5 rfl rfl rfl rfl rfl rfl rfl ⟨rfl, rfl, rfl, rfl, rfl⟩ rfl rfl rfl rfl rfl (by kernel_rfl) Tryz.func5 (by kernel_rfl)
    (of_decide_eq_true (by kernel_rfl)) (by unfold Func.isWrapper; first | (rw [if_pos (by decide +kernel)]; kernel_rfl) | (rw [if_neg (by decide +kernel)]; exact ⟨rfl, rfl⟩))
    (fun os started H enc _ => ratioFloors_lifted os started H enc)
#print axioms ratioFloors_holds
end Go.Proofs.YtbfnafcpjbdbpaaGreat
