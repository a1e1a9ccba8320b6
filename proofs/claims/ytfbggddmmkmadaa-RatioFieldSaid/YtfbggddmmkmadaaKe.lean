/- Proved: filigreelaw04.RatioField returns true for every input and leaves its arguments as they were. Conditions: none. -/
import Derived.Test.YtfbggddmmkmadaaJZ
import Derived.Test.YtfbggddmmkmadaaKa
namespace Go.Proofs.Ytfbggddmmkmadaa
open Go Go.RowKit Go.PlainAid Fil Go.ChangeShapes Go.WideShapes Go.ChangeAt

set_option maxRecDepth 100000 in
theorem ratioField_lifted (os : Os) (started : os.Started) (H : Type) (enc : TypeId × Value → H) :
    ReturnsInHanded {} Try.checked os 4 .any (Rows.ratioFieldSpec.pre6 enc Try.prog Try.f4 Rows.ratioFieldRow.domain false) (Rows.ratioFieldSpec.post enc Try.prog Try.f4 false true false false) := by
  refine returnsInHanded_of_change (C := Try.checked) own started (by kernel_rfl) Try.func4
    (ChangeSpec.witness6 (enc := enc) (C := Try.checked) false ⟨#[], #[.agg #[.bool false, .string { data := #[] }, .string { data := #[] }], .agg #[.bool false, .string { data := #[] }, .string { data := #[] }], .agg #[.bool false, .string { data := #[] }, .string { data := #[] }]], []⟩ 8 (by kernel_rfl) (by kernel_rfl) (by kernel_rfl) (by kernel_rfl)) ?_
  intro W base args ds gs before hval0 hW _ _
  have hval : ∀ (j : Nat) t v, Try.f4.params[j]? = some t → args[j]? = some v → Value.okWide Try.prog W .any base t v := hval0
  have hW' := hW
  obtain ⟨p, q, hA0, hV, rfl, _, _⟩ := hW
  have hA : DataW.TrodAll enc Try.prog W 0 (fun _ => true) true Try.f4.params.toList args.toList ds p := hA0
  rw [Try.params4] at hA hval
  obtain ⟨v0, v1, v2, d0, d1, d2, p0, p1, p2, rfl, rfl, rfl, h0, h1, h2⟩ := trodAll_three hA
  obtain ⟨rfl, rfl⟩ := trodVars_none hV
  obtain ⟨n0, s0, t0, rfl, rfl, rfl, hs0, ht0⟩ := open_ratio (hval 0 25 v0 rfl rfl) h0
  obtain ⟨n1, s1, t1, rfl, rfl, rfl, hs1, ht1⟩ := open_ratio (hval 1 25 v1 rfl rfl) h1
  obtain ⟨n2, s2, t2, rfl, rfl, rfl, hs2, ht2⟩ := open_ratio (hval 2 25 v2 rfl rfl) h2
  simp only [List.append_nil] at hW'
  refine (ratioField_any n0 s0 t0 n1 s1 t1 n2 s2 t2 W (by unfold maxLen at hs0; omega) (by unfold maxLen at ht0; omega) (by unfold maxLen at hs1; omega) (by unfold maxLen at ht1; omega) (by unfold maxLen at hs2; omega) (by unfold maxLen at ht2; omega)).mono fun r W' ⟨hr, hb⟩ => ?_
  subst hr
  exact ⟨_, rfl, _, _, _, [], [], [], hW', trodAll_mk1 (shut_bool Try.underlying4 _), trodAll_mk3 (shut_ratio n0 s0 t0 hs0 ht0) (shut_ratio n1 s1 t1 hs1 ht1) (shut_ratio n2 s2 t2 hs2 ht2), rfl, hb.frame _, fun h => by cases h⟩

theorem ratioField_holds : Rows.RatioFieldSaid :=
  OpenClaim.holds_of_wide 4 Try.f4 rfl rfl rfl rfl rfl rfl rfl ⟨rfl, rfl, rfl, rfl, rfl⟩ rfl rfl rfl rfl rfl (by kernel_rfl) Try.func4 (by kernel_rfl)
    (of_decide_eq_true (by kernel_rfl)) (by unfold Func.isWrapper; first | (rw [if_pos (by decide +kernel)]; kernel_rfl) | (rw [if_neg (by decide +kernel)]; exact ⟨rfl, rfl⟩))
    (fun os started H enc _ => ratioField_lifted os started H enc)
#print axioms ratioField_holds
end Go.Proofs.Ytfbggddmmkmadaa
