/- Proved: filigreelaw04.RatioSums returns true for every input and leaves its arguments as they were. Conditions: none. -/
import Derived.Test.YtbfnafcpjbdbpaaGreatRD
import Derived.Test.YtbfnafcpjbdbpaaGreatKa
namespace Go.Proofs.YtbfnafcpjbdbpaaGreat
open Go Go.RowKit Go.PlainAid Fil Go.ChangeShapes Go.WideShapes Go.ChangeAt

set_option maxRecDepth 100000 in
theorem ratioSums_lifted (os : Os) (started : os.Started) (H : Type) (enc : TypeId × Value → H) :
    ReturnsInHanded {} Tryz.checked os 3 .any (Rows.ratioSumsSpec.pre6 enc Tryz.prog Tryz.f3 Rows.ratioSumsRow.domain false) (Rows.ratioSumsSpec.post enc Tryz.prog Tryz.f3 false true false false) := by
  refine returnsInHanded_of_change (C := Tryz.checked) own started (by kernel_rfl) Tryz.func3
    (ChangeSpec.witness6 (enc := enc) (C := Tryz.checked) false ⟨#[], #[.agg #[.bool false, .string { data := #[] }, .string { data := #[] }], .agg #[.bool false, .string { data := #[] }, .string { data := #[] }]], []⟩ 8 (by kernel_rfl) (by kernel_rfl) (by kernel_rfl) (by kernel_rfl)) ?_
  intro W base args ds gs before hval0 hW _ _
  have hval : ∀ (j : Nat) t v, Tryz.f3.params[j]? = some t → args[j]? = some v → Value.okWide Tryz.prog W .any base t v := hval0
  have hW' := hW
  obtain ⟨p, q, hA0, hV, rfl, _, _⟩ := hW
  have hA : DataW.TrodAll enc Tryz.prog W 0 (fun _ => true) true Tryz.f3.params.toList args.toList ds p := hA0
  rw [Tryz.params3] at hA hval
  obtain ⟨v0, v1, d0, d1, p0, p1, rfl, rfl, rfl, h0, h1⟩ := trodAll_two hA
  obtain ⟨rfl, rfl⟩ := trodVars_none hV
  obtain ⟨n0, s0, t0, rfl, rfl, rfl, hs0, ht0⟩ := open_ratio (hval 0 24 v0 rfl rfl) h0
  obtain ⟨n1, s1, t1, rfl, rfl, rfl, hs1, ht1⟩ := open_ratio (hval 1 24 v1 rfl rfl) h1
  simp only [List.append_nil] at hW'
  refine (ratioSums_any n0 s0 t0 n1 s1 t1 W (by unfold maxLen at hs0; omega) (by unfold maxLen at ht0; omega) (by unfold maxLen at hs1; omega) (by unfold maxLen at ht1; omega)).mono fun r W' ⟨hr, hb⟩ => ?_
  subst hr
  exact ⟨_, rfl, _, _, _, [], [], [], hW', trodAll_mk1 (shut_bool Tryz.underlying4 _), trodAll_mk2 (shut_ratio n0 s0 t0 hs0 ht0) (shut_ratio n1 s1 t1 hs1 ht1), rfl, hb.frame _, fun h => by cases h⟩

theorem ratioSums_holds : Rows.RatioSumsSaid :=
  OpenClaim.holds_of_wide 3 Tryz.f3 rfl rfl rfl rfl rfl rfl rfl ⟨rfl, rfl, rfl, rfl, rfl⟩ rfl rfl rfl rfl rfl (by kernel_rfl) Tryz.func3 (by kernel_rfl)
    (of_decide_eq_true (by kernel_rfl)) (by unfold Func.isWrapper; first | (rw [if_pos (by decide +kernel)]; kernel_rfl) | (rw [if_neg (by decide +kernel)]; exact ⟨rfl, rfl⟩))
    (fun os started H enc _ => ratioSums_lifted os started H enc)
#print axioms ratioSums_holds
end Go.Proofs.YtbfnafcpjbdbpaaGreat
