/- Proved: filigreelaw06.GaussField returns true for every input and leaves its arguments as they were. Conditions: none beyond the given card (the listed table is tied to the text). -/
import Derived.Test.YtgcifpjhhoalmaaDoorPe
import Derived.Test.YtgcifpjhhoalmaaDoorFz
import Derived.Test.YtgcifpjhhoalmaaDoorCards
import Derived.Test.YtgcifpjhhoalmaaDoorTie
import Derived.SevenTiedAt
namespace Go.Proofs.YtgcifpjhhoalmaaDoor
open Go Go.RowKit Go.PlainAid Fil Go.ChangeShapes Go.WideShapes Go.ChangeAt

set_option maxRecDepth 100000 in
theorem gaussField_lifted (os : Os) (started : os.Started) (H : Type) (enc : TypeId × Value → H) :
    ReturnsInHanded {} Tryd.checked os 11 .any (fun w args => (Rows.gaussFieldSpec.pre enc Tryd.prog Tryd.f11 [] false w args ∧ laidMetH Tryd.prog laidL w) ∧ sizedMet enc Tryd.prog Tryd.f11 (OpenSpec.ofChange Rows.gaussFieldSpec) false w args)
      (Rows.gaussFieldSpec.post enc Tryd.prog Tryd.f11 false true false false) := by
  refine returnsInHanded_of_change_and (C := Tryd.checked) (X := fun w _ => laidMetH Tryd.prog laidL w) (fun _ _ _ hh h => h.of_heap hh) own started (by kernel_rfl) Tryd.func11
    (ChangeSpec.witness_shaped (enc := enc) (C := Tryd.checked) (os := os) (X := fun w _ => laidMetH Tryd.prog laidL w) false (World.doorLaid Tryd.prog 200 os) #[.agg #[.bool false, .string { data := #[] }, .int .i64 0, .bool false, .string { data := #[] }, .int .i64 0], .agg #[.bool false, .string { data := #[] }, .int .i64 0, .bool false, .string { data := #[] }, .int .i64 0], .agg #[.bool false, .string { data := #[] }, .int .i64 0, .bool false, .string { data := #[] }, .int .i64 0]] 8 rfl (World.shaped_of_RefB (by kernel_rfl) (by kernel_rfl)) (by kernel_rfl) (by kernel_rfl) (by kernel_rfl) (door_met os _)) ?_
  intro W base args ds gs before hval0 hW _ _ hL _
  have hval : ∀ (j : Nat) t v, Tryd.f11.params[j]? = some t → args[j]? = some v → Value.okWide Tryd.prog W .any base t v := hval0
  have hW' := hW
  obtain ⟨p, q, hA0, hV, rfl, _, _⟩ := hW
  have hA : DataW.TrodAll enc Tryd.prog W 0 (fun _ => true) true Tryd.f11.params.toList args.toList ds p := hA0
  rw [Tryd.params11] at hA hval
  obtain ⟨v0, v1, v2, d0, d1, d2, p0, p1, p2, rfl, rfl, rfl, h0, h1, h2⟩ := trodAll_three hA
  obtain ⟨rfl, rfl⟩ := trodVars_none hV
  obtain ⟨n0, s0, e0, m0, t0, f0, rfl, rfl, rfl, hs0, he0, ht0, hf0⟩ := open_gauss (hval 0 49 v0 rfl rfl) h0
  obtain ⟨n1, s1, e1, m1, t1, f1, rfl, rfl, rfl, hs1, he1, ht1, hf1⟩ := open_gauss (hval 1 49 v1 rfl rfl) h1
  obtain ⟨n2, s2, e2, m2, t2, f2, rfl, rfl, rfl, hs2, he2, ht2, hf2⟩ := open_gauss (hval 2 49 v2 rfl rfl) h2
  simp only [List.append_nil] at hW'
  refine (gaussField_any n0 s0 e0 m0 t0 f0 n1 s1 e1 m1 t1 f1 n2 s2 e2 m2 t2 f2 W (tab_of_laid hL) (by unfold maxLen at hs0; omega) (by unfold maxLen at ht0; omega) (by unfold maxLen at hs1; omega) (by unfold maxLen at ht1; omega) (by unfold maxLen at hs2; omega) (by unfold maxLen at ht2; omega)).mono fun r W' ⟨hr, hb⟩ => ?_
  subst hr
  exact ⟨_, rfl, _, _, _, [], [], [], hW', trodAll_mk1 (shut_bool Tryd.underlying4 _), trodAll_mk3 (shut_gauss n0 s0 e0 m0 t0 f0 hs0 he0 ht0 hf0) (shut_gauss n1 s1 e1 m1 t1 f1 hs1 he1 ht1 hf1) (shut_gauss n2 s2 e2 m2 t2 f2 hs2 he2 ht2 hf2), rfl, hb.frame _, fun h => by cases h⟩

theorem gaussField_holds : Rows.GaussFieldSaid :=
  OpenClaim.holds_of_wide 11 Tryd.f11 rfl rfl rfl rfl rfl rfl rfl ⟨rfl, rfl, rfl, rfl, rfl⟩ rfl rfl rfl rfl rfl (by kernel_rfl) Tryd.func11 (by kernel_rfl)
    (of_decide_eq_true (by kernel_rfl)) (by unfold Func.isWrapper; first | (rw [if_pos (by decide +kernel)]; kernel_rfl) | (rw [if_neg (by decide +kernel)]; exact ⟨rfl, rfl⟩))
    (fun os started H enc _ => gaussField_lifted os started H enc)
theorem gaussField_card : Rows.GaussFieldCardSaid :=
  Claim7.holds_tied_plain_at .later [] [.data] true (true, "c5884272ada96e32379f88298dd218d14204c7acb7631cf9a7476009521fe0d6") false gaussField_holds (fun _ h => by cases h) (by kernel_rfl) (fun _ h => by cases h) gaussField_row_tie rfl ⟨rfl, rfl⟩ (by kernel_rfl) rfl
    (fun f fn hf hfn => by
      obtain rfl : f = 11 := Option.some.inj ((show Tryd.prog.funcNamed "filigree/filigreelaw06.GaussField" = some 11 by kernel_rfl).symm.trans hf) |>.symm
      obtain rfl : fn = Tryd.f11 := (Option.some.inj (Tryd.func11.symm.trans hfn)).symm
      exact ⟨by kernel_rfl, fun j t ht => by
        rw [Tryd.params11] at ht
        have hm : t ∈ [49, 49, 49] := by simpa using Array.mem_of_getElem? ht
        have hall : ([49, 49, 49].all fun u => !Tryd.prog.wantsStandIn u) = true := by kernel_rfl
        exact (show Tryd.prog.wantsStandIn t = false by simpa using List.all_eq_true.1 hall t hm)⟩)
    (by kernel_rfl)
#print axioms gaussField_card
end Go.Proofs.YtgcifpjhhoalmaaDoor
