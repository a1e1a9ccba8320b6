/- Proved: filigreelaw04.RatioMakes returns true for every input and leaves its arguments as they were. Conditions: none beyond the given card (the listed table is tied to the text). -/
import Derived.Test.YtbfnafcpjbdbpaaGreatDoorRM
import Derived.Test.YtbfnafcpjbdbpaaGreatDoorRN
import Derived.Test.YtbfnafcpjbdbpaaGreatDoorCards
import Derived.Test.YtbfnafcpjbdbpaaGreatDoorTie
import Derived.SevenTiedAt
namespace Go.Proofs.YtbfnafcpjbdbpaaGreatDoor
open Go Go.RowKit Go.PlainAid Fil Go.ChangeShapes Go.WideShapes Go.ChangeAt

set_option maxRecDepth 100000 in
theorem ratioMakes_lifted (os : Os) (started : os.Started) (H : Type) (enc : TypeId × Value → H) :
    ReturnsInHanded {} Tryz.checked os 3 .any (fun w args => (Rows.ratioMakesSpec.pre enc Tryz.prog Tryz.f3 [] false w args ∧ laidMetH Tryz.prog laidL w) ∧ sizedMet enc Tryz.prog Tryz.f3 (OpenSpec.ofChange Rows.ratioMakesSpec) false w args)
      (Rows.ratioMakesSpec.post enc Tryz.prog Tryz.f3 false true false false) := by
  refine returnsInHanded_of_change_and (C := Tryz.checked) (X := fun w _ => laidMetH Tryz.prog laidL w) (fun _ _ _ hh h => h.of_heap hh) own started (by kernel_rfl) Tryz.func3
    (ChangeSpec.witness_shaped (enc := enc) (C := Tryz.checked) (os := os) (X := fun w _ => laidMetH Tryz.prog laidL w) false (World.doorLaid Tryz.prog 200 os) #[.agg #[.bool false, .string { data := #[] }, .string { data := #[] }], .bool false, .string { data := #[] }, .string { data := #[] }, .int .i64 0, .agg #[.bool false, .string { data := #[] }, .int .i64 0]] 8 rfl (World.shaped_of_RefB (by kernel_rfl) (by kernel_rfl)) (by kernel_rfl) (by kernel_rfl) (by kernel_rfl) (door_met os _)) ?_
  intro W base args ds gs before hval0 hW _ _ hL _
  have hval : ∀ (j : Nat) t v, Tryz.f3.params[j]? = some t → args[j]? = some v → Value.okWide Tryz.prog W .any base t v := hval0
  have hW' := hW
  obtain ⟨p, q, hA0, hV, rfl, _, _⟩ := hW
  have hA : DataW.TrodAll enc Tryz.prog W 0 (fun _ => true) true Tryz.f3.params.toList args.toList ds p := hA0
  rw [Tryz.params3] at hA hval
  obtain ⟨v0, vs0, d0, ds0, p0, q0, hargs, rfl, rfl, h0, r0⟩ := trodAll_cons hA
  obtain ⟨v1, vs1, d1, ds1, p1, q1, rfl, rfl, rfl, h1, r1⟩ := trodAll_cons r0
  obtain ⟨v2, vs2, d2, ds2, p2, q2, rfl, rfl, rfl, h2, r2⟩ := trodAll_cons r1
  obtain ⟨v3, vs3, d3, ds3, p3, q3, rfl, rfl, rfl, h3, r3⟩ := trodAll_cons r2
  obtain ⟨v4, vs4, d4, ds4, p4, q4, rfl, rfl, rfl, h4, r4⟩ := trodAll_cons r3
  obtain ⟨v5, vs5, d5, ds5, p5, q5, rfl, rfl, rfl, h5, r5⟩ := trodAll_cons r4
  obtain ⟨rfl, rfl, rfl⟩ := trodAll_nil r5
  obtain rfl : args = #[v0, v1, v2, v3, v4, v5] := by cases args; simp_all
  obtain ⟨rfl, rfl⟩ := trodVars_none hV
  obtain ⟨n0, s0, t0, rfl, rfl, rfl, hs0, ht0⟩ := open_ratio (hval 0 24 v0 rfl rfl) h0
  obtain ⟨b1, rfl, rfl, rfl⟩ := open_bool Tryz.underlying4 (hval 1 4 v1 rfl rfl) h1
  obtain ⟨s2, rfl, rfl, rfl, hs2⟩ := Go.ChangeMaps.open_string Tryz.underlying22 (hval 2 22 v2 rfl rfl) h2
  obtain ⟨s3, rfl, rfl, rfl, hs3⟩ := Go.ChangeMaps.open_string Tryz.underlying22 (hval 3 22 v3 rfl rfl) h3
  obtain ⟨z4, rfl, rfl, rfl, wz4⟩ := open_int Tryz.underlying2 (hval 4 2 v4 rfl rfl) h4
  have bz4 := bounds_i64 wz4
  obtain ⟨n5, s5, e5, rfl, rfl, rfl, hs5, he5⟩ := open_dyad (hval 5 26 v5 rfl rfl) h5
  simp only [List.append_nil] at hW'
  refine (ratioMakes_any n0 s0 t0 b1 s2 s3 z4 n5 s5 e5 W (tab_of_laid hL) (by unfold maxLen at hs0; omega) (by unfold maxLen at ht0; omega) (by unfold maxLen at hs2; omega) (by unfold maxLen at hs3; omega) bz4.1 bz4.2 (by unfold maxLen at hs5; omega)).mono fun r W' ⟨hr, hb⟩ => ?_
  subst hr
  exact ⟨_, rfl, _, _, _, [], [], [], hW', trodAll_mk1 (shut_bool Tryz.underlying4 _), trodAll_cons_mk (shut_ratio n0 s0 t0 hs0 ht0) (trodAll_cons_mk (shut_bool Tryz.underlying4 b1) (trodAll_mk4 (Go.ChangeMaps.shut_string Tryz.underlying22 hs2) (Go.ChangeMaps.shut_string Tryz.underlying22 hs3) (shut_int Tryz.underlying2 wz4) (shut_dyad n5 s5 e5 hs5 he5))), rfl, hb.frame _, fun h => by cases h⟩

theorem ratioMakes_holds : Rows.RatioMakesSaid :=
  OpenClaim.holds_of_wide 3 Tryz.f3 rfl rfl rfl rfl rfl rfl rfl ⟨rfl, rfl, rfl, rfl, rfl⟩ rfl rfl rfl rfl rfl (by kernel_rfl) Tryz.func3 (by kernel_rfl)
    (of_decide_eq_true (by kernel_rfl)) (by unfold Func.isWrapper; first | (rw [if_pos (by decide +kernel)]; kernel_rfl) | (rw [if_neg (by decide +kernel)]; exact ⟨rfl, rfl⟩))
    (fun os started H enc _ => ratioMakes_lifted os started H enc)
theorem ratioMakes_card : Rows.RatioMakesCardSaid :=
  Claim7.holds_tied_plain_at .later [] [.data] true (true, "e0cb42db7637b392d44ec02faf4a861cef7e9c137eb0454311aeb126c3632882") false ratioMakes_holds (fun _ h => by cases h) (by kernel_rfl) (fun _ h => by cases h) ratioMakes_row_tie rfl ⟨rfl, rfl⟩ (by kernel_rfl) rfl
    (fun f fn hf hfn => by
      obtain rfl : f = 3 := Option.some.inj ((show Tryz.prog.funcNamed "filigree/filigreelaw04.RatioMakes" = some 3 by kernel_rfl).symm.trans hf) |>.symm
      obtain rfl : fn = Tryz.f3 := (Option.some.inj (Tryz.func3.symm.trans hfn)).symm
      exact ⟨by kernel_rfl, fun j t ht => by
        rw [Tryz.params3] at ht
        have hm : t ∈ [24, 4, 22, 22, 2, 26] := by simpa using Array.mem_of_getElem? ht
        have hall : ([24, 4, 22, 22, 2, 26].all fun u => !Tryz.prog.wantsStandIn u) = true := by kernel_rfl
        exact (show Tryz.prog.wantsStandIn t = false by simpa using List.all_eq_true.1 hall t hm)⟩)
    (by kernel_rfl)
#print axioms ratioMakes_card
end Go.Proofs.YtbfnafcpjbdbpaaGreatDoor
