/- Proved: filigreelaw06.GaussRound returns true for every input and leaves its arguments as they were. Conditions: none beyond the given card (the listed table is tied to the text). -/
import Derived.Test.YtgcifpjhhoalmaaDoorPe
import Derived.Test.YtgcifpjhhoalmaaDoorRz
import Derived.Test.YtgcifpjhhoalmaaDoorCards
import Derived.Test.YtgcifpjhhoalmaaDoorTie
import Derived.SevenTiedAt
namespace Go.Proofs.YtgcifpjhhoalmaaDoor
open Go Go.RowKit Go.PlainAid Fil Go.ChangeShapes Go.WideShapes Go.ChangeAt

set_option maxRecDepth 100000 in
theorem gaussRound_lifted (os : Os) (started : os.Started) (H : Type) (enc : TypeId × Value → H) :
    ReturnsInHanded {} Tryd.checked os 15 .any (fun w args => (Rows.gaussRoundSpec.pre enc Tryd.prog Tryd.f15 [] false w args ∧ laidMetH Tryd.prog laidL w) ∧ sizedMet enc Tryd.prog Tryd.f15 (OpenSpec.ofChange Rows.gaussRoundSpec) false w args)
      (Rows.gaussRoundSpec.post enc Tryd.prog Tryd.f15 false true false false) := by
  refine returnsInHanded_of_change_and (C := Tryd.checked) (X := fun w _ => laidMetH Tryd.prog laidL w) (fun _ _ _ hh h => h.of_heap hh) own started (by kernel_rfl) Tryd.func15
    (ChangeSpec.witness_shaped (enc := enc) (C := Tryd.checked) (os := os) (X := fun w _ => laidMetH Tryd.prog laidL w) false (World.doorLaid Tryd.prog 200 os) #[.agg #[.bool false, .string { data := #[] }, .int .i64 0, .bool false, .string { data := #[] }, .int .i64 0], .agg #[.bool false, .string { data := #[] }, .int .i64 0, .bool false, .string { data := #[] }, .int .i64 0], .agg #[.bool false, .string { data := #[] }, .int .i64 0], .agg #[.bool false, .string { data := #[] }, .int .i64 0, .bool false, .string { data := #[] }, .int .i64 0], .agg #[.bool false, .string { data := #[] }, .int .i64 0]] 8 rfl (World.shaped_of_RefB (by kernel_rfl) (by kernel_rfl)) (by kernel_rfl) (by kernel_rfl) (by kernel_rfl) (door_met os _)) ?_
  intro W base args ds gs before hval0 hW _ _ hL _
  have hval : ∀ (j : Nat) t v, Tryd.f15.params[j]? = some t → args[j]? = some v → Value.okWide Tryd.prog W .any base t v := hval0
  have hW' := hW
  obtain ⟨p, q, hA0, hV, rfl, _, _⟩ := hW
  have hA : DataW.TrodAll enc Tryd.prog W 0 (fun _ => true) true Tryd.f15.params.toList args.toList ds p := hA0
  rw [Tryd.params15] at hA hval
  obtain ⟨v0, vs0, d0, ds0, p0, q0, hargs, rfl, rfl, h0, r0⟩ := trodAll_cons hA
  obtain ⟨v1, vs1, d1, ds1, p1, q1, rfl, rfl, rfl, h1, r1⟩ := trodAll_cons r0
  obtain ⟨v2, vs2, d2, ds2, p2, q2, rfl, rfl, rfl, h2, r2⟩ := trodAll_cons r1
  obtain ⟨v3, vs3, d3, ds3, p3, q3, rfl, rfl, rfl, h3, r3⟩ := trodAll_cons r2
  obtain ⟨v4, vs4, d4, ds4, p4, q4, rfl, rfl, rfl, h4, r4⟩ := trodAll_cons r3
  obtain ⟨rfl, rfl, rfl⟩ := trodAll_nil r4
  obtain rfl : args = #[v0, v1, v2, v3, v4] := by cases args; simp_all
  obtain ⟨rfl, rfl⟩ := trodVars_none hV
  obtain ⟨n0, s0, e0, m0, t0, f0, rfl, rfl, rfl, hs0, he0, ht0, hf0⟩ := open_gauss (hval 0 49 v0 rfl rfl) h0
  obtain ⟨n1, s1, e1, m1, t1, f1, rfl, rfl, rfl, hs1, he1, ht1, hf1⟩ := open_gauss (hval 1 49 v1 rfl rfl) h1
  obtain ⟨n2, s2, e2, rfl, rfl, rfl, hs2, he2⟩ := open_dyad (hval 2 24 v2 rfl rfl) h2
  obtain ⟨n3, s3, e3, m3, t3, f3, rfl, rfl, rfl, hs3, he3, ht3, hf3⟩ := open_gauss (hval 3 49 v3 rfl rfl) h3
  obtain ⟨n4, s4, e4, rfl, rfl, rfl, hs4, he4⟩ := open_dyad (hval 4 24 v4 rfl rfl) h4
  simp only [List.append_nil] at hW'
  refine (gaussRound_any n0 s0 e0 m0 t0 f0 n1 s1 e1 m1 t1 f1 n2 s2 e2 n3 s3 e3 m3 t3 f3 n4 s4 e4 W (tab_of_laid hL) (by unfold maxLen at hs0; omega) (by unfold maxLen at ht0; omega) (by unfold maxLen at hs1; omega) (by unfold maxLen at ht1; omega) (by unfold maxLen at hs2; omega) (by unfold maxLen at hs3; omega) (by unfold maxLen at ht3; omega) (by unfold maxLen at hs4; omega)).mono fun r W' ⟨hr, hb⟩ => ?_
  subst hr
  exact ⟨_, rfl, _, _, _, [], [], [], hW', trodAll_mk1 (shut_bool Tryd.underlying4 _), trodAll_cons_mk (shut_gauss n0 s0 e0 m0 t0 f0 hs0 he0 ht0 hf0) (trodAll_mk4 (shut_gauss n1 s1 e1 m1 t1 f1 hs1 he1 ht1 hf1) (shut_dyad n2 s2 e2 hs2 he2) (shut_gauss n3 s3 e3 m3 t3 f3 hs3 he3 ht3 hf3) (shut_dyad n4 s4 e4 hs4 he4)), rfl, hb.frame _, fun h => by cases h⟩

theorem gaussRound_holds : Rows.GaussRoundSaid :=
  OpenClaim.holds_of_wide 15 Tryd.f15 rfl rfl rfl rfl rfl rfl rfl ⟨rfl, rfl, rfl, rfl, rfl⟩ rfl rfl rfl rfl rfl (by kernel_rfl) Tryd.func15 (by kernel_rfl)
    (of_decide_eq_true (by kernel_rfl)) (by unfold Func.isWrapper; first | (rw [if_pos (by decide +kernel)]; kernel_rfl) | (rw [if_neg (by decide +kernel)]; exact ⟨rfl, rfl⟩))
    (fun os started H enc _ => gaussRound_lifted os started H enc)
theorem gaussRound_card : Rows.GaussRoundCardSaid :=
  Claim7.holds_tied_plain_at .later [] [.data] true (true, "c5884272ada96e32379f88298dd218d14204c7acb7631cf9a7476009521fe0d6") false gaussRound_holds (fun _ h => by cases h) (by kernel_rfl) (fun _ h => by cases h) gaussRound_row_tie rfl ⟨rfl, rfl⟩ (by kernel_rfl) rfl
    (fun f fn hf hfn => by
      obtain rfl : f = 15 := Option.some.inj ((show Tryd.prog.funcNamed "filigree/filigreelaw06.GaussRound" = some 15 by kernel_rfl).symm.trans hf) |>.symm
      obtain rfl : fn = Tryd.f15 := (Option.some.inj (Tryd.func15.symm.trans hfn)).symm
      exact ⟨by kernel_rfl, fun j t ht => by
        rw [Tryd.params15] at ht
        have hm : t ∈ [49, 49, 24, 49, 24] := by simpa using Array.mem_of_getElem? ht
        have hall : ([49, 49, 24, 49, 24].all fun u => !Tryd.prog.wantsStandIn u) = true := by kernel_rfl
        exact (show Tryd.prog.wantsStandIn t = false by simpa using List.all_eq_true.1 hall t hm)⟩)
    (by kernel_rfl)
#print axioms gaussRound_card
end Go.Proofs.YtgcifpjhhoalmaaDoor
