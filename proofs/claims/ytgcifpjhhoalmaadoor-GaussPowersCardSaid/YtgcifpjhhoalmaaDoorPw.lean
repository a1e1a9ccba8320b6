/- Proved: filigreelaw06.GaussPowers returns true for every input and leaves its arguments as they were. Conditions: none beyond the given card (the listed table is tied to the text). -/
import Derived.Test.YtgcifpjhhoalmaaDoorPx
import Derived.Test.YtgcifpjhhoalmaaDoorW7
import Derived.Test.YtgcifpjhhoalmaaDoorCards
import Derived.Test.YtgcifpjhhoalmaaDoorTie
import Derived.SevenTiedAt
namespace Go.Proofs.YtgcifpjhhoalmaaDoor
open Go Go.RowKit Go.PlainAid Fil Go.ChangeShapes Go.WideShapes Go.ChangeAt

set_option maxRecDepth 100000 in
theorem gaussPowers_lifted (os : Os) (started : os.Started) (H : Type) (enc : TypeId × Value → H) :
    ReturnsInHanded {} Tryd.checked os 14 .any (fun w args => (Rows.gaussPowersSpec.pre enc Tryd.prog Tryd.f14 [] false w args ∧ laidMetH Tryd.prog laidL w) ∧ sizedMet enc Tryd.prog Tryd.f14 (OpenSpec.ofChange Rows.gaussPowersSpec) false w args)
      (Rows.gaussPowersSpec.post enc Tryd.prog Tryd.f14 false true false false) := by
  refine returnsInHanded_of_change_and (C := Tryd.checked) (X := fun w _ => laidMetH Tryd.prog laidL w) (fun _ _ _ hh h => h.of_heap hh) own started (by kernel_rfl) Tryd.func14
    (ChangeSpec.witness_shaped (enc := enc) (C := Tryd.checked) (os := os) (X := fun w _ => laidMetH Tryd.prog laidL w) false (World.doorLaid Tryd.prog 200 os) #[.agg #[.bool false, .string { data := #[] }, .int .i64 0, .bool false, .string { data := #[] }, .int .i64 0], .int .i64 0, .slice none 0 0] 8 rfl (World.shaped_of_RefB (by kernel_rfl) (by kernel_rfl)) (by kernel_rfl) (by kernel_rfl) (by kernel_rfl) (door_met os _)) ?_
  intro W base args ds gs before hval0 hW _ hsz0 hL _
  have hval : ∀ (j : Nat) t v, Tryd.f14.params[j]? = some t → args[j]? = some v → Value.okWide Tryd.prog W .any base t v := hval0
  have hW' := hW
  obtain ⟨p, q, hA0, hV, rfl, _, _⟩ := hW
  have hA : DataW.TrodAll enc Tryd.prog W 0 (fun _ => true) true Tryd.f14.params.toList args.toList ds p := hA0
  rw [Tryd.params14] at hA hval hsz0
  obtain ⟨v0, v1, v2, d0, d1, d2, p0, p1, p2, rfl, rfl, rfl, h0, h1, h2⟩ := trodAll_three hA
  obtain ⟨rfl, rfl⟩ := trodVars_none hV
  obtain ⟨n0, s0, e0, m0, t0, f0, rfl, rfl, rfl, hs0, he0, ht0, hf0⟩ := open_gauss (hval 0 49 v0 rfl rfl) h0
  obtain ⟨z1, rfl, rfl, rfl, wz1⟩ := open_int Tryd.underlying3 (hval 1 3 v1 rfl rfl) h1
  have bz1 := bounds_i64 wz1
  obtain ⟨A2, l2, c2, G2, rfl, hd2, hy2, hf2⟩ := open_gausses (hval 2 90 v2 rfl rfl) h2
  have hl2 : l2 ≤ 2199023255551 := by
      rcases hd2 with h | ⟨xs, ys, h, hx⟩
      · omega
      · have h1 := sized_slice hsz0 (j := 2) (t := 90) (e := 49) rfl (by rw [h]; rfl) Tryd.underlying90
        rw [show Tryd.checked.prog.bytesOf 49 = 64 by kernel_rfl, hx] at h1
        have h2 := reachBytes_lt
        omega
  simp only [List.append_nil] at hW'
  have hlt9 := fun p hp => hW'.lt p hp
  refine (gaussPowers_any n0 s0 e0 m0 t0 f0 z1 A2 l2 c2 G2 W (tab_of_laid hL) (by unfold maxLen at hs0; omega) (by unfold maxLen at ht0; omega) bz1.1 bz1.2 hl2 hy2 hf2).mono fun r W' ⟨hr, hb⟩ => ?_
  subst hr
  exact ⟨_, rfl, _, _, _, [], _, [], hW', trodAll_mk1 (shut_bool Tryd.underlying4 _), trodAll_mk3 (shut_gauss n0 s0 e0 m0 t0 f0 hs0 he0 ht0 hf0) (shut_int Tryd.underlying3 wz1) (Below.trod (by kernel_rfl) (by kernel_rfl) (of_decide_eq_true (by kernel_rfl)) h2 hb (fun x hx => hlt9 x (by simp [hx]))), rfl, hb.frame _, fun h => by cases h⟩

theorem gaussPowers_holds : Rows.GaussPowersSaid :=
  OpenClaim.holds_of_wide 14 Tryd.f14 rfl rfl rfl rfl rfl rfl rfl ⟨rfl, rfl, rfl, rfl, rfl⟩ rfl rfl rfl rfl rfl (by kernel_rfl) Tryd.func14 (by kernel_rfl)
    (of_decide_eq_true (by kernel_rfl)) (by unfold Func.isWrapper; first | (rw [if_pos (by decide +kernel)]; kernel_rfl) | (rw [if_neg (by decide +kernel)]; exact ⟨rfl, rfl⟩))
    (fun os started H enc _ => gaussPowers_lifted os started H enc)
theorem gaussPowers_card : Rows.GaussPowersCardSaid :=
  Claim7.holds_tied_plain_at .later [] [.data] true (true, "c5884272ada96e32379f88298dd218d14204c7acb7631cf9a7476009521fe0d6") false gaussPowers_holds (fun _ h => by cases h) (by kernel_rfl) (fun _ h => by cases h) gaussPowers_row_tie rfl ⟨rfl, rfl⟩ (by kernel_rfl) rfl
    (fun f fn hf hfn => by
      obtain rfl : f = 14 := Option.some.inj ((show Tryd.prog.funcNamed "filigree/filigreelaw06.GaussPowers" = some 14 by kernel_rfl).symm.trans hf) |>.symm
      obtain rfl : fn = Tryd.f14 := (Option.some.inj (Tryd.func14.symm.trans hfn)).symm
      exact ⟨by kernel_rfl, fun j t ht => by
        rw [Tryd.params14] at ht
        have hm : t ∈ [49, 3, 90] := by simpa using Array.mem_of_getElem? ht
        have hall : ([49, 3, 90].all fun u => !Tryd.prog.wantsStandIn u) = true := by kernel_rfl
        exact (show Tryd.prog.wantsStandIn t = false by simpa using List.all_eq_true.1 hall t hm)⟩)
    (by kernel_rfl)
#print axioms gaussPowers_card
end Go.Proofs.YtgcifpjhhoalmaaDoor
