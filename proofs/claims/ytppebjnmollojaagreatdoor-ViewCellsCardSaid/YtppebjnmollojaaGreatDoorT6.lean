/- Proved: filigreelaw24.ViewCells returns true for every input and leaves its arguments as they were. Conditions: none beyond the given card (the listed table is tied to the text). -/
import Derived.Test.YtppebjnmollojaaGreatDoorT5
import Derived.Test.YtppebjnmollojaaGreatDoorQW
import Derived.Test.YtppebjnmollojaaGreatDoorCards
import Derived.Test.YtppebjnmollojaaGreatDoorTie
import Derived.SevenTiedAt
namespace Go.Proofs.YtppebjnmollojaaGreatDoor
open Go Go.RowKit Go.PlainAid Fil Go.ChangeShapes Go.WideShapes Go.ChangeAt

set_option maxRecDepth 100000 in
theorem viewCells_lifted (os : Os) (started : os.Started) (H : Type) (enc : TypeId × Value → H) :
    ReturnsInHanded {} Tryz.checked os 3 .any (fun w args => (Rows.viewCellsSpec.pre enc Tryz.prog Tryz.f3 [] false w args ∧ laidMetH Tryz.prog laidL w) ∧ sizedMet enc Tryz.prog Tryz.f3 (OpenSpec.ofChange Rows.viewCellsSpec) false w args)
      (Rows.viewCellsSpec.post enc Tryz.prog Tryz.f3 false true false false) := by
  refine returnsInHanded_of_change_and (C := Tryz.checked) (X := fun w _ => laidMetH Tryz.prog laidL w) (fun _ _ _ hh h => h.of_heap hh) own started (by kernel_rfl) Tryz.func3
    (ChangeSpec.witness_shaped (enc := enc) (C := Tryz.checked) (os := os) (X := fun w _ => laidMetH Tryz.prog laidL w) false (World.doorLaid Tryz.prog 200 os) #[.agg #[.bool false, .string { data := #[] }, .int .i64 0, .bool false, .string { data := #[] }, .int .i64 0, .int .i64 0, .int .i64 0, .int .i64 0], .int .i64 0, .int .i64 0, .agg #[.bool false, .string { data := #[] }, .int .i64 0, .bool false, .string { data := #[] }, .int .i64 0]] 8 rfl (World.shaped_of_RefB (by kernel_rfl) (by kernel_rfl)) (by kernel_rfl) (by kernel_rfl) (by kernel_rfl) (door_met os _)) ?_
  intro W base args ds gs before hval0 hW _ _ hL _
  have hval : ∀ (j : Nat) t v, Tryz.f3.params[j]? = some t → args[j]? = some v → Value.okWide Tryz.prog W .any base t v := hval0
  have hW' := hW
  obtain ⟨p, q, hA0, hV, rfl, _, _⟩ := hW
  have hA : DataW.TrodAll enc Tryz.prog W 0 (fun _ => true) true Tryz.f3.params.toList args.toList ds p := hA0
  rw [Tryz.params3] at hA hval
  obtain ⟨v0, v1, v2, v3, d0, d1, d2, d3, p0, p1, p2, p3, rfl, rfl, rfl, h0, h1, h2, h3⟩ := trodAll_four hA
  obtain ⟨rfl, rfl⟩ := trodVars_none hV
  obtain ⟨n0, s0, e0, m0, t0, f0, x0, y0, z0, rfl, rfl, rfl, hs0, he0, ht0, hf0, hx0, hy0, hz0⟩ := open_window (hval 0 28 v0 rfl rfl) h0
  obtain ⟨z1, rfl, rfl, rfl, wz1⟩ := open_int Tryz.underlying3 (hval 1 3 v1 rfl rfl) h1
  obtain ⟨z2, rfl, rfl, rfl, wz2⟩ := open_int Tryz.underlying3 (hval 2 3 v2 rfl rfl) h2
  obtain ⟨n3, s3, e3, m3, t3, f3, rfl, rfl, rfl, hs3, he3, ht3, hf3⟩ := open_gauss (hval 3 26 v3 rfl rfl) h3
  simp only [List.append_nil] at hW'
  refine (viewCells_any n0 s0 e0 m0 t0 f0 x0 y0 z0 z1 z2 n3 s3 e3 m3 t3 f3 W (tab_of_laid hL) (by unfold maxLen at hs0; omega) (by unfold maxLen at ht0; omega) (by unfold maxLen at hs3; omega) (by unfold maxLen at ht3; omega)).mono fun r W' ⟨hr, hb⟩ => ?_
  subst hr
  exact ⟨_, rfl, _, _, _, [], [], [], hW', trodAll_mk1 (shut_bool Tryz.underlying4 _), trodAll_mk4 (shut_window n0 s0 e0 m0 t0 f0 x0 y0 z0 hs0 he0 ht0 hf0 hx0 hy0 hz0) (shut_int Tryz.underlying3 wz1) (shut_int Tryz.underlying3 wz2) (shut_gauss n3 s3 e3 m3 t3 f3 hs3 he3 ht3 hf3), rfl, hb.frame _, fun h => by cases h⟩

theorem viewCells_holds : Rows.ViewCellsSaid :=
  OpenClaim.holds_of_wide 3 Tryz.f3 rfl rfl rfl rfl rfl rfl rfl ⟨rfl, rfl, rfl, rfl, rfl⟩ rfl rfl rfl rfl rfl (by kernel_rfl) Tryz.func3 (by kernel_rfl)
    (of_decide_eq_true (by kernel_rfl)) (by unfold Func.isWrapper; first | (rw [if_pos (by decide +kernel)]; kernel_rfl) | (rw [if_neg (by decide +kernel)]; exact ⟨rfl, rfl⟩))
    (fun os started H enc _ => viewCells_lifted os started H enc)
theorem viewCells_card : Rows.ViewCellsCardSaid :=
  Claim7.holds_tied_plain_at .later [] [.data] true (true, "899dabd3b516be9c2c9d71c924c6408accf46979a58243fd8f76298f16cdb0e2") true viewCells_holds (fun _ h => by cases h) (by kernel_rfl) (fun _ h => by cases h) viewCells_row_tie rfl ⟨rfl, rfl⟩ (by kernel_rfl) rfl
    (fun f fn hf hfn => by
      obtain rfl : f = 3 := Option.some.inj ((show Tryz.prog.funcNamed "filigree/filigreelaw24.ViewCells" = some 3 by kernel_rfl).symm.trans hf) |>.symm
      obtain rfl : fn = Tryz.f3 := (Option.some.inj (Tryz.func3.symm.trans hfn)).symm
      exact ⟨by kernel_rfl, fun j t ht => by
        rw [Tryz.params3] at ht
        have hm : t ∈ [28, 3, 3, 26] := by simpa using Array.mem_of_getElem? ht
        have hall : ([28, 3, 3, 26].all fun u => !Tryz.prog.wantsStandIn u) = true := by kernel_rfl
        exact (show Tryz.prog.wantsStandIn t = false by simpa using List.all_eq_true.1 hall t hm)⟩)
    (by kernel_rfl)
#print axioms viewCells_card
end Go.Proofs.YtppebjnmollojaaGreatDoor
