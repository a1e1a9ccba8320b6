/- The walk over filigreelaw03.awake: it answers true. -/
import Derived.Test.YtgcifpjhhoalmaaDoorRc
namespace Go.Proofs.YtgcifpjhhoalmaaDoor
open Go Go.RowKit Go.PlainAid Fil

theorem bstr_three : bstr 3 = { data := #[3] } := by
  apply ByteArray.ext
  apply Array.ext'
  show bs 3 = [3]
  unfold bs
  rw [show Fil.dn 8 3 = 1 by rw [dn8_bl]; decide]
  rfl
theorem mk_12 : mkV 12 (-3) = dyR false 3 (-1) 0 := by
  have h := mkV_shl 3 2 (-3)
  rw [show (3 : Int) * 2 ^ 2 = 12 by decide, show (-3 : Int) + ((2 : Nat) : Int) = -1 by decide] at h
  rw [h]
  exact mkV_id (neg := false) (x := 3) (e := -1) (.inr ⟨by decide, by rw [dn8_bl]; decide, by omega, by omega⟩)
theorem ok_32 : okD false 3 (-1) := .inr ⟨by decide, by rw [dn8_bl]; decide, by omega, by omega⟩
theorem mk_6 : mkV (addZ (sz false 3) (-1) (sz false 3) (-1)) (min (-1) (-1)) = dyR false 3 0 0 := by
  have h := mkV_shl 3 1 (-1)
  rw [show (-1 : Int) + ((1 : Nat) : Int) = 0 by decide] at h
  rw [show addZ (sz false 3) (-1) (sz false 3) (-1) = 3 * 2 ^ 1 by decide, show min (-1 : Int) (-1) = -1 by decide, h]
  exact mkV_id (neg := false) (x := 3) (e := 0) ok_three

set_option maxHeartbeats 2000000 in
theorem awake_any (w : World) (hT : Tab w) : Calls Tryd.prog 24 #[] w fun r w' => r = .returned (.bool true) ∧ Below w.heap.size w w' := by
  have ho : ∀ W : World, Tab W → Calls Tryd.prog 52 #[.int .i64 12, .int .i64 (-3)] W fun r w' => r = .returned (.tuple #[.agg #[.bool false, .string { data := #[3] }, .int .i64 (-1)], .int .i64 0]) ∧ Below W.heap.size W w' := by
    intro W hW
    have h := dof_any 12 (-3) W hW (by omega) (by omega) (by omega) (by omega)
    rw [mk_12] at h
    unfold dyR at h
    rw [bstr_three] at h
    exact h
  have ha : ∀ W : World, Tab W → Calls Tryd.prog 51 #[.agg #[.bool false, .string { data := #[3] }, .int .i64 (-1)], .agg #[.bool false, .string { data := #[3] }, .int .i64 (-1)]] W fun r w' => r = .returned (.tuple #[.agg #[.bool false, .string { data := #[3] }, .int .i64 0], .int .i64 0]) ∧ Below W.heap.size W w' := by
    intro W hW
    have h := dadd_ok false 3 (-1) false 3 (-1) W ok_32 ok_32 hW
    rw [mk_6] at h
    unfold dyR at h
    rw [bstr_three] at h
    exact h
  have hn : ∀ W : World, Calls Tryd.prog 19 #[.agg #[.bool false, .string { data := #[3] }, .int .i64 0]] W fun r w' => r = .returned (.tuple #[.float .f64 4613937818241073152, .int .i64 0]) ∧ Below W.heap.size W w' := by
    intro W
    have h := near_three W
    rw [bstr_three] at h
    exact h
  have cc := fun (W w1 : World) hb => box_cells W false { data := #[3] } (-1) (w' := w1) hb
  have o1 : (FloatKind.f64.format.order 4613937818241073152 4613937818241073152 == some .eq) = true := by kernel_rfl
  go_enter Tryd.func24, Tryd.ntmps24
  go_wp2_with fail
  refine (ho _ hT).mono ?_
  rintro r w1 ⟨rfl, hb1⟩
  have hT1 := hT.below hb1
  go_wp2_with fail
  refine (ha _ (hT1.alloc _)).mono ?_
  rintro r w2 ⟨rfl, hb2⟩
  have hs2 := hb2.size
  go_wp2_with fail
  refine (hn _).mono ?_
  rintro r w3 ⟨rfl, hb3⟩
  have hb4 := hb2.trans ((Below.refl _ _).alloc hs2 (Obj.cells #[Value.bool false, Value.string { data := #[3] }, Value.int IntKind.i64 0] 24))
  have hb5 := hb4.trans (hb3.mono hb4.size)
  obtain ⟨c0, c1, c2⟩ := cc _ _ hb5
  have hB : Below w.heap.size w w3 := hb1.trans ((((Below.refl w1.heap.size w1).alloc (Nat.le_refl _) _).trans (hb5.mono (by simp))).mono hb1.size)
  clear hb1 hb2 hb3 hb4 hb5 cc hn ha ho hT hT1 hs2
  go_wp2
  go_ret
  exact ⟨rfl, hB⟩
end Go.Proofs.YtgcifpjhhoalmaaDoor
