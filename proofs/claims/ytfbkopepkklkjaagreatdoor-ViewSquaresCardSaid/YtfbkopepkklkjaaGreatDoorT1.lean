/- The reference of layer 24: side, May, on, below, Cell. -/
import Derived.Test.YtfbkopepkklkjaaGreatDoorQ3
import Derived.Test.YtfbkopepkklkjaaGreatDoorG3
import Derived.Test.YtfbkopepkklkjaaGreatDoorH4
import Derived.Test.YtfbkopepkklkjaaGreatDoorBM
namespace Go.Proofs.YtfbkopepkklkjaaGreatDoor
open Go Go.RowKit Go.PlainAid Fil

theorem rside_any (e : Int) (w : World) : Calls Tryz.prog 27 #[.int .i64 e] w fun r w' => r = .returned (.bool (sideB e)) ∧ Below w.heap.size w w' := by
  have B0 := Below.refl w.heap.size w
  unfold sideB
  by_cases h1 : -4096 ≤ e
  · by_cases h2 : e ≤ 4096
    · rw [decide_eq_true h1, decide_eq_true h2]
      go_enter Tryz.func27, Tryz.ntmps27
      go_wp2
      go_ret
      exact ⟨rfl, B0⟩
    · rw [decide_eq_true h1, decide_eq_false h2]
      go_enter Tryz.func27, Tryz.ntmps27
      go_wp2
      go_ret
      exact ⟨rfl, B0⟩
  · rw [decide_eq_false h1, Bool.false_and]
    go_enter Tryz.func27, Tryz.ntmps27
    go_wp2
    go_ret
    exact ⟨rfl, B0⟩
theorem rcof (z f : Int) (w : World) (h0 : -9223372036854775808 ≤ z) (h1 : z ≤ 9223372036854775807) (he1 : -9223372036854775808 ≤ f) (he2 : f ≤ 9223372036854775807) :
    Calls Tryz.prog 35 #[.int .i64 z, .int .i64 f] w fun r w' => r = .returned (.tuple #[.agg #[.bool (mkD z f, mkR z f).1.n, .string (bstr (mkD z f, mkR z f).1.x), .int .i64 (mkD z f, mkR z f).1.e], .int .i64 (mkD z f, mkR z f).2]) ∧ Below w.heap.size w w' := rof2_any z f w h0 h1 he1 he2

set_option maxRecDepth 10000 in
set_option maxHeartbeats 4000000 in
theorem ron_w (d : DY) (n : Int) (e : Int) (p : DY × Int) (R : DY × Int) (E_p : (mkD n e, mkR n e) = p) (E_R : yAdd d p.1 = R) (w : World) (ok_d : d.ok) (n1 : -549755813888 ≤ n) (n2 : n ≤ 549755813888) (e1 : -10000 ≤ e) (e2 : e ≤ 10000) :
    Calls Tryz.prog 34 #[.agg #[.bool d.n, .string (bstr d.x), .int .i64 d.e], .int .i64 n, .int .i64 e] w fun r w' => r = .returned (.tuple #[.agg #[.bool R.1.n, .string (bstr R.1.x), .int .i64 R.1.e], .int .i64 R.2]) ∧ Below w.heap.size w w' := by
  have ok_p : p.1.ok := E_p ▸ mkD_ok _ _
  have h1 := fun W => rcof n e W (by omega) (by omega) (by omega) (by omega)
  rw [E_p] at h1
  have h2 := fun W => rcadd d p.1 W ok_d ok_p
  rw [E_R] at h2
  clear E_p E_R ok_p ok_d
  obtain ⟨dn, dX, de⟩ := d
  obtain ⟨⟨pn, pX, pe⟩, pr⟩ := p
  obtain ⟨⟨Rn, RX, Re⟩, Rr⟩ := R
  dsimp only at *
  generalize bstr dX = dS at *
  generalize bstr pX = pS at *
  generalize bstr RX = RS at *
  clear n1 n2 e1 e2
  go_enter Tryz.func34, Tryz.ntmps34
  have B0 := Below.refl w.heap.size w
  have F3 := Blk.put (w) #[.bool dn, .string dS, .int .i64 de] 24
  replace B0 := B0.alloc B0.size (.cells #[.bool dn, .string dS, .int .i64 de] 24)
  have q_w_F6 : Hid (w.heap.size ≤ w.heap.size + 1) := Lib.hid (by omega)
  replace F3 := F3.allocd (.cells #[.bool false, .string { data := #[] }, .int .i64 0] 24)
  have F6 := Blk.put ((w).alloc (.cells #[.bool dn, .string dS, .int .i64 de] 24)) #[.bool false, .string { data := #[] }, .int .i64 0] 24
  rw [show ((w).alloc (.cells #[.bool dn, .string dS, .int .i64 de] 24)).heap.size = w.heap.size + 1 by simp] at F6
  replace B0 := B0.alloc B0.size (.cells #[.bool false, .string { data := #[] }, .int .i64 0] 24)
  go_wp2_with fail
  (with_reducible refine (h1 _).mono ?_)
  rintro r w1 ⟨rfl, hb1⟩
  replace F3 := F3.keep hb1
  replace F6 := F6.keep hb1
  replace B0 := B0.trans (hb1.mono B0.size)
  clear hb1
  replace F3 := F3.allocd (.cells #[.bool pn, .string pS, .int .i64 pe] 24)
  replace F6 := F6.allocd (.cells #[.bool pn, .string pS, .int .i64 pe] 24)
  have F8 := Blk.put (w1) #[.bool pn, .string pS, .int .i64 pe] 24
  replace B0 := B0.alloc B0.size (.cells #[.bool pn, .string pS, .int .i64 pe] 24)
  obtain ⟨xF31_0, xF31_1, xF31_2⟩ := F3.ce3
  obtain ⟨xF81_0, xF81_1, xF81_2⟩ := F8.ce3
  go_wp2_with fail
  (with_reducible refine (h2 _).mono ?_)
  rintro r w2 ⟨rfl, hb2⟩
  clear xF31_0 xF31_1 xF31_2 xF81_0 xF81_1 xF81_2
  replace F3 := F3.keep hb2
  replace F6 := F6.keep hb2
  replace F8 := F8.keep hb2
  replace B0 := B0.trans (hb2.mono B0.size)
  clear hb2
  obtain ⟨xF62_0, xF62_1, xF62_2⟩ := F6.ce3
  obtain ⟨xF62_0f, xF62_1f, xF62_2f⟩ := F6.fr3
  clear F3
  clear F8
  replace F6 : Blk ((((w2).setCell ⟨w.heap.size + 1, 0, none⟩ (.bool Rn)).setCell ⟨w.heap.size + 1, 1, none⟩ (.string RS)).setCell ⟨w.heap.size + 1, 2, none⟩ (.int .i64 Re)) (w.heap.size + 1) #[.bool Rn, .string RS, .int .i64 Re] 24 := (((F6.setAt 0 (.bool Rn)).setAt 1 (.string RS)).setAt 2 (.int .i64 Re))
  replace B0 := (((B0.setCell (p := ⟨w.heap.size + 1, 0, none⟩) q_w_F6.out (.bool Rn)).setCell (p := ⟨w.heap.size + 1, 1, none⟩) q_w_F6.out (.string RS)).setCell (p := ⟨w.heap.size + 1, 2, none⟩) q_w_F6.out (.int .i64 Re))
  obtain ⟨xF63_0, xF63_1, xF63_2⟩ := F6.ce3
  go_wp2
  exact bodyPost_ret (v := .tuple #[.agg #[.bool Rn, .string RS, .int .i64 Re], .int .i64 Rr]) (by simp [results, Tryz.results34, go_sem, xF63_0, xF63_1, xF63_2]) rfl ⟨rfl, B0⟩

theorem ron (d : DY) (n e : Int) (w : World) (hd : d.ok) (n1 : -549755813888 ≤ n) (n2 : n ≤ 549755813888) (e1 : -10000 ≤ e) (e2 : e ≤ 10000) :
    Calls Tryz.prog 34 #[.agg #[.bool d.n, .string (bstr d.x), .int .i64 d.e], .int .i64 n, .int .i64 e] w fun r w' => r = .returned (.tuple #[.agg #[.bool (vM d n e).1.n, .string (bstr (vM d n e).1.x), .int .i64 (vM d n e).1.e], .int .i64 (vM d n e).2]) ∧ Below w.heap.size w w' :=
  ron_w d n e _ _ rfl rfl w hd n1 n2 e1 e2

end Go.Proofs.YtfbkopepkklkjaaGreatDoor
