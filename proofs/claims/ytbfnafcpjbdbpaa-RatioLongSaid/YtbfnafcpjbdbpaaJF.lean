/- ratio.Add, Sub, Mul, Quo, Compare, New. -/
import Derived.Test.YtbfnafcpjbdbpaaJE
namespace Go.Proofs.Ytbfnafcpjbdbpaa
open Go Go.RowKit Go.PlainAid Fil

set_option maxRecDepth 100000 in
set_option maxHeartbeats 4000000 in
theorem kmul_w (xn : Bool) (xS xT : ByteArray) (yn : Bool) (yS yT : ByteArray) (tn : Bool) (tS tT : ByteArray) (te : Int) (w : World) (hd : ∀ W : World, Calls Try.prog 25 #[.agg #[.bool xn, .string xS, .string xT], .agg #[.bool yn, .string yS, .string yT], .func (.func 27) #[] #[]] W fun r w' => r = .returned (.tuple #[.agg #[.bool tn, .string tS, .string tT], .int .i64 te]) ∧ Below W.heap.size W w') :
    Calls Try.prog 10 #[.agg #[.bool xn, .string xS, .string xT], .agg #[.bool yn, .string yS, .string yT]] w fun r w' => r = .returned (.tuple #[.agg #[.bool tn, .string tS, .string tT], .int .i64 te]) ∧ Below w.heap.size w w' := by
  go_enter Try.func10, Try.ntmps10
  have B0 := Below.refl w.heap.size w
  have F2 := Blk.put (w) #[.bool xn, .string xS, .string xT] 25
  replace B0 := B0.alloc B0.size (.cells #[.bool xn, .string xS, .string xT] 25)
  replace F2 := F2.allocd (.cells #[.bool yn, .string yS, .string yT] 25)
  have F3 := Blk.put ((w).alloc (.cells #[.bool xn, .string xS, .string xT] 25)) #[.bool yn, .string yS, .string yT] 25
  rw [show ((w).alloc (.cells #[.bool xn, .string xS, .string xT] 25)).heap.size = w.heap.size + 1 by simp] at F3
  replace B0 := B0.alloc B0.size (.cells #[.bool yn, .string yS, .string yT] 25)
  have q_w_F4 : Hid (w.heap.size ≤ w.heap.size + 1 + 1) := Lib.hid (by omega)
  replace F2 := F2.allocd (.cells #[.bool false, .string { data := #[] }, .string { data := #[] }] 25)
  replace F3 := F3.allocd (.cells #[.bool false, .string { data := #[] }, .string { data := #[] }] 25)
  have F4 := Blk.put (((w).alloc (.cells #[.bool xn, .string xS, .string xT] 25)).alloc (.cells #[.bool yn, .string yS, .string yT] 25)) #[.bool false, .string { data := #[] }, .string { data := #[] }] 25
  rw [show (((w).alloc (.cells #[.bool xn, .string xS, .string xT] 25)).alloc (.cells #[.bool yn, .string yS, .string yT] 25)).heap.size = w.heap.size + 1 + 1 by simp] at F4
  replace B0 := B0.alloc B0.size (.cells #[.bool false, .string { data := #[] }, .string { data := #[] }] 25)
  obtain ⟨xF20_0, xF20_1, xF20_2⟩ := F2.ce3
  obtain ⟨xF30_0, xF30_1, xF30_2⟩ := F3.ce3
  go_wp2_with fail
  (with_reducible refine (hd _).mono ?_)
  rintro r w1 ⟨rfl, hb1⟩
  clear xF20_0 xF20_1 xF20_2 xF30_0 xF30_1 xF30_2
  replace F2 := F2.keep hb1
  replace F3 := F3.keep hb1
  replace F4 := F4.keep hb1
  replace B0 := B0.trans (hb1.mono B0.size)
  clear hb1
  obtain ⟨xF41_0, xF41_1, xF41_2⟩ := F4.ce3
  obtain ⟨xF41_0f, xF41_1f, xF41_2f⟩ := F4.fr3
  clear F2
  clear F3
  replace F4 : Blk ((((w1).setCell ⟨w.heap.size + 1 + 1, 0, none⟩ (.bool tn)).setCell ⟨w.heap.size + 1 + 1, 1, none⟩ (.string tS)).setCell ⟨w.heap.size + 1 + 1, 2, none⟩ (.string tT)) (w.heap.size + 1 + 1) #[.bool tn, .string tS, .string tT] 25 := (((F4.setAt 0 (.bool tn)).setAt 1 (.string tS)).setAt 2 (.string tT))
  replace B0 := (((B0.setCell (p := ⟨w.heap.size + 1 + 1, 0, none⟩) q_w_F4.out (.bool tn)).setCell (p := ⟨w.heap.size + 1 + 1, 1, none⟩) q_w_F4.out (.string tS)).setCell (p := ⟨w.heap.size + 1 + 1, 2, none⟩) q_w_F4.out (.string tT))
  obtain ⟨xF42_0, xF42_1, xF42_2⟩ := F4.ce3
  go_wp2
  exact bodyPost_ret (v := .tuple #[.agg #[.bool tn, .string tS, .string tT], .int .i64 te]) (by simp [results, Try.results10, go_sem, xF42_0, xF42_1, xF42_2]) rfl ⟨rfl, B0⟩

theorem kmul_ok (x y : Rat) (w : World) (hx : Fits x) (hy : Fits y) : Calls Try.prog 10 #[kA x, kA y] w fun r w' => r = .returned (kToldV (x * y)) ∧ Below w.heap.size w w' := by
  obtain ⟨n, S, T, e, hV⟩ := kTold_parts (x * y)
  rw [hV]
  exact kmul_w _ _ _ _ _ _ _ _ _ _ w (fun W => by rw [← hV]; exact kdo_mul x y W hx hy)

end Go.Proofs.Ytbfnafcpjbdbpaa
