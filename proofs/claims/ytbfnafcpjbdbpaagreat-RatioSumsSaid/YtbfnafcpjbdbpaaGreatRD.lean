/- Merged: RC RD -/
import Derived.Test.YtbfnafcpjbdbpaaGreatJF
import Derived.Test.YtbfnafcpjbdbpaaGreatRA
import Derived.Test.YtbfnafcpjbdbpaaGreatRB

/- ratio.Neg, Compare, Quo: the ways that were lacking. -/
namespace Go.Proofs.YtbfnafcpjbdbpaaGreat
open Go Go.RowKit Go.PlainAid Fil

set_option maxRecDepth 100000 in
set_option maxHeartbeats 8000000 in
theorem kneg_0 (xn : Bool) (xS xT : ByteArray) (w : World) (h : ∀ W, Calls Tryz.prog 45 #[.agg #[.bool xn, .string xS, .string xT]] W fun r w' => r = .returned (.bool false) ∧ Below W.heap.size W w') :
    Calls Tryz.prog 13 #[.agg #[.bool xn, .string xS, .string xT]] w fun r w' => r = .returned (.tuple #[.agg #[.bool false, .string { data := #[] }, .string { data := #[] }], .int .i64 2]) ∧ Below w.heap.size w w' := by
  go_enter Tryz.func13, Tryz.ntmps13
  have B0 := Below.refl w.heap.size w
  have F1 := Blk.put (w) #[.bool xn, .string xS, .string xT] 24
  replace B0 := B0.alloc B0.size (.cells #[.bool xn, .string xS, .string xT] 24)
  have q_w_F2 : Hid (w.heap.size ≤ w.heap.size + 1) := Lib.hid (by omega)
  replace F1 := F1.allocd (.cells #[.bool false, .string { data := #[] }, .string { data := #[] }] 24)
  have F2 := Blk.put ((w).alloc (.cells #[.bool xn, .string xS, .string xT] 24)) #[.bool false, .string { data := #[] }, .string { data := #[] }] 24
  rw [show ((w).alloc (.cells #[.bool xn, .string xS, .string xT] 24)).heap.size = w.heap.size + 1 by simp] at F2
  replace B0 := B0.alloc B0.size (.cells #[.bool false, .string { data := #[] }, .string { data := #[] }] 24)
  obtain ⟨xF10_0, xF10_1, xF10_2⟩ := F1.ce3
  go_wp2_with fail
  (with_reducible refine (h _).mono ?_)
  rintro r w1 ⟨rfl, hb1⟩
  clear xF10_0 xF10_1 xF10_2
  replace F1 := F1.keep hb1
  replace F2 := F2.keep hb1
  replace B0 := B0.trans (hb1.mono B0.size)
  clear hb1
  obtain ⟨xF21_0, xF21_1, xF21_2⟩ := F2.ce3
  obtain ⟨xF21_0f, xF21_1f, xF21_2f⟩ := F2.fr3
  clear F1
  replace F2 : Blk ((((w1).setCell ⟨w.heap.size + 1, 0, none⟩ (.bool false)).setCell ⟨w.heap.size + 1, 1, none⟩ (.string { data := #[] })).setCell ⟨w.heap.size + 1, 2, none⟩ (.string { data := #[] })) (w.heap.size + 1) #[.bool false, .string { data := #[] }, .string { data := #[] }] 24 := (((F2.setAt 0 (.bool false)).setAt 1 (.string { data := #[] })).setAt 2 (.string { data := #[] }))
  replace B0 := (((B0.setCell (p := ⟨w.heap.size + 1, 0, none⟩) q_w_F2.out (.bool false)).setCell (p := ⟨w.heap.size + 1, 1, none⟩) q_w_F2.out (.string { data := #[] })).setCell (p := ⟨w.heap.size + 1, 2, none⟩) q_w_F2.out (.string { data := #[] }))
  obtain ⟨xF22_0, xF22_1, xF22_2⟩ := F2.ce3
  go_wp2
  exact bodyPost_ret (v := .tuple #[.agg #[.bool false, .string { data := #[] }, .string { data := #[] }], .int .i64 2]) (by simp [results, Tryz.results13, go_sem, xF22_0, xF22_1, xF22_2]) rfl ⟨rfl, B0⟩
set_option maxRecDepth 100000 in
set_option maxHeartbeats 8000000 in
theorem kneg_1 (xn : Bool) (xS xT : ByteArray) (w : World) (h : ∀ W, Calls Tryz.prog 45 #[.agg #[.bool xn, .string xS, .string xT]] W fun r w' => r = .returned (.bool true) ∧ Below W.heap.size W w') (hP : xS.toList = []) :
    Calls Tryz.prog 13 #[.agg #[.bool xn, .string xS, .string xT]] w fun r w' => r = .returned (.tuple #[.agg #[.bool false, .string xS, .string xT], .int .i64 0]) ∧ Below w.heap.size w w' := by
  go_enter Tryz.func13, Tryz.ntmps13
  have B0 := Below.refl w.heap.size w
  have q_w_F1 : Hid (w.heap.size ≤ w.heap.size) := Lib.hid (by omega)
  have F1 := Blk.put (w) #[.bool xn, .string xS, .string xT] 24
  replace B0 := B0.alloc B0.size (.cells #[.bool xn, .string xS, .string xT] 24)
  have q_F1_F2 := Lib.hid (show w.heap.size < w.heap.size + 1 by omega)
  have q_w_F2 : Hid (w.heap.size ≤ w.heap.size + 1) := Lib.hid (by omega)
  replace F1 := F1.allocd (.cells #[.bool false, .string { data := #[] }, .string { data := #[] }] 24)
  have F2 := Blk.put ((w).alloc (.cells #[.bool xn, .string xS, .string xT] 24)) #[.bool false, .string { data := #[] }, .string { data := #[] }] 24
  rw [show ((w).alloc (.cells #[.bool xn, .string xS, .string xT] 24)).heap.size = w.heap.size + 1 by simp] at F2
  replace B0 := B0.alloc B0.size (.cells #[.bool false, .string { data := #[] }, .string { data := #[] }] 24)
  obtain ⟨xF10_0, xF10_1, xF10_2⟩ := F1.ce3
  go_wp2_with fail
  (with_reducible refine (h _).mono ?_)
  rintro r w1 ⟨rfl, hb1⟩
  clear xF10_0 xF10_1 xF10_2
  replace F1 := F1.keep hb1
  replace F2 := F2.keep hb1
  replace B0 := B0.trans (hb1.mono B0.size)
  clear hb1
  obtain ⟨xF11_0, xF11_1, xF11_2⟩ := F1.ce3
  obtain ⟨xF11_0f, xF11_1f, xF11_2f⟩ := F1.fr3
  replace F2 := (F2.far 0 (.bool false) (Nat.ne_of_gt q_F1_F2.out))
  replace F1 : Blk ((w1).setCell ⟨w.heap.size, 0, none⟩ (.bool false)) (w.heap.size) #[.bool false, .string xS, .string xT] 24 := (F1.setAt 0 (.bool false))
  replace B0 := (B0.setCell (p := ⟨w.heap.size, 0, none⟩) q_w_F1.out (.bool false))
  obtain ⟨xF12_0, xF12_1, xF12_2⟩ := F1.ce3
  obtain ⟨xF22_0, xF22_1, xF22_2⟩ := F2.ce3
  obtain ⟨xF22_0f, xF22_1f, xF22_2f⟩ := F2.fr3
  replace F1 := (((F1.far 0 (.bool false) (Nat.ne_of_lt q_F1_F2.out)).far 1 (.string xS) (Nat.ne_of_lt q_F1_F2.out)).far 2 (.string xT) (Nat.ne_of_lt q_F1_F2.out))
  replace F2 : Blk (((((w1).setCell ⟨w.heap.size, 0, none⟩ (.bool false)).setCell ⟨w.heap.size + 1, 0, none⟩ (.bool false)).setCell ⟨w.heap.size + 1, 1, none⟩ (.string xS)).setCell ⟨w.heap.size + 1, 2, none⟩ (.string xT)) (w.heap.size + 1) #[.bool false, .string xS, .string xT] 24 := (((F2.setAt 0 (.bool false)).setAt 1 (.string xS)).setAt 2 (.string xT))
  replace B0 := (((B0.setCell (p := ⟨w.heap.size + 1, 0, none⟩) q_w_F2.out (.bool false)).setCell (p := ⟨w.heap.size + 1, 1, none⟩) q_w_F2.out (.string xS)).setCell (p := ⟨w.heap.size + 1, 2, none⟩) q_w_F2.out (.string xT))
  obtain ⟨xF23_0, xF23_1, xF23_2⟩ := F2.ce3
  go_wp2
  exact bodyPost_ret (v := .tuple #[.agg #[.bool false, .string xS, .string xT], .int .i64 0]) (by simp [results, Tryz.results13, go_sem, xF23_0, xF23_1, xF23_2]) rfl ⟨rfl, B0⟩
set_option maxRecDepth 100000 in
set_option maxHeartbeats 8000000 in
theorem kneg_2 (xn m : Bool) (xS xT : ByteArray) (w : World) (h : ∀ W, Calls Tryz.prog 45 #[.agg #[.bool xn, .string xS, .string xT]] W fun r w' => r = .returned (.bool true) ∧ Below W.heap.size W w') (hm : (!xn) = m) (hP : xS.toList.isEmpty = false) (_hP2 : xS.toList ≠ []) :
    Calls Tryz.prog 13 #[.agg #[.bool xn, .string xS, .string xT]] w fun r w' => r = .returned (.tuple #[.agg #[.bool m, .string xS, .string xT], .int .i64 0]) ∧ Below w.heap.size w w' := by
  go_enter Tryz.func13, Tryz.ntmps13
  have B0 := Below.refl w.heap.size w
  have q_w_F1 : Hid (w.heap.size ≤ w.heap.size) := Lib.hid (by omega)
  have F1 := Blk.put (w) #[.bool xn, .string xS, .string xT] 24
  replace B0 := B0.alloc B0.size (.cells #[.bool xn, .string xS, .string xT] 24)
  have q_F1_F2 := Lib.hid (show w.heap.size < w.heap.size + 1 by omega)
  have q_w_F2 : Hid (w.heap.size ≤ w.heap.size + 1) := Lib.hid (by omega)
  replace F1 := F1.allocd (.cells #[.bool false, .string { data := #[] }, .string { data := #[] }] 24)
  have F2 := Blk.put ((w).alloc (.cells #[.bool xn, .string xS, .string xT] 24)) #[.bool false, .string { data := #[] }, .string { data := #[] }] 24
  rw [show ((w).alloc (.cells #[.bool xn, .string xS, .string xT] 24)).heap.size = w.heap.size + 1 by simp] at F2
  replace B0 := B0.alloc B0.size (.cells #[.bool false, .string { data := #[] }, .string { data := #[] }] 24)
  obtain ⟨xF10_0, xF10_1, xF10_2⟩ := F1.ce3
  go_wp2_with fail
  (with_reducible refine (h _).mono ?_)
  rintro r w1 ⟨rfl, hb1⟩
  clear xF10_0 xF10_1 xF10_2
  replace F1 := F1.keep hb1
  replace F2 := F2.keep hb1
  replace B0 := B0.trans (hb1.mono B0.size)
  clear hb1
  obtain ⟨xF11_0, xF11_1, xF11_2⟩ := F1.ce3
  obtain ⟨xF11_0f, xF11_1f, xF11_2f⟩ := F1.fr3
  replace F2 := (F2.far 0 (.bool m) (Nat.ne_of_gt q_F1_F2.out))
  replace F1 : Blk ((w1).setCell ⟨w.heap.size, 0, none⟩ (.bool m)) (w.heap.size) #[.bool m, .string xS, .string xT] 24 := (F1.setAt 0 (.bool m))
  replace B0 := (B0.setCell (p := ⟨w.heap.size, 0, none⟩) q_w_F1.out (.bool m))
  obtain ⟨xF12_0, xF12_1, xF12_2⟩ := F1.ce3
  obtain ⟨xF22_0, xF22_1, xF22_2⟩ := F2.ce3
  obtain ⟨xF22_0f, xF22_1f, xF22_2f⟩ := F2.fr3
  replace F1 := (((F1.far 0 (.bool m) (Nat.ne_of_lt q_F1_F2.out)).far 1 (.string xS) (Nat.ne_of_lt q_F1_F2.out)).far 2 (.string xT) (Nat.ne_of_lt q_F1_F2.out))
  replace F2 : Blk (((((w1).setCell ⟨w.heap.size, 0, none⟩ (.bool m)).setCell ⟨w.heap.size + 1, 0, none⟩ (.bool m)).setCell ⟨w.heap.size + 1, 1, none⟩ (.string xS)).setCell ⟨w.heap.size + 1, 2, none⟩ (.string xT)) (w.heap.size + 1) #[.bool m, .string xS, .string xT] 24 := (((F2.setAt 0 (.bool m)).setAt 1 (.string xS)).setAt 2 (.string xT))
  replace B0 := (((B0.setCell (p := ⟨w.heap.size + 1, 0, none⟩) q_w_F2.out (.bool m)).setCell (p := ⟨w.heap.size + 1, 1, none⟩) q_w_F2.out (.string xS)).setCell (p := ⟨w.heap.size + 1, 2, none⟩) q_w_F2.out (.string xT))
  obtain ⟨xF23_0, xF23_1, xF23_2⟩ := F2.ce3
  go_wp2
  exact bodyPost_ret (v := .tuple #[.agg #[.bool m, .string xS, .string xT], .int .i64 0]) (by simp [results, Tryz.results13, go_sem, xF23_0, xF23_1, xF23_2]) rfl ⟨rfl, B0⟩
set_option maxRecDepth 100000 in
set_option maxHeartbeats 8000000 in
theorem kcmp_bad1 (xn : Bool) (xS xT : ByteArray) (yn : Bool) (yS yT : ByteArray) (w : World) (h1 : ∀ W, Calls Tryz.prog 45 #[.agg #[.bool xn, .string xS, .string xT]] W fun r w' => r = .returned (.bool false) ∧ Below W.heap.size W w') :
    Calls Tryz.prog 12 #[.agg #[.bool xn, .string xS, .string xT], .agg #[.bool yn, .string yS, .string yT]] w fun r w' => r = .returned (.tuple #[.int .i64 0, .int .i64 2]) ∧ Below w.heap.size w w' := by
  go_enter Tryz.func12, Tryz.ntmps12
  have B0 := Below.refl w.heap.size w
  have F2 := Blk.put (w) #[.bool xn, .string xS, .string xT] 24
  replace B0 := B0.alloc B0.size (.cells #[.bool xn, .string xS, .string xT] 24)
  replace F2 := F2.allocd (.cells #[.bool yn, .string yS, .string yT] 24)
  replace B0 := B0.alloc B0.size (.cells #[.bool yn, .string yS, .string yT] 24)
  obtain ⟨xF20_0, xF20_1, xF20_2⟩ := F2.ce3
  go_wp2_with fail
  (with_reducible refine (h1 _).mono ?_)
  rintro r w1 ⟨rfl, hb1⟩
  clear xF20_0 xF20_1 xF20_2
  replace F2 := F2.keep hb1
  replace B0 := B0.trans (hb1.mono B0.size)
  clear hb1
  go_wp2
  go_ret2
  exact ⟨rfl, B0⟩
set_option maxRecDepth 100000 in
set_option maxHeartbeats 8000000 in
theorem kcmp_bad2 (xn : Bool) (xS xT : ByteArray) (yn : Bool) (yS yT : ByteArray) (w : World) (h1 : ∀ W, Calls Tryz.prog 45 #[.agg #[.bool xn, .string xS, .string xT]] W fun r w' => r = .returned (.bool true) ∧ Below W.heap.size W w') (h2 : ∀ W, Calls Tryz.prog 45 #[.agg #[.bool yn, .string yS, .string yT]] W fun r w' => r = .returned (.bool false) ∧ Below W.heap.size W w') :
    Calls Tryz.prog 12 #[.agg #[.bool xn, .string xS, .string xT], .agg #[.bool yn, .string yS, .string yT]] w fun r w' => r = .returned (.tuple #[.int .i64 0, .int .i64 2]) ∧ Below w.heap.size w w' := by
  go_enter Tryz.func12, Tryz.ntmps12
  have B0 := Below.refl w.heap.size w
  have F2 := Blk.put (w) #[.bool xn, .string xS, .string xT] 24
  replace B0 := B0.alloc B0.size (.cells #[.bool xn, .string xS, .string xT] 24)
  replace F2 := F2.allocd (.cells #[.bool yn, .string yS, .string yT] 24)
  have F3 := Blk.put ((w).alloc (.cells #[.bool xn, .string xS, .string xT] 24)) #[.bool yn, .string yS, .string yT] 24
  rw [show ((w).alloc (.cells #[.bool xn, .string xS, .string xT] 24)).heap.size = w.heap.size + 1 by simp] at F3
  replace B0 := B0.alloc B0.size (.cells #[.bool yn, .string yS, .string yT] 24)
  obtain ⟨xF20_0, xF20_1, xF20_2⟩ := F2.ce3
  go_wp2_with fail
  (with_reducible refine (h1 _).mono ?_)
  rintro r w1 ⟨rfl, hb1⟩
  clear xF20_0 xF20_1 xF20_2
  replace F2 := F2.keep hb1
  replace F3 := F3.keep hb1
  replace B0 := B0.trans (hb1.mono B0.size)
  clear hb1
  obtain ⟨xF31_0, xF31_1, xF31_2⟩ := F3.ce3
  go_wp2_with fail
  (with_reducible refine (h2 _).mono ?_)
  rintro r w2 ⟨rfl, hb2⟩
  clear xF31_0 xF31_1 xF31_2
  clear F2
  replace F3 := F3.keep hb2
  replace B0 := B0.trans (hb2.mono B0.size)
  clear hb2
  go_wp2
  go_ret2
  exact ⟨rfl, B0⟩
set_option maxRecDepth 100000 in
set_option maxHeartbeats 8000000 in
theorem kquo_nil (xn : Bool) (xS xT : ByteArray) (yn : Bool) (yS yT : ByteArray) (w : World) (hy : yS.toList = []) :
    Calls Tryz.prog 11 #[.agg #[.bool xn, .string xS, .string xT], .agg #[.bool yn, .string yS, .string yT]] w fun r w' => r = .returned (.tuple #[.agg #[.bool false, .string { data := #[] }, .string { data := #[] }], .int .i64 2]) ∧ Below w.heap.size w w' := by
  have B0 := (((Below.refl w.heap.size w).alloc (Nat.le_refl _) (.cells #[.bool xn, .string xS, .string xT] 24)).alloc (by simp) (.cells #[.bool yn, .string yS, .string yT] 24)).alloc (by simp; omega) (.cells #[.bool false, .string { data := #[] }, .string { data := #[] }] 24)
  have F3 := (Blk.put (w.alloc (.cells #[.bool xn, .string xS, .string xT] 24)) #[.bool yn, .string yS, .string yT] 24).allocd (.cells #[.bool false, .string { data := #[] }, .string { data := #[] }] 24)
  have G0 := Blk.put ((w.alloc (.cells #[.bool xn, .string xS, .string xT] 24)).alloc (.cells #[.bool yn, .string yS, .string yT] 24)) #[.bool false, .string { data := #[] }, .string { data := #[] }] 24
  rw [show (w.alloc (.cells #[.bool xn, .string xS, .string xT] 24)).heap.size = w.heap.size + 1 by simp] at F3
  rw [show ((w.alloc (.cells #[.bool xn, .string xS, .string xT] 24)).alloc (.cells #[.bool yn, .string yS, .string yT] 24)).heap.size = w.heap.size + 1 + 1 by simp] at G0
  obtain ⟨c0, c1, c2⟩ := G0.ce3
  obtain ⟨x0, x1, x2⟩ := F3.ce3
  clear G0 F3
  go_enter Tryz.func11, Tryz.ntmps11
  go_wp2
  exact bodyPost_ret (v := .tuple #[.agg #[.bool false, .string { data := #[] }, .string { data := #[] }], .int .i64 2]) (by simp [results, Tryz.results11, go_sem, c0, c1, c2]) rfl ⟨rfl, B0⟩

theorem kneg_ok (x : Rat) (w : World) (hx : Fits x) : Calls Tryz.prog 13 #[kA x] w fun r w' => r = .returned (.tuple #[kA (-x), .int .i64 0]) ∧ Below w.heap.size w w' := by
  have hm := fun W => kmay_any (sg x.num) (bstr x.num.natAbs) (bstr x.den) W (by rw [bstr_size]; have := hx.1; omega) (by rw [bstr_size]; have := hx.2; omega)
  rw [may_of_rat hx] at hm
  by_cases h0 : x = 0
  · subst h0
    rw [show (-(0 : Rat)) = 0 from rfl]
    exact kneg_1 _ _ _ w hm bstr_nil
  · have hn := num_ne h0
    have hp : x.num.natAbs ≠ 0 := by omega
    have e : sg (-x).num = !sg x.num := by
      rw [Rat.neg_num]; unfold sg
      by_cases h : x.num < 0
      · rw [decide_eq_true h, decide_eq_false (by omega)]; rfl
      · rw [decide_eq_false h, decide_eq_true (by omega)]; rfl
    unfold kA
    rw [e, Rat.neg_num, Int.natAbs_neg, Rat.neg_den]
    exact kneg_2 _ _ _ _ w hm rfl (bstr_ne hp).1 (bstr_ne hp).2
end Go.Proofs.YtbfnafcpjbdbpaaGreat

/- filigreelaw04.RatioSums at all inputs. -/
namespace Go.Proofs.YtbfnafcpjbdbpaaGreat
open Go Go.RowKit Go.PlainAid Fil

theorem sums_good (x y : Rat) (w : World) (fx : Bts 300 x) (fy : Bts 300 y) :
    Calls Tryz.prog 3 #[kA x, kA y] w fun r w' => r = .returned (.bool true) ∧ Below w.heap.size w w' := by
  have Fx := fx.fits (by omega)
  have Fy := fy.fits (by omega)
  have gx := fx.mono (L := 4000) (by omega)
  have gy := fy.mono (L := 4000) (by omega)
  have gs := (fx.add fy).fits (by omega)
  have gp := (fx.mul fy).fits (by omega)
  have gd := (fx.sub fy).fits (by omega)
  have sz : ∀ n, (bstr n).size = Fil.dn 8 n := bstr_size
  have h0x := fun W => l4small_any (sg x.num) (bstr x.num.natAbs) (bstr x.den) W (by rw [sz]; have := fx.1; omega) (by rw [sz]; have := fx.2; omega)
  have h0y := fun W => l4small_any (sg y.num) (bstr y.num.natAbs) (bstr y.den) W (by rw [sz]; have := fy.1; omega) (by rw [sz]; have := fy.2; omega)
  rw [show smallB (bstr x.num.natAbs) (bstr x.den) = true by unfold smallB; rw [sz, sz, decide_eq_true fx.1, decide_eq_true fx.2]; rfl] at h0x
  rw [show smallB (bstr y.num.natAbs) (bstr y.den) = true by unfold smallB; rw [sz, sz, decide_eq_true fy.1, decide_eq_true fy.2]; rfl] at h0y
  have h1 := fun W => kadd_ok x y W Fx Fy
  have h2 := fun W => ksub_ok x y W Fx Fy
  have h3 := fun W => kmul_ok x y W Fx Fy
  have h5 := fun W => kcompare_ok x y W Fx Fy
  have h6 : ∀ W, Calls Tryz.prog 13 #[kA x] W fun r w' => r = .returned (.tuple #[kA (-x), .int .i64 0]) ∧ Below W.heap.size W w' := fun W => kneg_ok x W Fx
  have h7 := fun W => p4may_any (sg x.num) (bstr x.num.natAbs) (bstr x.den) W (by rw [sz]; have := fx.1; omega) (by rw [sz]; have := fx.2; omega)
  have h8 := fun W => p4may_any (sg y.num) (bstr y.num.natAbs) (bstr y.den) W (by rw [sz]; have := fy.1; omega) (by rw [sz]; have := fy.2; omega)
  rw [may_of_rat Fx] at h7
  rw [may_of_rat Fy] at h8
  have h9 := fun W => p4add_ok x y W gx gy
  have h10 := fun W => p4neg_ok y W
  have h11 := fun W => p4add_ok x (-y) W gx gy.neg
  rw [← Rat.sub_eq_add_neg] at h11
  have h12 := fun W => p4mul_ok x y W gx gy
  have h13 := fun W => p4cmp_ok x y W gx gy
  have h14 := fun W => p4neg_ok x W
  have hl := fun W => l4lives_any W
  rw [kTold_fits gs] at h1
  rw [kTold_fits gd] at h2
  rw [kTold_fits gp] at h3
  by_cases h0 : y = 0
  · have hy : (bstr y.num.natAbs).toList = [] := bstr_eq_nil.2 (by rw [h0]; rfl)
    exact sums_0 _ _ _ _ _ _ _ _ _ _ _ _ _ _ _ _ _ _ _ _ _ _ w h0x h0y h1 h2 h3 (fun W => kquo_nil _ _ _ _ _ _ W hy) h5 h6 h7 h8 h9 h10 h11 h12 h13 h14 hy hl
  · have hn : y.num.natAbs ≠ 0 := by have := num_ne h0; omega
    have gq : Fits (x / y) := by
      rw [← divInt_quo]
      exact (bts_div (K := 600) (by have := num_ne h0; exact Int.mul_ne_zero (den_ne x) this) (dn8_mulI fx.1 fy.denI) (dn8_mulI fx.denI fy.1)).fits (by omega)
    have h4 := fun W => kquo_ok x y W Fx Fy h0
    rw [kTold_fits gq] at h4
    have h15 := fun W => p4quo_ok x y W gx gy h0
    exact sums_1 _ _ _ _ _ _ _ _ _ _ _ _ _ _ _ _ _ _ _ _ _ _ _ _ _ w h0x h0y h1 h2 h3 h4 h5 h6 h7 h8 h9 h10 h11 h12 h13 h14 h15 (bstr_ne hn).1 (bstr_ne hn).2 hl

theorem ratioSums_any (xn : Bool) (xS xT : ByteArray) (yn : Bool) (yS yT : ByteArray) (w : World) (b1 : xS.size ≤ 9223372036854775807) (b2 : xT.size ≤ 9223372036854775807) (b3 : yS.size ≤ 9223372036854775807) (b4 : yT.size ≤ 9223372036854775807) :
    Calls Tryz.prog 3 #[.agg #[.bool xn, .string xS, .string xT], .agg #[.bool yn, .string yS, .string yT]] w fun r w' => r = .returned (.bool true) ∧ Below w.heap.size w w' := by
  have h0x := fun W => l4small_any xn xS xT W b1 b2
  have h0y := fun W => l4small_any yn yS yT W b3 b4
  have hl := fun W => l4lives_any W
  cases e1 : smallB xS xT
  · rw [e1] at h0x
    exact sums_far1 _ _ _ _ _ _ w h0x hl
  · rw [e1] at h0x
    cases e2 : smallB yS yT
    · rw [e2] at h0y
      exact sums_far2 _ _ _ _ _ _ w h0x h0y hl
    · rw [e2] at h0y
      have hm1 := fun W => kmay_any xn xS xT W b1 b2
      have hm2 := fun W => kmay_any yn yS yT W b3 b4
      have h7 := fun W => p4may_any xn xS xT W b1 b2
      have h8 := fun W => p4may_any yn yS yT W b3 b4
      have hq : ∀ (hd : ∀ W, Calls Tryz.prog 40 #[.agg #[.bool xn, .string xS, .string xT], .agg #[.bool yn, .string yS, .string yT], .func (.func 44) #[] #[]] W fun r w' => r = .returned (.tuple #[.agg #[.bool false, .string { data := #[] }, .string { data := #[] }], .int .i64 2]) ∧ Below W.heap.size W w') (W : World), Calls Tryz.prog 11 #[.agg #[.bool xn, .string xS, .string xT], .agg #[.bool yn, .string yS, .string yT]] W fun r w' => r = .returned (.tuple #[.agg #[.bool false, .string { data := #[] }, .string { data := #[] }], .int .i64 2]) ∧ Below W.heap.size W w' := fun hd W => by
        by_cases hy : yS.size = 0
        · exact kquo_nil _ _ _ _ _ _ W (str_nil hy)
        · exact kquo_w _ _ _ _ _ _ _ _ _ _ W (str_cons (by omega)) hd
      cases e3 : kMayB xn xS xT
      · rw [e3] at hm1 h7
        have hd := fun f W => kdo_bad1 f xn xS xT yn yS yT W b1 b2 e3
        exact sums_bad1 _ _ _ _ _ _ w h0x h0y (fun W => kadd_w _ _ _ _ _ _ _ _ _ _ W (hd _)) (fun W => ksub_w _ _ _ _ _ _ _ _ _ _ W (hd _)) (fun W => kmul_w _ _ _ _ _ _ _ _ _ _ W (hd _)) (hq (hd _)) (fun W => kcmp_bad1 _ _ _ _ _ _ W hm1) (fun W => kneg_0 _ _ _ W hm1) h7 hl
      · cases e4 : kMayB yn yS yT
        · rw [e3] at hm1 h7
          rw [e4] at hm2 h8
          have hd := fun f W => kdo_bad2 f xn xS xT yn yS yT W b1 b2 e3 e4 b3 b4
          obtain ⟨x, fx, rfl, rfl, rfl⟩ := rat_of_may e3
          exact sums_bad2 _ _ _ _ _ _ _ _ _ w h0x h0y (fun W => kadd_w _ _ _ _ _ _ _ _ _ _ W (hd _)) (fun W => ksub_w _ _ _ _ _ _ _ _ _ _ W (hd _)) (fun W => kmul_w _ _ _ _ _ _ _ _ _ _ W (hd _)) (hq (hd _)) (fun W => kcmp_bad2 _ _ _ _ _ _ W hm1 hm2) (fun W => kneg_ok x W fx) h7 h8 (fun W => p4neg_ok x W) hl
        · obtain ⟨x, fx, rfl, rfl, rfl⟩ := rat_of_may e3
          obtain ⟨y, fy, rfl, rfl, rfl⟩ := rat_of_may e4
          have s1 := small_sizes e1
          have s2 := small_sizes e2
          rw [bstr_size, bstr_size] at s1 s2
          exact sums_good x y w s1 s2
end Go.Proofs.YtbfnafcpjbdbpaaGreat
