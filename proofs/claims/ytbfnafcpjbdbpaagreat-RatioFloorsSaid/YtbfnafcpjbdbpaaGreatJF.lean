/- ratio.Add, Sub, Mul, Quo, Compare, New. -/
import Derived.Test.YtbfnafcpjbdbpaaGreatJE
namespace Go.Proofs.YtbfnafcpjbdbpaaGreat
open Go Go.RowKit Go.PlainAid Fil

set_option maxRecDepth 100000 in
set_option maxHeartbeats 4000000 in
theorem kadd_w (xn : Bool) (xS xT : ByteArray) (yn : Bool) (yS yT : ByteArray) (tn : Bool) (tS tT : ByteArray) (te : Int) (w : World) (hd : ∀ W : World, Calls Tryz.prog 40 #[.agg #[.bool xn, .string xS, .string xT], .agg #[.bool yn, .string yS, .string yT], .func (.func 41) #[] #[]] W fun r w' => r = .returned (.tuple #[.agg #[.bool tn, .string tS, .string tT], .int .i64 te]) ∧ Below W.heap.size W w') :
    Calls Tryz.prog 8 #[.agg #[.bool xn, .string xS, .string xT], .agg #[.bool yn, .string yS, .string yT]] w fun r w' => r = .returned (.tuple #[.agg #[.bool tn, .string tS, .string tT], .int .i64 te]) ∧ Below w.heap.size w w' := by
  go_enter Tryz.func8, Tryz.ntmps8
  have B0 := Below.refl w.heap.size w
  have F2 := Blk.put (w) #[.bool xn, .string xS, .string xT] 24
  replace B0 := B0.alloc B0.size (.cells #[.bool xn, .string xS, .string xT] 24)
  replace F2 := F2.allocd (.cells #[.bool yn, .string yS, .string yT] 24)
  have F3 := Blk.put ((w).alloc (.cells #[.bool xn, .string xS, .string xT] 24)) #[.bool yn, .string yS, .string yT] 24
  rw [show ((w).alloc (.cells #[.bool xn, .string xS, .string xT] 24)).heap.size = w.heap.size + 1 by simp] at F3
  replace B0 := B0.alloc B0.size (.cells #[.bool yn, .string yS, .string yT] 24)
  have q_w_F4 : Hid (w.heap.size ≤ w.heap.size + 1 + 1) := Lib.hid (by omega)
  replace F2 := F2.allocd (.cells #[.bool false, .string { data := #[] }, .string { data := #[] }] 24)
  replace F3 := F3.allocd (.cells #[.bool false, .string { data := #[] }, .string { data := #[] }] 24)
  have F4 := Blk.put (((w).alloc (.cells #[.bool xn, .string xS, .string xT] 24)).alloc (.cells #[.bool yn, .string yS, .string yT] 24)) #[.bool false, .string { data := #[] }, .string { data := #[] }] 24
  rw [show (((w).alloc (.cells #[.bool xn, .string xS, .string xT] 24)).alloc (.cells #[.bool yn, .string yS, .string yT] 24)).heap.size = w.heap.size + 1 + 1 by simp] at F4
  replace B0 := B0.alloc B0.size (.cells #[.bool false, .string { data := #[] }, .string { data := #[] }] 24)
  obtain ⟨xF20_0, xF20_1, xF20_2⟩ := F2.ce3
  obtain ⟨xF30_0, xF30_1, xF30_2⟩ := F3.ce3
  go_wp2_with fail
  (with_reducible refine (hd _).mono ?_)
  rintro r w1 ⟨rfl, hb1⟩
  clear xF20_0 xF20_1 xF20_2 xF30_0 xF30_1 xF30_2
  replace F2 := F2.keep hb1
  replace F3 := F3.keep hb1
  replace F4 := F4.keep hb1
  replace B0 := B0.trans (hb1.mono B0.size)
  clear hb1
  obtain ⟨xF41_0, xF41_1, xF41_2⟩ := F4.ce3
  obtain ⟨xF41_0f, xF41_1f, xF41_2f⟩ := F4.fr3
  clear F2
  clear F3
  replace F4 : Blk ((((w1).setCell ⟨w.heap.size + 1 + 1, 0, none⟩ (.bool tn)).setCell ⟨w.heap.size + 1 + 1, 1, none⟩ (.string tS)).setCell ⟨w.heap.size + 1 + 1, 2, none⟩ (.string tT)) (w.heap.size + 1 + 1) #[.bool tn, .string tS, .string tT] 24 := (((F4.setAt 0 (.bool tn)).setAt 1 (.string tS)).setAt 2 (.string tT))
  replace B0 := (((B0.setCell (p := ⟨w.heap.size + 1 + 1, 0, none⟩) q_w_F4.out (.bool tn)).setCell (p := ⟨w.heap.size + 1 + 1, 1, none⟩) q_w_F4.out (.string tS)).setCell (p := ⟨w.heap.size + 1 + 1, 2, none⟩) q_w_F4.out (.string tT))
  obtain ⟨xF42_0, xF42_1, xF42_2⟩ := F4.ce3
  go_wp2
  exact bodyPost_ret (v := .tuple #[.agg #[.bool tn, .string tS, .string tT], .int .i64 te]) (by simp [results, Tryz.results8, go_sem, xF42_0, xF42_1, xF42_2]) rfl ⟨rfl, B0⟩

set_option maxRecDepth 100000 in
set_option maxHeartbeats 4000000 in
theorem ksub_w (xn : Bool) (xS xT : ByteArray) (yn : Bool) (yS yT : ByteArray) (tn : Bool) (tS tT : ByteArray) (te : Int) (w : World) (hd : ∀ W : World, Calls Tryz.prog 40 #[.agg #[.bool xn, .string xS, .string xT], .agg #[.bool yn, .string yS, .string yT], .func (.func 42) #[] #[]] W fun r w' => r = .returned (.tuple #[.agg #[.bool tn, .string tS, .string tT], .int .i64 te]) ∧ Below W.heap.size W w') :
    Calls Tryz.prog 9 #[.agg #[.bool xn, .string xS, .string xT], .agg #[.bool yn, .string yS, .string yT]] w fun r w' => r = .returned (.tuple #[.agg #[.bool tn, .string tS, .string tT], .int .i64 te]) ∧ Below w.heap.size w w' := by
  go_enter Tryz.func9, Tryz.ntmps9
  have B0 := Below.refl w.heap.size w
  have F2 := Blk.put (w) #[.bool xn, .string xS, .string xT] 24
  replace B0 := B0.alloc B0.size (.cells #[.bool xn, .string xS, .string xT] 24)
  replace F2 := F2.allocd (.cells #[.bool yn, .string yS, .string yT] 24)
  have F3 := Blk.put ((w).alloc (.cells #[.bool xn, .string xS, .string xT] 24)) #[.bool yn, .string yS, .string yT] 24
  rw [show ((w).alloc (.cells #[.bool xn, .string xS, .string xT] 24)).heap.size = w.heap.size + 1 by simp] at F3
  replace B0 := B0.alloc B0.size (.cells #[.bool yn, .string yS, .string yT] 24)
  have q_w_F4 : Hid (w.heap.size ≤ w.heap.size + 1 + 1) := Lib.hid (by omega)
  replace F2 := F2.allocd (.cells #[.bool false, .string { data := #[] }, .string { data := #[] }] 24)
  replace F3 := F3.allocd (.cells #[.bool false, .string { data := #[] }, .string { data := #[] }] 24)
  have F4 := Blk.put (((w).alloc (.cells #[.bool xn, .string xS, .string xT] 24)).alloc (.cells #[.bool yn, .string yS, .string yT] 24)) #[.bool false, .string { data := #[] }, .string { data := #[] }] 24
  rw [show (((w).alloc (.cells #[.bool xn, .string xS, .string xT] 24)).alloc (.cells #[.bool yn, .string yS, .string yT] 24)).heap.size = w.heap.size + 1 + 1 by simp] at F4
  replace B0 := B0.alloc B0.size (.cells #[.bool false, .string { data := #[] }, .string { data := #[] }] 24)
  obtain ⟨xF20_0, xF20_1, xF20_2⟩ := F2.ce3
  obtain ⟨xF30_0, xF30_1, xF30_2⟩ := F3.ce3
  go_wp2_with fail
  (with_reducible refine (hd _).mono ?_)
  rintro r w1 ⟨rfl, hb1⟩
  clear xF20_0 xF20_1 xF20_2 xF30_0 xF30_1 xF30_2
  replace F2 := F2.keep hb1
  replace F3 := F3.keep hb1
  replace F4 := F4.keep hb1
  replace B0 := B0.trans (hb1.mono B0.size)
  clear hb1
  obtain ⟨xF41_0, xF41_1, xF41_2⟩ := F4.ce3
  obtain ⟨xF41_0f, xF41_1f, xF41_2f⟩ := F4.fr3
  clear F2
  clear F3
  replace F4 : Blk ((((w1).setCell ⟨w.heap.size + 1 + 1, 0, none⟩ (.bool tn)).setCell ⟨w.heap.size + 1 + 1, 1, none⟩ (.string tS)).setCell ⟨w.heap.size + 1 + 1, 2, none⟩ (.string tT)) (w.heap.size + 1 + 1) #[.bool tn, .string tS, .string tT] 24 := (((F4.setAt 0 (.bool tn)).setAt 1 (.string tS)).setAt 2 (.string tT))
  replace B0 := (((B0.setCell (p := ⟨w.heap.size + 1 + 1, 0, none⟩) q_w_F4.out (.bool tn)).setCell (p := ⟨w.heap.size + 1 + 1, 1, none⟩) q_w_F4.out (.string tS)).setCell (p := ⟨w.heap.size + 1 + 1, 2, none⟩) q_w_F4.out (.string tT))
  obtain ⟨xF42_0, xF42_1, xF42_2⟩ := F4.ce3
  go_wp2
  exact bodyPost_ret (v := .tuple #[.agg #[.bool tn, .string tS, .string tT], .int .i64 te]) (by simp [results, Tryz.results9, go_sem, xF42_0, xF42_1, xF42_2]) rfl ⟨rfl, B0⟩

set_option maxRecDepth 100000 in
set_option maxHeartbeats 4000000 in
theorem kmul_w (xn : Bool) (xS xT : ByteArray) (yn : Bool) (yS yT : ByteArray) (tn : Bool) (tS tT : ByteArray) (te : Int) (w : World) (hd : ∀ W : World, Calls Tryz.prog 40 #[.agg #[.bool xn, .string xS, .string xT], .agg #[.bool yn, .string yS, .string yT], .func (.func 43) #[] #[]] W fun r w' => r = .returned (.tuple #[.agg #[.bool tn, .string tS, .string tT], .int .i64 te]) ∧ Below W.heap.size W w') :
    Calls Tryz.prog 10 #[.agg #[.bool xn, .string xS, .string xT], .agg #[.bool yn, .string yS, .string yT]] w fun r w' => r = .returned (.tuple #[.agg #[.bool tn, .string tS, .string tT], .int .i64 te]) ∧ Below w.heap.size w w' := by
  go_enter Tryz.func10, Tryz.ntmps10
  have B0 := Below.refl w.heap.size w
  have F2 := Blk.put (w) #[.bool xn, .string xS, .string xT] 24
  replace B0 := B0.alloc B0.size (.cells #[.bool xn, .string xS, .string xT] 24)
  replace F2 := F2.allocd (.cells #[.bool yn, .string yS, .string yT] 24)
  have F3 := Blk.put ((w).alloc (.cells #[.bool xn, .string xS, .string xT] 24)) #[.bool yn, .string yS, .string yT] 24
  rw [show ((w).alloc (.cells #[.bool xn, .string xS, .string xT] 24)).heap.size = w.heap.size + 1 by simp] at F3
  replace B0 := B0.alloc B0.size (.cells #[.bool yn, .string yS, .string yT] 24)
  have q_w_F4 : Hid (w.heap.size ≤ w.heap.size + 1 + 1) := Lib.hid (by omega)
  replace F2 := F2.allocd (.cells #[.bool false, .string { data := #[] }, .string { data := #[] }] 24)
  replace F3 := F3.allocd (.cells #[.bool false, .string { data := #[] }, .string { data := #[] }] 24)
  have F4 := Blk.put (((w).alloc (.cells #[.bool xn, .string xS, .string xT] 24)).alloc (.cells #[.bool yn, .string yS, .string yT] 24)) #[.bool false, .string { data := #[] }, .string { data := #[] }] 24
  rw [show (((w).alloc (.cells #[.bool xn, .string xS, .string xT] 24)).alloc (.cells #[.bool yn, .string yS, .string yT] 24)).heap.size = w.heap.size + 1 + 1 by simp] at F4
  replace B0 := B0.alloc B0.size (.cells #[.bool false, .string { data := #[] }, .string { data := #[] }] 24)
  obtain ⟨xF20_0, xF20_1, xF20_2⟩ := F2.ce3
  obtain ⟨xF30_0, xF30_1, xF30_2⟩ := F3.ce3
  go_wp2_with fail
  (with_reducible refine (hd _).mono ?_)
  rintro r w1 ⟨rfl, hb1⟩
  clear xF20_0 xF20_1 xF20_2 xF30_0 xF30_1 xF30_2
  replace F2 := F2.keep hb1
  replace F3 := F3.keep hb1
  replace F4 := F4.keep hb1
  replace B0 := B0.trans (hb1.mono B0.size)
  clear hb1
  obtain ⟨xF41_0, xF41_1, xF41_2⟩ := F4.ce3
  obtain ⟨xF41_0f, xF41_1f, xF41_2f⟩ := F4.fr3
  clear F2
  clear F3
  replace F4 : Blk ((((w1).setCell ⟨w.heap.size + 1 + 1, 0, none⟩ (.bool tn)).setCell ⟨w.heap.size + 1 + 1, 1, none⟩ (.string tS)).setCell ⟨w.heap.size + 1 + 1, 2, none⟩ (.string tT)) (w.heap.size + 1 + 1) #[.bool tn, .string tS, .string tT] 24 := (((F4.setAt 0 (.bool tn)).setAt 1 (.string tS)).setAt 2 (.string tT))
  replace B0 := (((B0.setCell (p := ⟨w.heap.size + 1 + 1, 0, none⟩) q_w_F4.out (.bool tn)).setCell (p := ⟨w.heap.size + 1 + 1, 1, none⟩) q_w_F4.out (.string tS)).setCell (p := ⟨w.heap.size + 1 + 1, 2, none⟩) q_w_F4.out (.string tT))
  obtain ⟨xF42_0, xF42_1, xF42_2⟩ := F4.ce3
  go_wp2
  exact bodyPost_ret (v := .tuple #[.agg #[.bool tn, .string tS, .string tT], .int .i64 te]) (by simp [results, Tryz.results10, go_sem, xF42_0, xF42_1, xF42_2]) rfl ⟨rfl, B0⟩

set_option maxRecDepth 100000 in
set_option maxHeartbeats 4000000 in
theorem kquo_w (xn : Bool) (xS xT : ByteArray) (yn : Bool) (yS yT : ByteArray) (tn : Bool) (tS tT : ByteArray) (te : Int) (w : World) (h0 : yS.toList.isEmpty = false) (hd : ∀ W : World, Calls Tryz.prog 40 #[.agg #[.bool xn, .string xS, .string xT], .agg #[.bool yn, .string yS, .string yT], .func (.func 44) #[] #[]] W fun r w' => r = .returned (.tuple #[.agg #[.bool tn, .string tS, .string tT], .int .i64 te]) ∧ Below W.heap.size W w') :
    Calls Tryz.prog 11 #[.agg #[.bool xn, .string xS, .string xT], .agg #[.bool yn, .string yS, .string yT]] w fun r w' => r = .returned (.tuple #[.agg #[.bool tn, .string tS, .string tT], .int .i64 te]) ∧ Below w.heap.size w w' := by
  go_enter Tryz.func11, Tryz.ntmps11
  have B0 := Below.refl w.heap.size w
  have F2 := Blk.put (w) #[.bool xn, .string xS, .string xT] 24
  replace B0 := B0.alloc B0.size (.cells #[.bool xn, .string xS, .string xT] 24)
  replace F2 := F2.allocd (.cells #[.bool yn, .string yS, .string yT] 24)
  have F3 := Blk.put ((w).alloc (.cells #[.bool xn, .string xS, .string xT] 24)) #[.bool yn, .string yS, .string yT] 24
  rw [show ((w).alloc (.cells #[.bool xn, .string xS, .string xT] 24)).heap.size = w.heap.size + 1 by simp] at F3
  replace B0 := B0.alloc B0.size (.cells #[.bool yn, .string yS, .string yT] 24)
  have q_w_F4 : Hid (w.heap.size ≤ w.heap.size + 1 + 1) := Lib.hid (by omega)
  replace F2 := F2.allocd (.cells #[.bool false, .string { data := #[] }, .string { data := #[] }] 24)
  replace F3 := F3.allocd (.cells #[.bool false, .string { data := #[] }, .string { data := #[] }] 24)
  have F4 := Blk.put (((w).alloc (.cells #[.bool xn, .string xS, .string xT] 24)).alloc (.cells #[.bool yn, .string yS, .string yT] 24)) #[.bool false, .string { data := #[] }, .string { data := #[] }] 24
  rw [show (((w).alloc (.cells #[.bool xn, .string xS, .string xT] 24)).alloc (.cells #[.bool yn, .string yS, .string yT] 24)).heap.size = w.heap.size + 1 + 1 by simp] at F4
  replace B0 := B0.alloc B0.size (.cells #[.bool false, .string { data := #[] }, .string { data := #[] }] 24)
  obtain ⟨xF30_0, xF30_1, xF30_2⟩ := F3.ce3
  obtain ⟨xF20_0, xF20_1, xF20_2⟩ := F2.ce3
  go_wp2_with fail
  (with_reducible refine (hd _).mono ?_)
  rintro r w1 ⟨rfl, hb1⟩
  clear xF30_0 xF30_1 xF30_2 xF20_0 xF20_1 xF20_2
  replace F2 := F2.keep hb1
  replace F3 := F3.keep hb1
  replace F4 := F4.keep hb1
  replace B0 := B0.trans (hb1.mono B0.size)
  clear hb1
  obtain ⟨xF41_0, xF41_1, xF41_2⟩ := F4.ce3
  obtain ⟨xF41_0f, xF41_1f, xF41_2f⟩ := F4.fr3
  clear F2
  clear F3
  replace F4 : Blk ((((w1).setCell ⟨w.heap.size + 1 + 1, 0, none⟩ (.bool tn)).setCell ⟨w.heap.size + 1 + 1, 1, none⟩ (.string tS)).setCell ⟨w.heap.size + 1 + 1, 2, none⟩ (.string tT)) (w.heap.size + 1 + 1) #[.bool tn, .string tS, .string tT] 24 := (((F4.setAt 0 (.bool tn)).setAt 1 (.string tS)).setAt 2 (.string tT))
  replace B0 := (((B0.setCell (p := ⟨w.heap.size + 1 + 1, 0, none⟩) q_w_F4.out (.bool tn)).setCell (p := ⟨w.heap.size + 1 + 1, 1, none⟩) q_w_F4.out (.string tS)).setCell (p := ⟨w.heap.size + 1 + 1, 2, none⟩) q_w_F4.out (.string tT))
  obtain ⟨xF42_0, xF42_1, xF42_2⟩ := F4.ce3
  go_wp2
  exact bodyPost_ret (v := .tuple #[.agg #[.bool tn, .string tS, .string tT], .int .i64 te]) (by simp [results, Tryz.results11, go_sem, xF42_0, xF42_1, xF42_2]) rfl ⟨rfl, B0⟩

theorem kadd_ok (x y : Rat) (w : World) (hx : Fits x) (hy : Fits y) : Calls Tryz.prog 8 #[kA x, kA y] w fun r w' => r = .returned (kToldV (x + y)) ∧ Below w.heap.size w w' := by
  obtain ⟨n, S, T, e, hV⟩ := kTold_parts (x + y)
  rw [hV]
  exact kadd_w _ _ _ _ _ _ _ _ _ _ w (fun W => by rw [← hV]; exact kdo_add x y W hx hy)

theorem ksub_ok (x y : Rat) (w : World) (hx : Fits x) (hy : Fits y) : Calls Tryz.prog 9 #[kA x, kA y] w fun r w' => r = .returned (kToldV (x - y)) ∧ Below w.heap.size w w' := by
  obtain ⟨n, S, T, e, hV⟩ := kTold_parts (x - y)
  rw [hV]
  exact ksub_w _ _ _ _ _ _ _ _ _ _ w (fun W => by rw [← hV]; exact kdo_sub x y W hx hy)

theorem kmul_ok (x y : Rat) (w : World) (hx : Fits x) (hy : Fits y) : Calls Tryz.prog 10 #[kA x, kA y] w fun r w' => r = .returned (kToldV (x * y)) ∧ Below w.heap.size w w' := by
  obtain ⟨n, S, T, e, hV⟩ := kTold_parts (x * y)
  rw [hV]
  exact kmul_w _ _ _ _ _ _ _ _ _ _ w (fun W => by rw [← hV]; exact kdo_mul x y W hx hy)

theorem kquo_ok (x y : Rat) (w : World) (hx : Fits x) (hy : Fits y) (h0 : y ≠ 0) : Calls Tryz.prog 11 #[kA x, kA y] w fun r w' => r = .returned (kToldV (x / y)) ∧ Below w.heap.size w w' := by
  obtain ⟨n, S, T, e, hV⟩ := kTold_parts (x / y)
  rw [hV]
  exact kquo_w _ _ _ _ _ _ _ _ _ _ w (bstr_ne (by have := num_ne h0; omega)).1 (fun W => by rw [← hV]; exact kdo_quo x y W hx hy h0)

set_option maxRecDepth 100000 in
set_option maxHeartbeats 4000000 in
theorem kcompare_ok (x y : Rat) (w : World) (hx : Fits x) (hy : Fits y) :
    Calls Tryz.prog 12 #[kA x, kA y] w fun e w' => e = .returned (.tuple #[.int .i64 (cmpR x y), .int .i64 0]) ∧ Below w.heap.size w w' := by
  have hm1 := fun W => kmay_any (sg x.num) (bstr x.num.natAbs) (bstr x.den) W (by rw [bstr_size]; have := hx.1; omega) (by rw [bstr_size]; have := hx.2; omega)
  have hm2 := fun W => kmay_any (sg y.num) (bstr y.num.natAbs) (bstr y.den) W (by rw [bstr_size]; have := hy.1; omega) (by rw [bstr_size]; have := hy.2; omega)
  rw [may_of_rat hx] at hm1
  rw [may_of_rat hy] at hm2
  have hr1 := fun W => krat_any x W hx
  have hr2 := fun W => krat_any y W hy
  unfold kA at hr1 hr2
  have sx := Lib.hid (hx.szd.mono (L := 100000000000) (by omega))
  have sy := Lib.hid (hy.szd.mono (L := 100000000000) (by omega))
  clear hx hy
  unfold kA
  have hcm := fun W BX BY X Y => ratcmp_any BX BY x y W X Y sx.out sy.out
  have hc1 : -1 ≤ cmpR x y ∧ cmpR x y ≤ 1 := by unfold cmpR; split <;> (try split) <;> omega
  generalize cmpR x y = c at *
  obtain ⟨hc1, hc2⟩ := hc1
  generalize sg x.num = xn at *
  generalize bstr x.num.natAbs = xS at *
  generalize bstr x.den = xT at *
  generalize sg y.num = yn at *
  generalize bstr y.num.natAbs = yS at *
  generalize bstr y.den = yT at *
  have hb := Below.refl w.heap.size w
  go_enter Tryz.func12, Tryz.ntmps12
  have F := Blk.put (w) #[.bool xn, .string xS, .string xT] 24
  replace hb := hb.alloc hb.size (.cells #[.bool xn, .string xS, .string xT] 24)
  have q_BF : Hid (w.heap.size ≤ w.heap.size) := Lib.hid (by omega)
  replace F := F.allocd (.cells #[.bool yn, .string yS, .string yT] 24)
  have G := Blk.put (w.alloc (.cells #[.bool xn, .string xS, .string xT] 24)) #[.bool yn, .string yS, .string yT] 24
  replace hb := hb.alloc hb.size (.cells #[.bool yn, .string yS, .string yT] 24)
  rw [show (w.alloc (.cells #[.bool xn, .string xS, .string xT] 24)).heap.size = w.heap.size + 1 by simp] at G
  have q_BF_BG : Hid (w.heap.size < w.heap.size + 1) := Lib.hid (by omega)
  have q_BG : Hid (w.heap.size ≤ w.heap.size + 1) := Lib.hid (by omega)
  obtain ⟨x0, x1, x2⟩ := F.ce3
  go_wp2_with fail
  refine (hm1 _).mono ?_
  rintro r w1 ⟨rfl, hB⟩
  replace F := F.keep hB
  replace G := G.keep hB
  replace hb := hb.trans (hB.mono hb.size)
  clear x0 x1 x2 hB
  obtain ⟨x0, x1, x2⟩ := G.ce3
  go_wp2_with fail
  refine (hm2 _).mono ?_
  rintro r w2 ⟨rfl, hB⟩
  replace F := F.keep hB
  replace G := G.keep hB
  replace hb := hb.trans (hB.mono hb.size)
  clear x0 x1 x2 hB
  obtain ⟨x0, x1, x2⟩ := F.ce3
  go_upto_region 3 with fail
  clear x0 x1 x2 hm1 hm2
  go_wp2_with fail
  refine wp_region_any (by kernel_rfl) ?_
  have hHeld : (fun w' : World => w'.cell? ⟨w.heap.size, 0, none⟩ = some (.bool xn) ∧ w'.cell? ⟨w.heap.size, 1, none⟩ = some (.string xS) ∧ w'.cell? ⟨w.heap.size, 2, none⟩ = some (.string xT) ∧ w'.cell? ⟨w.heap.size + 1, 0, none⟩ = some (.bool yn) ∧ w'.cell? ⟨w.heap.size + 1, 1, none⟩ = some (.string yS) ∧ w'.cell? ⟨w.heap.size + 1, 2, none⟩ = some (.string yT)) w2.drew := ⟨F.ce3.1, F.ce3.2.1, F.ce3.2.2, G.ce3.1, G.ce3.2.1, G.ce3.2.2⟩
  refine wpAny_of_held (S := fun w' : World => w'.cell? ⟨w.heap.size, 0, none⟩ = some (.bool xn) ∧ w'.cell? ⟨w.heap.size, 1, none⟩ = some (.string xS) ∧ w'.cell? ⟨w.heap.size, 2, none⟩ = some (.string xT) ∧ w'.cell? ⟨w.heap.size + 1, 0, none⟩ = some (.bool yn) ∧ w'.cell? ⟨w.heap.size + 1, 1, none⟩ = some (.string yS) ∧ w'.cell? ⟨w.heap.size + 1, 2, none⟩ = some (.string yT)) _ _ _ (w2.drew) ?_
  replace F : Blk (w2.drew) (w.heap.size) #[.bool xn, .string xS, .string xT] 24 := F
  replace G : Blk (w2.drew) (w.heap.size + 1) #[.bool yn, .string yS, .string yT] 24 := G
  replace hb : Below w.heap.size w w2.drew := hb.drew
  generalize w2.drew = v1 at *
  refine wpAnyH_take (i := 0) (v := _) (by first | (simp only [List.getElem?_toArray, List.getElem?_cons_zero]; rfl) | rfl) (by kernel_rfl) (by kernel_rfl) (by kernel_rfl) (by exact fun _ _ _ h => h) (Or.inl ⟨by rfl, by (intro w hSw; (try dsimp only at hSw); go_simp; try with_reducible rfl)⟩) (by assumption) ?_
  (try dsimp only [Act.put]); (try go_frame)
  refine wpAnyH_take (i := 2) (v := _) (by first | (simp only [List.getElem?_toArray, List.getElem?_cons_zero, List.getElem?_cons_succ]; rfl) | rfl) (by kernel_rfl) (by kernel_rfl) (by kernel_rfl) (by exact fun _ _ _ h => h) (Or.inl ⟨by rfl, by (intro w hSw; (try dsimp only at hSw); go_simp; try with_reducible rfl)⟩) (by assumption) ?_
  (try dsimp only [Act.put]); (try go_frame)
  refine wpAnyH_ready (rs := [1]) (by kernel_rfl) (by simp) ?_
  refine AllReadyH.cons rfl (fun K hK => ?_) AllReadyH.nil
  go_simp
  refine (hr1 v1).mono ?_
  rintro r ww38 ⟨BX, rfl, X, qq, -, hB⟩
  replace F := F.keep hB
  replace G := G.keep hB
  replace hb := hb.trans (hB.mono hb.size)
  clear hB qq
  refine hK.out _ _ ?_ (fun hHeld => ?_)
  · exact ⟨F.ce3.1, F.ce3.2.1, F.ce3.2.2, G.ce3.1, G.ce3.2.1, G.ce3.2.2⟩
  clear hK K
  (try dsimp only [Act.put]); (try go_frame)
  refine wpAnyH_ready (rs := [3]) (by kernel_rfl) (by simp) ?_
  refine AllReadyH.cons rfl (fun K hK => ?_) AllReadyH.nil
  go_simp
  refine (hr2 ww38).mono ?_
  rintro r ww44 ⟨BY, rfl, Y, qq, -, hB⟩
  replace F := F.keep hB
  replace G := G.keep hB
  replace X := X.below hB
  replace hb := hb.trans (hB.mono hb.size)
  clear hB qq
  refine hK.out _ _ ?_ (fun hHeld => ?_)
  · exact ⟨F.ce3.1, F.ce3.2.1, F.ce3.2.2, G.ce3.1, G.ce3.2.1, G.ce3.2.2⟩
  clear hK K
  (try dsimp only [Act.put]); (try go_frame)
  refine wpAnyH_ready (rs := [4]) (by kernel_rfl) (by simp) ?_
  refine AllReadyH.cons rfl (fun K hK => ?_) AllReadyH.nil
  go_simp
  refine (hcm ww44 BX BY X Y).mono ?_
  rintro r wz ⟨rfl, hB⟩
  replace F := F.keep hB
  replace G := G.keep hB
  replace hb := hb.trans (hB.mono hb.size)
  clear hB X Y
  refine hK.out _ _ ?_ (fun hHeld => ?_)
  · exact ⟨F.ce3.1, F.ce3.2.1, F.ce3.2.2, G.ce3.1, G.ce3.2.1, G.ce3.2.2⟩
  clear hK K
  (try dsimp only [Act.put]); (try go_frame)
  refine wpAnyH_take (i := 5) (v := _) (by first | (simp only [List.getElem?_toArray, List.getElem?_cons_zero, List.getElem?_cons_succ]; rfl) | rfl) (by kernel_rfl) (by kernel_rfl) (by kernel_rfl) (by exact fun _ _ _ h => h) (Or.inl ⟨by rfl, by (intro w hSw; (try dsimp only at hSw); go_simp; try with_reducible rfl)⟩) (by assumption) ?_
  (try dsimp only [Act.put]); (try go_frame)
  refine wpAnyH_take (i := 6) (v := _) (by first | (simp only [List.getElem?_toArray, List.getElem?_cons_zero, List.getElem?_cons_succ]; rfl) | rfl) (by kernel_rfl) (by kernel_rfl) (by kernel_rfl) (by exact fun _ _ _ h => h) (Or.inl ⟨by rfl, by (intro w hSw; (try dsimp only at hSw); go_simp; try with_reducible rfl)⟩) (by assumption) ?_
  (try dsimp only [Act.put]); (try go_frame)
  refine wpAnyH_done (by kernel_rfl) ?_ _
  try simp only [QCut]
  clear hHeld F G hr1 hr2 hcm
  rcases (show c = -1 ∨ c = 0 ∨ c = 1 by omega) with rfl | rfl | rfl
  · go_wp2
    exact bodyPost_ret (v := .tuple #[.int .i64 (-1), .int .i64 0]) (by simp [results, Tryz.results12, go_sem]) rfl ⟨rfl, hb⟩
  · go_wp2
    exact bodyPost_ret (v := .tuple #[.int .i64 (0), .int .i64 0]) (by simp [results, Tryz.results12, go_sem]) rfl ⟨rfl, hb⟩
  · go_wp2
    exact bodyPost_ret (v := .tuple #[.int .i64 (1), .int .i64 0]) (by simp [results, Tryz.results12, go_sem]) rfl ⟨rfl, hb⟩

end Go.Proofs.YtbfnafcpjbdbpaaGreat
