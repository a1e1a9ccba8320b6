/- filigreelaw24.ViewCovers at every input. -/
import Derived.Test.YtfbkopepkklkjaaGreatDoorTM
import Derived.Test.YtfbkopepkklkjaaGreatDoorQA
import Derived.Test.YtfbkopepkklkjaaGreatDoorT7
namespace Go.Proofs.YtfbkopepkklkjaaGreatDoor
open Go Go.RowKit Go.PlainAid Fil

set_option maxRecDepth 20000 in
theorem same_self (x : Nat) (w : World) : Calls Tryz.prog 42 #[.float .f64 x, .float .f64 x] w fun r w' => r = .returned (.bool true) ∧ Below w.heap.size w w' := by
 have h1 := fun W => run_f64bits x W
 have B0 := Below.refl w.heap.size w
 go_enter Tryz.func42, Tryz.ntmps42
 go_wp2
 go_ret
 exact ⟨rfl, B0⟩

set_option maxRecDepth 100000 in
set_option maxHeartbeats 8000000 in
theorem bits_self (x y R : Nat) (w : World) : Calls Tryz.prog 20 #[.agg #[.complex .f64 x y, .float .f64 R], .agg #[.complex .f64 x y, .float .f64 R]] w fun r w' => r = .returned (.bool true) ∧ Below w.heap.size w w' := by
 have h1 := fun W => same_self x W
 have h2 := fun W => same_self y W
 have h3 := fun W => same_self R W
 have hst1 := fun (a : Addr) (v : Nat) (m : Mode) (W : World) => (run_store Tryz.prog W a (.float .f64 v) m rfl : (store a (.float .f64 v) m).run Tryz.prog W = stored Tryz.prog W a (.float .f64 v) m)
 have hst2 := fun (a : Addr) (v u : Nat) (m : Mode) (W : World) => (run_store Tryz.prog W a (.complex .f64 v u) m rfl : (store a (.complex .f64 v u) m).run Tryz.prog W = stored Tryz.prog W a (.complex .f64 v u) m)
 go_enter Tryz.func20, Tryz.ntmps20
 have B0 := Below.refl w.heap.size w
 have F2 := Blk.put (w) #[.complex .f64 x y, .float .f64 R] 59
 replace B0 := B0.alloc B0.size (.cells #[.complex .f64 x y, .float .f64 R] 59)
 replace F2 := F2.allocd (.cells #[.complex .f64 x y, .float .f64 R] 59)
 have F3 := Blk.put ((w).alloc (.cells #[.complex .f64 x y, .float .f64 R] 59)) #[.complex .f64 x y, .float .f64 R] 59
 rw [show ((w).alloc (.cells #[.complex .f64 x y, .float .f64 R] 59)).heap.size = w.heap.size + 1 by simp] at F3
 replace B0 := B0.alloc B0.size (.cells #[.complex .f64 x y, .float .f64 R] 59)
 obtain ⟨xF20_0, xF20_1⟩ := F2.ce2
 obtain ⟨xF30_0, xF30_1⟩ := F3.ce2
 go_wp2_with fail
 (with_reducible refine (h1 _).mono ?_)
 rintro r w1 ⟨rfl, hb1⟩
 clear xF20_0 xF20_1 xF30_0 xF30_1
 replace F2 := F2.keep hb1
 replace F3 := F3.keep hb1
 replace B0 := B0.trans (hb1.mono B0.size)
 clear hb1
 obtain ⟨xF21_0, xF21_1⟩ := F2.ce2
 obtain ⟨xF31_0, xF31_1⟩ := F3.ce2
 go_wp2_with fail
 (with_reducible refine (h2 _).mono ?_)
 rintro r w2 ⟨rfl, hb2⟩
 clear xF21_0 xF21_1 xF31_0 xF31_1
 replace F2 := F2.keep hb2
 replace F3 := F3.keep hb2
 replace B0 := B0.trans (hb2.mono B0.size)
 clear hb2
 obtain ⟨xF22_0, xF22_1⟩ := F2.ce2
 obtain ⟨xF32_0, xF32_1⟩ := F3.ce2
 go_wp2_with fail
 (with_reducible refine (h3 _).mono ?_)
 rintro r w3 ⟨rfl, hb3⟩
 clear xF22_0 xF22_1 xF32_0 xF32_1
 replace F2 := F2.keep hb3
 replace F3 := F3.keep hb3
 replace B0 := B0.trans (hb3.mono B0.size)
 clear hb3
 go_wp2
 go_ret
 exact ⟨rfl, B0⟩

set_option maxRecDepth 1000000 in
set_option maxHeartbeats 16000000 in
theorem covers_good (e er : Int) (x y R : Nat) (ln : Bool) (lS : ByteArray) (le : Int) (bn : Bool) (bS : ByteArray) (be : Int) (w : World) (hv : ∀ W : World, Tab W → Calls Tryz.prog 19 #[.agg #[.bool ln, .string lS, .int .i64 le, .bool bn, .string bS, .int .i64 be, .int .i64 e]] W fun r w' => r = .returned (.tuple #[.agg #[.complex .f64 x y, .float .f64 R], .int .i64 er]) ∧ Below W.heap.size W w') (hr : ∀ W : World, Calls Tryz.prog 10 #[.agg #[.bool ln, .string lS, .int .i64 le, .bool bn, .string bS, .int .i64 be, .int .i64 e]] W fun r w' => r = .returned (.bool true) ∧ Below W.heap.size W w') (hc : ∀ W : World, Calls Tryz.prog 21 #[.agg #[.bool ln, .string lS, .int .i64 le, .bool bn, .string bS, .int .i64 be, .int .i64 e]] W fun r w' => r = .returned (.tuple #[.agg #[.complex .f64 x y, .float .f64 R], .int .i64 er]) ∧ Below W.heap.size W w') (hT : Tab w) :
  Calls Tryz.prog 4 #[.agg #[.bool ln, .string lS, .int .i64 le, .bool bn, .string bS, .int .i64 be, .int .i64 e]] w fun r w' => r = .returned (.bool true) ∧ Below w.heap.size w w' := by
 have aw := fun W hW => awake24 W hW
 have hb := fun W => bits_self x y R W
 have hst1 := fun (a : Addr) (v : Nat) (m : Mode) (W : World) => (run_store Tryz.prog W a (.float .f64 v) m rfl : (store a (.float .f64 v) m).run Tryz.prog W = stored Tryz.prog W a (.float .f64 v) m)
 have hst2 := fun (a : Addr) (v u : Nat) (m : Mode) (W : World) => (run_store Tryz.prog W a (.complex .f64 v u) m rfl : (store a (.complex .f64 v u) m).run Tryz.prog W = stored Tryz.prog W a (.complex .f64 v u) m)
 go_enter Tryz.func4, Tryz.ntmps4
 have B0 := Below.refl w.heap.size w
 have F1 := Blk.put (w) #[.bool ln, .string lS, .int .i64 le, .bool bn, .string bS, .int .i64 be, .int .i64 e] 26
 replace B0 := B0.alloc B0.size (.cells #[.bool ln, .string lS, .int .i64 le, .bool bn, .string bS, .int .i64 be, .int .i64 e] 26)
 obtain ⟨xF10_0, xF10_1, xF10_2, xF10_3, xF10_4, xF10_5, xF10_6⟩ := F1.ce7
 go_wp2_with fail
 (with_reducible refine (hv _ (hT.below B0)).mono ?_)
 rintro r w1 ⟨rfl, hb1⟩
 clear xF10_0 xF10_1 xF10_2 xF10_3 xF10_4 xF10_5 xF10_6
 replace F1 := F1.keep hb1
 replace B0 := B0.trans (hb1.mono B0.size)
 clear hb1
 replace F1 := F1.allocd (.cells #[.complex .f64 x y, .float .f64 R] 59)
 have F3 := Blk.put (w1) #[.complex .f64 x y, .float .f64 R] 59
 replace B0 := B0.alloc B0.size (.cells #[.complex .f64 x y, .float .f64 R] 59)
 obtain ⟨xF11_0, xF11_1, xF11_2, xF11_3, xF11_4, xF11_5, xF11_6⟩ := F1.ce7
 go_wp2_with fail
 (with_reducible refine (hr _).mono ?_)
 rintro r w2 ⟨rfl, hb2⟩
 clear xF11_0 xF11_1 xF11_2 xF11_3 xF11_4 xF11_5 xF11_6
 replace F1 := F1.keep hb2
 replace F3 := F3.keep hb2
 replace B0 := B0.trans (hb2.mono B0.size)
 clear hb2
 obtain ⟨xF12_0, xF12_1, xF12_2, xF12_3, xF12_4, xF12_5, xF12_6⟩ := F1.ce7
 go_wp2_with fail
 (with_reducible refine (hc _).mono ?_)
 rintro r w3 ⟨rfl, hb3⟩
 clear xF12_0 xF12_1 xF12_2 xF12_3 xF12_4 xF12_5 xF12_6
 replace F1 := F1.keep hb3
 replace F3 := F3.keep hb3
 replace B0 := B0.trans (hb3.mono B0.size)
 clear hb3
 clear F1
 replace F3 := F3.allocd (.cells #[.complex .f64 x y, .float .f64 R] 59)
 have F5 := Blk.put (w3) #[.complex .f64 x y, .float .f64 R] 59
 replace B0 := B0.alloc B0.size (.cells #[.complex .f64 x y, .float .f64 R] 59)
 obtain ⟨xF33_0, xF33_1⟩ := F3.ce2
 obtain ⟨xF53_0, xF53_1⟩ := F5.ce2
 go_wp2_with fail
 (with_reducible refine (hb _).mono ?_)
 rintro r w4 ⟨rfl, hb4⟩
 clear xF33_0 xF33_1 xF53_0 xF53_1
 replace F3 := F3.keep hb4
 replace F5 := F5.keep hb4
 replace B0 := B0.trans (hb4.mono B0.size)
 clear hb4
 go_wp2_with fail
 (with_reducible refine (aw _ (hT.below B0)).mono ?_)
 rintro r w5 ⟨rfl, hb5⟩
 clear F3
 clear F5
 replace B0 := B0.trans (hb5.mono B0.size)
 clear hb5
 go_wp2
 go_ret
 exact ⟨rfl, B0⟩

set_option maxRecDepth 1000000 in
set_option maxHeartbeats 16000000 in
theorem covers_bad (e : Int) (ln : Bool) (lS : ByteArray) (le : Int) (bn : Bool) (bS : ByteArray) (be : Int) (w : World) (hv : ∀ W : World, Tab W → Calls Tryz.prog 19 #[.agg #[.bool ln, .string lS, .int .i64 le, .bool bn, .string bS, .int .i64 be, .int .i64 e]] W fun r w' => r = .returned (.tuple #[.agg #[.complex .f64 0 0, .float .f64 0], .int .i64 240]) ∧ Below W.heap.size W w') (hr : ∀ W : World, Calls Tryz.prog 10 #[.agg #[.bool ln, .string lS, .int .i64 le, .bool bn, .string bS, .int .i64 be, .int .i64 e]] W fun r w' => r = .returned (.bool false) ∧ Below W.heap.size W w') (hT : Tab w) :
  Calls Tryz.prog 4 #[.agg #[.bool ln, .string lS, .int .i64 le, .bool bn, .string bS, .int .i64 be, .int .i64 e]] w fun r w' => r = .returned (.bool true) ∧ Below w.heap.size w w' := by
 have aw := fun W hW => awake24 W hW
 have hb := fun W => bits_self 0 0 0 W
 have hst1 := fun (a : Addr) (v : Nat) (m : Mode) (W : World) => (run_store Tryz.prog W a (.float .f64 v) m rfl : (store a (.float .f64 v) m).run Tryz.prog W = stored Tryz.prog W a (.float .f64 v) m)
 have hst2 := fun (a : Addr) (v u : Nat) (m : Mode) (W : World) => (run_store Tryz.prog W a (.complex .f64 v u) m rfl : (store a (.complex .f64 v u) m).run Tryz.prog W = stored Tryz.prog W a (.complex .f64 v u) m)
 go_enter Tryz.func4, Tryz.ntmps4
 have B0 := Below.refl w.heap.size w
 have F1 := Blk.put (w) #[.bool ln, .string lS, .int .i64 le, .bool bn, .string bS, .int .i64 be, .int .i64 e] 26
 replace B0 := B0.alloc B0.size (.cells #[.bool ln, .string lS, .int .i64 le, .bool bn, .string bS, .int .i64 be, .int .i64 e] 26)
 obtain ⟨xF10_0, xF10_1, xF10_2, xF10_3, xF10_4, xF10_5, xF10_6⟩ := F1.ce7
 go_wp2_with fail
 (with_reducible refine (hv _ (hT.below B0)).mono ?_)
 rintro r w1 ⟨rfl, hb1⟩
 clear xF10_0 xF10_1 xF10_2 xF10_3 xF10_4 xF10_5 xF10_6
 replace F1 := F1.keep hb1
 replace B0 := B0.trans (hb1.mono B0.size)
 clear hb1
 replace F1 := F1.allocd (.cells #[.complex .f64 0 0, .float .f64 0] 59)
 have F3 := Blk.put (w1) #[.complex .f64 0 0, .float .f64 0] 59
 replace B0 := B0.alloc B0.size (.cells #[.complex .f64 0 0, .float .f64 0] 59)
 obtain ⟨xF11_0, xF11_1, xF11_2, xF11_3, xF11_4, xF11_5, xF11_6⟩ := F1.ce7
 go_wp2_with fail
 (with_reducible refine (hr _).mono ?_)
 rintro r w2 ⟨rfl, hb2⟩
 clear xF11_0 xF11_1 xF11_2 xF11_3 xF11_4 xF11_5 xF11_6
 replace F1 := F1.keep hb2
 replace F3 := F3.keep hb2
 replace B0 := B0.trans (hb2.mono B0.size)
 clear hb2
 obtain ⟨xF32_0, xF32_1⟩ := F3.ce2
 go_wp2_with fail
 (with_reducible refine (hb _).mono ?_)
 rintro r w3 ⟨rfl, hb3⟩
 clear xF32_0 xF32_1
 clear F1
 replace F3 := F3.keep hb3
 replace B0 := B0.trans (hb3.mono B0.size)
 clear hb3
 go_wp2_with fail
 (with_reducible refine (aw _ (hT.below B0)).mono ?_)
 rintro r w4 ⟨rfl, hb4⟩
 clear F3
 replace B0 := B0.trans (hb4.mono B0.size)
 clear hb4
 go_wp2
 go_ret
 exact ⟨rfl, B0⟩

theorem viewCovers_any (ln : Bool) (lS : ByteArray) (le : Int) (bn : Bool) (bS : ByteArray) (be e : Int) (w : World) (hT : Tab w)
  (fl : lS.size ≤ 9223372036854775807) (fb : bS.size ≤ 9223372036854775807) :
  Calls Tryz.prog 4 #[.agg #[.bool ln, .string lS, .int .i64 le, .bool bn, .string bS, .int .i64 be, .int .i64 e]] w fun r w' => r = .returned (.bool true) ∧ Below w.heap.size w w' := by
 have hrr := fun W => rright_any ⟨ln, lS, le⟩ ⟨bn, bS, be⟩ e W fl fb
 cases hS : sqB ⟨ln, lS, le⟩ ⟨bn, bS, be⟩ e
 ·rw [hS] at hrr
  exact covers_bad e ln lS le bn bS be w (fun W _ => vcover_bad ⟨ln, lS, le⟩ ⟨bn, bS, be⟩ e W fl fb hS) hrr hT
 rw [hS] at hrr
 unfold sqB at hS
 rw [Bool.and_eq_true, Bool.and_eq_true, sideB_iff] at hS
 obtain ⟨ml, mb, e1, e2⟩ := hS
 obtain ⟨lx, hlx, okl⟩ := ok_of_may ml
 obtain ⟨bx, hbx, okb⟩ := ok_of_may mb
 dsimp only at hlx hbx okl okb
 subst hlx; subst hbx
 obtain ⟨er, x, y, R, hv, hc⟩ := covers_both ⟨ln, lx, le⟩ ⟨bn, bx, be⟩ e okl okb e1 e2
 exact covers_good e er x y R ln (bstr lx) le bn (bstr bx) be w hv hrr hc hT
end Go.Proofs.YtfbkopepkklkjaaGreatDoor
