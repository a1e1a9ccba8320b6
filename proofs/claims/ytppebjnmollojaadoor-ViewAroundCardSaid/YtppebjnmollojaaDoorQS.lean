/- filigreelaw24.ViewAround: the walks, over letters; math.Nextafter downwards. -/
import Derived.Test.YtppebjnmollojaaDoorQ7
import Derived.Test.YtppebjnmollojaaDoorQA
import Derived.Test.YtppebjnmollojaaDoorV4
import Derived.Deep.CutBlock
namespace Go.Proofs.YtppebjnmollojaaDoor
open Go Go.RowKit Go.PlainAid Fil

set_option maxRecDepth 20000 in
set_option maxHeartbeats 2000000 in
theorem nextafter_down (b : Nat) (w : World) (b1 : 1 ≤ b) (hb : b < 9218868437227405312) : Calls Tryd.prog 24 #[.float .f64 b, .float .f64 0] w fun r w' => r = .returned (.float .f64 ((b - 1 : Nat))) ∧ w = w' := by
  have hr : fr b = b := fr_lt (by omega)
  have hf : fr b ≤ 9218868437227405312 := by omega
  have hs : fs b = false := fs_lt (by omega)
  have k0 : 0 < fk b := by rw [fk_pos hs]; omega
  have z0 : fr 0 ≤ 9218868437227405312 := by decide
  have hn1 := nan_no hf
  have hn2 := nan_no z0
  have hi1 := fun W => isnan_any b W
  have hi2 := fun W => isnan_any 0 W
  rw [hn1] at hi1
  rw [hn2] at hi2
  have e3 : (FloatKind.f64.format.order b 0 == some .eq) = false := by rw [ord_eq hf z0, fk_nought]; exact decide_eq_false (by omega)
  have e4 : (FloatKind.f64.format.order b 0 == some .gt) = true := by rw [ord_gt hf z0, fk_nought]; exact decide_eq_true k0
  have e5 : (FloatKind.f64.format.order 0 b == some .gt) = false := by rw [ord_gt z0 hf, fk_nought]; exact decide_eq_false (by omega)
  have h1 := run_f64bits
  have hu : IntKind.u64.wrap ((b : Int) - 1) = (b : Int) - 1 := by rw [IntKind.wrap_u64]; omega
  have hfr := fun W => run_from_sub b b1 W
  clear hr hf hs k0 z0 hn1 hn2 b1 hb
  go_enter Tryd.func24, Tryd.ntmps24
  go_wp2_with (first
    | (go_at_call 49; go_must (first | refine (hi1 _).mono ?_ | refine (hi2 _).mono ?_); rintro r w1 ⟨rfl, rfl⟩))
  go_ret
  exact ⟨rfl, rfl⟩
set_option maxRecDepth 20000 in
theorem same_nought (w : World) : Calls Tryd.prog 48 #[.float .f64 0, .float .f64 0] w fun r w' => r = .returned (.bool true) ∧ Below w.heap.size w w' := by
  have h1 := fun W => run_f64bits 0 W
  have B0 := Below.refl w.heap.size w
  go_enter Tryd.func48, Tryd.ntmps48
  go_wp2
  go_ret
  exact ⟨rfl, B0⟩

set_option maxRecDepth 100000 in
set_option maxHeartbeats 8000000 in
theorem bits_nought (w : World) : Calls Tryd.prog 21 #[.agg #[.complex .f64 0 0, .float .f64 0], .agg #[.complex .f64 0 0, .float .f64 0]] w fun r w' => r = .returned (.bool true) ∧ Below w.heap.size w w' := by
  have h1 := fun W => same_nought W
  have hst1 := fun (a : Addr) (v : Nat) (m : Mode) (W : World) => (run_store Tryd.prog W a (.float .f64 v) m rfl : (store a (.float .f64 v) m).run Tryd.prog W = stored Tryd.prog W a (.float .f64 v) m)
  have hst2 := fun (a : Addr) (v u : Nat) (m : Mode) (W : World) => (run_store Tryd.prog W a (.complex .f64 v u) m rfl : (store a (.complex .f64 v u) m).run Tryd.prog W = stored Tryd.prog W a (.complex .f64 v u) m)
  go_enter Tryd.func21, Tryd.ntmps21
  have B0 := Below.refl w.heap.size w
  have F2 := Blk.put (w) #[.complex .f64 0 0, .float .f64 0] 61
  replace B0 := B0.alloc B0.size (.cells #[.complex .f64 0 0, .float .f64 0] 61)
  replace F2 := F2.allocd (.cells #[.complex .f64 0 0, .float .f64 0] 61)
  have F3 := Blk.put ((w).alloc (.cells #[.complex .f64 0 0, .float .f64 0] 61)) #[.complex .f64 0 0, .float .f64 0] 61
  rw [show ((w).alloc (.cells #[.complex .f64 0 0, .float .f64 0] 61)).heap.size = w.heap.size + 1 by simp] at F3
  replace B0 := B0.alloc B0.size (.cells #[.complex .f64 0 0, .float .f64 0] 61)
  obtain ⟨xF20_0, xF20_1⟩ := F2.ce2
  obtain ⟨xF30_0, xF30_1⟩ := F3.ce2
  go_wp2_with fail
  (with_reducible refine (h1 _).mono ?_)
  rintro r w1 ⟨rfl, hb1⟩
  clear xF20_0 xF20_1 xF30_0 xF30_1
  replace F2 := F2.keep hb1
  replace F3 := F3.keep hb1
  replace B0 := B0.trans (hb1.mono B0.size)
  clear hb1
  obtain ⟨xF21_0, xF21_1⟩ := F2.ce2
  obtain ⟨xF31_0, xF31_1⟩ := F3.ce2
  go_wp2_with fail
  (with_reducible refine (h1 _).mono ?_)
  rintro r w2 ⟨rfl, hb2⟩
  clear xF21_0 xF21_1 xF31_0 xF31_1
  replace F2 := F2.keep hb2
  replace F3 := F3.keep hb2
  replace B0 := B0.trans (hb2.mono B0.size)
  clear hb2
  obtain ⟨xF22_0, xF22_1⟩ := F2.ce2
  obtain ⟨xF32_0, xF32_1⟩ := F3.ce2
  go_wp2_with fail
  (with_reducible refine (h1 _).mono ?_)
  rintro r w3 ⟨rfl, hb3⟩
  clear xF22_0 xF22_1 xF32_0 xF32_1
  replace F2 := F2.keep hb3
  replace F3 := F3.keep hb3
  replace B0 := B0.trans (hb3.mono B0.size)
  clear hb3
  go_wp2
  go_ret
  exact ⟨rfl, B0⟩

set_option maxRecDepth 1000000 in
set_option maxHeartbeats 16000000 in
theorem around_err (e er : Int) (ln : Bool) (lS : ByteArray) (le : Int) (bn : Bool) (bS : ByteArray) (be : Int) (w : World) (hcov : ∀ W : World, Tab W → Calls Tryd.prog 20 #[.agg #[.bool ln, .string lS, .int .i64 le, .bool bn, .string bS, .int .i64 be, .int .i64 e]] W fun r w' => r = .returned (.tuple #[.agg #[.complex .f64 0 0, .float .f64 0], .int .i64 er]) ∧ Below W.heap.size W w') (hx : er ≠ 0) (hT : Tab w) :
    Calls Tryd.prog 7 #[.agg #[.bool ln, .string lS, .int .i64 le, .bool bn, .string bS, .int .i64 be, .int .i64 e]] w fun r' w' => r' = .returned (.bool true) ∧ Below w.heap.size w w' := by
  have aw := fun W hW => awake24 W hW
  have hst1 := fun (a : Addr) (v : Nat) (m : Mode) (W : World) => (run_store Tryd.prog W a (.float .f64 v) m rfl : (store a (.float .f64 v) m).run Tryd.prog W = stored Tryd.prog W a (.float .f64 v) m)
  have hst2 := fun (a : Addr) (v u : Nat) (m : Mode) (W : World) => (run_store Tryd.prog W a (.complex .f64 v u) m rfl : (store a (.complex .f64 v u) m).run Tryd.prog W = stored Tryd.prog W a (.complex .f64 v u) m)
  have hb := fun W => bits_nought W
  have hx2 : (er != 0) = true := by simpa using hx
  clear hx
  go_enter Tryd.func7, Tryd.ntmps7
  have B0 := Below.refl w.heap.size w
  have F1 := Blk.put (w) #[.bool ln, .string lS, .int .i64 le, .bool bn, .string bS, .int .i64 be, .int .i64 e] 31
  replace B0 := B0.alloc B0.size (.cells #[.bool ln, .string lS, .int .i64 le, .bool bn, .string bS, .int .i64 be, .int .i64 e] 31)
  go_wp2_with fail
  (with_reducible refine (aw _ (hT.below B0)).mono ?_)
  rintro r w1 ⟨rfl, hb1⟩
  replace F1 := F1.keep hb1
  replace B0 := B0.trans (hb1.mono B0.size)
  clear hb1
  obtain ⟨xF11_0, xF11_1, xF11_2, xF11_3, xF11_4, xF11_5, xF11_6⟩ := F1.ce7
  go_wp2_with fail
  (with_reducible refine (hcov _ (hT.below B0)).mono ?_)
  rintro r w2 ⟨rfl, hb2⟩
  clear xF11_0 xF11_1 xF11_2 xF11_3 xF11_4 xF11_5 xF11_6
  replace F1 := F1.keep hb2
  replace B0 := B0.trans (hb2.mono B0.size)
  clear hb2
  clear F1
  have F3 := Blk.put (w2) #[.complex .f64 0 0, .float .f64 0] 61
  replace B0 := B0.alloc B0.size (.cells #[.complex .f64 0 0, .float .f64 0] 61)
  obtain ⟨xF32_0, xF32_1⟩ := F3.ce2
  go_wp2_with fail
  (with_reducible refine (hb _).mono ?_)
  rintro r w3 ⟨rfl, hb3⟩
  clear xF32_0 xF32_1
  replace F3 := F3.keep hb3
  replace B0 := B0.trans (hb3.mono B0.size)
  clear hb3
  go_wp2
  go_ret
  exact ⟨rfl, B0⟩

set_option maxRecDepth 1000000 in
set_option maxHeartbeats 16000000 in
theorem around_main (e : Int) (x y R Rm : Nat) (n0 n1 n2 n3 y1 y2 y3 : Bool) (ln : Bool) (lS : ByteArray) (le : Int) (bn : Bool) (bS : ByteArray) (be : Int) (pn : Bool) (pS : ByteArray) (pe : Int) (qn : Bool) (qS : ByteArray) (qe : Int) (gn : Bool) (gS : ByteArray) (ge : Int) (hn : Bool) (hS : ByteArray) (he : Int) (rn : Bool) (rS : ByteArray) (re : Int) (tn : Bool) (tS : ByteArray) (te : Int) (w : World) (hcov : ∀ W : World, Tab W → Calls Tryd.prog 20 #[.agg #[.bool ln, .string lS, .int .i64 le, .bool bn, .string bS, .int .i64 be, .int .i64 e]] W fun r w' => r = .returned (.tuple #[.agg #[.complex .f64 x y, .float .f64 R], .int .i64 0]) ∧ Below W.heap.size W w') (hC : ∀ W : World, Tab W → Calls Tryd.prog 10 #[.agg #[.bool ln, .string lS, .int .i64 le, .bool bn, .string bS, .int .i64 be, .int .i64 e]] W fun r w' => r = .returned (.tuple #[.agg #[.bool ln, .string lS, .int .i64 le, .bool bn, .string bS, .int .i64 be, .bool pn, .string pS, .int .i64 pe, .bool bn, .string bS, .int .i64 be, .bool ln, .string lS, .int .i64 le, .bool qn, .string qS, .int .i64 qe, .bool pn, .string pS, .int .i64 pe, .bool qn, .string qS, .int .i64 qe], .int .i64 0]) ∧ Below W.heap.size W w') (hZ : ∀ W : World, Tab W → Calls Tryd.prog 22 #[.complex .f64 x y] W fun r w' => r = .returned (.tuple #[.agg #[.bool gn, .string gS, .int .i64 ge, .bool hn, .string hS, .int .i64 he], .int .i64 0]) ∧ Below W.heap.size W w') (hR : ∀ W : World, Tab W → Calls Tryd.prog 23 #[.float .f64 R] W fun r w' => r = .returned (.tuple #[.agg #[.bool rn, .string rS, .int .i64 re], .int .i64 0]) ∧ Below W.heap.size W w') (hN : ∀ W : World, Tab W → Calls Tryd.prog 24 #[.float .f64 R, .float .f64 0] W fun r w' => r = .returned (.float .f64 Rm) ∧ Below W.heap.size W w') (hL : ∀ W : World, Tab W → Calls Tryd.prog 23 #[.float .f64 Rm] W fun r w' => r = .returned (.tuple #[.agg #[.bool tn, .string tS, .int .i64 te], .int .i64 0]) ∧ Below W.heap.size W w') (e1 : (FloatKind.f64.format.order R 0 == some .lt) = false) (e2 : (FloatKind.f64.format.order R 0 == some .eq) = false) (i0 : ∀ W : World, Tab W → Calls Tryd.prog 25 #[.agg #[.bool ln, .string lS, .int .i64 le, .bool bn, .string bS, .int .i64 be], .agg #[.bool gn, .string gS, .int .i64 ge, .bool hn, .string hS, .int .i64 he], .agg #[.bool rn, .string rS, .int .i64 re]] W fun r w' => r = .returned (.tuple #[.bool true, .int .i64 0]) ∧ Below W.heap.size W w') (j0 : ∀ W : World, Tab W → Calls Tryd.prog 25 #[.agg #[.bool ln, .string lS, .int .i64 le, .bool bn, .string bS, .int .i64 be], .agg #[.bool gn, .string gS, .int .i64 ge, .bool hn, .string hS, .int .i64 he], .agg #[.bool tn, .string tS, .int .i64 te]] W fun r w' => r = .returned (.tuple #[.bool n0, .int .i64 0]) ∧ Below W.heap.size W w') (i1 : ∀ W : World, Tab W → Calls Tryd.prog 25 #[.agg #[.bool pn, .string pS, .int .i64 pe, .bool bn, .string bS, .int .i64 be], .agg #[.bool gn, .string gS, .int .i64 ge, .bool hn, .string hS, .int .i64 he], .agg #[.bool rn, .string rS, .int .i64 re]] W fun r w' => r = .returned (.tuple #[.bool true, .int .i64 0]) ∧ Below W.heap.size W w') (j1 : ∀ W : World, Tab W → Calls Tryd.prog 25 #[.agg #[.bool pn, .string pS, .int .i64 pe, .bool bn, .string bS, .int .i64 be], .agg #[.bool gn, .string gS, .int .i64 ge, .bool hn, .string hS, .int .i64 he], .agg #[.bool tn, .string tS, .int .i64 te]] W fun r w' => r = .returned (.tuple #[.bool n1, .int .i64 0]) ∧ Below W.heap.size W w') (i2 : ∀ W : World, Tab W → Calls Tryd.prog 25 #[.agg #[.bool ln, .string lS, .int .i64 le, .bool qn, .string qS, .int .i64 qe], .agg #[.bool gn, .string gS, .int .i64 ge, .bool hn, .string hS, .int .i64 he], .agg #[.bool rn, .string rS, .int .i64 re]] W fun r w' => r = .returned (.tuple #[.bool true, .int .i64 0]) ∧ Below W.heap.size W w') (j2 : ∀ W : World, Tab W → Calls Tryd.prog 25 #[.agg #[.bool ln, .string lS, .int .i64 le, .bool qn, .string qS, .int .i64 qe], .agg #[.bool gn, .string gS, .int .i64 ge, .bool hn, .string hS, .int .i64 he], .agg #[.bool tn, .string tS, .int .i64 te]] W fun r w' => r = .returned (.tuple #[.bool n2, .int .i64 0]) ∧ Below W.heap.size W w') (i3 : ∀ W : World, Tab W → Calls Tryd.prog 25 #[.agg #[.bool pn, .string pS, .int .i64 pe, .bool qn, .string qS, .int .i64 qe], .agg #[.bool gn, .string gS, .int .i64 ge, .bool hn, .string hS, .int .i64 he], .agg #[.bool rn, .string rS, .int .i64 re]] W fun r w' => r = .returned (.tuple #[.bool true, .int .i64 0]) ∧ Below W.heap.size W w') (j3 : ∀ W : World, Tab W → Calls Tryd.prog 25 #[.agg #[.bool pn, .string pS, .int .i64 pe, .bool qn, .string qS, .int .i64 qe], .agg #[.bool gn, .string gS, .int .i64 ge, .bool hn, .string hS, .int .i64 he], .agg #[.bool tn, .string tS, .int .i64 te]] W fun r w' => r = .returned (.tuple #[.bool n3, .int .i64 0]) ∧ Below W.heap.size W w') (z1 : (n0 = false ∧ y1 = false) ∨ (n0 = true ∧ n1 = y1)) (z2 : (y1 = false ∧ y2 = false) ∨ (y1 = true ∧ n2 = y2)) (z3 : (y2 = false ∧ y3 = false) ∨ (y2 = true ∧ n3 = y3)) (hy : y3 = false) (hT : Tab w) :
    Calls Tryd.prog 7 #[.agg #[.bool ln, .string lS, .int .i64 le, .bool bn, .string bS, .int .i64 be, .int .i64 e]] w fun r' w' => r' = .returned (.bool true) ∧ Below w.heap.size w w' := by
  have aw := fun W hW => awake24 W hW
  have hst1 := fun (a : Addr) (v : Nat) (m : Mode) (W : World) => (run_store Tryd.prog W a (.float .f64 v) m rfl : (store a (.float .f64 v) m).run Tryd.prog W = stored Tryd.prog W a (.float .f64 v) m)
  have hst2 := fun (a : Addr) (v u : Nat) (m : Mode) (W : World) => (run_store Tryd.prog W a (.complex .f64 v u) m rfl : (store a (.complex .f64 v u) m).run Tryd.prog W = stored Tryd.prog W a (.complex .f64 v u) m)
  replace hy := Lib.hid hy
  replace z1 := Lib.hid z1
  replace z2 := Lib.hid z2
  replace z3 := Lib.hid z3
  go_enter Tryd.func7, Tryd.ntmps7
  have B0 := Below.refl w.heap.size w
  have F1 := Blk.put (w) #[.bool ln, .string lS, .int .i64 le, .bool bn, .string bS, .int .i64 be, .int .i64 e] 31
  replace B0 := B0.alloc B0.size (.cells #[.bool ln, .string lS, .int .i64 le, .bool bn, .string bS, .int .i64 be, .int .i64 e] 31)
  go_wp2_with fail
  (with_reducible refine (aw _ (hT.below B0)).mono ?_)
  rintro r w1 ⟨rfl, hb1⟩
  replace F1 := F1.keep hb1
  replace B0 := B0.trans (hb1.mono B0.size)
  clear hb1
  obtain ⟨xF11_0, xF11_1, xF11_2, xF11_3, xF11_4, xF11_5, xF11_6⟩ := F1.ce7
  go_wp2_with fail
  (with_reducible refine (hcov _ (hT.below B0)).mono ?_)
  rintro r w2 ⟨rfl, hb2⟩
  clear xF11_0 xF11_1 xF11_2 xF11_3 xF11_4 xF11_5 xF11_6
  replace F1 := F1.keep hb2
  replace B0 := B0.trans (hb2.mono B0.size)
  clear hb2
  replace F1 := F1.allocd (.cells #[.complex .f64 x y, .float .f64 R] 61)
  have F3 := Blk.put (w2) #[.complex .f64 x y, .float .f64 R] 61
  replace B0 := B0.alloc B0.size (.cells #[.complex .f64 x y, .float .f64 R] 61)
  obtain ⟨xF12_0, xF12_1, xF12_2, xF12_3, xF12_4, xF12_5, xF12_6⟩ := F1.ce7
  go_wp2_with fail
  (with_reducible refine (hC _ (hT.below B0)).mono ?_)
  rintro r w3 ⟨rfl, hb3⟩
  clear xF12_0 xF12_1 xF12_2 xF12_3 xF12_4 xF12_5 xF12_6
  replace F1 := F1.keep hb3
  replace F3 := F3.keep hb3
  replace B0 := B0.trans (hb3.mono B0.size)
  clear hb3
  dsimp only
  go_step
  refine wpList_move rfl _ (.inl rfl) (.tuple #[.agg #[.bool ln, .string lS, .int .i64 le, .bool bn, .string bS, .int .i64 be, .bool pn, .string pS, .int .i64 pe, .bool bn, .string bS, .int .i64 be, .bool ln, .string lS, .int .i64 le, .bool qn, .string qS, .int .i64 qe, .bool pn, .string pS, .int .i64 pe, .bool qn, .string qS, .int .i64 qe], .int .i64 0]) rfl ?_
  (try dsimp only [Act.put]); (try go_frame)
  refine wpList_extract rfl _ 0 rfl _ (.agg #[.bool ln, .string lS, .int .i64 le, .bool bn, .string bS, .int .i64 be, .bool pn, .string pS, .int .i64 pe, .bool bn, .string bS, .int .i64 be, .bool ln, .string lS, .int .i64 le, .bool qn, .string qS, .int .i64 qe, .bool pn, .string pS, .int .i64 pe, .bool qn, .string qS, .int .i64 qe]) rfl rfl ?_
  (try dsimp only [Act.put]); (try go_frame)
  refine wpList_extract rfl _ 1 rfl _ (.int .i64 0) rfl rfl ?_
  (try dsimp only [Act.put]); (try go_frame)
  refine wpList_new rfl _ rfl _ Tryd.zeroValue35 ?_
  (try dsimp only [Act.put]); (try go_frame)
  refine wpList_store_new rfl _ _ _ rfl _ #[.bool ln, .string lS, .int .i64 le, .bool bn, .string bS, .int .i64 be, .bool pn, .string pS, .int .i64 pe, .bool bn, .string bS, .int .i64 be, .bool ln, .string lS, .int .i64 le, .bool qn, .string qS, .int .i64 qe, .bool pn, .string pS, .int .i64 pe, .bool qn, .string qS, .int .i64 qe] rfl rfl (by kernel_rfl) rfl (by simp [Value.oneCell']) ?_
  (try dsimp only [Act.put]); (try go_frame)
  clear F1
  replace F3 := F3.allocd (.cells #[.bool ln, .string lS, .int .i64 le, .bool bn, .string bS, .int .i64 be, .bool pn, .string pS, .int .i64 pe, .bool bn, .string bS, .int .i64 be, .bool ln, .string lS, .int .i64 le, .bool qn, .string qS, .int .i64 qe, .bool pn, .string pS, .int .i64 pe, .bool qn, .string qS, .int .i64 qe] 35)
  have F5 := Blk.put (w3) #[.bool ln, .string lS, .int .i64 le, .bool bn, .string bS, .int .i64 be, .bool pn, .string pS, .int .i64 pe, .bool bn, .string bS, .int .i64 be, .bool ln, .string lS, .int .i64 le, .bool qn, .string qS, .int .i64 qe, .bool pn, .string pS, .int .i64 pe, .bool qn, .string qS, .int .i64 qe] 35
  replace B0 := B0.alloc B0.size (.cells #[.bool ln, .string lS, .int .i64 le, .bool bn, .string bS, .int .i64 be, .bool pn, .string pS, .int .i64 pe, .bool bn, .string bS, .int .i64 be, .bool ln, .string lS, .int .i64 le, .bool qn, .string qS, .int .i64 qe, .bool pn, .string pS, .int .i64 pe, .bool qn, .string qS, .int .i64 qe] 35)
  refine wpList_move rfl _ (.inr rfl) (.int .i64 0) rfl ?_
  (try dsimp only [Act.put]); (try go_frame)
  obtain ⟨xF33_0, xF33_1⟩ := F3.ce2
  go_wp2_with fail
  (with_reducible refine (hZ _ (hT.below B0)).mono ?_)
  rintro r w4 ⟨rfl, hb4⟩
  clear xF33_0 xF33_1
  replace F3 := F3.keep hb4
  replace F5 := F5.keep hb4
  replace B0 := B0.trans (hb4.mono B0.size)
  clear hb4
  replace F3 := F3.allocd (.cells #[.bool gn, .string gS, .int .i64 ge, .bool hn, .string hS, .int .i64 he] 27)
  replace F5 := F5.allocd (.cells #[.bool gn, .string gS, .int .i64 ge, .bool hn, .string hS, .int .i64 he] 27)
  have F6 := Blk.put (w4) #[.bool gn, .string gS, .int .i64 ge, .bool hn, .string hS, .int .i64 he] 27
  replace B0 := B0.alloc B0.size (.cells #[.bool gn, .string gS, .int .i64 ge, .bool hn, .string hS, .int .i64 he] 27)
  obtain ⟨xF34_0, xF34_1⟩ := F3.ce2
  go_wp2_with fail
  (with_reducible refine (hR _ (hT.below B0)).mono ?_)
  rintro r w5 ⟨rfl, hb5⟩
  clear xF34_0 xF34_1
  replace F3 := F3.keep hb5
  replace F5 := F5.keep hb5
  replace F6 := F6.keep hb5
  replace B0 := B0.trans (hb5.mono B0.size)
  clear hb5
  replace F3 := F3.allocd (.cells #[.bool rn, .string rS, .int .i64 re] 25)
  replace F5 := F5.allocd (.cells #[.bool rn, .string rS, .int .i64 re] 25)
  replace F6 := F6.allocd (.cells #[.bool rn, .string rS, .int .i64 re] 25)
  have F8 := Blk.put (w5) #[.bool rn, .string rS, .int .i64 re] 25
  replace B0 := B0.alloc B0.size (.cells #[.bool rn, .string rS, .int .i64 re] 25)
  obtain ⟨xF35_0, xF35_1⟩ := F3.ce2
  go_wp2_with fail
  (with_reducible refine (hN _ (hT.below B0)).mono ?_)
  rintro r w6 ⟨rfl, hb6⟩
  clear xF35_0 xF35_1
  replace F3 := F3.keep hb6
  replace F5 := F5.keep hb6
  replace F6 := F6.keep hb6
  replace F8 := F8.keep hb6
  replace B0 := B0.trans (hb6.mono B0.size)
  clear hb6
  go_wp2_with fail
  (with_reducible refine (hL _ (hT.below B0)).mono ?_)
  rintro r w7 ⟨rfl, hb7⟩
  replace F3 := F3.keep hb7
  replace F5 := F5.keep hb7
  replace F6 := F6.keep hb7
  replace F8 := F8.keep hb7
  replace B0 := B0.trans (hb7.mono B0.size)
  clear hb7
  replace F3 := F3.allocd (.cells #[.bool tn, .string tS, .int .i64 te] 25)
  replace F5 := F5.allocd (.cells #[.bool tn, .string tS, .int .i64 te] 25)
  replace F6 := F6.allocd (.cells #[.bool tn, .string tS, .int .i64 te] 25)
  replace F8 := F8.allocd (.cells #[.bool tn, .string tS, .int .i64 te] 25)
  have F10 := Blk.put (w7) #[.bool tn, .string tS, .int .i64 te] 25
  replace B0 := B0.alloc B0.size (.cells #[.bool tn, .string tS, .int .i64 te] 25)
  obtain ⟨xF37_0, xF37_1⟩ := F3.ce2
  go_wp2_with fail
  clear xF37_0 xF37_1
  refine wp_loop_rounds 5 ?_
  rw [rounds_succ]
  go_upto_block 1 with fail
  go_cut [12] (fun s12 wx => s12 = .bool n0 ∧ Blk wx (w3.heap.size) #[.bool ln, .string lS, .int .i64 le, .bool bn, .string bS, .int .i64 be, .bool pn, .string pS, .int .i64 pe, .bool bn, .string bS, .int .i64 be, .bool ln, .string lS, .int .i64 le, .bool qn, .string qS, .int .i64 qe, .bool pn, .string pS, .int .i64 pe, .bool qn, .string qS, .int .i64 qe] 35 ∧ Blk wx (w4.heap.size) #[.bool gn, .string gS, .int .i64 ge, .bool hn, .string hS, .int .i64 he] 27 ∧ Blk wx (w5.heap.size) #[.bool rn, .string rS, .int .i64 re] 25 ∧ Blk wx (w7.heap.size) #[.bool tn, .string tS, .int .i64 te] 25 ∧ Below w.heap.size w wx)
  case first =>
    as_aux_lemma =>
    go_wp2_with fail
    refine wp_region_any (by kernel_rfl) ?_
    have yF57_0 : ((w7).alloc (.cells #[.bool tn, .string tS, .int .i64 te] 25)).cell? ⟨w3.heap.size, 0, none⟩ = some (.bool ln) := F5.at 0 (by simp)
    have yF57_1 : ((w7).alloc (.cells #[.bool tn, .string tS, .int .i64 te] 25)).cell? ⟨w3.heap.size, 1, none⟩ = some (.string lS) := F5.at 1 (by simp)
    have yF57_2 : ((w7).alloc (.cells #[.bool tn, .string tS, .int .i64 te] 25)).cell? ⟨w3.heap.size, 2, none⟩ = some (.int .i64 le) := F5.at 2 (by simp)
    have yF57_3 : ((w7).alloc (.cells #[.bool tn, .string tS, .int .i64 te] 25)).cell? ⟨w3.heap.size, 3, none⟩ = some (.bool bn) := F5.at 3 (by simp)
    have yF57_4 : ((w7).alloc (.cells #[.bool tn, .string tS, .int .i64 te] 25)).cell? ⟨w3.heap.size, 4, none⟩ = some (.string bS) := F5.at 4 (by simp)
    have yF57_5 : ((w7).alloc (.cells #[.bool tn, .string tS, .int .i64 te] 25)).cell? ⟨w3.heap.size, 5, none⟩ = some (.int .i64 be) := F5.at 5 (by simp)
    obtain ⟨xF67_0, xF67_1, xF67_2, xF67_3, xF67_4, xF67_5⟩ := F6.ce6
    obtain ⟨xF87_0, xF87_1, xF87_2⟩ := F8.ce3
    have hHeld : (fun w' : World => w'.cell? ⟨w3.heap.size, 0, none⟩ = some (.bool ln) ∧ w'.cell? ⟨w3.heap.size, 1, none⟩ = some (.string lS) ∧ w'.cell? ⟨w3.heap.size, 2, none⟩ = some (.int .i64 le) ∧ w'.cell? ⟨w3.heap.size, 3, none⟩ = some (.bool bn) ∧ w'.cell? ⟨w3.heap.size, 4, none⟩ = some (.string bS) ∧ w'.cell? ⟨w3.heap.size, 5, none⟩ = some (.int .i64 be) ∧ w'.cell? ⟨w4.heap.size, 0, none⟩ = some (.bool gn) ∧ w'.cell? ⟨w4.heap.size, 1, none⟩ = some (.string gS) ∧ w'.cell? ⟨w4.heap.size, 2, none⟩ = some (.int .i64 ge) ∧ w'.cell? ⟨w4.heap.size, 3, none⟩ = some (.bool hn) ∧ w'.cell? ⟨w4.heap.size, 4, none⟩ = some (.string hS) ∧ w'.cell? ⟨w4.heap.size, 5, none⟩ = some (.int .i64 he) ∧ w'.cell? ⟨w5.heap.size, 0, none⟩ = some (.bool rn) ∧ w'.cell? ⟨w5.heap.size, 1, none⟩ = some (.string rS) ∧ w'.cell? ⟨w5.heap.size, 2, none⟩ = some (.int .i64 re)) ((w7).alloc (.cells #[.bool tn, .string tS, .int .i64 te] 25)).drew := ⟨yF57_0, yF57_1, yF57_2, yF57_3, yF57_4, yF57_5, xF67_0, xF67_1, xF67_2, xF67_3, xF67_4, xF67_5, xF87_0, xF87_1, xF87_2⟩
    refine wpAny_of_held (S := fun w' : World => w'.cell? ⟨w3.heap.size, 0, none⟩ = some (.bool ln) ∧ w'.cell? ⟨w3.heap.size, 1, none⟩ = some (.string lS) ∧ w'.cell? ⟨w3.heap.size, 2, none⟩ = some (.int .i64 le) ∧ w'.cell? ⟨w3.heap.size, 3, none⟩ = some (.bool bn) ∧ w'.cell? ⟨w3.heap.size, 4, none⟩ = some (.string bS) ∧ w'.cell? ⟨w3.heap.size, 5, none⟩ = some (.int .i64 be) ∧ w'.cell? ⟨w4.heap.size, 0, none⟩ = some (.bool gn) ∧ w'.cell? ⟨w4.heap.size, 1, none⟩ = some (.string gS) ∧ w'.cell? ⟨w4.heap.size, 2, none⟩ = some (.int .i64 ge) ∧ w'.cell? ⟨w4.heap.size, 3, none⟩ = some (.bool hn) ∧ w'.cell? ⟨w4.heap.size, 4, none⟩ = some (.string hS) ∧ w'.cell? ⟨w4.heap.size, 5, none⟩ = some (.int .i64 he) ∧ w'.cell? ⟨w5.heap.size, 0, none⟩ = some (.bool rn) ∧ w'.cell? ⟨w5.heap.size, 1, none⟩ = some (.string rS) ∧ w'.cell? ⟨w5.heap.size, 2, none⟩ = some (.int .i64 re)) _ _ _ ((w7).alloc (.cells #[.bool tn, .string tS, .int .i64 te] 25)).drew ?_
    replace F3 := F3.drew
    replace F5 := F5.drew
    replace F6 := F6.drew
    replace F8 := F8.drew
    replace F10 := F10.drew
    replace B0 := B0.drew
    generalize ((w7).alloc (.cells #[.bool tn, .string tS, .int .i64 te] 25)).drew = v1 at *
    refine wpAnyH_take (i := 0) (v := _) (by first | (simp only [List.getElem?_toArray, List.getElem?_cons_zero]; rfl) | rfl) (by kernel_rfl) (by kernel_rfl) (by kernel_rfl) (by exact fun _ _ _ h => h) (Or.inl ⟨by rfl, by (intro w hSw; (try dsimp only at hSw); go_simp; try with_reducible rfl)⟩) (by assumption) ?_
    (try dsimp only [Act.put]); (try go_frame)
    refine wpAnyH_take (i := 1) (v := _) (by first | (simp only [List.getElem?_toArray, List.getElem?_cons_zero, List.getElem?_cons_succ]; rfl) | rfl) (by kernel_rfl) (by kernel_rfl) (by kernel_rfl) (by exact fun _ _ _ h => h) (Or.inl ⟨by rfl, by (intro w hSw; (try dsimp only at hSw); go_simp; try with_reducible rfl)⟩) (by assumption) ?_
    (try dsimp only [Act.put]); (try go_frame)
    refine wpAnyH_take (i := 2) (v := _) (by first | (simp only [List.getElem?_toArray, List.getElem?_cons_zero, List.getElem?_cons_succ]; rfl) | rfl) (by kernel_rfl) (by kernel_rfl) (by kernel_rfl) (by exact fun _ _ _ h => h) (Or.inl ⟨by rfl, by (intro w hSw; (try dsimp only at hSw); go_simp; try with_reducible rfl)⟩) (by assumption) ?_
    (try dsimp only [Act.put]); (try go_frame)
    refine wpAnyH_take (i := 3) (v := _) (by first | (simp only [List.getElem?_toArray, List.getElem?_cons_zero, List.getElem?_cons_succ]; rfl) | rfl) (by kernel_rfl) (by kernel_rfl) (by kernel_rfl) (by exact fun _ _ _ h => h) (Or.inl ⟨by rfl, by (intro w hSw; (try dsimp only at hSw); go_simp; try with_reducible rfl)⟩) (by assumption) ?_
    (try dsimp only [Act.put]); (try go_frame)
    refine wpAnyH_take (i := 4) (v := _) (by first | (simp only [List.getElem?_toArray, List.getElem?_cons_zero, List.getElem?_cons_succ]; rfl) | rfl) (by kernel_rfl) (by kernel_rfl) (by kernel_rfl) (by exact fun _ _ _ h => h) (Or.inl ⟨by rfl, by (intro w hSw; (try dsimp only at hSw); go_simp; try with_reducible rfl)⟩) (by assumption) ?_
    (try dsimp only [Act.put]); (try go_frame)
    refine wpAnyH_ready (rs := [5]) (by kernel_rfl) (by simp) ?_
    refine AllReadyH.cons rfl (fun K hK => ?_) AllReadyH.nil
    go_simp
    (with_reducible refine (i0 _ (hT.below B0)).mono ?_)
    rintro r w8 ⟨rfl, hb8⟩
    clear yF57_0 yF57_1 yF57_2 yF57_3 yF57_4 yF57_5 xF67_0 xF67_1 xF67_2 xF67_3 xF67_4 xF67_5 xF87_0 xF87_1 xF87_2
    replace F3 := F3.keep hb8
    replace F5 := F5.keep hb8
    replace F6 := F6.keep hb8
    replace F8 := F8.keep hb8
    replace F10 := F10.keep hb8
    replace B0 := B0.trans (hb8.mono B0.size)
    clear hb8
    have yF510_0 : (w8).cell? ⟨w3.heap.size, 0, none⟩ = some (.bool ln) := F5.at 0 (by simp)
    have yF510_1 : (w8).cell? ⟨w3.heap.size, 1, none⟩ = some (.string lS) := F5.at 1 (by simp)
    have yF510_2 : (w8).cell? ⟨w3.heap.size, 2, none⟩ = some (.int .i64 le) := F5.at 2 (by simp)
    have yF510_3 : (w8).cell? ⟨w3.heap.size, 3, none⟩ = some (.bool bn) := F5.at 3 (by simp)
    have yF510_4 : (w8).cell? ⟨w3.heap.size, 4, none⟩ = some (.string bS) := F5.at 4 (by simp)
    have yF510_5 : (w8).cell? ⟨w3.heap.size, 5, none⟩ = some (.int .i64 be) := F5.at 5 (by simp)
    obtain ⟨xF610_0, xF610_1, xF610_2, xF610_3, xF610_4, xF610_5⟩ := F6.ce6
    obtain ⟨xF810_0, xF810_1, xF810_2⟩ := F8.ce3
    refine hK.out _ _ ?_ (fun hHeld => ?_)
    · exact ⟨yF510_0, yF510_1, yF510_2, yF510_3, yF510_4, yF510_5, xF610_0, xF610_1, xF610_2, xF610_3, xF610_4, xF610_5, xF810_0, xF810_1, xF810_2⟩
    clear hK K
    (try dsimp only [Act.put]); (try go_frame)
    refine wpAnyH_take (i := 6) (v := _) (by first | (simp only [List.getElem?_toArray, List.getElem?_cons_zero, List.getElem?_cons_succ]; rfl) | rfl) (by kernel_rfl) (by kernel_rfl) (by kernel_rfl) (by exact fun _ _ _ h => h) (Or.inl ⟨by rfl, by (intro w hSw; (try dsimp only at hSw); go_simp; try with_reducible rfl)⟩) (by assumption) ?_
    (try dsimp only [Act.put]); (try go_frame)
    refine wpAnyH_take (i := 7) (v := _) (by first | (simp only [List.getElem?_toArray, List.getElem?_cons_zero, List.getElem?_cons_succ]; rfl) | rfl) (by kernel_rfl) (by kernel_rfl) (by kernel_rfl) (by exact fun _ _ _ h => h) (Or.inl ⟨by rfl, by (intro w hSw; (try dsimp only at hSw); go_simp; try with_reducible rfl)⟩) (by assumption) ?_
    (try dsimp only [Act.put]); (try go_frame)
    refine wpAnyH_take (i := 8) (v := _) (by first | (simp only [List.getElem?_toArray, List.getElem?_cons_zero, List.getElem?_cons_succ]; rfl) | rfl) (by kernel_rfl) (by kernel_rfl) (by kernel_rfl) (by exact fun _ _ _ h => h) (Or.inl ⟨by rfl, by (intro w hSw; (try dsimp only at hSw); go_simp; try with_reducible rfl)⟩) (by assumption) ?_
    (try dsimp only [Act.put]); (try go_frame)
    refine wpAnyH_take (i := 9) (v := _) (by first | (simp only [List.getElem?_toArray, List.getElem?_cons_zero, List.getElem?_cons_succ]; rfl) | rfl) (by kernel_rfl) (by kernel_rfl) (by kernel_rfl) (by exact fun _ _ _ h => h) (Or.inl ⟨by rfl, by (intro w hSw; (try dsimp only at hSw); go_simp; try with_reducible rfl)⟩) (by assumption) ?_
    (try dsimp only [Act.put]); (try go_frame)
    refine wpAnyH_take (i := 10) (v := _) (by first | (simp only [List.getElem?_toArray, List.getElem?_cons_zero, List.getElem?_cons_succ]; rfl) | rfl) (by kernel_rfl) (by kernel_rfl) (by kernel_rfl) (by exact fun _ _ _ h => h) (Or.inl ⟨by rfl, by (intro w hSw; (try dsimp only at hSw); go_simp; try with_reducible rfl)⟩) (by assumption) ?_
    (try dsimp only [Act.put]); (try go_frame)
    refine wpAnyH_done (by kernel_rfl) ?_ _
    try simp only [QCut]
    clear hHeld
    clear yF510_0 yF510_1 yF510_2 yF510_3 yF510_4 yF510_5 xF610_0 xF610_1 xF610_2 xF610_3 xF610_4 xF610_5 xF810_0 xF810_1 xF810_2
    go_wp2_with fail
    refine wp_region_any (by kernel_rfl) ?_
    have yF510_0 : (w8).cell? ⟨w3.heap.size, 0, none⟩ = some (.bool ln) := F5.at 0 (by simp)
    have yF510_1 : (w8).cell? ⟨w3.heap.size, 1, none⟩ = some (.string lS) := F5.at 1 (by simp)
    have yF510_2 : (w8).cell? ⟨w3.heap.size, 2, none⟩ = some (.int .i64 le) := F5.at 2 (by simp)
    have yF510_3 : (w8).cell? ⟨w3.heap.size, 3, none⟩ = some (.bool bn) := F5.at 3 (by simp)
    have yF510_4 : (w8).cell? ⟨w3.heap.size, 4, none⟩ = some (.string bS) := F5.at 4 (by simp)
    have yF510_5 : (w8).cell? ⟨w3.heap.size, 5, none⟩ = some (.int .i64 be) := F5.at 5 (by simp)
    obtain ⟨xF610_0, xF610_1, xF610_2, xF610_3, xF610_4, xF610_5⟩ := F6.ce6
    obtain ⟨xF1010_0, xF1010_1, xF1010_2⟩ := F10.ce3
    have hHeld : (fun w' : World => w'.cell? ⟨w3.heap.size, 0, none⟩ = some (.bool ln) ∧ w'.cell? ⟨w3.heap.size, 1, none⟩ = some (.string lS) ∧ w'.cell? ⟨w3.heap.size, 2, none⟩ = some (.int .i64 le) ∧ w'.cell? ⟨w3.heap.size, 3, none⟩ = some (.bool bn) ∧ w'.cell? ⟨w3.heap.size, 4, none⟩ = some (.string bS) ∧ w'.cell? ⟨w3.heap.size, 5, none⟩ = some (.int .i64 be) ∧ w'.cell? ⟨w4.heap.size, 0, none⟩ = some (.bool gn) ∧ w'.cell? ⟨w4.heap.size, 1, none⟩ = some (.string gS) ∧ w'.cell? ⟨w4.heap.size, 2, none⟩ = some (.int .i64 ge) ∧ w'.cell? ⟨w4.heap.size, 3, none⟩ = some (.bool hn) ∧ w'.cell? ⟨w4.heap.size, 4, none⟩ = some (.string hS) ∧ w'.cell? ⟨w4.heap.size, 5, none⟩ = some (.int .i64 he) ∧ w'.cell? ⟨w7.heap.size, 0, none⟩ = some (.bool tn) ∧ w'.cell? ⟨w7.heap.size, 1, none⟩ = some (.string tS) ∧ w'.cell? ⟨w7.heap.size, 2, none⟩ = some (.int .i64 te)) (w8).drew := ⟨yF510_0, yF510_1, yF510_2, yF510_3, yF510_4, yF510_5, xF610_0, xF610_1, xF610_2, xF610_3, xF610_4, xF610_5, xF1010_0, xF1010_1, xF1010_2⟩
    refine wpAny_of_held (S := fun w' : World => w'.cell? ⟨w3.heap.size, 0, none⟩ = some (.bool ln) ∧ w'.cell? ⟨w3.heap.size, 1, none⟩ = some (.string lS) ∧ w'.cell? ⟨w3.heap.size, 2, none⟩ = some (.int .i64 le) ∧ w'.cell? ⟨w3.heap.size, 3, none⟩ = some (.bool bn) ∧ w'.cell? ⟨w3.heap.size, 4, none⟩ = some (.string bS) ∧ w'.cell? ⟨w3.heap.size, 5, none⟩ = some (.int .i64 be) ∧ w'.cell? ⟨w4.heap.size, 0, none⟩ = some (.bool gn) ∧ w'.cell? ⟨w4.heap.size, 1, none⟩ = some (.string gS) ∧ w'.cell? ⟨w4.heap.size, 2, none⟩ = some (.int .i64 ge) ∧ w'.cell? ⟨w4.heap.size, 3, none⟩ = some (.bool hn) ∧ w'.cell? ⟨w4.heap.size, 4, none⟩ = some (.string hS) ∧ w'.cell? ⟨w4.heap.size, 5, none⟩ = some (.int .i64 he) ∧ w'.cell? ⟨w7.heap.size, 0, none⟩ = some (.bool tn) ∧ w'.cell? ⟨w7.heap.size, 1, none⟩ = some (.string tS) ∧ w'.cell? ⟨w7.heap.size, 2, none⟩ = some (.int .i64 te)) _ _ _ (w8).drew ?_
    clear F3
    replace F5 := F5.drew
    replace F6 := F6.drew
    replace F8 := F8.drew
    replace F10 := F10.drew
    replace B0 := B0.drew
    generalize (w8).drew = v2 at *
    refine wpAnyH_take (i := 0) (v := _) (by first | (simp only [List.getElem?_toArray, List.getElem?_cons_zero]; rfl) | rfl) (by kernel_rfl) (by kernel_rfl) (by kernel_rfl) (by exact fun _ _ _ h => h) (Or.inl ⟨by rfl, by (intro w hSw; (try dsimp only at hSw); go_simp; try with_reducible rfl)⟩) (by assumption) ?_
    (try dsimp only [Act.put]); (try go_frame)
    refine wpAnyH_take (i := 1) (v := _) (by first | (simp only [List.getElem?_toArray, List.getElem?_cons_zero, List.getElem?_cons_succ]; rfl) | rfl) (by kernel_rfl) (by kernel_rfl) (by kernel_rfl) (by exact fun _ _ _ h => h) (Or.inl ⟨by rfl, by (intro w hSw; (try dsimp only at hSw); go_simp; try with_reducible rfl)⟩) (by assumption) ?_
    (try dsimp only [Act.put]); (try go_frame)
    refine wpAnyH_take (i := 2) (v := _) (by first | (simp only [List.getElem?_toArray, List.getElem?_cons_zero, List.getElem?_cons_succ]; rfl) | rfl) (by kernel_rfl) (by kernel_rfl) (by kernel_rfl) (by exact fun _ _ _ h => h) (Or.inl ⟨by rfl, by (intro w hSw; (try dsimp only at hSw); go_simp; try with_reducible rfl)⟩) (by assumption) ?_
    (try dsimp only [Act.put]); (try go_frame)
    refine wpAnyH_take (i := 3) (v := _) (by first | (simp only [List.getElem?_toArray, List.getElem?_cons_zero, List.getElem?_cons_succ]; rfl) | rfl) (by kernel_rfl) (by kernel_rfl) (by kernel_rfl) (by exact fun _ _ _ h => h) (Or.inl ⟨by rfl, by (intro w hSw; (try dsimp only at hSw); go_simp; try with_reducible rfl)⟩) (by assumption) ?_
    (try dsimp only [Act.put]); (try go_frame)
    refine wpAnyH_take (i := 4) (v := _) (by first | (simp only [List.getElem?_toArray, List.getElem?_cons_zero, List.getElem?_cons_succ]; rfl) | rfl) (by kernel_rfl) (by kernel_rfl) (by kernel_rfl) (by exact fun _ _ _ h => h) (Or.inl ⟨by rfl, by (intro w hSw; (try dsimp only at hSw); go_simp; try with_reducible rfl)⟩) (by assumption) ?_
    (try dsimp only [Act.put]); (try go_frame)
    refine wpAnyH_ready (rs := [5]) (by kernel_rfl) (by simp) ?_
    refine AllReadyH.cons rfl (fun K hK => ?_) AllReadyH.nil
    go_simp
    (with_reducible refine (j0 _ (hT.below B0)).mono ?_)
    rintro r w9 ⟨rfl, hb9⟩
    clear yF510_0 yF510_1 yF510_2 yF510_3 yF510_4 yF510_5 xF610_0 xF610_1 xF610_2 xF610_3 xF610_4 xF610_5 xF1010_0 xF1010_1 xF1010_2
    replace F5 := F5.keep hb9
    replace F6 := F6.keep hb9
    replace F8 := F8.keep hb9
    replace F10 := F10.keep hb9
    replace B0 := B0.trans (hb9.mono B0.size)
    clear hb9
    have yF513_0 : (w9).cell? ⟨w3.heap.size, 0, none⟩ = some (.bool ln) := F5.at 0 (by simp)
    have yF513_1 : (w9).cell? ⟨w3.heap.size, 1, none⟩ = some (.string lS) := F5.at 1 (by simp)
    have yF513_2 : (w9).cell? ⟨w3.heap.size, 2, none⟩ = some (.int .i64 le) := F5.at 2 (by simp)
    have yF513_3 : (w9).cell? ⟨w3.heap.size, 3, none⟩ = some (.bool bn) := F5.at 3 (by simp)
    have yF513_4 : (w9).cell? ⟨w3.heap.size, 4, none⟩ = some (.string bS) := F5.at 4 (by simp)
    have yF513_5 : (w9).cell? ⟨w3.heap.size, 5, none⟩ = some (.int .i64 be) := F5.at 5 (by simp)
    obtain ⟨xF613_0, xF613_1, xF613_2, xF613_3, xF613_4, xF613_5⟩ := F6.ce6
    obtain ⟨xF1013_0, xF1013_1, xF1013_2⟩ := F10.ce3
    refine hK.out _ _ ?_ (fun hHeld => ?_)
    · exact ⟨yF513_0, yF513_1, yF513_2, yF513_3, yF513_4, yF513_5, xF613_0, xF613_1, xF613_2, xF613_3, xF613_4, xF613_5, xF1013_0, xF1013_1, xF1013_2⟩
    clear hK K
    (try dsimp only [Act.put]); (try go_frame)
    refine wpAnyH_take (i := 6) (v := _) (by first | (simp only [List.getElem?_toArray, List.getElem?_cons_zero, List.getElem?_cons_succ]; rfl) | rfl) (by kernel_rfl) (by kernel_rfl) (by kernel_rfl) (by exact fun _ _ _ h => h) (Or.inl ⟨by rfl, by (intro w hSw; (try dsimp only at hSw); go_simp; try with_reducible rfl)⟩) (by assumption) ?_
    (try dsimp only [Act.put]); (try go_frame)
    refine wpAnyH_take (i := 7) (v := _) (by first | (simp only [List.getElem?_toArray, List.getElem?_cons_zero, List.getElem?_cons_succ]; rfl) | rfl) (by kernel_rfl) (by kernel_rfl) (by kernel_rfl) (by exact fun _ _ _ h => h) (Or.inl ⟨by rfl, by (intro w hSw; (try dsimp only at hSw); go_simp; try with_reducible rfl)⟩) (by assumption) ?_
    (try dsimp only [Act.put]); (try go_frame)
    refine wpAnyH_take (i := 8) (v := _) (by first | (simp only [List.getElem?_toArray, List.getElem?_cons_zero, List.getElem?_cons_succ]; rfl) | rfl) (by kernel_rfl) (by kernel_rfl) (by kernel_rfl) (by exact fun _ _ _ h => h) (Or.inl ⟨by rfl, by (intro w hSw; (try dsimp only at hSw); go_simp; try with_reducible rfl)⟩) (by assumption) ?_
    (try dsimp only [Act.put]); (try go_frame)
    refine wpAnyH_take (i := 9) (v := _) (by first | (simp only [List.getElem?_toArray, List.getElem?_cons_zero, List.getElem?_cons_succ]; rfl) | rfl) (by kernel_rfl) (by kernel_rfl) (by kernel_rfl) (by exact fun _ _ _ h => h) (Or.inl ⟨by rfl, by (intro w hSw; (try dsimp only at hSw); go_simp; try with_reducible rfl)⟩) (by assumption) ?_
    (try dsimp only [Act.put]); (try go_frame)
    refine wpAnyH_take (i := 10) (v := _) (by first | (simp only [List.getElem?_toArray, List.getElem?_cons_zero, List.getElem?_cons_succ]; rfl) | rfl) (by kernel_rfl) (by kernel_rfl) (by kernel_rfl) (by exact fun _ _ _ h => h) (Or.inl ⟨by rfl, by (intro w hSw; (try dsimp only at hSw); go_simp; try with_reducible rfl)⟩) (by assumption) ?_
    (try dsimp only [Act.put]); (try go_frame)
    refine wpAnyH_done (by kernel_rfl) ?_ _
    try simp only [QCut]
    clear hHeld
    clear yF513_0 yF513_1 yF513_2 yF513_3 yF513_4 yF513_5 xF613_0 xF613_1 xF613_2 xF613_3 xF613_4 xF613_5 xF1013_0 xF1013_1 xF1013_2
    go_wp2_with fail
    go_meet
    exact ⟨by first | rfl | simp, F5, F6, F8, F10, B0⟩
  case rest =>
    clear B0
    clear F3
    clear F5
    clear F6
    clear F8
    clear F10
    obtain ⟨rfl, F5, F6, F8, F10, B0⟩ := hcut
    generalize wc = v1 at *
    go_wp2_with fail
    rw [rounds_succ]
    go_upto_block 1 with fail
    go_cut [12] (fun s12 wx => s12 = .bool y1 ∧ Blk wx (w3.heap.size) #[.bool ln, .string lS, .int .i64 le, .bool bn, .string bS, .int .i64 be, .bool pn, .string pS, .int .i64 pe, .bool bn, .string bS, .int .i64 be, .bool ln, .string lS, .int .i64 le, .bool qn, .string qS, .int .i64 qe, .bool pn, .string pS, .int .i64 pe, .bool qn, .string qS, .int .i64 qe] 35 ∧ Blk wx (w4.heap.size) #[.bool gn, .string gS, .int .i64 ge, .bool hn, .string hS, .int .i64 he] 27 ∧ Blk wx (w5.heap.size) #[.bool rn, .string rS, .int .i64 re] 25 ∧ Blk wx (w7.heap.size) #[.bool tn, .string tS, .int .i64 te] 25 ∧ Below w.heap.size w wx)
    case first =>
      as_aux_lemma =>
      go_wp2_with fail
      refine wp_region_any (by kernel_rfl) ?_
      have yF58_6 : (v1).cell? ⟨w3.heap.size, 6, none⟩ = some (.bool pn) := F5.at 6 (by simp)
      have yF58_7 : (v1).cell? ⟨w3.heap.size, 7, none⟩ = some (.string pS) := F5.at 7 (by simp)
      have yF58_8 : (v1).cell? ⟨w3.heap.size, 8, none⟩ = some (.int .i64 pe) := F5.at 8 (by simp)
      have yF58_9 : (v1).cell? ⟨w3.heap.size, 9, none⟩ = some (.bool bn) := F5.at 9 (by simp)
      have yF58_10 : (v1).cell? ⟨w3.heap.size, 10, none⟩ = some (.string bS) := F5.at 10 (by simp)
      have yF58_11 : (v1).cell? ⟨w3.heap.size, 11, none⟩ = some (.int .i64 be) := F5.at 11 (by simp)
      obtain ⟨xF68_0, xF68_1, xF68_2, xF68_3, xF68_4, xF68_5⟩ := F6.ce6
      obtain ⟨xF88_0, xF88_1, xF88_2⟩ := F8.ce3
      have hHeld : (fun w' : World => w'.cell? ⟨w3.heap.size, 6, none⟩ = some (.bool pn) ∧ w'.cell? ⟨w3.heap.size, 7, none⟩ = some (.string pS) ∧ w'.cell? ⟨w3.heap.size, 8, none⟩ = some (.int .i64 pe) ∧ w'.cell? ⟨w3.heap.size, 9, none⟩ = some (.bool bn) ∧ w'.cell? ⟨w3.heap.size, 10, none⟩ = some (.string bS) ∧ w'.cell? ⟨w3.heap.size, 11, none⟩ = some (.int .i64 be) ∧ w'.cell? ⟨w4.heap.size, 0, none⟩ = some (.bool gn) ∧ w'.cell? ⟨w4.heap.size, 1, none⟩ = some (.string gS) ∧ w'.cell? ⟨w4.heap.size, 2, none⟩ = some (.int .i64 ge) ∧ w'.cell? ⟨w4.heap.size, 3, none⟩ = some (.bool hn) ∧ w'.cell? ⟨w4.heap.size, 4, none⟩ = some (.string hS) ∧ w'.cell? ⟨w4.heap.size, 5, none⟩ = some (.int .i64 he) ∧ w'.cell? ⟨w5.heap.size, 0, none⟩ = some (.bool rn) ∧ w'.cell? ⟨w5.heap.size, 1, none⟩ = some (.string rS) ∧ w'.cell? ⟨w5.heap.size, 2, none⟩ = some (.int .i64 re)) (v1).drew := ⟨yF58_6, yF58_7, yF58_8, yF58_9, yF58_10, yF58_11, xF68_0, xF68_1, xF68_2, xF68_3, xF68_4, xF68_5, xF88_0, xF88_1, xF88_2⟩
      refine wpAny_of_held (S := fun w' : World => w'.cell? ⟨w3.heap.size, 6, none⟩ = some (.bool pn) ∧ w'.cell? ⟨w3.heap.size, 7, none⟩ = some (.string pS) ∧ w'.cell? ⟨w3.heap.size, 8, none⟩ = some (.int .i64 pe) ∧ w'.cell? ⟨w3.heap.size, 9, none⟩ = some (.bool bn) ∧ w'.cell? ⟨w3.heap.size, 10, none⟩ = some (.string bS) ∧ w'.cell? ⟨w3.heap.size, 11, none⟩ = some (.int .i64 be) ∧ w'.cell? ⟨w4.heap.size, 0, none⟩ = some (.bool gn) ∧ w'.cell? ⟨w4.heap.size, 1, none⟩ = some (.string gS) ∧ w'.cell? ⟨w4.heap.size, 2, none⟩ = some (.int .i64 ge) ∧ w'.cell? ⟨w4.heap.size, 3, none⟩ = some (.bool hn) ∧ w'.cell? ⟨w4.heap.size, 4, none⟩ = some (.string hS) ∧ w'.cell? ⟨w4.heap.size, 5, none⟩ = some (.int .i64 he) ∧ w'.cell? ⟨w5.heap.size, 0, none⟩ = some (.bool rn) ∧ w'.cell? ⟨w5.heap.size, 1, none⟩ = some (.string rS) ∧ w'.cell? ⟨w5.heap.size, 2, none⟩ = some (.int .i64 re)) _ _ _ (v1).drew ?_
      replace F5 := F5.drew
      replace F6 := F6.drew
      replace F8 := F8.drew
      replace F10 := F10.drew
      replace B0 := B0.drew
      generalize (v1).drew = v2 at *
      refine wpAnyH_take (i := 0) (v := _) (by first | (simp only [List.getElem?_toArray, List.getElem?_cons_zero]; rfl) | rfl) (by kernel_rfl) (by kernel_rfl) (by kernel_rfl) (by exact fun _ _ _ h => h) (Or.inl ⟨by rfl, by (intro w hSw; (try dsimp only at hSw); go_simp; try with_reducible rfl)⟩) (by assumption) ?_
      (try dsimp only [Act.put]); (try go_frame)
      refine wpAnyH_take (i := 1) (v := _) (by first | (simp only [List.getElem?_toArray, List.getElem?_cons_zero, List.getElem?_cons_succ]; rfl) | rfl) (by kernel_rfl) (by kernel_rfl) (by kernel_rfl) (by exact fun _ _ _ h => h) (Or.inl ⟨by rfl, by (intro w hSw; (try dsimp only at hSw); go_simp; try with_reducible rfl)⟩) (by assumption) ?_
      (try dsimp only [Act.put]); (try go_frame)
      refine wpAnyH_take (i := 2) (v := _) (by first | (simp only [List.getElem?_toArray, List.getElem?_cons_zero, List.getElem?_cons_succ]; rfl) | rfl) (by kernel_rfl) (by kernel_rfl) (by kernel_rfl) (by exact fun _ _ _ h => h) (Or.inl ⟨by rfl, by (intro w hSw; (try dsimp only at hSw); go_simp; try with_reducible rfl)⟩) (by assumption) ?_
      (try dsimp only [Act.put]); (try go_frame)
      refine wpAnyH_take (i := 3) (v := _) (by first | (simp only [List.getElem?_toArray, List.getElem?_cons_zero, List.getElem?_cons_succ]; rfl) | rfl) (by kernel_rfl) (by kernel_rfl) (by kernel_rfl) (by exact fun _ _ _ h => h) (Or.inl ⟨by rfl, by (intro w hSw; (try dsimp only at hSw); go_simp; try with_reducible rfl)⟩) (by assumption) ?_
      (try dsimp only [Act.put]); (try go_frame)
      refine wpAnyH_take (i := 4) (v := _) (by first | (simp only [List.getElem?_toArray, List.getElem?_cons_zero, List.getElem?_cons_succ]; rfl) | rfl) (by kernel_rfl) (by kernel_rfl) (by kernel_rfl) (by exact fun _ _ _ h => h) (Or.inl ⟨by rfl, by (intro w hSw; (try dsimp only at hSw); go_simp; try with_reducible rfl)⟩) (by assumption) ?_
      (try dsimp only [Act.put]); (try go_frame)
      refine wpAnyH_ready (rs := [5]) (by kernel_rfl) (by simp) ?_
      refine AllReadyH.cons rfl (fun K hK => ?_) AllReadyH.nil
      go_simp
      (with_reducible refine (i1 _ (hT.below B0)).mono ?_)
      rintro r w8 ⟨rfl, hb8⟩
      clear yF58_6 yF58_7 yF58_8 yF58_9 yF58_10 yF58_11 xF68_0 xF68_1 xF68_2 xF68_3 xF68_4 xF68_5 xF88_0 xF88_1 xF88_2
      replace F5 := F5.keep hb8
      replace F6 := F6.keep hb8
      replace F8 := F8.keep hb8
      replace F10 := F10.keep hb8
      replace B0 := B0.trans (hb8.mono B0.size)
      clear hb8
      have yF511_6 : (w8).cell? ⟨w3.heap.size, 6, none⟩ = some (.bool pn) := F5.at 6 (by simp)
      have yF511_7 : (w8).cell? ⟨w3.heap.size, 7, none⟩ = some (.string pS) := F5.at 7 (by simp)
      have yF511_8 : (w8).cell? ⟨w3.heap.size, 8, none⟩ = some (.int .i64 pe) := F5.at 8 (by simp)
      have yF511_9 : (w8).cell? ⟨w3.heap.size, 9, none⟩ = some (.bool bn) := F5.at 9 (by simp)
      have yF511_10 : (w8).cell? ⟨w3.heap.size, 10, none⟩ = some (.string bS) := F5.at 10 (by simp)
      have yF511_11 : (w8).cell? ⟨w3.heap.size, 11, none⟩ = some (.int .i64 be) := F5.at 11 (by simp)
      obtain ⟨xF611_0, xF611_1, xF611_2, xF611_3, xF611_4, xF611_5⟩ := F6.ce6
      obtain ⟨xF811_0, xF811_1, xF811_2⟩ := F8.ce3
      refine hK.out _ _ ?_ (fun hHeld => ?_)
      · exact ⟨yF511_6, yF511_7, yF511_8, yF511_9, yF511_10, yF511_11, xF611_0, xF611_1, xF611_2, xF611_3, xF611_4, xF611_5, xF811_0, xF811_1, xF811_2⟩
      clear hK K
      (try dsimp only [Act.put]); (try go_frame)
      refine wpAnyH_take (i := 6) (v := _) (by first | (simp only [List.getElem?_toArray, List.getElem?_cons_zero, List.getElem?_cons_succ]; rfl) | rfl) (by kernel_rfl) (by kernel_rfl) (by kernel_rfl) (by exact fun _ _ _ h => h) (Or.inl ⟨by rfl, by (intro w hSw; (try dsimp only at hSw); go_simp; try with_reducible rfl)⟩) (by assumption) ?_
      (try dsimp only [Act.put]); (try go_frame)
      refine wpAnyH_take (i := 7) (v := _) (by first | (simp only [List.getElem?_toArray, List.getElem?_cons_zero, List.getElem?_cons_succ]; rfl) | rfl) (by kernel_rfl) (by kernel_rfl) (by kernel_rfl) (by exact fun _ _ _ h => h) (Or.inl ⟨by rfl, by (intro w hSw; (try dsimp only at hSw); go_simp; try with_reducible rfl)⟩) (by assumption) ?_
      (try dsimp only [Act.put]); (try go_frame)
      refine wpAnyH_take (i := 8) (v := _) (by first | (simp only [List.getElem?_toArray, List.getElem?_cons_zero, List.getElem?_cons_succ]; rfl) | rfl) (by kernel_rfl) (by kernel_rfl) (by kernel_rfl) (by exact fun _ _ _ h => h) (Or.inl ⟨by rfl, by (intro w hSw; (try dsimp only at hSw); go_simp; try with_reducible rfl)⟩) (by assumption) ?_
      (try dsimp only [Act.put]); (try go_frame)
      refine wpAnyH_take (i := 9) (v := _) (by first | (simp only [List.getElem?_toArray, List.getElem?_cons_zero, List.getElem?_cons_succ]; rfl) | rfl) (by kernel_rfl) (by kernel_rfl) (by kernel_rfl) (by exact fun _ _ _ h => h) (Or.inl ⟨by rfl, by (intro w hSw; (try dsimp only at hSw); go_simp; try with_reducible rfl)⟩) (by assumption) ?_
      (try dsimp only [Act.put]); (try go_frame)
      refine wpAnyH_take (i := 10) (v := _) (by first | (simp only [List.getElem?_toArray, List.getElem?_cons_zero, List.getElem?_cons_succ]; rfl) | rfl) (by kernel_rfl) (by kernel_rfl) (by kernel_rfl) (by exact fun _ _ _ h => h) (Or.inl ⟨by rfl, by (intro w hSw; (try dsimp only at hSw); go_simp; try with_reducible rfl)⟩) (by assumption) ?_
      (try dsimp only [Act.put]); (try go_frame)
      refine wpAnyH_done (by kernel_rfl) ?_ _
      try simp only [QCut]
      clear hHeld
      clear yF511_6 yF511_7 yF511_8 yF511_9 yF511_10 yF511_11 xF611_0 xF611_1 xF611_2 xF611_3 xF611_4 xF611_5 xF811_0 xF811_1 xF811_2
      go_wp2_with fail
      refine wp_region_any (by kernel_rfl) ?_
      have yF511_6 : (w8).cell? ⟨w3.heap.size, 6, none⟩ = some (.bool pn) := F5.at 6 (by simp)
      have yF511_7 : (w8).cell? ⟨w3.heap.size, 7, none⟩ = some (.string pS) := F5.at 7 (by simp)
      have yF511_8 : (w8).cell? ⟨w3.heap.size, 8, none⟩ = some (.int .i64 pe) := F5.at 8 (by simp)
      have yF511_9 : (w8).cell? ⟨w3.heap.size, 9, none⟩ = some (.bool bn) := F5.at 9 (by simp)
      have yF511_10 : (w8).cell? ⟨w3.heap.size, 10, none⟩ = some (.string bS) := F5.at 10 (by simp)
      have yF511_11 : (w8).cell? ⟨w3.heap.size, 11, none⟩ = some (.int .i64 be) := F5.at 11 (by simp)
      obtain ⟨xF611_0, xF611_1, xF611_2, xF611_3, xF611_4, xF611_5⟩ := F6.ce6
      obtain ⟨xF1011_0, xF1011_1, xF1011_2⟩ := F10.ce3
      have hHeld : (fun w' : World => w'.cell? ⟨w3.heap.size, 6, none⟩ = some (.bool pn) ∧ w'.cell? ⟨w3.heap.size, 7, none⟩ = some (.string pS) ∧ w'.cell? ⟨w3.heap.size, 8, none⟩ = some (.int .i64 pe) ∧ w'.cell? ⟨w3.heap.size, 9, none⟩ = some (.bool bn) ∧ w'.cell? ⟨w3.heap.size, 10, none⟩ = some (.string bS) ∧ w'.cell? ⟨w3.heap.size, 11, none⟩ = some (.int .i64 be) ∧ w'.cell? ⟨w4.heap.size, 0, none⟩ = some (.bool gn) ∧ w'.cell? ⟨w4.heap.size, 1, none⟩ = some (.string gS) ∧ w'.cell? ⟨w4.heap.size, 2, none⟩ = some (.int .i64 ge) ∧ w'.cell? ⟨w4.heap.size, 3, none⟩ = some (.bool hn) ∧ w'.cell? ⟨w4.heap.size, 4, none⟩ = some (.string hS) ∧ w'.cell? ⟨w4.heap.size, 5, none⟩ = some (.int .i64 he) ∧ w'.cell? ⟨w7.heap.size, 0, none⟩ = some (.bool tn) ∧ w'.cell? ⟨w7.heap.size, 1, none⟩ = some (.string tS) ∧ w'.cell? ⟨w7.heap.size, 2, none⟩ = some (.int .i64 te)) (w8).drew := ⟨yF511_6, yF511_7, yF511_8, yF511_9, yF511_10, yF511_11, xF611_0, xF611_1, xF611_2, xF611_3, xF611_4, xF611_5, xF1011_0, xF1011_1, xF1011_2⟩
      refine wpAny_of_held (S := fun w' : World => w'.cell? ⟨w3.heap.size, 6, none⟩ = some (.bool pn) ∧ w'.cell? ⟨w3.heap.size, 7, none⟩ = some (.string pS) ∧ w'.cell? ⟨w3.heap.size, 8, none⟩ = some (.int .i64 pe) ∧ w'.cell? ⟨w3.heap.size, 9, none⟩ = some (.bool bn) ∧ w'.cell? ⟨w3.heap.size, 10, none⟩ = some (.string bS) ∧ w'.cell? ⟨w3.heap.size, 11, none⟩ = some (.int .i64 be) ∧ w'.cell? ⟨w4.heap.size, 0, none⟩ = some (.bool gn) ∧ w'.cell? ⟨w4.heap.size, 1, none⟩ = some (.string gS) ∧ w'.cell? ⟨w4.heap.size, 2, none⟩ = some (.int .i64 ge) ∧ w'.cell? ⟨w4.heap.size, 3, none⟩ = some (.bool hn) ∧ w'.cell? ⟨w4.heap.size, 4, none⟩ = some (.string hS) ∧ w'.cell? ⟨w4.heap.size, 5, none⟩ = some (.int .i64 he) ∧ w'.cell? ⟨w7.heap.size, 0, none⟩ = some (.bool tn) ∧ w'.cell? ⟨w7.heap.size, 1, none⟩ = some (.string tS) ∧ w'.cell? ⟨w7.heap.size, 2, none⟩ = some (.int .i64 te)) _ _ _ (w8).drew ?_
      replace F5 := F5.drew
      replace F6 := F6.drew
      replace F8 := F8.drew
      replace F10 := F10.drew
      replace B0 := B0.drew
      generalize (w8).drew = v3 at *
      refine wpAnyH_take (i := 0) (v := _) (by first | (simp only [List.getElem?_toArray, List.getElem?_cons_zero]; rfl) | rfl) (by kernel_rfl) (by kernel_rfl) (by kernel_rfl) (by exact fun _ _ _ h => h) (Or.inl ⟨by rfl, by (intro w hSw; (try dsimp only at hSw); go_simp; try with_reducible rfl)⟩) (by assumption) ?_
      (try dsimp only [Act.put]); (try go_frame)
      refine wpAnyH_take (i := 1) (v := _) (by first | (simp only [List.getElem?_toArray, List.getElem?_cons_zero, List.getElem?_cons_succ]; rfl) | rfl) (by kernel_rfl) (by kernel_rfl) (by kernel_rfl) (by exact fun _ _ _ h => h) (Or.inl ⟨by rfl, by (intro w hSw; (try dsimp only at hSw); go_simp; try with_reducible rfl)⟩) (by assumption) ?_
      (try dsimp only [Act.put]); (try go_frame)
      refine wpAnyH_take (i := 2) (v := _) (by first | (simp only [List.getElem?_toArray, List.getElem?_cons_zero, List.getElem?_cons_succ]; rfl) | rfl) (by kernel_rfl) (by kernel_rfl) (by kernel_rfl) (by exact fun _ _ _ h => h) (Or.inl ⟨by rfl, by (intro w hSw; (try dsimp only at hSw); go_simp; try with_reducible rfl)⟩) (by assumption) ?_
      (try dsimp only [Act.put]); (try go_frame)
      refine wpAnyH_take (i := 3) (v := _) (by first | (simp only [List.getElem?_toArray, List.getElem?_cons_zero, List.getElem?_cons_succ]; rfl) | rfl) (by kernel_rfl) (by kernel_rfl) (by kernel_rfl) (by exact fun _ _ _ h => h) (Or.inl ⟨by rfl, by (intro w hSw; (try dsimp only at hSw); go_simp; try with_reducible rfl)⟩) (by assumption) ?_
      (try dsimp only [Act.put]); (try go_frame)
      refine wpAnyH_take (i := 4) (v := _) (by first | (simp only [List.getElem?_toArray, List.getElem?_cons_zero, List.getElem?_cons_succ]; rfl) | rfl) (by kernel_rfl) (by kernel_rfl) (by kernel_rfl) (by exact fun _ _ _ h => h) (Or.inl ⟨by rfl, by (intro w hSw; (try dsimp only at hSw); go_simp; try with_reducible rfl)⟩) (by assumption) ?_
      (try dsimp only [Act.put]); (try go_frame)
      refine wpAnyH_ready (rs := [5]) (by kernel_rfl) (by simp) ?_
      refine AllReadyH.cons rfl (fun K hK => ?_) AllReadyH.nil
      go_simp
      (with_reducible refine (j1 _ (hT.below B0)).mono ?_)
      rintro r w9 ⟨rfl, hb9⟩
      clear yF511_6 yF511_7 yF511_8 yF511_9 yF511_10 yF511_11 xF611_0 xF611_1 xF611_2 xF611_3 xF611_4 xF611_5 xF1011_0 xF1011_1 xF1011_2
      replace F5 := F5.keep hb9
      replace F6 := F6.keep hb9
      replace F8 := F8.keep hb9
      replace F10 := F10.keep hb9
      replace B0 := B0.trans (hb9.mono B0.size)
      clear hb9
      have yF514_6 : (w9).cell? ⟨w3.heap.size, 6, none⟩ = some (.bool pn) := F5.at 6 (by simp)
      have yF514_7 : (w9).cell? ⟨w3.heap.size, 7, none⟩ = some (.string pS) := F5.at 7 (by simp)
      have yF514_8 : (w9).cell? ⟨w3.heap.size, 8, none⟩ = some (.int .i64 pe) := F5.at 8 (by simp)
      have yF514_9 : (w9).cell? ⟨w3.heap.size, 9, none⟩ = some (.bool bn) := F5.at 9 (by simp)
      have yF514_10 : (w9).cell? ⟨w3.heap.size, 10, none⟩ = some (.string bS) := F5.at 10 (by simp)
      have yF514_11 : (w9).cell? ⟨w3.heap.size, 11, none⟩ = some (.int .i64 be) := F5.at 11 (by simp)
      obtain ⟨xF614_0, xF614_1, xF614_2, xF614_3, xF614_4, xF614_5⟩ := F6.ce6
      obtain ⟨xF1014_0, xF1014_1, xF1014_2⟩ := F10.ce3
      refine hK.out _ _ ?_ (fun hHeld => ?_)
      · exact ⟨yF514_6, yF514_7, yF514_8, yF514_9, yF514_10, yF514_11, xF614_0, xF614_1, xF614_2, xF614_3, xF614_4, xF614_5, xF1014_0, xF1014_1, xF1014_2⟩
      clear hK K
      (try dsimp only [Act.put]); (try go_frame)
      refine wpAnyH_take (i := 6) (v := _) (by first | (simp only [List.getElem?_toArray, List.getElem?_cons_zero, List.getElem?_cons_succ]; rfl) | rfl) (by kernel_rfl) (by kernel_rfl) (by kernel_rfl) (by exact fun _ _ _ h => h) (Or.inl ⟨by rfl, by (intro w hSw; (try dsimp only at hSw); go_simp; try with_reducible rfl)⟩) (by assumption) ?_
      (try dsimp only [Act.put]); (try go_frame)
      refine wpAnyH_take (i := 7) (v := _) (by first | (simp only [List.getElem?_toArray, List.getElem?_cons_zero, List.getElem?_cons_succ]; rfl) | rfl) (by kernel_rfl) (by kernel_rfl) (by kernel_rfl) (by exact fun _ _ _ h => h) (Or.inl ⟨by rfl, by (intro w hSw; (try dsimp only at hSw); go_simp; try with_reducible rfl)⟩) (by assumption) ?_
      (try dsimp only [Act.put]); (try go_frame)
      refine wpAnyH_take (i := 8) (v := _) (by first | (simp only [List.getElem?_toArray, List.getElem?_cons_zero, List.getElem?_cons_succ]; rfl) | rfl) (by kernel_rfl) (by kernel_rfl) (by kernel_rfl) (by exact fun _ _ _ h => h) (Or.inl ⟨by rfl, by (intro w hSw; (try dsimp only at hSw); go_simp; try with_reducible rfl)⟩) (by assumption) ?_
      (try dsimp only [Act.put]); (try go_frame)
      refine wpAnyH_take (i := 9) (v := _) (by first | (simp only [List.getElem?_toArray, List.getElem?_cons_zero, List.getElem?_cons_succ]; rfl) | rfl) (by kernel_rfl) (by kernel_rfl) (by kernel_rfl) (by exact fun _ _ _ h => h) (Or.inl ⟨by rfl, by (intro w hSw; (try dsimp only at hSw); go_simp; try with_reducible rfl)⟩) (by assumption) ?_
      (try dsimp only [Act.put]); (try go_frame)
      refine wpAnyH_take (i := 10) (v := _) (by first | (simp only [List.getElem?_toArray, List.getElem?_cons_zero, List.getElem?_cons_succ]; rfl) | rfl) (by kernel_rfl) (by kernel_rfl) (by kernel_rfl) (by exact fun _ _ _ h => h) (Or.inl ⟨by rfl, by (intro w hSw; (try dsimp only at hSw); go_simp; try with_reducible rfl)⟩) (by assumption) ?_
      (try dsimp only [Act.put]); (try go_frame)
      refine wpAnyH_done (by kernel_rfl) ?_ _
      try simp only [QCut]
      clear hHeld
      clear yF514_6 yF514_7 yF514_8 yF514_9 yF514_10 yF514_11 xF614_0 xF614_1 xF614_2 xF614_3 xF614_4 xF614_5 xF1014_0 xF1014_1 xF1014_2
      rcases z1.out with ⟨rfl, rfl⟩ | ⟨rfl, rfl⟩
      · clear z1
        go_wp2_with fail
        go_meet
        exact ⟨by first | rfl | simp, F5, F6, F8, F10, B0⟩
      · clear z1
        go_wp2_with fail
        go_meet
        exact ⟨by first | rfl | simp, F5, F6, F8, F10, B0⟩
    case rest =>
      clear B0
      clear F5
      clear F6
      clear F8
      clear F10
      obtain ⟨rfl, F5, F6, F8, F10, B0⟩ := hcut
      generalize wc = v2 at *
      go_wp2_with fail
      rw [rounds_succ]
      go_upto_block 1 with fail
      go_cut [12] (fun s12 wx => s12 = .bool y2 ∧ Blk wx (w3.heap.size) #[.bool ln, .string lS, .int .i64 le, .bool bn, .string bS, .int .i64 be, .bool pn, .string pS, .int .i64 pe, .bool bn, .string bS, .int .i64 be, .bool ln, .string lS, .int .i64 le, .bool qn, .string qS, .int .i64 qe, .bool pn, .string pS, .int .i64 pe, .bool qn, .string qS, .int .i64 qe] 35 ∧ Blk wx (w4.heap.size) #[.bool gn, .string gS, .int .i64 ge, .bool hn, .string hS, .int .i64 he] 27 ∧ Blk wx (w5.heap.size) #[.bool rn, .string rS, .int .i64 re] 25 ∧ Blk wx (w7.heap.size) #[.bool tn, .string tS, .int .i64 te] 25 ∧ Below w.heap.size w wx)
      case first =>
        as_aux_lemma =>
        go_wp2_with fail
        refine wp_region_any (by kernel_rfl) ?_
        have yF59_12 : (v2).cell? ⟨w3.heap.size, 12, none⟩ = some (.bool ln) := F5.at 12 (by simp)
        have yF59_13 : (v2).cell? ⟨w3.heap.size, 13, none⟩ = some (.string lS) := F5.at 13 (by simp)
        have yF59_14 : (v2).cell? ⟨w3.heap.size, 14, none⟩ = some (.int .i64 le) := F5.at 14 (by simp)
        have yF59_15 : (v2).cell? ⟨w3.heap.size, 15, none⟩ = some (.bool qn) := F5.at 15 (by simp)
        have yF59_16 : (v2).cell? ⟨w3.heap.size, 16, none⟩ = some (.string qS) := F5.at 16 (by simp)
        have yF59_17 : (v2).cell? ⟨w3.heap.size, 17, none⟩ = some (.int .i64 qe) := F5.at 17 (by simp)
        obtain ⟨xF69_0, xF69_1, xF69_2, xF69_3, xF69_4, xF69_5⟩ := F6.ce6
        obtain ⟨xF89_0, xF89_1, xF89_2⟩ := F8.ce3
        have hHeld : (fun w' : World => w'.cell? ⟨w3.heap.size, 12, none⟩ = some (.bool ln) ∧ w'.cell? ⟨w3.heap.size, 13, none⟩ = some (.string lS) ∧ w'.cell? ⟨w3.heap.size, 14, none⟩ = some (.int .i64 le) ∧ w'.cell? ⟨w3.heap.size, 15, none⟩ = some (.bool qn) ∧ w'.cell? ⟨w3.heap.size, 16, none⟩ = some (.string qS) ∧ w'.cell? ⟨w3.heap.size, 17, none⟩ = some (.int .i64 qe) ∧ w'.cell? ⟨w4.heap.size, 0, none⟩ = some (.bool gn) ∧ w'.cell? ⟨w4.heap.size, 1, none⟩ = some (.string gS) ∧ w'.cell? ⟨w4.heap.size, 2, none⟩ = some (.int .i64 ge) ∧ w'.cell? ⟨w4.heap.size, 3, none⟩ = some (.bool hn) ∧ w'.cell? ⟨w4.heap.size, 4, none⟩ = some (.string hS) ∧ w'.cell? ⟨w4.heap.size, 5, none⟩ = some (.int .i64 he) ∧ w'.cell? ⟨w5.heap.size, 0, none⟩ = some (.bool rn) ∧ w'.cell? ⟨w5.heap.size, 1, none⟩ = some (.string rS) ∧ w'.cell? ⟨w5.heap.size, 2, none⟩ = some (.int .i64 re)) (v2).drew := ⟨yF59_12, yF59_13, yF59_14, yF59_15, yF59_16, yF59_17, xF69_0, xF69_1, xF69_2, xF69_3, xF69_4, xF69_5, xF89_0, xF89_1, xF89_2⟩
        refine wpAny_of_held (S := fun w' : World => w'.cell? ⟨w3.heap.size, 12, none⟩ = some (.bool ln) ∧ w'.cell? ⟨w3.heap.size, 13, none⟩ = some (.string lS) ∧ w'.cell? ⟨w3.heap.size, 14, none⟩ = some (.int .i64 le) ∧ w'.cell? ⟨w3.heap.size, 15, none⟩ = some (.bool qn) ∧ w'.cell? ⟨w3.heap.size, 16, none⟩ = some (.string qS) ∧ w'.cell? ⟨w3.heap.size, 17, none⟩ = some (.int .i64 qe) ∧ w'.cell? ⟨w4.heap.size, 0, none⟩ = some (.bool gn) ∧ w'.cell? ⟨w4.heap.size, 1, none⟩ = some (.string gS) ∧ w'.cell? ⟨w4.heap.size, 2, none⟩ = some (.int .i64 ge) ∧ w'.cell? ⟨w4.heap.size, 3, none⟩ = some (.bool hn) ∧ w'.cell? ⟨w4.heap.size, 4, none⟩ = some (.string hS) ∧ w'.cell? ⟨w4.heap.size, 5, none⟩ = some (.int .i64 he) ∧ w'.cell? ⟨w5.heap.size, 0, none⟩ = some (.bool rn) ∧ w'.cell? ⟨w5.heap.size, 1, none⟩ = some (.string rS) ∧ w'.cell? ⟨w5.heap.size, 2, none⟩ = some (.int .i64 re)) _ _ _ (v2).drew ?_
        replace F5 := F5.drew
        replace F6 := F6.drew
        replace F8 := F8.drew
        replace F10 := F10.drew
        replace B0 := B0.drew
        generalize (v2).drew = v3 at *
        refine wpAnyH_take (i := 0) (v := _) (by first | (simp only [List.getElem?_toArray, List.getElem?_cons_zero]; rfl) | rfl) (by kernel_rfl) (by kernel_rfl) (by kernel_rfl) (by exact fun _ _ _ h => h) (Or.inl ⟨by rfl, by (intro w hSw; (try dsimp only at hSw); go_simp; try with_reducible rfl)⟩) (by assumption) ?_
        (try dsimp only [Act.put]); (try go_frame)
        refine wpAnyH_take (i := 1) (v := _) (by first | (simp only [List.getElem?_toArray, List.getElem?_cons_zero, List.getElem?_cons_succ]; rfl) | rfl) (by kernel_rfl) (by kernel_rfl) (by kernel_rfl) (by exact fun _ _ _ h => h) (Or.inl ⟨by rfl, by (intro w hSw; (try dsimp only at hSw); go_simp; try with_reducible rfl)⟩) (by assumption) ?_
        (try dsimp only [Act.put]); (try go_frame)
        refine wpAnyH_take (i := 2) (v := _) (by first | (simp only [List.getElem?_toArray, List.getElem?_cons_zero, List.getElem?_cons_succ]; rfl) | rfl) (by kernel_rfl) (by kernel_rfl) (by kernel_rfl) (by exact fun _ _ _ h => h) (Or.inl ⟨by rfl, by (intro w hSw; (try dsimp only at hSw); go_simp; try with_reducible rfl)⟩) (by assumption) ?_
        (try dsimp only [Act.put]); (try go_frame)
        refine wpAnyH_take (i := 3) (v := _) (by first | (simp only [List.getElem?_toArray, List.getElem?_cons_zero, List.getElem?_cons_succ]; rfl) | rfl) (by kernel_rfl) (by kernel_rfl) (by kernel_rfl) (by exact fun _ _ _ h => h) (Or.inl ⟨by rfl, by (intro w hSw; (try dsimp only at hSw); go_simp; try with_reducible rfl)⟩) (by assumption) ?_
        (try dsimp only [Act.put]); (try go_frame)
        refine wpAnyH_take (i := 4) (v := _) (by first | (simp only [List.getElem?_toArray, List.getElem?_cons_zero, List.getElem?_cons_succ]; rfl) | rfl) (by kernel_rfl) (by kernel_rfl) (by kernel_rfl) (by exact fun _ _ _ h => h) (Or.inl ⟨by rfl, by (intro w hSw; (try dsimp only at hSw); go_simp; try with_reducible rfl)⟩) (by assumption) ?_
        (try dsimp only [Act.put]); (try go_frame)
        refine wpAnyH_ready (rs := [5]) (by kernel_rfl) (by simp) ?_
        refine AllReadyH.cons rfl (fun K hK => ?_) AllReadyH.nil
        go_simp
        (with_reducible refine (i2 _ (hT.below B0)).mono ?_)
        rintro r w8 ⟨rfl, hb8⟩
        clear yF59_12 yF59_13 yF59_14 yF59_15 yF59_16 yF59_17 xF69_0 xF69_1 xF69_2 xF69_3 xF69_4 xF69_5 xF89_0 xF89_1 xF89_2
        replace F5 := F5.keep hb8
        replace F6 := F6.keep hb8
        replace F8 := F8.keep hb8
        replace F10 := F10.keep hb8
        replace B0 := B0.trans (hb8.mono B0.size)
        clear hb8
        have yF512_12 : (w8).cell? ⟨w3.heap.size, 12, none⟩ = some (.bool ln) := F5.at 12 (by simp)
        have yF512_13 : (w8).cell? ⟨w3.heap.size, 13, none⟩ = some (.string lS) := F5.at 13 (by simp)
        have yF512_14 : (w8).cell? ⟨w3.heap.size, 14, none⟩ = some (.int .i64 le) := F5.at 14 (by simp)
        have yF512_15 : (w8).cell? ⟨w3.heap.size, 15, none⟩ = some (.bool qn) := F5.at 15 (by simp)
        have yF512_16 : (w8).cell? ⟨w3.heap.size, 16, none⟩ = some (.string qS) := F5.at 16 (by simp)
        have yF512_17 : (w8).cell? ⟨w3.heap.size, 17, none⟩ = some (.int .i64 qe) := F5.at 17 (by simp)
        obtain ⟨xF612_0, xF612_1, xF612_2, xF612_3, xF612_4, xF612_5⟩ := F6.ce6
        obtain ⟨xF812_0, xF812_1, xF812_2⟩ := F8.ce3
        refine hK.out _ _ ?_ (fun hHeld => ?_)
        · exact ⟨yF512_12, yF512_13, yF512_14, yF512_15, yF512_16, yF512_17, xF612_0, xF612_1, xF612_2, xF612_3, xF612_4, xF612_5, xF812_0, xF812_1, xF812_2⟩
        clear hK K
        (try dsimp only [Act.put]); (try go_frame)
        refine wpAnyH_take (i := 6) (v := _) (by first | (simp only [List.getElem?_toArray, List.getElem?_cons_zero, List.getElem?_cons_succ]; rfl) | rfl) (by kernel_rfl) (by kernel_rfl) (by kernel_rfl) (by exact fun _ _ _ h => h) (Or.inl ⟨by rfl, by (intro w hSw; (try dsimp only at hSw); go_simp; try with_reducible rfl)⟩) (by assumption) ?_
        (try dsimp only [Act.put]); (try go_frame)
        refine wpAnyH_take (i := 7) (v := _) (by first | (simp only [List.getElem?_toArray, List.getElem?_cons_zero, List.getElem?_cons_succ]; rfl) | rfl) (by kernel_rfl) (by kernel_rfl) (by kernel_rfl) (by exact fun _ _ _ h => h) (Or.inl ⟨by rfl, by (intro w hSw; (try dsimp only at hSw); go_simp; try with_reducible rfl)⟩) (by assumption) ?_
        (try dsimp only [Act.put]); (try go_frame)
        refine wpAnyH_take (i := 8) (v := _) (by first | (simp only [List.getElem?_toArray, List.getElem?_cons_zero, List.getElem?_cons_succ]; rfl) | rfl) (by kernel_rfl) (by kernel_rfl) (by kernel_rfl) (by exact fun _ _ _ h => h) (Or.inl ⟨by rfl, by (intro w hSw; (try dsimp only at hSw); go_simp; try with_reducible rfl)⟩) (by assumption) ?_
        (try dsimp only [Act.put]); (try go_frame)
        refine wpAnyH_take (i := 9) (v := _) (by first | (simp only [List.getElem?_toArray, List.getElem?_cons_zero, List.getElem?_cons_succ]; rfl) | rfl) (by kernel_rfl) (by kernel_rfl) (by kernel_rfl) (by exact fun _ _ _ h => h) (Or.inl ⟨by rfl, by (intro w hSw; (try dsimp only at hSw); go_simp; try with_reducible rfl)⟩) (by assumption) ?_
        (try dsimp only [Act.put]); (try go_frame)
        refine wpAnyH_take (i := 10) (v := _) (by first | (simp only [List.getElem?_toArray, List.getElem?_cons_zero, List.getElem?_cons_succ]; rfl) | rfl) (by kernel_rfl) (by kernel_rfl) (by kernel_rfl) (by exact fun _ _ _ h => h) (Or.inl ⟨by rfl, by (intro w hSw; (try dsimp only at hSw); go_simp; try with_reducible rfl)⟩) (by assumption) ?_
        (try dsimp only [Act.put]); (try go_frame)
        refine wpAnyH_done (by kernel_rfl) ?_ _
        try simp only [QCut]
        clear hHeld
        clear yF512_12 yF512_13 yF512_14 yF512_15 yF512_16 yF512_17 xF612_0 xF612_1 xF612_2 xF612_3 xF612_4 xF612_5 xF812_0 xF812_1 xF812_2
        go_wp2_with fail
        refine wp_region_any (by kernel_rfl) ?_
        have yF512_12 : (w8).cell? ⟨w3.heap.size, 12, none⟩ = some (.bool ln) := F5.at 12 (by simp)
        have yF512_13 : (w8).cell? ⟨w3.heap.size, 13, none⟩ = some (.string lS) := F5.at 13 (by simp)
        have yF512_14 : (w8).cell? ⟨w3.heap.size, 14, none⟩ = some (.int .i64 le) := F5.at 14 (by simp)
        have yF512_15 : (w8).cell? ⟨w3.heap.size, 15, none⟩ = some (.bool qn) := F5.at 15 (by simp)
        have yF512_16 : (w8).cell? ⟨w3.heap.size, 16, none⟩ = some (.string qS) := F5.at 16 (by simp)
        have yF512_17 : (w8).cell? ⟨w3.heap.size, 17, none⟩ = some (.int .i64 qe) := F5.at 17 (by simp)
        obtain ⟨xF612_0, xF612_1, xF612_2, xF612_3, xF612_4, xF612_5⟩ := F6.ce6
        obtain ⟨xF1012_0, xF1012_1, xF1012_2⟩ := F10.ce3
        have hHeld : (fun w' : World => w'.cell? ⟨w3.heap.size, 12, none⟩ = some (.bool ln) ∧ w'.cell? ⟨w3.heap.size, 13, none⟩ = some (.string lS) ∧ w'.cell? ⟨w3.heap.size, 14, none⟩ = some (.int .i64 le) ∧ w'.cell? ⟨w3.heap.size, 15, none⟩ = some (.bool qn) ∧ w'.cell? ⟨w3.heap.size, 16, none⟩ = some (.string qS) ∧ w'.cell? ⟨w3.heap.size, 17, none⟩ = some (.int .i64 qe) ∧ w'.cell? ⟨w4.heap.size, 0, none⟩ = some (.bool gn) ∧ w'.cell? ⟨w4.heap.size, 1, none⟩ = some (.string gS) ∧ w'.cell? ⟨w4.heap.size, 2, none⟩ = some (.int .i64 ge) ∧ w'.cell? ⟨w4.heap.size, 3, none⟩ = some (.bool hn) ∧ w'.cell? ⟨w4.heap.size, 4, none⟩ = some (.string hS) ∧ w'.cell? ⟨w4.heap.size, 5, none⟩ = some (.int .i64 he) ∧ w'.cell? ⟨w7.heap.size, 0, none⟩ = some (.bool tn) ∧ w'.cell? ⟨w7.heap.size, 1, none⟩ = some (.string tS) ∧ w'.cell? ⟨w7.heap.size, 2, none⟩ = some (.int .i64 te)) (w8).drew := ⟨yF512_12, yF512_13, yF512_14, yF512_15, yF512_16, yF512_17, xF612_0, xF612_1, xF612_2, xF612_3, xF612_4, xF612_5, xF1012_0, xF1012_1, xF1012_2⟩
        refine wpAny_of_held (S := fun w' : World => w'.cell? ⟨w3.heap.size, 12, none⟩ = some (.bool ln) ∧ w'.cell? ⟨w3.heap.size, 13, none⟩ = some (.string lS) ∧ w'.cell? ⟨w3.heap.size, 14, none⟩ = some (.int .i64 le) ∧ w'.cell? ⟨w3.heap.size, 15, none⟩ = some (.bool qn) ∧ w'.cell? ⟨w3.heap.size, 16, none⟩ = some (.string qS) ∧ w'.cell? ⟨w3.heap.size, 17, none⟩ = some (.int .i64 qe) ∧ w'.cell? ⟨w4.heap.size, 0, none⟩ = some (.bool gn) ∧ w'.cell? ⟨w4.heap.size, 1, none⟩ = some (.string gS) ∧ w'.cell? ⟨w4.heap.size, 2, none⟩ = some (.int .i64 ge) ∧ w'.cell? ⟨w4.heap.size, 3, none⟩ = some (.bool hn) ∧ w'.cell? ⟨w4.heap.size, 4, none⟩ = some (.string hS) ∧ w'.cell? ⟨w4.heap.size, 5, none⟩ = some (.int .i64 he) ∧ w'.cell? ⟨w7.heap.size, 0, none⟩ = some (.bool tn) ∧ w'.cell? ⟨w7.heap.size, 1, none⟩ = some (.string tS) ∧ w'.cell? ⟨w7.heap.size, 2, none⟩ = some (.int .i64 te)) _ _ _ (w8).drew ?_
        replace F5 := F5.drew
        replace F6 := F6.drew
        replace F8 := F8.drew
        replace F10 := F10.drew
        replace B0 := B0.drew
        generalize (w8).drew = v4 at *
        refine wpAnyH_take (i := 0) (v := _) (by first | (simp only [List.getElem?_toArray, List.getElem?_cons_zero]; rfl) | rfl) (by kernel_rfl) (by kernel_rfl) (by kernel_rfl) (by exact fun _ _ _ h => h) (Or.inl ⟨by rfl, by (intro w hSw; (try dsimp only at hSw); go_simp; try with_reducible rfl)⟩) (by assumption) ?_
        (try dsimp only [Act.put]); (try go_frame)
        refine wpAnyH_take (i := 1) (v := _) (by first | (simp only [List.getElem?_toArray, List.getElem?_cons_zero, List.getElem?_cons_succ]; rfl) | rfl) (by kernel_rfl) (by kernel_rfl) (by kernel_rfl) (by exact fun _ _ _ h => h) (Or.inl ⟨by rfl, by (intro w hSw; (try dsimp only at hSw); go_simp; try with_reducible rfl)⟩) (by assumption) ?_
        (try dsimp only [Act.put]); (try go_frame)
        refine wpAnyH_take (i := 2) (v := _) (by first | (simp only [List.getElem?_toArray, List.getElem?_cons_zero, List.getElem?_cons_succ]; rfl) | rfl) (by kernel_rfl) (by kernel_rfl) (by kernel_rfl) (by exact fun _ _ _ h => h) (Or.inl ⟨by rfl, by (intro w hSw; (try dsimp only at hSw); go_simp; try with_reducible rfl)⟩) (by assumption) ?_
        (try dsimp only [Act.put]); (try go_frame)
        refine wpAnyH_take (i := 3) (v := _) (by first | (simp only [List.getElem?_toArray, List.getElem?_cons_zero, List.getElem?_cons_succ]; rfl) | rfl) (by kernel_rfl) (by kernel_rfl) (by kernel_rfl) (by exact fun _ _ _ h => h) (Or.inl ⟨by rfl, by (intro w hSw; (try dsimp only at hSw); go_simp; try with_reducible rfl)⟩) (by assumption) ?_
        (try dsimp only [Act.put]); (try go_frame)
        refine wpAnyH_take (i := 4) (v := _) (by first | (simp only [List.getElem?_toArray, List.getElem?_cons_zero, List.getElem?_cons_succ]; rfl) | rfl) (by kernel_rfl) (by kernel_rfl) (by kernel_rfl) (by exact fun _ _ _ h => h) (Or.inl ⟨by rfl, by (intro w hSw; (try dsimp only at hSw); go_simp; try with_reducible rfl)⟩) (by assumption) ?_
        (try dsimp only [Act.put]); (try go_frame)
        refine wpAnyH_ready (rs := [5]) (by kernel_rfl) (by simp) ?_
        refine AllReadyH.cons rfl (fun K hK => ?_) AllReadyH.nil
        go_simp
        (with_reducible refine (j2 _ (hT.below B0)).mono ?_)
        rintro r w9 ⟨rfl, hb9⟩
        clear yF512_12 yF512_13 yF512_14 yF512_15 yF512_16 yF512_17 xF612_0 xF612_1 xF612_2 xF612_3 xF612_4 xF612_5 xF1012_0 xF1012_1 xF1012_2
        replace F5 := F5.keep hb9
        replace F6 := F6.keep hb9
        replace F8 := F8.keep hb9
        replace F10 := F10.keep hb9
        replace B0 := B0.trans (hb9.mono B0.size)
        clear hb9
        have yF515_12 : (w9).cell? ⟨w3.heap.size, 12, none⟩ = some (.bool ln) := F5.at 12 (by simp)
        have yF515_13 : (w9).cell? ⟨w3.heap.size, 13, none⟩ = some (.string lS) := F5.at 13 (by simp)
        have yF515_14 : (w9).cell? ⟨w3.heap.size, 14, none⟩ = some (.int .i64 le) := F5.at 14 (by simp)
        have yF515_15 : (w9).cell? ⟨w3.heap.size, 15, none⟩ = some (.bool qn) := F5.at 15 (by simp)
        have yF515_16 : (w9).cell? ⟨w3.heap.size, 16, none⟩ = some (.string qS) := F5.at 16 (by simp)
        have yF515_17 : (w9).cell? ⟨w3.heap.size, 17, none⟩ = some (.int .i64 qe) := F5.at 17 (by simp)
        obtain ⟨xF615_0, xF615_1, xF615_2, xF615_3, xF615_4, xF615_5⟩ := F6.ce6
        obtain ⟨xF1015_0, xF1015_1, xF1015_2⟩ := F10.ce3
        refine hK.out _ _ ?_ (fun hHeld => ?_)
        · exact ⟨yF515_12, yF515_13, yF515_14, yF515_15, yF515_16, yF515_17, xF615_0, xF615_1, xF615_2, xF615_3, xF615_4, xF615_5, xF1015_0, xF1015_1, xF1015_2⟩
        clear hK K
        (try dsimp only [Act.put]); (try go_frame)
        refine wpAnyH_take (i := 6) (v := _) (by first | (simp only [List.getElem?_toArray, List.getElem?_cons_zero, List.getElem?_cons_succ]; rfl) | rfl) (by kernel_rfl) (by kernel_rfl) (by kernel_rfl) (by exact fun _ _ _ h => h) (Or.inl ⟨by rfl, by (intro w hSw; (try dsimp only at hSw); go_simp; try with_reducible rfl)⟩) (by assumption) ?_
        (try dsimp only [Act.put]); (try go_frame)
        refine wpAnyH_take (i := 7) (v := _) (by first | (simp only [List.getElem?_toArray, List.getElem?_cons_zero, List.getElem?_cons_succ]; rfl) | rfl) (by kernel_rfl) (by kernel_rfl) (by kernel_rfl) (by exact fun _ _ _ h => h) (Or.inl ⟨by rfl, by (intro w hSw; (try dsimp only at hSw); go_simp; try with_reducible rfl)⟩) (by assumption) ?_
        (try dsimp only [Act.put]); (try go_frame)
        refine wpAnyH_take (i := 8) (v := _) (by first | (simp only [List.getElem?_toArray, List.getElem?_cons_zero, List.getElem?_cons_succ]; rfl) | rfl) (by kernel_rfl) (by kernel_rfl) (by kernel_rfl) (by exact fun _ _ _ h => h) (Or.inl ⟨by rfl, by (intro w hSw; (try dsimp only at hSw); go_simp; try with_reducible rfl)⟩) (by assumption) ?_
        (try dsimp only [Act.put]); (try go_frame)
        refine wpAnyH_take (i := 9) (v := _) (by first | (simp only [List.getElem?_toArray, List.getElem?_cons_zero, List.getElem?_cons_succ]; rfl) | rfl) (by kernel_rfl) (by kernel_rfl) (by kernel_rfl) (by exact fun _ _ _ h => h) (Or.inl ⟨by rfl, by (intro w hSw; (try dsimp only at hSw); go_simp; try with_reducible rfl)⟩) (by assumption) ?_
        (try dsimp only [Act.put]); (try go_frame)
        refine wpAnyH_take (i := 10) (v := _) (by first | (simp only [List.getElem?_toArray, List.getElem?_cons_zero, List.getElem?_cons_succ]; rfl) | rfl) (by kernel_rfl) (by kernel_rfl) (by kernel_rfl) (by exact fun _ _ _ h => h) (Or.inl ⟨by rfl, by (intro w hSw; (try dsimp only at hSw); go_simp; try with_reducible rfl)⟩) (by assumption) ?_
        (try dsimp only [Act.put]); (try go_frame)
        refine wpAnyH_done (by kernel_rfl) ?_ _
        try simp only [QCut]
        clear hHeld
        clear yF515_12 yF515_13 yF515_14 yF515_15 yF515_16 yF515_17 xF615_0 xF615_1 xF615_2 xF615_3 xF615_4 xF615_5 xF1015_0 xF1015_1 xF1015_2
        rcases z2.out with ⟨rfl, rfl⟩ | ⟨rfl, rfl⟩
        · clear z2
          go_wp2_with fail
          go_meet
          exact ⟨by first | rfl | simp, F5, F6, F8, F10, B0⟩
        · clear z2
          go_wp2_with fail
          go_meet
          exact ⟨by first | rfl | simp, F5, F6, F8, F10, B0⟩
      case rest =>
        clear B0
        clear F5
        clear F6
        clear F8
        clear F10
        obtain ⟨rfl, F5, F6, F8, F10, B0⟩ := hcut
        generalize wc = v3 at *
        go_wp2_with fail
        rw [rounds_succ]
        go_upto_block 1 with fail
        go_cut [12] (fun s12 wx => s12 = .bool y3 ∧ Blk wx (w3.heap.size) #[.bool ln, .string lS, .int .i64 le, .bool bn, .string bS, .int .i64 be, .bool pn, .string pS, .int .i64 pe, .bool bn, .string bS, .int .i64 be, .bool ln, .string lS, .int .i64 le, .bool qn, .string qS, .int .i64 qe, .bool pn, .string pS, .int .i64 pe, .bool qn, .string qS, .int .i64 qe] 35 ∧ Blk wx (w4.heap.size) #[.bool gn, .string gS, .int .i64 ge, .bool hn, .string hS, .int .i64 he] 27 ∧ Blk wx (w5.heap.size) #[.bool rn, .string rS, .int .i64 re] 25 ∧ Blk wx (w7.heap.size) #[.bool tn, .string tS, .int .i64 te] 25 ∧ Below w.heap.size w wx)
        case first =>
          as_aux_lemma =>
          go_wp2_with fail
          refine wp_region_any (by kernel_rfl) ?_
          have yF510_18 : (v3).cell? ⟨w3.heap.size, 18, none⟩ = some (.bool pn) := F5.at 18 (by simp)
          have yF510_19 : (v3).cell? ⟨w3.heap.size, 19, none⟩ = some (.string pS) := F5.at 19 (by simp)
          have yF510_20 : (v3).cell? ⟨w3.heap.size, 20, none⟩ = some (.int .i64 pe) := F5.at 20 (by simp)
          have yF510_21 : (v3).cell? ⟨w3.heap.size, 21, none⟩ = some (.bool qn) := F5.at 21 (by simp)
          have yF510_22 : (v3).cell? ⟨w3.heap.size, 22, none⟩ = some (.string qS) := F5.at 22 (by simp)
          have yF510_23 : (v3).cell? ⟨w3.heap.size, 23, none⟩ = some (.int .i64 qe) := F5.at 23 (by simp)
          obtain ⟨xF610_0, xF610_1, xF610_2, xF610_3, xF610_4, xF610_5⟩ := F6.ce6
          obtain ⟨xF810_0, xF810_1, xF810_2⟩ := F8.ce3
          have hHeld : (fun w' : World => w'.cell? ⟨w3.heap.size, 18, none⟩ = some (.bool pn) ∧ w'.cell? ⟨w3.heap.size, 19, none⟩ = some (.string pS) ∧ w'.cell? ⟨w3.heap.size, 20, none⟩ = some (.int .i64 pe) ∧ w'.cell? ⟨w3.heap.size, 21, none⟩ = some (.bool qn) ∧ w'.cell? ⟨w3.heap.size, 22, none⟩ = some (.string qS) ∧ w'.cell? ⟨w3.heap.size, 23, none⟩ = some (.int .i64 qe) ∧ w'.cell? ⟨w4.heap.size, 0, none⟩ = some (.bool gn) ∧ w'.cell? ⟨w4.heap.size, 1, none⟩ = some (.string gS) ∧ w'.cell? ⟨w4.heap.size, 2, none⟩ = some (.int .i64 ge) ∧ w'.cell? ⟨w4.heap.size, 3, none⟩ = some (.bool hn) ∧ w'.cell? ⟨w4.heap.size, 4, none⟩ = some (.string hS) ∧ w'.cell? ⟨w4.heap.size, 5, none⟩ = some (.int .i64 he) ∧ w'.cell? ⟨w5.heap.size, 0, none⟩ = some (.bool rn) ∧ w'.cell? ⟨w5.heap.size, 1, none⟩ = some (.string rS) ∧ w'.cell? ⟨w5.heap.size, 2, none⟩ = some (.int .i64 re)) (v3).drew := ⟨yF510_18, yF510_19, yF510_20, yF510_21, yF510_22, yF510_23, xF610_0, xF610_1, xF610_2, xF610_3, xF610_4, xF610_5, xF810_0, xF810_1, xF810_2⟩
          refine wpAny_of_held (S := fun w' : World => w'.cell? ⟨w3.heap.size, 18, none⟩ = some (.bool pn) ∧ w'.cell? ⟨w3.heap.size, 19, none⟩ = some (.string pS) ∧ w'.cell? ⟨w3.heap.size, 20, none⟩ = some (.int .i64 pe) ∧ w'.cell? ⟨w3.heap.size, 21, none⟩ = some (.bool qn) ∧ w'.cell? ⟨w3.heap.size, 22, none⟩ = some (.string qS) ∧ w'.cell? ⟨w3.heap.size, 23, none⟩ = some (.int .i64 qe) ∧ w'.cell? ⟨w4.heap.size, 0, none⟩ = some (.bool gn) ∧ w'.cell? ⟨w4.heap.size, 1, none⟩ = some (.string gS) ∧ w'.cell? ⟨w4.heap.size, 2, none⟩ = some (.int .i64 ge) ∧ w'.cell? ⟨w4.heap.size, 3, none⟩ = some (.bool hn) ∧ w'.cell? ⟨w4.heap.size, 4, none⟩ = some (.string hS) ∧ w'.cell? ⟨w4.heap.size, 5, none⟩ = some (.int .i64 he) ∧ w'.cell? ⟨w5.heap.size, 0, none⟩ = some (.bool rn) ∧ w'.cell? ⟨w5.heap.size, 1, none⟩ = some (.string rS) ∧ w'.cell? ⟨w5.heap.size, 2, none⟩ = some (.int .i64 re)) _ _ _ (v3).drew ?_
          replace F5 := F5.drew
          replace F6 := F6.drew
          replace F8 := F8.drew
          replace F10 := F10.drew
          replace B0 := B0.drew
          generalize (v3).drew = v4 at *
          refine wpAnyH_take (i := 0) (v := _) (by first | (simp only [List.getElem?_toArray, List.getElem?_cons_zero]; rfl) | rfl) (by kernel_rfl) (by kernel_rfl) (by kernel_rfl) (by exact fun _ _ _ h => h) (Or.inl ⟨by rfl, by (intro w hSw; (try dsimp only at hSw); go_simp; try with_reducible rfl)⟩) (by assumption) ?_
          (try dsimp only [Act.put]); (try go_frame)
          refine wpAnyH_take (i := 1) (v := _) (by first | (simp only [List.getElem?_toArray, List.getElem?_cons_zero, List.getElem?_cons_succ]; rfl) | rfl) (by kernel_rfl) (by kernel_rfl) (by kernel_rfl) (by exact fun _ _ _ h => h) (Or.inl ⟨by rfl, by (intro w hSw; (try dsimp only at hSw); go_simp; try with_reducible rfl)⟩) (by assumption) ?_
          (try dsimp only [Act.put]); (try go_frame)
          refine wpAnyH_take (i := 2) (v := _) (by first | (simp only [List.getElem?_toArray, List.getElem?_cons_zero, List.getElem?_cons_succ]; rfl) | rfl) (by kernel_rfl) (by kernel_rfl) (by kernel_rfl) (by exact fun _ _ _ h => h) (Or.inl ⟨by rfl, by (intro w hSw; (try dsimp only at hSw); go_simp; try with_reducible rfl)⟩) (by assumption) ?_
          (try dsimp only [Act.put]); (try go_frame)
          refine wpAnyH_take (i := 3) (v := _) (by first | (simp only [List.getElem?_toArray, List.getElem?_cons_zero, List.getElem?_cons_succ]; rfl) | rfl) (by kernel_rfl) (by kernel_rfl) (by kernel_rfl) (by exact fun _ _ _ h => h) (Or.inl ⟨by rfl, by (intro w hSw; (try dsimp only at hSw); go_simp; try with_reducible rfl)⟩) (by assumption) ?_
          (try dsimp only [Act.put]); (try go_frame)
          refine wpAnyH_take (i := 4) (v := _) (by first | (simp only [List.getElem?_toArray, List.getElem?_cons_zero, List.getElem?_cons_succ]; rfl) | rfl) (by kernel_rfl) (by kernel_rfl) (by kernel_rfl) (by exact fun _ _ _ h => h) (Or.inl ⟨by rfl, by (intro w hSw; (try dsimp only at hSw); go_simp; try with_reducible rfl)⟩) (by assumption) ?_
          (try dsimp only [Act.put]); (try go_frame)
          refine wpAnyH_ready (rs := [5]) (by kernel_rfl) (by simp) ?_
          refine AllReadyH.cons rfl (fun K hK => ?_) AllReadyH.nil
          go_simp
          (with_reducible refine (i3 _ (hT.below B0)).mono ?_)
          rintro r w8 ⟨rfl, hb8⟩
          clear yF510_18 yF510_19 yF510_20 yF510_21 yF510_22 yF510_23 xF610_0 xF610_1 xF610_2 xF610_3 xF610_4 xF610_5 xF810_0 xF810_1 xF810_2
          replace F5 := F5.keep hb8
          replace F6 := F6.keep hb8
          replace F8 := F8.keep hb8
          replace F10 := F10.keep hb8
          replace B0 := B0.trans (hb8.mono B0.size)
          clear hb8
          have yF513_18 : (w8).cell? ⟨w3.heap.size, 18, none⟩ = some (.bool pn) := F5.at 18 (by simp)
          have yF513_19 : (w8).cell? ⟨w3.heap.size, 19, none⟩ = some (.string pS) := F5.at 19 (by simp)
          have yF513_20 : (w8).cell? ⟨w3.heap.size, 20, none⟩ = some (.int .i64 pe) := F5.at 20 (by simp)
          have yF513_21 : (w8).cell? ⟨w3.heap.size, 21, none⟩ = some (.bool qn) := F5.at 21 (by simp)
          have yF513_22 : (w8).cell? ⟨w3.heap.size, 22, none⟩ = some (.string qS) := F5.at 22 (by simp)
          have yF513_23 : (w8).cell? ⟨w3.heap.size, 23, none⟩ = some (.int .i64 qe) := F5.at 23 (by simp)
          obtain ⟨xF613_0, xF613_1, xF613_2, xF613_3, xF613_4, xF613_5⟩ := F6.ce6
          obtain ⟨xF813_0, xF813_1, xF813_2⟩ := F8.ce3
          refine hK.out _ _ ?_ (fun hHeld => ?_)
          · exact ⟨yF513_18, yF513_19, yF513_20, yF513_21, yF513_22, yF513_23, xF613_0, xF613_1, xF613_2, xF613_3, xF613_4, xF613_5, xF813_0, xF813_1, xF813_2⟩
          clear hK K
          (try dsimp only [Act.put]); (try go_frame)
          refine wpAnyH_take (i := 6) (v := _) (by first | (simp only [List.getElem?_toArray, List.getElem?_cons_zero, List.getElem?_cons_succ]; rfl) | rfl) (by kernel_rfl) (by kernel_rfl) (by kernel_rfl) (by exact fun _ _ _ h => h) (Or.inl ⟨by rfl, by (intro w hSw; (try dsimp only at hSw); go_simp; try with_reducible rfl)⟩) (by assumption) ?_
          (try dsimp only [Act.put]); (try go_frame)
          refine wpAnyH_take (i := 7) (v := _) (by first | (simp only [List.getElem?_toArray, List.getElem?_cons_zero, List.getElem?_cons_succ]; rfl) | rfl) (by kernel_rfl) (by kernel_rfl) (by kernel_rfl) (by exact fun _ _ _ h => h) (Or.inl ⟨by rfl, by (intro w hSw; (try dsimp only at hSw); go_simp; try with_reducible rfl)⟩) (by assumption) ?_
          (try dsimp only [Act.put]); (try go_frame)
          refine wpAnyH_take (i := 8) (v := _) (by first | (simp only [List.getElem?_toArray, List.getElem?_cons_zero, List.getElem?_cons_succ]; rfl) | rfl) (by kernel_rfl) (by kernel_rfl) (by kernel_rfl) (by exact fun _ _ _ h => h) (Or.inl ⟨by rfl, by (intro w hSw; (try dsimp only at hSw); go_simp; try with_reducible rfl)⟩) (by assumption) ?_
          (try dsimp only [Act.put]); (try go_frame)
          refine wpAnyH_take (i := 9) (v := _) (by first | (simp only [List.getElem?_toArray, List.getElem?_cons_zero, List.getElem?_cons_succ]; rfl) | rfl) (by kernel_rfl) (by kernel_rfl) (by kernel_rfl) (by exact fun _ _ _ h => h) (Or.inl ⟨by rfl, by (intro w hSw; (try dsimp only at hSw); go_simp; try with_reducible rfl)⟩) (by assumption) ?_
          (try dsimp only [Act.put]); (try go_frame)
          refine wpAnyH_take (i := 10) (v := _) (by first | (simp only [List.getElem?_toArray, List.getElem?_cons_zero, List.getElem?_cons_succ]; rfl) | rfl) (by kernel_rfl) (by kernel_rfl) (by kernel_rfl) (by exact fun _ _ _ h => h) (Or.inl ⟨by rfl, by (intro w hSw; (try dsimp only at hSw); go_simp; try with_reducible rfl)⟩) (by assumption) ?_
          (try dsimp only [Act.put]); (try go_frame)
          refine wpAnyH_done (by kernel_rfl) ?_ _
          try simp only [QCut]
          clear hHeld
          clear yF513_18 yF513_19 yF513_20 yF513_21 yF513_22 yF513_23 xF613_0 xF613_1 xF613_2 xF613_3 xF613_4 xF613_5 xF813_0 xF813_1 xF813_2
          go_wp2_with fail
          refine wp_region_any (by kernel_rfl) ?_
          have yF513_18 : (w8).cell? ⟨w3.heap.size, 18, none⟩ = some (.bool pn) := F5.at 18 (by simp)
          have yF513_19 : (w8).cell? ⟨w3.heap.size, 19, none⟩ = some (.string pS) := F5.at 19 (by simp)
          have yF513_20 : (w8).cell? ⟨w3.heap.size, 20, none⟩ = some (.int .i64 pe) := F5.at 20 (by simp)
          have yF513_21 : (w8).cell? ⟨w3.heap.size, 21, none⟩ = some (.bool qn) := F5.at 21 (by simp)
          have yF513_22 : (w8).cell? ⟨w3.heap.size, 22, none⟩ = some (.string qS) := F5.at 22 (by simp)
          have yF513_23 : (w8).cell? ⟨w3.heap.size, 23, none⟩ = some (.int .i64 qe) := F5.at 23 (by simp)
          obtain ⟨xF613_0, xF613_1, xF613_2, xF613_3, xF613_4, xF613_5⟩ := F6.ce6
          obtain ⟨xF1013_0, xF1013_1, xF1013_2⟩ := F10.ce3
          have hHeld : (fun w' : World => w'.cell? ⟨w3.heap.size, 18, none⟩ = some (.bool pn) ∧ w'.cell? ⟨w3.heap.size, 19, none⟩ = some (.string pS) ∧ w'.cell? ⟨w3.heap.size, 20, none⟩ = some (.int .i64 pe) ∧ w'.cell? ⟨w3.heap.size, 21, none⟩ = some (.bool qn) ∧ w'.cell? ⟨w3.heap.size, 22, none⟩ = some (.string qS) ∧ w'.cell? ⟨w3.heap.size, 23, none⟩ = some (.int .i64 qe) ∧ w'.cell? ⟨w4.heap.size, 0, none⟩ = some (.bool gn) ∧ w'.cell? ⟨w4.heap.size, 1, none⟩ = some (.string gS) ∧ w'.cell? ⟨w4.heap.size, 2, none⟩ = some (.int .i64 ge) ∧ w'.cell? ⟨w4.heap.size, 3, none⟩ = some (.bool hn) ∧ w'.cell? ⟨w4.heap.size, 4, none⟩ = some (.string hS) ∧ w'.cell? ⟨w4.heap.size, 5, none⟩ = some (.int .i64 he) ∧ w'.cell? ⟨w7.heap.size, 0, none⟩ = some (.bool tn) ∧ w'.cell? ⟨w7.heap.size, 1, none⟩ = some (.string tS) ∧ w'.cell? ⟨w7.heap.size, 2, none⟩ = some (.int .i64 te)) (w8).drew := ⟨yF513_18, yF513_19, yF513_20, yF513_21, yF513_22, yF513_23, xF613_0, xF613_1, xF613_2, xF613_3, xF613_4, xF613_5, xF1013_0, xF1013_1, xF1013_2⟩
          refine wpAny_of_held (S := fun w' : World => w'.cell? ⟨w3.heap.size, 18, none⟩ = some (.bool pn) ∧ w'.cell? ⟨w3.heap.size, 19, none⟩ = some (.string pS) ∧ w'.cell? ⟨w3.heap.size, 20, none⟩ = some (.int .i64 pe) ∧ w'.cell? ⟨w3.heap.size, 21, none⟩ = some (.bool qn) ∧ w'.cell? ⟨w3.heap.size, 22, none⟩ = some (.string qS) ∧ w'.cell? ⟨w3.heap.size, 23, none⟩ = some (.int .i64 qe) ∧ w'.cell? ⟨w4.heap.size, 0, none⟩ = some (.bool gn) ∧ w'.cell? ⟨w4.heap.size, 1, none⟩ = some (.string gS) ∧ w'.cell? ⟨w4.heap.size, 2, none⟩ = some (.int .i64 ge) ∧ w'.cell? ⟨w4.heap.size, 3, none⟩ = some (.bool hn) ∧ w'.cell? ⟨w4.heap.size, 4, none⟩ = some (.string hS) ∧ w'.cell? ⟨w4.heap.size, 5, none⟩ = some (.int .i64 he) ∧ w'.cell? ⟨w7.heap.size, 0, none⟩ = some (.bool tn) ∧ w'.cell? ⟨w7.heap.size, 1, none⟩ = some (.string tS) ∧ w'.cell? ⟨w7.heap.size, 2, none⟩ = some (.int .i64 te)) _ _ _ (w8).drew ?_
          replace F5 := F5.drew
          replace F6 := F6.drew
          replace F8 := F8.drew
          replace F10 := F10.drew
          replace B0 := B0.drew
          generalize (w8).drew = v5 at *
          refine wpAnyH_take (i := 0) (v := _) (by first | (simp only [List.getElem?_toArray, List.getElem?_cons_zero]; rfl) | rfl) (by kernel_rfl) (by kernel_rfl) (by kernel_rfl) (by exact fun _ _ _ h => h) (Or.inl ⟨by rfl, by (intro w hSw; (try dsimp only at hSw); go_simp; try with_reducible rfl)⟩) (by assumption) ?_
          (try dsimp only [Act.put]); (try go_frame)
          refine wpAnyH_take (i := 1) (v := _) (by first | (simp only [List.getElem?_toArray, List.getElem?_cons_zero, List.getElem?_cons_succ]; rfl) | rfl) (by kernel_rfl) (by kernel_rfl) (by kernel_rfl) (by exact fun _ _ _ h => h) (Or.inl ⟨by rfl, by (intro w hSw; (try dsimp only at hSw); go_simp; try with_reducible rfl)⟩) (by assumption) ?_
          (try dsimp only [Act.put]); (try go_frame)
          refine wpAnyH_take (i := 2) (v := _) (by first | (simp only [List.getElem?_toArray, List.getElem?_cons_zero, List.getElem?_cons_succ]; rfl) | rfl) (by kernel_rfl) (by kernel_rfl) (by kernel_rfl) (by exact fun _ _ _ h => h) (Or.inl ⟨by rfl, by (intro w hSw; (try dsimp only at hSw); go_simp; try with_reducible rfl)⟩) (by assumption) ?_
          (try dsimp only [Act.put]); (try go_frame)
          refine wpAnyH_take (i := 3) (v := _) (by first | (simp only [List.getElem?_toArray, List.getElem?_cons_zero, List.getElem?_cons_succ]; rfl) | rfl) (by kernel_rfl) (by kernel_rfl) (by kernel_rfl) (by exact fun _ _ _ h => h) (Or.inl ⟨by rfl, by (intro w hSw; (try dsimp only at hSw); go_simp; try with_reducible rfl)⟩) (by assumption) ?_
          (try dsimp only [Act.put]); (try go_frame)
          refine wpAnyH_take (i := 4) (v := _) (by first | (simp only [List.getElem?_toArray, List.getElem?_cons_zero, List.getElem?_cons_succ]; rfl) | rfl) (by kernel_rfl) (by kernel_rfl) (by kernel_rfl) (by exact fun _ _ _ h => h) (Or.inl ⟨by rfl, by (intro w hSw; (try dsimp only at hSw); go_simp; try with_reducible rfl)⟩) (by assumption) ?_
          (try dsimp only [Act.put]); (try go_frame)
          refine wpAnyH_ready (rs := [5]) (by kernel_rfl) (by simp) ?_
          refine AllReadyH.cons rfl (fun K hK => ?_) AllReadyH.nil
          go_simp
          (with_reducible refine (j3 _ (hT.below B0)).mono ?_)
          rintro r w9 ⟨rfl, hb9⟩
          clear yF513_18 yF513_19 yF513_20 yF513_21 yF513_22 yF513_23 xF613_0 xF613_1 xF613_2 xF613_3 xF613_4 xF613_5 xF1013_0 xF1013_1 xF1013_2
          replace F5 := F5.keep hb9
          replace F6 := F6.keep hb9
          replace F8 := F8.keep hb9
          replace F10 := F10.keep hb9
          replace B0 := B0.trans (hb9.mono B0.size)
          clear hb9
          have yF516_18 : (w9).cell? ⟨w3.heap.size, 18, none⟩ = some (.bool pn) := F5.at 18 (by simp)
          have yF516_19 : (w9).cell? ⟨w3.heap.size, 19, none⟩ = some (.string pS) := F5.at 19 (by simp)
          have yF516_20 : (w9).cell? ⟨w3.heap.size, 20, none⟩ = some (.int .i64 pe) := F5.at 20 (by simp)
          have yF516_21 : (w9).cell? ⟨w3.heap.size, 21, none⟩ = some (.bool qn) := F5.at 21 (by simp)
          have yF516_22 : (w9).cell? ⟨w3.heap.size, 22, none⟩ = some (.string qS) := F5.at 22 (by simp)
          have yF516_23 : (w9).cell? ⟨w3.heap.size, 23, none⟩ = some (.int .i64 qe) := F5.at 23 (by simp)
          obtain ⟨xF616_0, xF616_1, xF616_2, xF616_3, xF616_4, xF616_5⟩ := F6.ce6
          obtain ⟨xF1016_0, xF1016_1, xF1016_2⟩ := F10.ce3
          refine hK.out _ _ ?_ (fun hHeld => ?_)
          · exact ⟨yF516_18, yF516_19, yF516_20, yF516_21, yF516_22, yF516_23, xF616_0, xF616_1, xF616_2, xF616_3, xF616_4, xF616_5, xF1016_0, xF1016_1, xF1016_2⟩
          clear hK K
          (try dsimp only [Act.put]); (try go_frame)
          refine wpAnyH_take (i := 6) (v := _) (by first | (simp only [List.getElem?_toArray, List.getElem?_cons_zero, List.getElem?_cons_succ]; rfl) | rfl) (by kernel_rfl) (by kernel_rfl) (by kernel_rfl) (by exact fun _ _ _ h => h) (Or.inl ⟨by rfl, by (intro w hSw; (try dsimp only at hSw); go_simp; try with_reducible rfl)⟩) (by assumption) ?_
          (try dsimp only [Act.put]); (try go_frame)
          refine wpAnyH_take (i := 7) (v := _) (by first | (simp only [List.getElem?_toArray, List.getElem?_cons_zero, List.getElem?_cons_succ]; rfl) | rfl) (by kernel_rfl) (by kernel_rfl) (by kernel_rfl) (by exact fun _ _ _ h => h) (Or.inl ⟨by rfl, by (intro w hSw; (try dsimp only at hSw); go_simp; try with_reducible rfl)⟩) (by assumption) ?_
          (try dsimp only [Act.put]); (try go_frame)
          refine wpAnyH_take (i := 8) (v := _) (by first | (simp only [List.getElem?_toArray, List.getElem?_cons_zero, List.getElem?_cons_succ]; rfl) | rfl) (by kernel_rfl) (by kernel_rfl) (by kernel_rfl) (by exact fun _ _ _ h => h) (Or.inl ⟨by rfl, by (intro w hSw; (try dsimp only at hSw); go_simp; try with_reducible rfl)⟩) (by assumption) ?_
          (try dsimp only [Act.put]); (try go_frame)
          refine wpAnyH_take (i := 9) (v := _) (by first | (simp only [List.getElem?_toArray, List.getElem?_cons_zero, List.getElem?_cons_succ]; rfl) | rfl) (by kernel_rfl) (by kernel_rfl) (by kernel_rfl) (by exact fun _ _ _ h => h) (Or.inl ⟨by rfl, by (intro w hSw; (try dsimp only at hSw); go_simp; try with_reducible rfl)⟩) (by assumption) ?_
          (try dsimp only [Act.put]); (try go_frame)
          refine wpAnyH_take (i := 10) (v := _) (by first | (simp only [List.getElem?_toArray, List.getElem?_cons_zero, List.getElem?_cons_succ]; rfl) | rfl) (by kernel_rfl) (by kernel_rfl) (by kernel_rfl) (by exact fun _ _ _ h => h) (Or.inl ⟨by rfl, by (intro w hSw; (try dsimp only at hSw); go_simp; try with_reducible rfl)⟩) (by assumption) ?_
          (try dsimp only [Act.put]); (try go_frame)
          refine wpAnyH_done (by kernel_rfl) ?_ _
          try simp only [QCut]
          clear hHeld
          clear yF516_18 yF516_19 yF516_20 yF516_21 yF516_22 yF516_23 xF616_0 xF616_1 xF616_2 xF616_3 xF616_4 xF616_5 xF1016_0 xF1016_1 xF1016_2
          rcases z3.out with ⟨rfl, rfl⟩ | ⟨rfl, rfl⟩
          · clear z3
            go_wp2_with fail
            go_meet
            exact ⟨by first | rfl | simp, F5, F6, F8, F10, B0⟩
          · clear z3
            go_wp2_with fail
            go_meet
            exact ⟨by first | rfl | simp, F5, F6, F8, F10, B0⟩
        case rest =>
          clear B0
          clear F5
          clear F6
          clear F8
          clear F10
          obtain ⟨rfl, F5, F6, F8, F10, B0⟩ := hcut
          generalize wc = v4 at *
          go_wp2_with fail
          rw [rounds_succ]
          have hy2 := hy.out
          clear hy
          subst hy2
          go_wp2
          go_ret
          exact ⟨rfl, B0⟩

end Go.Proofs.YtppebjnmollojaaDoor
