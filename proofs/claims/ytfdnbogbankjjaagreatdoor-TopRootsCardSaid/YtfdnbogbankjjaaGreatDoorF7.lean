/- Balls: the walk of ball.Mul. (printed by gen_f6.py) -/
import Derived.Test.YtfdnbogbankjjaaGreatDoorF6
namespace Go.Proofs.YtfdnbogbankjjaaGreatDoor
open Go Go.RowKit Go.PlainAid Fil

def bMul (Z0 : BV) (Z1 : BV) : BV :=
 let X0 := Z0.1.1
 let Y0 := Z0.1.2
 let R0 := Z0.2
 let X1 := Z1.1.1
 let Y1 := Z1.1.2
 let R1 := Z1.2
 bif (bIsWhole ((X0, Y0), R0)) then (
  let v1 := bWhole
  ((v1.1.1, v1.1.2), v1.2))
 else (
  bif (bIsWhole ((X1, Y1), R1)) then (
   let v1 := bWhole
   ((v1.1.1, v1.1.2), v1.2))
  else (
   let v1 := cHi (X0, Y0)
   let v2 := fTimes v1 R1
   let v3 := cHi (X1, Y1)
   let v4 := fTimes v3 R0
   let v5 := fPlus v2 v4
   let v6 := cMul (X0, Y0) (X1, Y1)
   let v7 := fTimes R0 R1
   let v8 := fSpoilt (X0, Y0) (X1, Y1)
   let v9 := fPlus v7 v8
   let v10 := fPlus v5 v9
   let v11 := bTold (v6.1, v6.2) v10
   ((v11.1.1, v11.1.2), v11.2)))
set_option maxHeartbeats 8000000 in
theorem c_blMul {x0 y0 r0 x1 y1 r1 : Nat} {X0 Y0 R0 X1 Y1 R1 : FV} (w : World) (hx0 : Fl x0 X0) (hy0 : Fl y0 Y0) (hr0 : Fl r0 R0) (hx1 : Fl x1 X1) (hy1 : Fl y1 Y1) (hr1 : Fl r1 R1) : Calls Tryz.prog 33 #[.agg #[.complex .f64 x0 y0, .float .f64 r0], .agg #[.complex .f64 x1 y1, .float .f64 r1]] w fun r w' => (∃ z y t, r = .returned (.agg #[.complex .f64 z y, .float .f64 t]) ∧ Fl z (bMul ((X0, Y0), R0) ((X1, Y1), R1)).1.1 ∧ Fl y (bMul ((X0, Y0), R0) ((X1, Y1), R1)).1.2 ∧ Fl t (bMul ((X0, Y0), R0) ((X1, Y1), R1)).2) ∧ Below w.heap.size w w' := by
 go_enter Tryz.func33, Tryz.ntmps33
 have B0 := Below.refl w.heap.size w
 have hst1 := fun (a : Addr) (v : Nat) (m : Mode) (W : World) => (run_store Tryz.prog W a (.float .f64 v) m rfl : (store a (.float .f64 v) m).run Tryz.prog W = stored Tryz.prog W a (.float .f64 v) m)
 have hst2 := fun (a : Addr) (u v : Nat) (m : Mode) (W : World) => (run_store Tryz.prog W a (.complex .f64 u v) m rfl : (store a (.complex .f64 u v) m).run Tryz.prog W = stored Tryz.prog W a (.complex .f64 u v) m)
 have F2 := Blk.put (w) #[.complex .f64 x0 y0, .float .f64 r0] 32
 replace B0 := B0.alloc B0.size (.cells #[.complex .f64 x0 y0, .float .f64 r0] 32)
 replace F2 := F2.allocd (.cells #[.complex .f64 x1 y1, .float .f64 r1] 32)
 have F3 := Blk.put ((w).alloc (.cells #[.complex .f64 x0 y0, .float .f64 r0] 32)) #[.complex .f64 x1 y1, .float .f64 r1] 32
 rw [show ((w).alloc (.cells #[.complex .f64 x0 y0, .float .f64 r0] 32)).heap.size = w.heap.size + 1 by simp] at F3
 replace B0 := B0.alloc B0.size (.cells #[.complex .f64 x1 y1, .float .f64 r1] 32)
 have q_w_F4 : Hid (w.heap.size ≤ w.heap.size + 1 + 1) := Lib.hid (by omega)
 replace F2 := F2.allocd (.cells #[.complex .f64 0 0, .float .f64 0] 32)
 replace F3 := F3.allocd (.cells #[.complex .f64 0 0, .float .f64 0] 32)
 have F4 := Blk.put (((w).alloc (.cells #[.complex .f64 x0 y0, .float .f64 r0] 32)).alloc (.cells #[.complex .f64 x1 y1, .float .f64 r1] 32)) #[.complex .f64 0 0, .float .f64 0] 32
 rw [show (((w).alloc (.cells #[.complex .f64 x0 y0, .float .f64 r0] 32)).alloc (.cells #[.complex .f64 x1 y1, .float .f64 r1] 32)).heap.size = w.heap.size + 1 + 1 by simp] at F4
 replace B0 := B0.alloc B0.size (.cells #[.complex .f64 0 0, .float .f64 0] 32)
 obtain ⟨xF20_0, xF20_1⟩ := F2.ce2
 go_wp2_with fail
 (with_reducible refine (c_blIsWhole _ hx0 hy0 hr0).mono ?_)
 rintro r w1 ⟨rfl, hb1⟩
 clear xF20_0 xF20_1
 replace F2 := F2.keep hb1
 replace F3 := F3.keep hb1
 replace F4 := F4.keep hb1
 replace B0 := B0.trans (hb1.mono B0.size)
 clear hb1
 cases hk2 : bIsWhole ((X0, Y0), R0)
 ·obtain ⟨xF31_0, xF31_1⟩ := F3.ce2
  go_wp2_with fail
  (with_reducible refine (c_blIsWhole _ hx1 hy1 hr1).mono ?_)
  rintro r w2 ⟨rfl, hb2⟩
  clear xF31_0 xF31_1
  replace F2 := F2.keep hb2
  replace F3 := F3.keep hb2
  replace F4 := F4.keep hb2
  replace B0 := B0.trans (hb2.mono B0.size)
  clear hb2
  cases hk4 : bIsWhole ((X1, Y1), R1)
  ·go_wp2_with fail
   refine wp_region_cut 13 (by kernel_rfl) (by kernel_rfl) ?_
   rintro W rfl
   simp only [List.take_succ_cons, List.take_zero, List.drop_succ_cons, List.drop_zero]
   obtain ⟨xF22_0, xF22_1⟩ := F2.ce2
   obtain ⟨xF32_0, xF32_1⟩ := F3.ce2
   have hHeld : (fun w' : World => w'.cell? ⟨w.heap.size, 0, none⟩ = some (.complex .f64 x0 y0) ∧ w'.cell? ⟨w.heap.size, 1, none⟩ = some (.float .f64 r0) ∧ w'.cell? ⟨w.heap.size + 1, 0, none⟩ = some (.complex .f64 x1 y1) ∧ w'.cell? ⟨w.heap.size + 1, 1, none⟩ = some (.float .f64 r1)) (w2).drew := ⟨xF22_0, xF22_1, xF32_0, xF32_1⟩
   refine wpAny_of_held (S := fun w' : World => w'.cell? ⟨w.heap.size, 0, none⟩ = some (.complex .f64 x0 y0) ∧ w'.cell? ⟨w.heap.size, 1, none⟩ = some (.float .f64 r0) ∧ w'.cell? ⟨w.heap.size + 1, 0, none⟩ = some (.complex .f64 x1 y1) ∧ w'.cell? ⟨w.heap.size + 1, 1, none⟩ = some (.float .f64 r1)) _ _ _ (w2).drew ?_
   replace F2 := F2.drew
   replace F3 := F3.drew
   replace F4 := F4.drew
   replace B0 := B0.drew
   generalize (w2).drew = v1 at *
   refine tkA 0 ?_
   (try dsimp only [Act.put]); (try go_frame)
   refine tkA 1 ?_
   (try dsimp only [Act.put]); (try go_frame)
   refine tkA 3 ?_
   (try dsimp only [Act.put]); (try go_frame)
   refine tkA 4 ?_
   (try dsimp only [Act.put]); (try go_frame)
   refine tkA 6 ?_
   (try dsimp only [Act.put]); (try go_frame)
   refine tkA 7 ?_
   (try dsimp only [Act.put]); (try go_frame)
   refine tkA 9 ?_
   (try dsimp only [Act.put]); (try go_frame)
   refine tkA 10 ?_
   (try dsimp only [Act.put]); (try go_frame)
   refine wpAnyH_ready (rs := [2]) (by kernel_rfl) (by simp) ?_
   refine AllReadyH.cons rfl (fun K hK => ?_) AllReadyH.nil
   go_simp
   (with_reducible refine (c_cxHi _ hx0 hy0).mono ?_)
   rintro r w3 ⟨⟨z5, rfl, a5⟩, hb3⟩
   clear xF22_0 xF22_1 xF32_0 xF32_1
   replace F2 := F2.keep hb3
   replace F3 := F3.keep hb3
   replace F4 := F4.keep hb3
   replace B0 := B0.trans (hb3.mono B0.size)
   clear hb3
   obtain ⟨xF25_0, xF25_1⟩ := F2.ce2
   obtain ⟨xF35_0, xF35_1⟩ := F3.ce2
   refine hK.out _ _ ?_ (fun hHeld => ?_)
   ·exact ⟨xF25_0, xF25_1, xF35_0, xF35_1⟩
   clear hK K
   (try dsimp only [Act.put]); (try go_frame)
   refine wpAnyH_ready (rs := [5]) (by kernel_rfl) (by simp) ?_
   refine AllReadyH.cons rfl (fun K hK => ?_) AllReadyH.nil
   go_simp
   (with_reducible refine (c_bltimes _ a5 hr1).mono ?_)
   rintro r w4 ⟨⟨z6, rfl, a6⟩, hb4⟩
   clear xF25_0 xF25_1 xF35_0 xF35_1
   replace F2 := F2.keep hb4
   replace F3 := F3.keep hb4
   replace F4 := F4.keep hb4
   replace B0 := B0.trans (hb4.mono B0.size)
   clear hb4
   obtain ⟨xF26_0, xF26_1⟩ := F2.ce2
   obtain ⟨xF36_0, xF36_1⟩ := F3.ce2
   refine hK.out _ _ ?_ (fun hHeld => ?_)
   ·exact ⟨xF26_0, xF26_1, xF36_0, xF36_1⟩
   clear hK K
   (try dsimp only [Act.put]); (try go_frame)
   refine wpAnyH_ready (rs := [8]) (by kernel_rfl) (by simp) ?_
   refine AllReadyH.cons rfl (fun K hK => ?_) AllReadyH.nil
   go_simp
   (with_reducible refine (c_cxHi _ hx1 hy1).mono ?_)
   rintro r w5 ⟨⟨z7, rfl, a7⟩, hb5⟩
   clear xF26_0 xF26_1 xF36_0 xF36_1
   replace F2 := F2.keep hb5
   replace F3 := F3.keep hb5
   replace F4 := F4.keep hb5
   replace B0 := B0.trans (hb5.mono B0.size)
   clear hb5
   obtain ⟨xF27_0, xF27_1⟩ := F2.ce2
   obtain ⟨xF37_0, xF37_1⟩ := F3.ce2
   refine hK.out _ _ ?_ (fun hHeld => ?_)
   ·exact ⟨xF27_0, xF27_1, xF37_0, xF37_1⟩
   clear hK K
   (try dsimp only [Act.put]); (try go_frame)
   refine wpAnyH_ready (rs := [11]) (by kernel_rfl) (by simp) ?_
   refine AllReadyH.cons rfl (fun K hK => ?_) AllReadyH.nil
   go_simp
   (with_reducible refine (c_bltimes _ a7 hr0).mono ?_)
   rintro r w6 ⟨⟨z8, rfl, a8⟩, hb6⟩
   clear xF27_0 xF27_1 xF37_0 xF37_1
   replace F2 := F2.keep hb6
   replace F3 := F3.keep hb6
   replace F4 := F4.keep hb6
   replace B0 := B0.trans (hb6.mono B0.size)
   clear hb6
   obtain ⟨xF28_0, xF28_1⟩ := F2.ce2
   obtain ⟨xF38_0, xF38_1⟩ := F3.ce2
   refine hK.out _ _ ?_ (fun hHeld => ?_)
   ·exact ⟨xF28_0, xF28_1, xF38_0, xF38_1⟩
   clear hK K
   (try dsimp only [Act.put]); (try go_frame)
   refine wpAnyH_ready (rs := [12]) (by kernel_rfl) (by simp) ?_
   refine AllReadyH.cons rfl (fun K hK => ?_) AllReadyH.nil
   go_simp
   (with_reducible refine (c_blplus _ a6 a8).mono ?_)
   rintro r w7 ⟨⟨z9, rfl, a9⟩, hb7⟩
   clear xF28_0 xF28_1 xF38_0 xF38_1
   replace F2 := F2.keep hb7
   replace F3 := F3.keep hb7
   replace F4 := F4.keep hb7
   replace B0 := B0.trans (hb7.mono B0.size)
   clear hb7
   obtain ⟨xF29_0, xF29_1⟩ := F2.ce2
   obtain ⟨xF39_0, xF39_1⟩ := F3.ce2
   refine hK.out _ _ ?_ (fun hHeld => ?_)
   ·exact ⟨xF29_0, xF29_1, xF39_0, xF39_1⟩
   clear hK K
   (try dsimp only [Act.put]); (try go_frame)
   refine wpAnyH_done (by kernel_rfl) ?_ _
   try simp only [QCut]
   clear hHeld
   clear xF29_0 xF29_1 xF39_0 xF39_1
   go_wp2_with fail
   refine wp_region_cut 19 (by kernel_rfl) (by kernel_rfl) ?_
   rintro W rfl
   simp only [List.take_succ_cons, List.take_zero, List.drop_succ_cons, List.drop_zero]
   obtain ⟨xF29_0, xF29_1⟩ := F2.ce2
   obtain ⟨xF39_0, xF39_1⟩ := F3.ce2
   have hHeld : (fun w' : World => w'.cell? ⟨w.heap.size, 0, none⟩ = some (.complex .f64 x0 y0) ∧ w'.cell? ⟨w.heap.size, 1, none⟩ = some (.float .f64 r0) ∧ w'.cell? ⟨w.heap.size + 1, 0, none⟩ = some (.complex .f64 x1 y1) ∧ w'.cell? ⟨w.heap.size + 1, 1, none⟩ = some (.float .f64 r1)) (w7).drew := ⟨xF29_0, xF29_1, xF39_0, xF39_1⟩
   refine wpAny_of_held (S := fun w' : World => w'.cell? ⟨w.heap.size, 0, none⟩ = some (.complex .f64 x0 y0) ∧ w'.cell? ⟨w.heap.size, 1, none⟩ = some (.float .f64 r0) ∧ w'.cell? ⟨w.heap.size + 1, 0, none⟩ = some (.complex .f64 x1 y1) ∧ w'.cell? ⟨w.heap.size + 1, 1, none⟩ = some (.float .f64 r1)) _ _ _ (w7).drew ?_
   replace F2 := F2.drew
   replace F3 := F3.drew
   replace F4 := F4.drew
   replace B0 := B0.drew
   generalize (w7).drew = v2 at *
   refine tkA 0 ?_
   (try dsimp only [Act.put]); (try go_frame)
   refine tkA 1 ?_
   (try dsimp only [Act.put]); (try go_frame)
   refine tkA 2 ?_
   (try dsimp only [Act.put]); (try go_frame)
   refine tkA 3 ?_
   (try dsimp only [Act.put]); (try go_frame)
   refine tkA 5 ?_
   (try dsimp only [Act.put]); (try go_frame)
   refine tkA 6 ?_
   (try dsimp only [Act.put]); (try go_frame)
   refine tkA 7 ?_
   (try dsimp only [Act.put]); (try go_frame)
   refine tkA 8 ?_
   (try dsimp only [Act.put]); (try go_frame)
   refine tkA 9 ?_
   (try dsimp only [Act.put]); (try go_frame)
   refine tkA 11 ?_
   (try dsimp only [Act.put]); (try go_frame)
   refine tkA 12 ?_
   (try dsimp only [Act.put]); (try go_frame)
   refine tkA 13 ?_
   (try dsimp only [Act.put]); (try go_frame)
   refine tkA 14 ?_
   (try dsimp only [Act.put]); (try go_frame)
   refine wpAnyH_ready (rs := [4]) (by kernel_rfl) (by simp) ?_
   refine AllReadyH.cons rfl (fun K hK => ?_) AllReadyH.nil
   go_simp
   (with_reducible refine (c_cxMul _ hx0 hy0 hx1 hy1).mono ?_)
   rintro r w8 ⟨⟨z10, y10, rfl, a10, b10⟩, hb8⟩
   clear xF29_0 xF29_1 xF39_0 xF39_1
   replace F2 := F2.keep hb8
   replace F3 := F3.keep hb8
   replace F4 := F4.keep hb8
   replace B0 := B0.trans (hb8.mono B0.size)
   clear hb8
   obtain ⟨xF212_0, xF212_1⟩ := F2.ce2
   obtain ⟨xF312_0, xF312_1⟩ := F3.ce2
   refine hK.out _ _ ?_ (fun hHeld => ?_)
   ·exact ⟨xF212_0, xF212_1, xF312_0, xF312_1⟩
   clear hK K
   (try dsimp only [Act.put]); (try go_frame)
   refine wpAnyH_ready (rs := [10]) (by kernel_rfl) (by simp) ?_
   refine AllReadyH.cons rfl (fun K hK => ?_) AllReadyH.nil
   go_simp
   (with_reducible refine (c_bltimes _ hr0 hr1).mono ?_)
   rintro r w9 ⟨⟨z11, rfl, a11⟩, hb9⟩
   clear xF212_0 xF212_1 xF312_0 xF312_1
   replace F2 := F2.keep hb9
   replace F3 := F3.keep hb9
   replace F4 := F4.keep hb9
   replace B0 := B0.trans (hb9.mono B0.size)
   clear hb9
   obtain ⟨xF213_0, xF213_1⟩ := F2.ce2
   obtain ⟨xF313_0, xF313_1⟩ := F3.ce2
   refine hK.out _ _ ?_ (fun hHeld => ?_)
   ·exact ⟨xF213_0, xF213_1, xF313_0, xF313_1⟩
   clear hK K
   (try dsimp only [Act.put]); (try go_frame)
   refine wpAnyH_ready (rs := [15]) (by kernel_rfl) (by simp) ?_
   refine AllReadyH.cons rfl (fun K hK => ?_) AllReadyH.nil
   go_simp
   (with_reducible refine (c_blspoilt _ hx0 hy0 hx1 hy1).mono ?_)
   rintro r w10 ⟨⟨z12, rfl, a12⟩, hb10⟩
   clear xF213_0 xF213_1 xF313_0 xF313_1
   replace F2 := F2.keep hb10
   replace F3 := F3.keep hb10
   replace F4 := F4.keep hb10
   replace B0 := B0.trans (hb10.mono B0.size)
   clear hb10
   obtain ⟨xF214_0, xF214_1⟩ := F2.ce2
   obtain ⟨xF314_0, xF314_1⟩ := F3.ce2
   refine hK.out _ _ ?_ (fun hHeld => ?_)
   ·exact ⟨xF214_0, xF214_1, xF314_0, xF314_1⟩
   clear hK K
   (try dsimp only [Act.put]); (try go_frame)
   refine wpAnyH_ready (rs := [16]) (by kernel_rfl) (by simp) ?_
   refine AllReadyH.cons rfl (fun K hK => ?_) AllReadyH.nil
   go_simp
   (with_reducible refine (c_blplus _ a11 a12).mono ?_)
   rintro r w11 ⟨⟨z13, rfl, a13⟩, hb11⟩
   clear xF214_0 xF214_1 xF314_0 xF314_1
   replace F2 := F2.keep hb11
   replace F3 := F3.keep hb11
   replace F4 := F4.keep hb11
   replace B0 := B0.trans (hb11.mono B0.size)
   clear hb11
   obtain ⟨xF215_0, xF215_1⟩ := F2.ce2
   obtain ⟨xF315_0, xF315_1⟩ := F3.ce2
   refine hK.out _ _ ?_ (fun hHeld => ?_)
   ·exact ⟨xF215_0, xF215_1, xF315_0, xF315_1⟩
   clear hK K
   (try dsimp only [Act.put]); (try go_frame)
   refine wpAnyH_ready (rs := [17]) (by kernel_rfl) (by simp) ?_
   refine AllReadyH.cons rfl (fun K hK => ?_) AllReadyH.nil
   go_simp
   (with_reducible refine (c_blplus _ a9 a13).mono ?_)
   rintro r w12 ⟨⟨z14, rfl, a14⟩, hb12⟩
   clear xF215_0 xF215_1 xF315_0 xF315_1
   replace F2 := F2.keep hb12
   replace F3 := F3.keep hb12
   replace F4 := F4.keep hb12
   replace B0 := B0.trans (hb12.mono B0.size)
   clear hb12
   obtain ⟨xF216_0, xF216_1⟩ := F2.ce2
   obtain ⟨xF316_0, xF316_1⟩ := F3.ce2
   refine hK.out _ _ ?_ (fun hHeld => ?_)
   ·exact ⟨xF216_0, xF216_1, xF316_0, xF316_1⟩
   clear hK K
   (try dsimp only [Act.put]); (try go_frame)
   refine wpAnyH_ready (rs := [18]) (by kernel_rfl) (by simp) ?_
   refine AllReadyH.cons rfl (fun K hK => ?_) AllReadyH.nil
   go_simp
   (with_reducible refine (c_bltold _ a10 b10 a14).mono ?_)
   rintro r w13 ⟨⟨z15, y15, t15, rfl, a15, b15, d15⟩, hb13⟩
   clear xF216_0 xF216_1 xF316_0 xF316_1
   replace F2 := F2.keep hb13
   replace F3 := F3.keep hb13
   replace F4 := F4.keep hb13
   replace B0 := B0.trans (hb13.mono B0.size)
   clear hb13
   obtain ⟨xF217_0, xF217_1⟩ := F2.ce2
   obtain ⟨xF317_0, xF317_1⟩ := F3.ce2
   refine hK.out _ _ ?_ (fun hHeld => ?_)
   ·exact ⟨xF217_0, xF217_1, xF317_0, xF317_1⟩
   clear hK K
   (try dsimp only [Act.put]); (try go_frame)
   refine wpAnyH_done (by kernel_rfl) ?_ _
   try simp only [QCut]
   clear hHeld
   clear xF217_0 xF217_1 xF317_0 xF317_1
   obtain ⟨xF417_0, xF417_1⟩ := F4.ce2
   obtain ⟨xF417_0f, xF417_1f⟩ := F4.fr2
   clear F2
   clear F3
   replace F4 : Blk (((w13).setCell ⟨w.heap.size + 1 + 1, 0, none⟩ (.complex .f64 z15 y15)).setCell ⟨w.heap.size + 1 + 1, 1, none⟩ (.float .f64 t15)) (w.heap.size + 1 + 1) #[.complex .f64 z15 y15, .float .f64 t15] 32 := ((F4.setAt 0 (.complex .f64 z15 y15)).setAt 1 (.float .f64 t15))
   replace B0 := ((B0.setCell (p := ⟨w.heap.size + 1 + 1, 0, none⟩) q_w_F4.out (.complex .f64 z15 y15)).setCell (p := ⟨w.heap.size + 1 + 1, 1, none⟩) q_w_F4.out (.float .f64 t15))
   obtain ⟨xF418_0, xF418_1⟩ := F4.ce2
   go_wp2
   exact bodyPost_ret (v := .agg #[.complex .f64 z15 y15, .float .f64 t15]) (by simp [results, Tryz.results33, go_sem, xF418_0, xF418_1]) rfl ⟨⟨_, _, _, rfl, by simp only [bMul, hk2, hk4, cond_false]; exact a15, by simp only [bMul, hk2, hk4, cond_false]; exact b15, by simp only [bMul, hk2, hk4, cond_false]; exact d15⟩, B0⟩
  ·go_wp2_with fail
   (with_reducible refine (c_blWhole _).mono ?_)
   rintro r w3 ⟨⟨z5, y5, t5, rfl, a5, b5, d5⟩, hb3⟩
   clear F2
   clear F3
   replace F4 := F4.keep hb3
   replace B0 := B0.trans (hb3.mono B0.size)
   clear hb3
   obtain ⟨xF43_0, xF43_1⟩ := F4.ce2
   obtain ⟨xF43_0f, xF43_1f⟩ := F4.fr2
   replace F4 : Blk (((w3).setCell ⟨w.heap.size + 1 + 1, 0, none⟩ (.complex .f64 z5 y5)).setCell ⟨w.heap.size + 1 + 1, 1, none⟩ (.float .f64 t5)) (w.heap.size + 1 + 1) #[.complex .f64 z5 y5, .float .f64 t5] 32 := ((F4.setAt 0 (.complex .f64 z5 y5)).setAt 1 (.float .f64 t5))
   replace B0 := ((B0.setCell (p := ⟨w.heap.size + 1 + 1, 0, none⟩) q_w_F4.out (.complex .f64 z5 y5)).setCell (p := ⟨w.heap.size + 1 + 1, 1, none⟩) q_w_F4.out (.float .f64 t5))
   obtain ⟨xF44_0, xF44_1⟩ := F4.ce2
   go_wp2
   exact bodyPost_ret (v := .agg #[.complex .f64 z5 y5, .float .f64 t5]) (by simp [results, Tryz.results33, go_sem, xF44_0, xF44_1]) rfl ⟨⟨_, _, _, rfl, by simp only [bMul, hk2, hk4, cond_true, cond_false]; exact a5, by simp only [bMul, hk2, hk4, cond_true, cond_false]; exact b5, by simp only [bMul, hk2, hk4, cond_true, cond_false]; exact d5⟩, B0⟩
 ·go_wp2_with fail
  (with_reducible refine (c_blWhole _).mono ?_)
  rintro r w2 ⟨⟨z3, y3, t3, rfl, a3, b3, d3⟩, hb2⟩
  clear F2
  clear F3
  replace F4 := F4.keep hb2
  replace B0 := B0.trans (hb2.mono B0.size)
  clear hb2
  obtain ⟨xF42_0, xF42_1⟩ := F4.ce2
  obtain ⟨xF42_0f, xF42_1f⟩ := F4.fr2
  replace F4 : Blk (((w2).setCell ⟨w.heap.size + 1 + 1, 0, none⟩ (.complex .f64 z3 y3)).setCell ⟨w.heap.size + 1 + 1, 1, none⟩ (.float .f64 t3)) (w.heap.size + 1 + 1) #[.complex .f64 z3 y3, .float .f64 t3] 32 := ((F4.setAt 0 (.complex .f64 z3 y3)).setAt 1 (.float .f64 t3))
  replace B0 := ((B0.setCell (p := ⟨w.heap.size + 1 + 1, 0, none⟩) q_w_F4.out (.complex .f64 z3 y3)).setCell (p := ⟨w.heap.size + 1 + 1, 1, none⟩) q_w_F4.out (.float .f64 t3))
  obtain ⟨xF43_0, xF43_1⟩ := F4.ce2
  go_wp2
  exact bodyPost_ret (v := .agg #[.complex .f64 z3 y3, .float .f64 t3]) (by simp [results, Tryz.results33, go_sem, xF43_0, xF43_1]) rfl ⟨⟨_, _, _, rfl, by simp only [bMul, hk2, cond_true]; exact a3, by simp only [bMul, hk2, cond_true]; exact b3, by simp only [bMul, hk2, cond_true]; exact d3⟩, B0⟩
end Go.Proofs.YtfdnbogbankjjaaGreatDoor
