/- Balls: the walks of ball, by what the floats are worth, further. (printed by gen_f6.py) -/
import Derived.Test.YtfdnbogbankjjaaGreatDoorF5
namespace Go.Proofs.YtfdnbogbankjjaaGreatDoor
open Go Go.RowKit Go.PlainAid Fil

theorem fFin_ne {X : FV} (h : fFin X = true) : X ≠ none := by
 rintro rfl
 exact absurd h (by decide)
def bMay (Z0 : BV) : Bool :=
 let X0 := Z0.1.1
 let Y0 := Z0.1.2
 let R0 := Z0.2
 bif (fisinf1 R0) then (
  bif (cSame (X0, Y0) ((some 0), (some 0))) then (
   true)
  else (
   false))
 else (
  bif (bFin (X0, Y0)) then (
   bif (fFin R0) then (
    bif (fsb R0) then (
     false)
    else (
     true))
   else (
    false))
  else (
   false))
theorem c_blMay {x0 y0 r0 : Nat} {X0 Y0 R0 : FV} (w : World) (hx0 : Fl x0 X0) (hy0 : Fl y0 Y0) (hr0 : Fl r0 R0) : Calls Tryz.prog 66 #[.agg #[.complex .f64 x0 y0, .float .f64 r0]] w fun r w' => r = .returned (.bool (bMay ((X0, Y0), R0))) ∧ Below w.heap.size w w' := by
 go_enter Tryz.func66, Tryz.ntmps66
 have B0 := Below.refl w.heap.size w
 have F1 := Blk.put (w) #[.complex .f64 x0 y0, .float .f64 r0] 32
 replace B0 := B0.alloc B0.size (.cells #[.complex .f64 x0 y0, .float .f64 r0] 32)
 obtain ⟨xF10_0, xF10_1⟩ := F1.ce2
 go_wp2_with fail
 (with_reducible refine (cisinf1 _ hr0).mono ?_)
 rintro r w1 ⟨rfl, hb1⟩
 clear xF10_0 xF10_1
 replace F1 := F1.keep hb1
 replace B0 := B0.trans (hb1.mono B0.size)
 clear hb1
 cases hk2 : fisinf1 R0
 ·obtain ⟨xF11_0, xF11_1⟩ := F1.ce2
  go_wp2_with fail
  (with_reducible refine (c_blfinite _ hx0 hy0).mono ?_)
  rintro r w2 ⟨rfl, hb2⟩
  clear xF11_0 xF11_1
  replace F1 := F1.keep hb2
  replace B0 := B0.trans (hb2.mono B0.size)
  clear hb2
  cases hk4 : bFin (X0, Y0)
  ·go_wp2
   go_ret
   exact ⟨by first | (simp only [bMay, hk2, hk4, cond_false]; rfl) | (simp only [bMay, hk2, hk4, cond_false]), B0⟩
  ·obtain ⟨xF12_0, xF12_1⟩ := F1.ce2
   go_wp2_with fail
   (with_reducible refine (c_bFinite _ hr0).mono ?_)
   rintro r w3 ⟨rfl, hb3⟩
   clear xF12_0 xF12_1
   replace F1 := F1.keep hb3
   replace B0 := B0.trans (hb3.mono B0.size)
   clear hb3
   cases hk6 : fFin R0
   ·go_wp2
    go_ret
    exact ⟨by first | (simp only [bMay, hk2, hk4, hk6, cond_true, cond_false]; rfl) | (simp only [bMay, hk2, hk4, hk6, cond_true, cond_false]), B0⟩
   ·obtain ⟨xF13_0, xF13_1⟩ := F1.ce2
    go_wp2_with fail
    (with_reducible refine (csignbit _ hr0 (fFin_ne hk6)).mono ?_)
    rintro r w4 ⟨rfl, hb4⟩
    clear xF13_0 xF13_1
    replace F1 := F1.keep hb4
    replace B0 := B0.trans (hb4.mono B0.size)
    clear hb4
    cases hk8 : fsb R0
    ·go_wp2
     go_ret
     exact ⟨by first | (simp only [bMay, hk2, hk4, hk6, hk8, cond_true, cond_false]; rfl) | (simp only [bMay, hk2, hk4, hk6, hk8, cond_true, cond_false]), B0⟩
    ·go_wp2
     go_ret
     exact ⟨by first | (simp only [bMay, hk2, hk4, hk6, hk8, cond_true, cond_false]; rfl) | (simp only [bMay, hk2, hk4, hk6, hk8, cond_true, cond_false]), B0⟩
 ·obtain ⟨xF11_0, xF11_1⟩ := F1.ce2
  go_wp2_with fail
  (with_reducible refine (c_cxSame _ hx0 hy0 (fl_some (b := 0) (by decide) (by decide)) (fl_some (b := 0) (by decide) (by decide))).mono ?_)
  rintro r w2 ⟨rfl, hb2⟩
  clear xF11_0 xF11_1
  replace F1 := F1.keep hb2
  replace B0 := B0.trans (hb2.mono B0.size)
  clear hb2
  cases hk4 : cSame (X0, Y0) ((some 0), (some 0))
  ·go_wp2
   go_ret
   exact ⟨by first | (simp only [bMay, hk2, hk4, cond_true, cond_false]; rfl) | (simp only [bMay, hk2, hk4, cond_true, cond_false]), B0⟩
  ·go_wp2
   go_ret
   exact ⟨by first | (simp only [bMay, hk2, hk4, cond_true]; rfl) | (simp only [bMay, hk2, hk4, cond_true]), B0⟩
def bIsWhole (Z0 : BV) : Bool :=
 let X0 := Z0.1.1
 let Y0 := Z0.1.2
 let R0 := Z0.2
 bif (bMay ((X0, Y0), R0)) then (
  bif (fisinf1 R0) then (
   true)
  else (
   false))
 else (
  true)
theorem c_blIsWhole {x0 y0 r0 : Nat} {X0 Y0 R0 : FV} (w : World) (hx0 : Fl x0 X0) (hy0 : Fl y0 Y0) (hr0 : Fl r0 R0) : Calls Tryz.prog 39 #[.agg #[.complex .f64 x0 y0, .float .f64 r0]] w fun r w' => r = .returned (.bool (bIsWhole ((X0, Y0), R0))) ∧ Below w.heap.size w w' := by
 go_enter Tryz.func39, Tryz.ntmps39
 have B0 := Below.refl w.heap.size w
 have F1 := Blk.put (w) #[.complex .f64 x0 y0, .float .f64 r0] 32
 replace B0 := B0.alloc B0.size (.cells #[.complex .f64 x0 y0, .float .f64 r0] 32)
 obtain ⟨xF10_0, xF10_1⟩ := F1.ce2
 go_wp2_with fail
 (with_reducible refine (c_blMay _ hx0 hy0 hr0).mono ?_)
 rintro r w1 ⟨rfl, hb1⟩
 clear xF10_0 xF10_1
 replace F1 := F1.keep hb1
 replace B0 := B0.trans (hb1.mono B0.size)
 clear hb1
 cases hk2 : bMay ((X0, Y0), R0)
 ·go_wp2
  go_ret
  exact ⟨by first | (simp only [bIsWhole, hk2, cond_false]; rfl) | (simp only [bIsWhole, hk2, cond_false]), B0⟩
 ·obtain ⟨xF11_0, xF11_1⟩ := F1.ce2
  go_wp2_with fail
  (with_reducible refine (cisinf1 _ hr0).mono ?_)
  rintro r w2 ⟨rfl, hb2⟩
  clear xF11_0 xF11_1
  replace F1 := F1.keep hb2
  replace B0 := B0.trans (hb2.mono B0.size)
  clear hb2
  cases hk4 : fisinf1 R0
  ·go_wp2
   go_ret
   exact ⟨by first | (simp only [bIsWhole, hk2, hk4, cond_true, cond_false]; rfl) | (simp only [bIsWhole, hk2, hk4, cond_true, cond_false]), B0⟩
  ·go_wp2
   go_ret
   exact ⟨by first | (simp only [bIsWhole, hk2, hk4, cond_true]; rfl) | (simp only [bIsWhole, hk2, hk4, cond_true]), B0⟩
def bNeg (Z0 : BV) : BV :=
 let X0 := Z0.1.1
 let Y0 := Z0.1.2
 let R0 := Z0.2
 bif (bIsWhole ((X0, Y0), R0)) then (
  let v1 := bWhole
  ((v1.1.1, v1.1.2), v1.2))
 else (
  let v1 := cNeg (X0, Y0)
  ((v1.1, v1.2), R0))
theorem c_blNeg {x0 y0 r0 : Nat} {X0 Y0 R0 : FV} (w : World) (hx0 : Fl x0 X0) (hy0 : Fl y0 Y0) (hr0 : Fl r0 R0) : Calls Tryz.prog 32 #[.agg #[.complex .f64 x0 y0, .float .f64 r0]] w fun r w' => (∃ z y t, r = .returned (.agg #[.complex .f64 z y, .float .f64 t]) ∧ Fl z (bNeg ((X0, Y0), R0)).1.1 ∧ Fl y (bNeg ((X0, Y0), R0)).1.2 ∧ Fl t (bNeg ((X0, Y0), R0)).2) ∧ Below w.heap.size w w' := by
 go_enter Tryz.func32, Tryz.ntmps32
 have B0 := Below.refl w.heap.size w
 have hst1 := fun (a : Addr) (v : Nat) (m : Mode) (W : World) => (run_store Tryz.prog W a (.float .f64 v) m rfl : (store a (.float .f64 v) m).run Tryz.prog W = stored Tryz.prog W a (.float .f64 v) m)
 have hst2 := fun (a : Addr) (u v : Nat) (m : Mode) (W : World) => (run_store Tryz.prog W a (.complex .f64 u v) m rfl : (store a (.complex .f64 u v) m).run Tryz.prog W = stored Tryz.prog W a (.complex .f64 u v) m)
 have F1 := Blk.put (w) #[.complex .f64 x0 y0, .float .f64 r0] 32
 replace B0 := B0.alloc B0.size (.cells #[.complex .f64 x0 y0, .float .f64 r0] 32)
 have q_w_F2 : Hid (w.heap.size ≤ w.heap.size + 1) := Lib.hid (by omega)
 replace F1 := F1.allocd (.cells #[.complex .f64 0 0, .float .f64 0] 32)
 have F2 := Blk.put ((w).alloc (.cells #[.complex .f64 x0 y0, .float .f64 r0] 32)) #[.complex .f64 0 0, .float .f64 0] 32
 rw [show ((w).alloc (.cells #[.complex .f64 x0 y0, .float .f64 r0] 32)).heap.size = w.heap.size + 1 by simp] at F2
 replace B0 := B0.alloc B0.size (.cells #[.complex .f64 0 0, .float .f64 0] 32)
 obtain ⟨xF10_0, xF10_1⟩ := F1.ce2
 go_wp2_with fail
 (with_reducible refine (c_blIsWhole _ hx0 hy0 hr0).mono ?_)
 rintro r w1 ⟨rfl, hb1⟩
 clear xF10_0 xF10_1
 replace F1 := F1.keep hb1
 replace F2 := F2.keep hb1
 replace B0 := B0.trans (hb1.mono B0.size)
 clear hb1
 cases hk2 : bIsWhole ((X0, Y0), R0)
 ·go_wp2_with fail
  refine wp_region_cut 6 (by kernel_rfl) (by kernel_rfl) ?_
  rintro W rfl
  simp only [List.take_succ_cons, List.take_zero, List.drop_succ_cons, List.drop_zero]
  obtain ⟨xF11_0, xF11_1⟩ := F1.ce2
  have hHeld : (fun w' : World => w'.cell? ⟨w.heap.size, 0, none⟩ = some (.complex .f64 x0 y0) ∧ w'.cell? ⟨w.heap.size, 1, none⟩ = some (.float .f64 r0)) (w1).drew := ⟨xF11_0, xF11_1⟩
  refine wpAny_of_held (S := fun w' : World => w'.cell? ⟨w.heap.size, 0, none⟩ = some (.complex .f64 x0 y0) ∧ w'.cell? ⟨w.heap.size, 1, none⟩ = some (.float .f64 r0)) _ _ _ (w1).drew ?_
  replace F1 := F1.drew
  replace F2 := F2.drew
  replace B0 := B0.drew
  generalize (w1).drew = v1 at *
  refine tkA 0 ?_
  (try dsimp only [Act.put]); (try go_frame)
  refine tkA 1 ?_
  (try dsimp only [Act.put]); (try go_frame)
  refine tkA 3 ?_
  (try dsimp only [Act.put]); (try go_frame)
  refine tkA 4 ?_
  (try dsimp only [Act.put]); (try go_frame)
  refine wpAnyH_ready (rs := [2]) (by kernel_rfl) (by simp) ?_
  refine AllReadyH.cons rfl (fun K hK => ?_) AllReadyH.nil
  go_simp
  (with_reducible refine (c_cxNeg _ hx0 hy0).mono ?_)
  rintro r w2 ⟨⟨z3, y3, rfl, a3, b3⟩, hb2⟩
  clear xF11_0 xF11_1
  replace F1 := F1.keep hb2
  replace F2 := F2.keep hb2
  replace B0 := B0.trans (hb2.mono B0.size)
  clear hb2
  obtain ⟨xF14_0, xF14_1⟩ := F1.ce2
  refine hK.out _ _ ?_ (fun hHeld => ?_)
  ·exact ⟨xF14_0, xF14_1⟩
  clear hK K
  (try dsimp only [Act.put]); (try go_frame)
  refine tkA 5 ?_
  (try dsimp only [Act.put]); (try go_frame)
  refine wpAnyH_done (by kernel_rfl) ?_ _
  try simp only [QCut]
  clear hHeld
  clear xF14_0 xF14_1
  obtain ⟨xF24_0, xF24_1⟩ := F2.ce2
  obtain ⟨xF24_0f, xF24_1f⟩ := F2.fr2
  clear F1
  replace F2 : Blk (((w2).setCell ⟨w.heap.size + 1, 0, none⟩ (.complex .f64 z3 y3)).setCell ⟨w.heap.size + 1, 1, none⟩ (.float .f64 r0)) (w.heap.size + 1) #[.complex .f64 z3 y3, .float .f64 r0] 32 := ((F2.setAt 0 (.complex .f64 z3 y3)).setAt 1 (.float .f64 r0))
  replace B0 := ((B0.setCell (p := ⟨w.heap.size + 1, 0, none⟩) q_w_F2.out (.complex .f64 z3 y3)).setCell (p := ⟨w.heap.size + 1, 1, none⟩) q_w_F2.out (.float .f64 r0))
  obtain ⟨xF25_0, xF25_1⟩ := F2.ce2
  go_wp2
  exact bodyPost_ret (v := .agg #[.complex .f64 z3 y3, .float .f64 r0]) (by simp [results, Tryz.results32, go_sem, xF25_0, xF25_1]) rfl ⟨⟨_, _, _, rfl, by simp only [bNeg, hk2, cond_false]; exact a3, by simp only [bNeg, hk2, cond_false]; exact b3, by simp only [bNeg, hk2, cond_false]; exact hr0⟩, B0⟩
 ·go_wp2_with fail
  (with_reducible refine (c_blWhole _).mono ?_)
  rintro r w2 ⟨⟨z3, y3, t3, rfl, a3, b3, d3⟩, hb2⟩
  clear F1
  replace F2 := F2.keep hb2
  replace B0 := B0.trans (hb2.mono B0.size)
  clear hb2
  obtain ⟨xF22_0, xF22_1⟩ := F2.ce2
  obtain ⟨xF22_0f, xF22_1f⟩ := F2.fr2
  replace F2 : Blk (((w2).setCell ⟨w.heap.size + 1, 0, none⟩ (.complex .f64 z3 y3)).setCell ⟨w.heap.size + 1, 1, none⟩ (.float .f64 t3)) (w.heap.size + 1) #[.complex .f64 z3 y3, .float .f64 t3] 32 := ((F2.setAt 0 (.complex .f64 z3 y3)).setAt 1 (.float .f64 t3))
  replace B0 := ((B0.setCell (p := ⟨w.heap.size + 1, 0, none⟩) q_w_F2.out (.complex .f64 z3 y3)).setCell (p := ⟨w.heap.size + 1, 1, none⟩) q_w_F2.out (.float .f64 t3))
  obtain ⟨xF23_0, xF23_1⟩ := F2.ce2
  go_wp2
  exact bodyPost_ret (v := .agg #[.complex .f64 z3 y3, .float .f64 t3]) (by simp [results, Tryz.results32, go_sem, xF23_0, xF23_1]) rfl ⟨⟨_, _, _, rfl, by simp only [bNeg, hk2, cond_true]; exact a3, by simp only [bNeg, hk2, cond_true]; exact b3, by simp only [bNeg, hk2, cond_true]; exact d3⟩, B0⟩
def bHi (Z0 : BV) : FV :=
 let X0 := Z0.1.1
 let Y0 := Z0.1.2
 let R0 := Z0.2
 bif (bIsWhole ((X0, Y0), R0)) then (
  let v1 := (some 9218868437227405312)
  v1)
 else (
  let v1 := cHi (X0, Y0)
  let v2 := fPlus v1 R0
  v2)
theorem c_blHi {x0 y0 r0 : Nat} {X0 Y0 R0 : FV} (w : World) (hx0 : Fl x0 X0) (hy0 : Fl y0 Y0) (hr0 : Fl r0 R0) : Calls Tryz.prog 34 #[.agg #[.complex .f64 x0 y0, .float .f64 r0]] w fun r w' => (∃ z, r = .returned (.float .f64 z) ∧ Fl z (bHi ((X0, Y0), R0))) ∧ Below w.heap.size w w' := by
 go_enter Tryz.func34, Tryz.ntmps34
 have B0 := Below.refl w.heap.size w
 have F1 := Blk.put (w) #[.complex .f64 x0 y0, .float .f64 r0] 32
 replace B0 := B0.alloc B0.size (.cells #[.complex .f64 x0 y0, .float .f64 r0] 32)
 obtain ⟨xF10_0, xF10_1⟩ := F1.ce2
 go_wp2_with fail
 (with_reducible refine (c_blIsWhole _ hx0 hy0 hr0).mono ?_)
 rintro r w1 ⟨rfl, hb1⟩
 clear xF10_0 xF10_1
 replace F1 := F1.keep hb1
 replace B0 := B0.trans (hb1.mono B0.size)
 clear hb1
 cases hk2 : bIsWhole ((X0, Y0), R0)
 ·go_wp2_with fail
  refine wp_region_cut 6 (by kernel_rfl) (by kernel_rfl) ?_
  rintro W rfl
  simp only [List.take_succ_cons, List.take_zero, List.drop_succ_cons, List.drop_zero]
  obtain ⟨xF11_0, xF11_1⟩ := F1.ce2
  have hHeld : (fun w' : World => w'.cell? ⟨w.heap.size, 0, none⟩ = some (.complex .f64 x0 y0) ∧ w'.cell? ⟨w.heap.size, 1, none⟩ = some (.float .f64 r0)) (w1).drew := ⟨xF11_0, xF11_1⟩
  refine wpAny_of_held (S := fun w' : World => w'.cell? ⟨w.heap.size, 0, none⟩ = some (.complex .f64 x0 y0) ∧ w'.cell? ⟨w.heap.size, 1, none⟩ = some (.float .f64 r0)) _ _ _ (w1).drew ?_
  replace F1 := F1.drew
  replace B0 := B0.drew
  generalize (w1).drew = v1 at *
  refine tkA 0 ?_
  (try dsimp only [Act.put]); (try go_frame)
  refine tkA 1 ?_
  (try dsimp only [Act.put]); (try go_frame)
  refine tkA 3 ?_
  (try dsimp only [Act.put]); (try go_frame)
  refine tkA 4 ?_
  (try dsimp only [Act.put]); (try go_frame)
  refine wpAnyH_ready (rs := [2]) (by kernel_rfl) (by simp) ?_
  refine AllReadyH.cons rfl (fun K hK => ?_) AllReadyH.nil
  go_simp
  (with_reducible refine (c_cxHi _ hx0 hy0).mono ?_)
  rintro r w2 ⟨⟨z3, rfl, a3⟩, hb2⟩
  clear xF11_0 xF11_1
  replace F1 := F1.keep hb2
  replace B0 := B0.trans (hb2.mono B0.size)
  clear hb2
  obtain ⟨xF14_0, xF14_1⟩ := F1.ce2
  refine hK.out _ _ ?_ (fun hHeld => ?_)
  ·exact ⟨xF14_0, xF14_1⟩
  clear hK K
  (try dsimp only [Act.put]); (try go_frame)
  refine wpAnyH_ready (rs := [5]) (by kernel_rfl) (by simp) ?_
  refine AllReadyH.cons rfl (fun K hK => ?_) AllReadyH.nil
  go_simp
  (with_reducible refine (c_blplus _ a3 hr0).mono ?_)
  rintro r w3 ⟨⟨z4, rfl, a4⟩, hb3⟩
  clear xF14_0 xF14_1
  replace F1 := F1.keep hb3
  replace B0 := B0.trans (hb3.mono B0.size)
  clear hb3
  obtain ⟨xF15_0, xF15_1⟩ := F1.ce2
  refine hK.out _ _ ?_ (fun hHeld => ?_)
  ·exact ⟨xF15_0, xF15_1⟩
  clear hK K
  (try dsimp only [Act.put]); (try go_frame)
  refine wpAnyH_done (by kernel_rfl) ?_ _
  try simp only [QCut]
  clear hHeld
  clear xF15_0 xF15_1
  go_wp2
  go_ret
  exact ⟨⟨_, rfl, by simp only [bHi, hk2, cond_false]; exact a4⟩, B0⟩
 ·go_wp2_with fail
  (with_reducible refine (cinf _).mono ?_)
  rintro r w2 ⟨⟨z3, rfl, a3⟩, hb2⟩
  clear F1
  replace B0 := B0.trans (hb2.mono B0.size)
  clear hb2
  go_wp2
  go_ret
  exact ⟨⟨_, rfl, by simp only [bHi, hk2, cond_true]; exact a3⟩, B0⟩
def bAdd (Z0 : BV) (Z1 : BV) : BV :=
 let X0 := Z0.1.1
 let Y0 := Z0.1.2
 let R0 := Z0.2
 let X1 := Z1.1.1
 let Y1 := Z1.1.2
 let R1 := Z1.2
 bif (bIsWhole ((X0, Y0), R0)) then (
  let v1 := bWhole
  ((v1.1.1, v1.1.2), v1.2))
 else (
  bif (bIsWhole ((X1, Y1), R1)) then (
   let v1 := bWhole
   ((v1.1.1, v1.1.2), v1.2))
  else (
   let v1 := cAdd (X0, Y0) (X1, Y1)
   let v2 := fPlus R0 R1
   let v3 := fLostB (X0, Y0) (X1, Y1)
   let v4 := fPlus v2 v3
   let v5 := bTold (v1.1, v1.2) v4
   ((v5.1.1, v5.1.2), v5.2)))
set_option maxHeartbeats 4000000 in
theorem c_blAdd {x0 y0 r0 x1 y1 r1 : Nat} {X0 Y0 R0 X1 Y1 R1 : FV} (w : World) (hx0 : Fl x0 X0) (hy0 : Fl y0 Y0) (hr0 : Fl r0 R0) (hx1 : Fl x1 X1) (hy1 : Fl y1 Y1) (hr1 : Fl r1 R1) : Calls Tryz.prog 114 #[.agg #[.complex .f64 x0 y0, .float .f64 r0], .agg #[.complex .f64 x1 y1, .float .f64 r1]] w fun r w' => (∃ z y t, r = .returned (.agg #[.complex .f64 z y, .float .f64 t]) ∧ Fl z (bAdd ((X0, Y0), R0) ((X1, Y1), R1)).1.1 ∧ Fl y (bAdd ((X0, Y0), R0) ((X1, Y1), R1)).1.2 ∧ Fl t (bAdd ((X0, Y0), R0) ((X1, Y1), R1)).2) ∧ Below w.heap.size w w' := by
 go_enter Tryz.func114, Tryz.ntmps114
 have B0 := Below.refl w.heap.size w
 have hst1 := fun (a : Addr) (v : Nat) (m : Mode) (W : World) => (run_store Tryz.prog W a (.float .f64 v) m rfl : (store a (.float .f64 v) m).run Tryz.prog W = stored Tryz.prog W a (.float .f64 v) m)
 have hst2 := fun (a : Addr) (u v : Nat) (m : Mode) (W : World) => (run_store Tryz.prog W a (.complex .f64 u v) m rfl : (store a (.complex .f64 u v) m).run Tryz.prog W = stored Tryz.prog W a (.complex .f64 u v) m)
 have F2 := Blk.put (w) #[.complex .f64 x0 y0, .float .f64 r0] 32
 replace B0 := B0.alloc B0.size (.cells #[.complex .f64 x0 y0, .float .f64 r0] 32)
 replace F2 := F2.allocd (.cells #[.complex .f64 x1 y1, .float .f64 r1] 32)
 have F3 := Blk.put ((w).alloc (.cells #[.complex .f64 x0 y0, .float .f64 r0] 32)) #[.complex .f64 x1 y1, .float .f64 r1] 32
 rw [show ((w).alloc (.cells #[.complex .f64 x0 y0, .float .f64 r0] 32)).heap.size = w.heap.size + 1 by simp] at F3
 replace B0 := B0.alloc B0.size (.cells #[.complex .f64 x1 y1, .float .f64 r1] 32)
 have q_w_F4 : Hid (w.heap.size ≤ w.heap.size + 1 + 1) := Lib.hid (by omega)
 replace F2 := F2.allocd (.cells #[.complex .f64 0 0, .float .f64 0] 32)
 replace F3 := F3.allocd (.cells #[.complex .f64 0 0, .float .f64 0] 32)
 have F4 := Blk.put (((w).alloc (.cells #[.complex .f64 x0 y0, .float .f64 r0] 32)).alloc (.cells #[.complex .f64 x1 y1, .float .f64 r1] 32)) #[.complex .f64 0 0, .float .f64 0] 32
 rw [show (((w).alloc (.cells #[.complex .f64 x0 y0, .float .f64 r0] 32)).alloc (.cells #[.complex .f64 x1 y1, .float .f64 r1] 32)).heap.size = w.heap.size + 1 + 1 by simp] at F4
 replace B0 := B0.alloc B0.size (.cells #[.complex .f64 0 0, .float .f64 0] 32)
 obtain ⟨xF20_0, xF20_1⟩ := F2.ce2
 go_wp2_with fail
 (with_reducible refine (c_blIsWhole _ hx0 hy0 hr0).mono ?_)
 rintro r w1 ⟨rfl, hb1⟩
 clear xF20_0 xF20_1
 replace F2 := F2.keep hb1
 replace F3 := F3.keep hb1
 replace F4 := F4.keep hb1
 replace B0 := B0.trans (hb1.mono B0.size)
 clear hb1
 cases hk2 : bIsWhole ((X0, Y0), R0)
 ·obtain ⟨xF31_0, xF31_1⟩ := F3.ce2
  go_wp2_with fail
  (with_reducible refine (c_blIsWhole _ hx1 hy1 hr1).mono ?_)
  rintro r w2 ⟨rfl, hb2⟩
  clear xF31_0 xF31_1
  replace F2 := F2.keep hb2
  replace F3 := F3.keep hb2
  replace F4 := F4.keep hb2
  replace B0 := B0.trans (hb2.mono B0.size)
  clear hb2
  cases hk4 : bIsWhole ((X1, Y1), R1)
  ·go_wp2_with fail
   refine wp_region_cut 17 (by kernel_rfl) (by kernel_rfl) ?_
   rintro W rfl
   simp only [List.take_succ_cons, List.take_zero, List.drop_succ_cons, List.drop_zero]
   obtain ⟨xF22_0, xF22_1⟩ := F2.ce2
   obtain ⟨xF32_0, xF32_1⟩ := F3.ce2
   have hHeld : (fun w' : World => w'.cell? ⟨w.heap.size, 0, none⟩ = some (.complex .f64 x0 y0) ∧ w'.cell? ⟨w.heap.size, 1, none⟩ = some (.float .f64 r0) ∧ w'.cell? ⟨w.heap.size + 1, 0, none⟩ = some (.complex .f64 x1 y1) ∧ w'.cell? ⟨w.heap.size + 1, 1, none⟩ = some (.float .f64 r1)) (w2).drew := ⟨xF22_0, xF22_1, xF32_0, xF32_1⟩
   refine wpAny_of_held (S := fun w' : World => w'.cell? ⟨w.heap.size, 0, none⟩ = some (.complex .f64 x0 y0) ∧ w'.cell? ⟨w.heap.size, 1, none⟩ = some (.float .f64 r0) ∧ w'.cell? ⟨w.heap.size + 1, 0, none⟩ = some (.complex .f64 x1 y1) ∧ w'.cell? ⟨w.heap.size + 1, 1, none⟩ = some (.float .f64 r1)) _ _ _ (w2).drew ?_
   replace F2 := F2.drew
   replace F3 := F3.drew
   replace F4 := F4.drew
   replace B0 := B0.drew
   generalize (w2).drew = v1 at *
   refine tkA 0 ?_
   (try dsimp only [Act.put]); (try go_frame)
   refine tkA 1 ?_
   (try dsimp only [Act.put]); (try go_frame)
   refine tkA 2 ?_
   (try dsimp only [Act.put]); (try go_frame)
   refine tkA 3 ?_
   (try dsimp only [Act.put]); (try go_frame)
   refine tkA 5 ?_
   (try dsimp only [Act.put]); (try go_frame)
   refine tkA 6 ?_
   (try dsimp only [Act.put]); (try go_frame)
   refine tkA 7 ?_
   (try dsimp only [Act.put]); (try go_frame)
   refine tkA 8 ?_
   (try dsimp only [Act.put]); (try go_frame)
   refine tkA 10 ?_
   (try dsimp only [Act.put]); (try go_frame)
   refine tkA 11 ?_
   (try dsimp only [Act.put]); (try go_frame)
   refine tkA 12 ?_
   (try dsimp only [Act.put]); (try go_frame)
   refine tkA 13 ?_
   (try dsimp only [Act.put]); (try go_frame)
   refine wpAnyH_ready (rs := [4]) (by kernel_rfl) (by simp) ?_
   refine AllReadyH.cons rfl (fun K hK => ?_) AllReadyH.nil
   go_simp
   (with_reducible refine (c_cxAdd _ hx0 hy0 hx1 hy1).mono ?_)
   rintro r w3 ⟨⟨z5, y5, rfl, a5, b5⟩, hb3⟩
   clear xF22_0 xF22_1 xF32_0 xF32_1
   replace F2 := F2.keep hb3
   replace F3 := F3.keep hb3
   replace F4 := F4.keep hb3
   replace B0 := B0.trans (hb3.mono B0.size)
   clear hb3
   obtain ⟨xF25_0, xF25_1⟩ := F2.ce2
   obtain ⟨xF35_0, xF35_1⟩ := F3.ce2
   refine hK.out _ _ ?_ (fun hHeld => ?_)
   ·exact ⟨xF25_0, xF25_1, xF35_0, xF35_1⟩
   clear hK K
   (try dsimp only [Act.put]); (try go_frame)
   refine wpAnyH_ready (rs := [9]) (by kernel_rfl) (by simp) ?_
   refine AllReadyH.cons rfl (fun K hK => ?_) AllReadyH.nil
   go_simp
   (with_reducible refine (c_blplus _ hr0 hr1).mono ?_)
   rintro r w4 ⟨⟨z6, rfl, a6⟩, hb4⟩
   clear xF25_0 xF25_1 xF35_0 xF35_1
   replace F2 := F2.keep hb4
   replace F3 := F3.keep hb4
   replace F4 := F4.keep hb4
   replace B0 := B0.trans (hb4.mono B0.size)
   clear hb4
   obtain ⟨xF26_0, xF26_1⟩ := F2.ce2
   obtain ⟨xF36_0, xF36_1⟩ := F3.ce2
   refine hK.out _ _ ?_ (fun hHeld => ?_)
   ·exact ⟨xF26_0, xF26_1, xF36_0, xF36_1⟩
   clear hK K
   (try dsimp only [Act.put]); (try go_frame)
   refine wpAnyH_ready (rs := [14]) (by kernel_rfl) (by simp) ?_
   refine AllReadyH.cons rfl (fun K hK => ?_) AllReadyH.nil
   go_simp
   (with_reducible refine (c_bllostBoth _ hx0 hy0 hx1 hy1).mono ?_)
   rintro r w5 ⟨⟨z7, rfl, a7⟩, hb5⟩
   clear xF26_0 xF26_1 xF36_0 xF36_1
   replace F2 := F2.keep hb5
   replace F3 := F3.keep hb5
   replace F4 := F4.keep hb5
   replace B0 := B0.trans (hb5.mono B0.size)
   clear hb5
   obtain ⟨xF27_0, xF27_1⟩ := F2.ce2
   obtain ⟨xF37_0, xF37_1⟩ := F3.ce2
   refine hK.out _ _ ?_ (fun hHeld => ?_)
   ·exact ⟨xF27_0, xF27_1, xF37_0, xF37_1⟩
   clear hK K
   (try dsimp only [Act.put]); (try go_frame)
   refine wpAnyH_ready (rs := [15]) (by kernel_rfl) (by simp) ?_
   refine AllReadyH.cons rfl (fun K hK => ?_) AllReadyH.nil
   go_simp
   (with_reducible refine (c_blplus _ a6 a7).mono ?_)
   rintro r w6 ⟨⟨z8, rfl, a8⟩, hb6⟩
   clear xF27_0 xF27_1 xF37_0 xF37_1
   replace F2 := F2.keep hb6
   replace F3 := F3.keep hb6
   replace F4 := F4.keep hb6
   replace B0 := B0.trans (hb6.mono B0.size)
   clear hb6
   obtain ⟨xF28_0, xF28_1⟩ := F2.ce2
   obtain ⟨xF38_0, xF38_1⟩ := F3.ce2
   refine hK.out _ _ ?_ (fun hHeld => ?_)
   ·exact ⟨xF28_0, xF28_1, xF38_0, xF38_1⟩
   clear hK K
   (try dsimp only [Act.put]); (try go_frame)
   refine wpAnyH_ready (rs := [16]) (by kernel_rfl) (by simp) ?_
   refine AllReadyH.cons rfl (fun K hK => ?_) AllReadyH.nil
   go_simp
   (with_reducible refine (c_bltold _ a5 b5 a8).mono ?_)
   rintro r w7 ⟨⟨z9, y9, t9, rfl, a9, b9, d9⟩, hb7⟩
   clear xF28_0 xF28_1 xF38_0 xF38_1
   replace F2 := F2.keep hb7
   replace F3 := F3.keep hb7
   replace F4 := F4.keep hb7
   replace B0 := B0.trans (hb7.mono B0.size)
   clear hb7
   obtain ⟨xF29_0, xF29_1⟩ := F2.ce2
   obtain ⟨xF39_0, xF39_1⟩ := F3.ce2
   refine hK.out _ _ ?_ (fun hHeld => ?_)
   ·exact ⟨xF29_0, xF29_1, xF39_0, xF39_1⟩
   clear hK K
   (try dsimp only [Act.put]); (try go_frame)
   refine wpAnyH_done (by kernel_rfl) ?_ _
   try simp only [QCut]
   clear hHeld
   clear xF29_0 xF29_1 xF39_0 xF39_1
   obtain ⟨xF49_0, xF49_1⟩ := F4.ce2
   obtain ⟨xF49_0f, xF49_1f⟩ := F4.fr2
   clear F2
   clear F3
   replace F4 : Blk (((w7).setCell ⟨w.heap.size + 1 + 1, 0, none⟩ (.complex .f64 z9 y9)).setCell ⟨w.heap.size + 1 + 1, 1, none⟩ (.float .f64 t9)) (w.heap.size + 1 + 1) #[.complex .f64 z9 y9, .float .f64 t9] 32 := ((F4.setAt 0 (.complex .f64 z9 y9)).setAt 1 (.float .f64 t9))
   replace B0 := ((B0.setCell (p := ⟨w.heap.size + 1 + 1, 0, none⟩) q_w_F4.out (.complex .f64 z9 y9)).setCell (p := ⟨w.heap.size + 1 + 1, 1, none⟩) q_w_F4.out (.float .f64 t9))
   obtain ⟨xF410_0, xF410_1⟩ := F4.ce2
   go_wp2
   exact bodyPost_ret (v := .agg #[.complex .f64 z9 y9, .float .f64 t9]) (by simp [results, Tryz.results114, go_sem, xF410_0, xF410_1]) rfl ⟨⟨_, _, _, rfl, by simp only [bAdd, hk2, hk4, cond_false]; exact a9, by simp only [bAdd, hk2, hk4, cond_false]; exact b9, by simp only [bAdd, hk2, hk4, cond_false]; exact d9⟩, B0⟩
  ·go_wp2_with fail
   (with_reducible refine (c_blWhole _).mono ?_)
   rintro r w3 ⟨⟨z5, y5, t5, rfl, a5, b5, d5⟩, hb3⟩
   clear F2
   clear F3
   replace F4 := F4.keep hb3
   replace B0 := B0.trans (hb3.mono B0.size)
   clear hb3
   obtain ⟨xF43_0, xF43_1⟩ := F4.ce2
   obtain ⟨xF43_0f, xF43_1f⟩ := F4.fr2
   replace F4 : Blk (((w3).setCell ⟨w.heap.size + 1 + 1, 0, none⟩ (.complex .f64 z5 y5)).setCell ⟨w.heap.size + 1 + 1, 1, none⟩ (.float .f64 t5)) (w.heap.size + 1 + 1) #[.complex .f64 z5 y5, .float .f64 t5] 32 := ((F4.setAt 0 (.complex .f64 z5 y5)).setAt 1 (.float .f64 t5))
   replace B0 := ((B0.setCell (p := ⟨w.heap.size + 1 + 1, 0, none⟩) q_w_F4.out (.complex .f64 z5 y5)).setCell (p := ⟨w.heap.size + 1 + 1, 1, none⟩) q_w_F4.out (.float .f64 t5))
   obtain ⟨xF44_0, xF44_1⟩ := F4.ce2
   go_wp2
   exact bodyPost_ret (v := .agg #[.complex .f64 z5 y5, .float .f64 t5]) (by simp [results, Tryz.results114, go_sem, xF44_0, xF44_1]) rfl ⟨⟨_, _, _, rfl, by simp only [bAdd, hk2, hk4, cond_true, cond_false]; exact a5, by simp only [bAdd, hk2, hk4, cond_true, cond_false]; exact b5, by simp only [bAdd, hk2, hk4, cond_true, cond_false]; exact d5⟩, B0⟩
 ·go_wp2_with fail
  (with_reducible refine (c_blWhole _).mono ?_)
  rintro r w2 ⟨⟨z3, y3, t3, rfl, a3, b3, d3⟩, hb2⟩
  clear F2
  clear F3
  replace F4 := F4.keep hb2
  replace B0 := B0.trans (hb2.mono B0.size)
  clear hb2
  obtain ⟨xF42_0, xF42_1⟩ := F4.ce2
  obtain ⟨xF42_0f, xF42_1f⟩ := F4.fr2
  replace F4 : Blk (((w2).setCell ⟨w.heap.size + 1 + 1, 0, none⟩ (.complex .f64 z3 y3)).setCell ⟨w.heap.size + 1 + 1, 1, none⟩ (.float .f64 t3)) (w.heap.size + 1 + 1) #[.complex .f64 z3 y3, .float .f64 t3] 32 := ((F4.setAt 0 (.complex .f64 z3 y3)).setAt 1 (.float .f64 t3))
  replace B0 := ((B0.setCell (p := ⟨w.heap.size + 1 + 1, 0, none⟩) q_w_F4.out (.complex .f64 z3 y3)).setCell (p := ⟨w.heap.size + 1 + 1, 1, none⟩) q_w_F4.out (.float .f64 t3))
  obtain ⟨xF43_0, xF43_1⟩ := F4.ce2
  go_wp2
  exact bodyPost_ret (v := .agg #[.complex .f64 z3 y3, .float .f64 t3]) (by simp [results, Tryz.results114, go_sem, xF43_0, xF43_1]) rfl ⟨⟨_, _, _, rfl, by simp only [bAdd, hk2, cond_true]; exact a3, by simp only [bAdd, hk2, cond_true]; exact b3, by simp only [bAdd, hk2, cond_true]; exact d3⟩, B0⟩
def bSub (Z0 : BV) (Z1 : BV) : BV :=
 let X0 := Z0.1.1
 let Y0 := Z0.1.2
 let R0 := Z0.2
 let X1 := Z1.1.1
 let Y1 := Z1.1.2
 let R1 := Z1.2
 bif (bIsWhole ((X0, Y0), R0)) then (
  let v1 := bWhole
  ((v1.1.1, v1.1.2), v1.2))
 else (
  bif (bIsWhole ((X1, Y1), R1)) then (
   let v1 := bWhole
   ((v1.1.1, v1.1.2), v1.2))
  else (
   let v1 := cSub (X0, Y0) (X1, Y1)
   let v2 := fPlus R0 R1
   let v3 := cNeg (X1, Y1)
   let v4 := fLostB (X0, Y0) (v3.1, v3.2)
   let v5 := fPlus v2 v4
   let v6 := bTold (v1.1, v1.2) v5
   ((v6.1.1, v6.1.2), v6.2)))
set_option maxHeartbeats 4000000 in
theorem c_blSub {x0 y0 r0 x1 y1 r1 : Nat} {X0 Y0 R0 X1 Y1 R1 : FV} (w : World) (hx0 : Fl x0 X0) (hy0 : Fl y0 Y0) (hr0 : Fl r0 R0) (hx1 : Fl x1 X1) (hy1 : Fl y1 Y1) (hr1 : Fl r1 R1) : Calls Tryz.prog 38 #[.agg #[.complex .f64 x0 y0, .float .f64 r0], .agg #[.complex .f64 x1 y1, .float .f64 r1]] w fun r w' => (∃ z y t, r = .returned (.agg #[.complex .f64 z y, .float .f64 t]) ∧ Fl z (bSub ((X0, Y0), R0) ((X1, Y1), R1)).1.1 ∧ Fl y (bSub ((X0, Y0), R0) ((X1, Y1), R1)).1.2 ∧ Fl t (bSub ((X0, Y0), R0) ((X1, Y1), R1)).2) ∧ Below w.heap.size w w' := by
 go_enter Tryz.func38, Tryz.ntmps38
 have B0 := Below.refl w.heap.size w
 have hst1 := fun (a : Addr) (v : Nat) (m : Mode) (W : World) => (run_store Tryz.prog W a (.float .f64 v) m rfl : (store a (.float .f64 v) m).run Tryz.prog W = stored Tryz.prog W a (.float .f64 v) m)
 have hst2 := fun (a : Addr) (u v : Nat) (m : Mode) (W : World) => (run_store Tryz.prog W a (.complex .f64 u v) m rfl : (store a (.complex .f64 u v) m).run Tryz.prog W = stored Tryz.prog W a (.complex .f64 u v) m)
 have F2 := Blk.put (w) #[.complex .f64 x0 y0, .float .f64 r0] 32
 replace B0 := B0.alloc B0.size (.cells #[.complex .f64 x0 y0, .float .f64 r0] 32)
 replace F2 := F2.allocd (.cells #[.complex .f64 x1 y1, .float .f64 r1] 32)
 have F3 := Blk.put ((w).alloc (.cells #[.complex .f64 x0 y0, .float .f64 r0] 32)) #[.complex .f64 x1 y1, .float .f64 r1] 32
 rw [show ((w).alloc (.cells #[.complex .f64 x0 y0, .float .f64 r0] 32)).heap.size = w.heap.size + 1 by simp] at F3
 replace B0 := B0.alloc B0.size (.cells #[.complex .f64 x1 y1, .float .f64 r1] 32)
 have q_w_F4 : Hid (w.heap.size ≤ w.heap.size + 1 + 1) := Lib.hid (by omega)
 replace F2 := F2.allocd (.cells #[.complex .f64 0 0, .float .f64 0] 32)
 replace F3 := F3.allocd (.cells #[.complex .f64 0 0, .float .f64 0] 32)
 have F4 := Blk.put (((w).alloc (.cells #[.complex .f64 x0 y0, .float .f64 r0] 32)).alloc (.cells #[.complex .f64 x1 y1, .float .f64 r1] 32)) #[.complex .f64 0 0, .float .f64 0] 32
 rw [show (((w).alloc (.cells #[.complex .f64 x0 y0, .float .f64 r0] 32)).alloc (.cells #[.complex .f64 x1 y1, .float .f64 r1] 32)).heap.size = w.heap.size + 1 + 1 by simp] at F4
 replace B0 := B0.alloc B0.size (.cells #[.complex .f64 0 0, .float .f64 0] 32)
 obtain ⟨xF20_0, xF20_1⟩ := F2.ce2
 go_wp2_with fail
 (with_reducible refine (c_blIsWhole _ hx0 hy0 hr0).mono ?_)
 rintro r w1 ⟨rfl, hb1⟩
 clear xF20_0 xF20_1
 replace F2 := F2.keep hb1
 replace F3 := F3.keep hb1
 replace F4 := F4.keep hb1
 replace B0 := B0.trans (hb1.mono B0.size)
 clear hb1
 cases hk2 : bIsWhole ((X0, Y0), R0)
 ·obtain ⟨xF31_0, xF31_1⟩ := F3.ce2
  go_wp2_with fail
  (with_reducible refine (c_blIsWhole _ hx1 hy1 hr1).mono ?_)
  rintro r w2 ⟨rfl, hb2⟩
  clear xF31_0 xF31_1
  replace F2 := F2.keep hb2
  replace F3 := F3.keep hb2
  replace F4 := F4.keep hb2
  replace B0 := B0.trans (hb2.mono B0.size)
  clear hb2
  cases hk4 : bIsWhole ((X1, Y1), R1)
  ·go_wp2_with fail
   refine wp_region_cut 18 (by kernel_rfl) (by kernel_rfl) ?_
   rintro W rfl
   simp only [List.take_succ_cons, List.take_zero, List.drop_succ_cons, List.drop_zero]
   obtain ⟨xF22_0, xF22_1⟩ := F2.ce2
   obtain ⟨xF32_0, xF32_1⟩ := F3.ce2
   have hHeld : (fun w' : World => w'.cell? ⟨w.heap.size, 0, none⟩ = some (.complex .f64 x0 y0) ∧ w'.cell? ⟨w.heap.size, 1, none⟩ = some (.float .f64 r0) ∧ w'.cell? ⟨w.heap.size + 1, 0, none⟩ = some (.complex .f64 x1 y1) ∧ w'.cell? ⟨w.heap.size + 1, 1, none⟩ = some (.float .f64 r1)) (w2).drew := ⟨xF22_0, xF22_1, xF32_0, xF32_1⟩
   refine wpAny_of_held (S := fun w' : World => w'.cell? ⟨w.heap.size, 0, none⟩ = some (.complex .f64 x0 y0) ∧ w'.cell? ⟨w.heap.size, 1, none⟩ = some (.float .f64 r0) ∧ w'.cell? ⟨w.heap.size + 1, 0, none⟩ = some (.complex .f64 x1 y1) ∧ w'.cell? ⟨w.heap.size + 1, 1, none⟩ = some (.float .f64 r1)) _ _ _ (w2).drew ?_
   replace F2 := F2.drew
   replace F3 := F3.drew
   replace F4 := F4.drew
   replace B0 := B0.drew
   generalize (w2).drew = v1 at *
   refine tkA 0 ?_
   (try dsimp only [Act.put]); (try go_frame)
   refine tkA 1 ?_
   (try dsimp only [Act.put]); (try go_frame)
   refine tkA 2 ?_
   (try dsimp only [Act.put]); (try go_frame)
   refine tkA 3 ?_
   (try dsimp only [Act.put]); (try go_frame)
   refine tkA 5 ?_
   (try dsimp only [Act.put]); (try go_frame)
   refine tkA 6 ?_
   (try dsimp only [Act.put]); (try go_frame)
   refine tkA 7 ?_
   (try dsimp only [Act.put]); (try go_frame)
   refine tkA 8 ?_
   (try dsimp only [Act.put]); (try go_frame)
   refine tkA 10 ?_
   (try dsimp only [Act.put]); (try go_frame)
   refine tkA 11 ?_
   (try dsimp only [Act.put]); (try go_frame)
   refine tkA 12 ?_
   (try dsimp only [Act.put]); (try go_frame)
   refine tkA 13 ?_
   (try dsimp only [Act.put]); (try go_frame)
   refine wpAnyH_ready (rs := [4]) (by kernel_rfl) (by simp) ?_
   refine AllReadyH.cons rfl (fun K hK => ?_) AllReadyH.nil
   go_simp
   (with_reducible refine (c_cxSub _ hx0 hy0 hx1 hy1).mono ?_)
   rintro r w3 ⟨⟨z5, y5, rfl, a5, b5⟩, hb3⟩
   clear xF22_0 xF22_1 xF32_0 xF32_1
   replace F2 := F2.keep hb3
   replace F3 := F3.keep hb3
   replace F4 := F4.keep hb3
   replace B0 := B0.trans (hb3.mono B0.size)
   clear hb3
   obtain ⟨xF25_0, xF25_1⟩ := F2.ce2
   obtain ⟨xF35_0, xF35_1⟩ := F3.ce2
   refine hK.out _ _ ?_ (fun hHeld => ?_)
   ·exact ⟨xF25_0, xF25_1, xF35_0, xF35_1⟩
   clear hK K
   (try dsimp only [Act.put]); (try go_frame)
   refine wpAnyH_ready (rs := [9]) (by kernel_rfl) (by simp) ?_
   refine AllReadyH.cons rfl (fun K hK => ?_) AllReadyH.nil
   go_simp
   (with_reducible refine (c_blplus _ hr0 hr1).mono ?_)
   rintro r w4 ⟨⟨z6, rfl, a6⟩, hb4⟩
   clear xF25_0 xF25_1 xF35_0 xF35_1
   replace F2 := F2.keep hb4
   replace F3 := F3.keep hb4
   replace F4 := F4.keep hb4
   replace B0 := B0.trans (hb4.mono B0.size)
   clear hb4
   obtain ⟨xF26_0, xF26_1⟩ := F2.ce2
   obtain ⟨xF36_0, xF36_1⟩ := F3.ce2
   refine hK.out _ _ ?_ (fun hHeld => ?_)
   ·exact ⟨xF26_0, xF26_1, xF36_0, xF36_1⟩
   clear hK K
   (try dsimp only [Act.put]); (try go_frame)
   refine wpAnyH_ready (rs := [14]) (by kernel_rfl) (by simp) ?_
   refine AllReadyH.cons rfl (fun K hK => ?_) AllReadyH.nil
   go_simp
   (with_reducible refine (c_cxNeg _ hx1 hy1).mono ?_)
   rintro r w5 ⟨⟨z7, y7, rfl, a7, b7⟩, hb5⟩
   clear xF26_0 xF26_1 xF36_0 xF36_1
   replace F2 := F2.keep hb5
   replace F3 := F3.keep hb5
   replace F4 := F4.keep hb5
   replace B0 := B0.trans (hb5.mono B0.size)
   clear hb5
   obtain ⟨xF27_0, xF27_1⟩ := F2.ce2
   obtain ⟨xF37_0, xF37_1⟩ := F3.ce2
   refine hK.out _ _ ?_ (fun hHeld => ?_)
   ·exact ⟨xF27_0, xF27_1, xF37_0, xF37_1⟩
   clear hK K
   (try dsimp only [Act.put]); (try go_frame)
   refine wpAnyH_ready (rs := [15]) (by kernel_rfl) (by simp) ?_
   refine AllReadyH.cons rfl (fun K hK => ?_) AllReadyH.nil
   go_simp
   (with_reducible refine (c_bllostBoth _ hx0 hy0 a7 b7).mono ?_)
   rintro r w6 ⟨⟨z8, rfl, a8⟩, hb6⟩
   clear xF27_0 xF27_1 xF37_0 xF37_1
   replace F2 := F2.keep hb6
   replace F3 := F3.keep hb6
   replace F4 := F4.keep hb6
   replace B0 := B0.trans (hb6.mono B0.size)
   clear hb6
   obtain ⟨xF28_0, xF28_1⟩ := F2.ce2
   obtain ⟨xF38_0, xF38_1⟩ := F3.ce2
   refine hK.out _ _ ?_ (fun hHeld => ?_)
   ·exact ⟨xF28_0, xF28_1, xF38_0, xF38_1⟩
   clear hK K
   (try dsimp only [Act.put]); (try go_frame)
   refine wpAnyH_ready (rs := [16]) (by kernel_rfl) (by simp) ?_
   refine AllReadyH.cons rfl (fun K hK => ?_) AllReadyH.nil
   go_simp
   (with_reducible refine (c_blplus _ a6 a8).mono ?_)
   rintro r w7 ⟨⟨z9, rfl, a9⟩, hb7⟩
   clear xF28_0 xF28_1 xF38_0 xF38_1
   replace F2 := F2.keep hb7
   replace F3 := F3.keep hb7
   replace F4 := F4.keep hb7
   replace B0 := B0.trans (hb7.mono B0.size)
   clear hb7
   obtain ⟨xF29_0, xF29_1⟩ := F2.ce2
   obtain ⟨xF39_0, xF39_1⟩ := F3.ce2
   refine hK.out _ _ ?_ (fun hHeld => ?_)
   ·exact ⟨xF29_0, xF29_1, xF39_0, xF39_1⟩
   clear hK K
   (try dsimp only [Act.put]); (try go_frame)
   refine wpAnyH_ready (rs := [17]) (by kernel_rfl) (by simp) ?_
   refine AllReadyH.cons rfl (fun K hK => ?_) AllReadyH.nil
   go_simp
   (with_reducible refine (c_bltold _ a5 b5 a9).mono ?_)
   rintro r w8 ⟨⟨z10, y10, t10, rfl, a10, b10, d10⟩, hb8⟩
   clear xF29_0 xF29_1 xF39_0 xF39_1
   replace F2 := F2.keep hb8
   replace F3 := F3.keep hb8
   replace F4 := F4.keep hb8
   replace B0 := B0.trans (hb8.mono B0.size)
   clear hb8
   obtain ⟨xF210_0, xF210_1⟩ := F2.ce2
   obtain ⟨xF310_0, xF310_1⟩ := F3.ce2
   refine hK.out _ _ ?_ (fun hHeld => ?_)
   ·exact ⟨xF210_0, xF210_1, xF310_0, xF310_1⟩
   clear hK K
   (try dsimp only [Act.put]); (try go_frame)
   refine wpAnyH_done (by kernel_rfl) ?_ _
   try simp only [QCut]
   clear hHeld
   clear xF210_0 xF210_1 xF310_0 xF310_1
   obtain ⟨xF410_0, xF410_1⟩ := F4.ce2
   obtain ⟨xF410_0f, xF410_1f⟩ := F4.fr2
   clear F2
   clear F3
   replace F4 : Blk (((w8).setCell ⟨w.heap.size + 1 + 1, 0, none⟩ (.complex .f64 z10 y10)).setCell ⟨w.heap.size + 1 + 1, 1, none⟩ (.float .f64 t10)) (w.heap.size + 1 + 1) #[.complex .f64 z10 y10, .float .f64 t10] 32 := ((F4.setAt 0 (.complex .f64 z10 y10)).setAt 1 (.float .f64 t10))
   replace B0 := ((B0.setCell (p := ⟨w.heap.size + 1 + 1, 0, none⟩) q_w_F4.out (.complex .f64 z10 y10)).setCell (p := ⟨w.heap.size + 1 + 1, 1, none⟩) q_w_F4.out (.float .f64 t10))
   obtain ⟨xF411_0, xF411_1⟩ := F4.ce2
   go_wp2
   exact bodyPost_ret (v := .agg #[.complex .f64 z10 y10, .float .f64 t10]) (by simp [results, Tryz.results38, go_sem, xF411_0, xF411_1]) rfl ⟨⟨_, _, _, rfl, by simp only [bSub, hk2, hk4, cond_false]; exact a10, by simp only [bSub, hk2, hk4, cond_false]; exact b10, by simp only [bSub, hk2, hk4, cond_false]; exact d10⟩, B0⟩
  ·go_wp2_with fail
   (with_reducible refine (c_blWhole _).mono ?_)
   rintro r w3 ⟨⟨z5, y5, t5, rfl, a5, b5, d5⟩, hb3⟩
   clear F2
   clear F3
   replace F4 := F4.keep hb3
   replace B0 := B0.trans (hb3.mono B0.size)
   clear hb3
   obtain ⟨xF43_0, xF43_1⟩ := F4.ce2
   obtain ⟨xF43_0f, xF43_1f⟩ := F4.fr2
   replace F4 : Blk (((w3).setCell ⟨w.heap.size + 1 + 1, 0, none⟩ (.complex .f64 z5 y5)).setCell ⟨w.heap.size + 1 + 1, 1, none⟩ (.float .f64 t5)) (w.heap.size + 1 + 1) #[.complex .f64 z5 y5, .float .f64 t5] 32 := ((F4.setAt 0 (.complex .f64 z5 y5)).setAt 1 (.float .f64 t5))
   replace B0 := ((B0.setCell (p := ⟨w.heap.size + 1 + 1, 0, none⟩) q_w_F4.out (.complex .f64 z5 y5)).setCell (p := ⟨w.heap.size + 1 + 1, 1, none⟩) q_w_F4.out (.float .f64 t5))
   obtain ⟨xF44_0, xF44_1⟩ := F4.ce2
   go_wp2
   exact bodyPost_ret (v := .agg #[.complex .f64 z5 y5, .float .f64 t5]) (by simp [results, Tryz.results38, go_sem, xF44_0, xF44_1]) rfl ⟨⟨_, _, _, rfl, by simp only [bSub, hk2, hk4, cond_true, cond_false]; exact a5, by simp only [bSub, hk2, hk4, cond_true, cond_false]; exact b5, by simp only [bSub, hk2, hk4, cond_true, cond_false]; exact d5⟩, B0⟩
 ·go_wp2_with fail
  (with_reducible refine (c_blWhole _).mono ?_)
  rintro r w2 ⟨⟨z3, y3, t3, rfl, a3, b3, d3⟩, hb2⟩
  clear F2
  clear F3
  replace F4 := F4.keep hb2
  replace B0 := B0.trans (hb2.mono B0.size)
  clear hb2
  obtain ⟨xF42_0, xF42_1⟩ := F4.ce2
  obtain ⟨xF42_0f, xF42_1f⟩ := F4.fr2
  replace F4 : Blk (((w2).setCell ⟨w.heap.size + 1 + 1, 0, none⟩ (.complex .f64 z3 y3)).setCell ⟨w.heap.size + 1 + 1, 1, none⟩ (.float .f64 t3)) (w.heap.size + 1 + 1) #[.complex .f64 z3 y3, .float .f64 t3] 32 := ((F4.setAt 0 (.complex .f64 z3 y3)).setAt 1 (.float .f64 t3))
  replace B0 := ((B0.setCell (p := ⟨w.heap.size + 1 + 1, 0, none⟩) q_w_F4.out (.complex .f64 z3 y3)).setCell (p := ⟨w.heap.size + 1 + 1, 1, none⟩) q_w_F4.out (.float .f64 t3))
  obtain ⟨xF43_0, xF43_1⟩ := F4.ce2
  go_wp2
  exact bodyPost_ret (v := .agg #[.complex .f64 z3 y3, .float .f64 t3]) (by simp [results, Tryz.results38, go_sem, xF43_0, xF43_1]) rfl ⟨⟨_, _, _, rfl, by simp only [bSub, hk2, cond_true]; exact a3, by simp only [bSub, hk2, cond_true]; exact b3, by simp only [bSub, hk2, cond_true]; exact d3⟩, B0⟩
def bContracts (Z0 : BV) (Z1 : BV) (Z2 : FV) : FV × Bool :=
 let X0 := Z0.1.1
 let Y0 := Z0.1.2
 let R0 := Z0.2
 let X1 := Z1.1.1
 let Y1 := Z1.1.2
 let R1 := Z1.2
 let X2 := Z2
 let v1 := bHi ((X1, Y1), R1)
 bif (fFin X2) then (
  bif fle X2 (some 0) then (
   ((some 0), false))
  else (
   bif flt v1 (some 4607182418800017408) then (
    let v2 := bHi ((X0, Y0), R0)
    let v3 := fTimes v1 X2
    let v4 := fPlus v2 v3
    bif fgt v4 X2 then (
     ((some 0), false))
    else (
     (v1, true)))
   else (
    ((some 0), false))))
 else (
  ((some 0), false))
set_option maxHeartbeats 4000000 in
theorem c_blContracts {x0 y0 r0 x1 y1 r1 x2 : Nat} {X0 Y0 R0 X1 Y1 R1 X2 : FV} (w : World) (hx0 : Fl x0 X0) (hy0 : Fl y0 Y0) (hr0 : Fl r0 R0) (hx1 : Fl x1 X1) (hy1 : Fl y1 Y1) (hr1 : Fl r1 R1) (hx2 : Fl x2 X2) : Calls Tryz.prog 37 #[.agg #[.complex .f64 x0 y0, .float .f64 r0], .agg #[.complex .f64 x1 y1, .float .f64 r1], .float .f64 x2] w fun r w' => (∃ z, r = .returned (.tuple #[.float .f64 z, .bool (bContracts ((X0, Y0), R0) ((X1, Y1), R1) X2).2]) ∧ Fl z (bContracts ((X0, Y0), R0) ((X1, Y1), R1) X2).1) ∧ Below w.heap.size w w' := by
 go_enter Tryz.func37, Tryz.ntmps37
 have B0 := Below.refl w.heap.size w
 have F3 := Blk.put (w) #[.complex .f64 x0 y0, .float .f64 r0] 32
 replace B0 := B0.alloc B0.size (.cells #[.complex .f64 x0 y0, .float .f64 r0] 32)
 replace F3 := F3.allocd (.cells #[.complex .f64 x1 y1, .float .f64 r1] 32)
 have F4 := Blk.put ((w).alloc (.cells #[.complex .f64 x0 y0, .float .f64 r0] 32)) #[.complex .f64 x1 y1, .float .f64 r1] 32
 rw [show ((w).alloc (.cells #[.complex .f64 x0 y0, .float .f64 r0] 32)).heap.size = w.heap.size + 1 by simp] at F4
 replace B0 := B0.alloc B0.size (.cells #[.complex .f64 x1 y1, .float .f64 r1] 32)
 obtain ⟨xF40_0, xF40_1⟩ := F4.ce2
 go_wp2_with fail
 (with_reducible refine (c_blHi _ hx1 hy1 hr1).mono ?_)
 rintro r w1 ⟨⟨z1, rfl, a1⟩, hb1⟩
 clear xF40_0 xF40_1
 replace F3 := F3.keep hb1
 replace F4 := F4.keep hb1
 replace B0 := B0.trans (hb1.mono B0.size)
 clear hb1
 go_wp2_with fail
 (with_reducible refine (c_bFinite _ hx2).mono ?_)
 rintro r w2 ⟨rfl, hb2⟩
 replace F3 := F3.keep hb2
 clear F4
 replace B0 := B0.trans (hb2.mono B0.size)
 clear hb2
 cases hk3 : fFin X2
 ·go_wp2
  go_ret2
  exact ⟨⟨_, by first | (simp only [bContracts, hk3, cond_false]; rfl) | (simp only [bContracts, hk3, cond_false]), by simp only [bContracts, hk3, cond_false]; exact (fl_some (b := 0) (by decide) (by decide))⟩, B0⟩
 ·have c4 := c_le hx2 (fl_some (b := 0) (by decide) (by decide))
  cases hk5 : fle X2 (some 0)
  ·rw [hk5] at c4
   have c6 := c_lt a1 (fl_some (b := 4607182418800017408) (by decide) (by decide))
   cases hk7 : flt (bHi ((X1, Y1), R1)) (some 4607182418800017408)
   ·rw [hk7] at c6
    go_wp2
    go_ret2
    exact ⟨⟨_, by first | (simp only [bContracts, hk3, hk5, hk7, cond_true, cond_false]; rfl) | (simp only [bContracts, hk3, hk5, hk7, cond_true, cond_false]), by simp only [bContracts, hk3, hk5, hk7, cond_true, cond_false]; exact (fl_some (b := 0) (by decide) (by decide))⟩, B0⟩
   ·rw [hk7] at c6
    obtain ⟨xF32_0, xF32_1⟩ := F3.ce2
    go_wp2_with fail
    (with_reducible refine (c_blHi _ hx0 hy0 hr0).mono ?_)
    rintro r w3 ⟨⟨z8, rfl, a8⟩, hb3⟩
    clear xF32_0 xF32_1
    replace F3 := F3.keep hb3
    replace B0 := B0.trans (hb3.mono B0.size)
    clear hb3
    go_wp2_with fail
    (with_reducible refine (c_bltimes _ a1 hx2).mono ?_)
    rintro r w4 ⟨⟨z9, rfl, a9⟩, hb4⟩
    clear F3
    replace B0 := B0.trans (hb4.mono B0.size)
    clear hb4
    go_wp2_with fail
    (with_reducible refine (c_blplus _ a8 a9).mono ?_)
    rintro r w5 ⟨⟨z10, rfl, a10⟩, hb5⟩
    replace B0 := B0.trans (hb5.mono B0.size)
    clear hb5
    have c11 := c_gt a10 hx2
    cases hk12 : fgt (fPlus (bHi ((X0, Y0), R0)) (fTimes (bHi ((X1, Y1), R1)) X2)) X2
    ·rw [hk12] at c11
     go_wp2
     go_ret2
     exact ⟨⟨_, by first | (simp only [bContracts, hk3, hk5, hk7, hk12, cond_true, cond_false]; rfl) | (simp only [bContracts, hk3, hk5, hk7, hk12, cond_true, cond_false]), by simp only [bContracts, hk3, hk5, hk7, hk12, cond_true, cond_false]; exact a1⟩, B0⟩
    ·rw [hk12] at c11
     go_wp2
     go_ret2
     exact ⟨⟨_, by first | (simp only [bContracts, hk3, hk5, hk7, hk12, cond_true, cond_false]; rfl) | (simp only [bContracts, hk3, hk5, hk7, hk12, cond_true, cond_false]), by simp only [bContracts, hk3, hk5, hk7, hk12, cond_true, cond_false]; exact (fl_some (b := 0) (by decide) (by decide))⟩, B0⟩
  ·rw [hk5] at c4
   go_wp2
   go_ret2
   exact ⟨⟨_, by first | (simp only [bContracts, hk3, hk5, cond_true]; rfl) | (simp only [bContracts, hk3, hk5, cond_true]), by simp only [bContracts, hk3, hk5, cond_true]; exact (fl_some (b := 0) (by decide) (by decide))⟩, B0⟩
end Go.Proofs.YtfdnbogbankjjaaGreatDoor
