/- Floats reckoned up: the walks of cplx.Hi and of ball's helpers. (printed by gen_f4.py) -/
import Derived.Test.YtfdnbogbankjjaaGreatDoorF3
namespace Go.Proofs.YtfdnbogbankjjaaGreatDoor
open Go Go.RowKit Go.PlainAid Fil

def cReach (Z0 : FV) (Z1 : FV) : FV :=
 let X0 := Z0
 let X1 := Z1
 let v1 := fop .quo X1 X0
 let v2 := fup v1
 let v3 := fop .mul v2 v2
 let v4 := fup v3
 let v5 := fop .add (some 4607182418800017408) v4
 let v6 := fup v5
 let v7 := fsqrt v6
 let v8 := fup v7
 let v9 := fop .mul X0 v8
 let v10 := fup v9
 v10
theorem c_cxreach {x0 x1 : Nat} {X0 X1 : FV} (w : World) (hx0 : Fl x0 X0) (hx1 : Fl x1 X1) : Calls Tryz.prog 77 #[.float .f64 x0, .float .f64 x1, .func (.func 78) #[] #[]] w fun r w' => (∃ z, r = .returned (.float .f64 z) ∧ Fl z (cReach X0 X1)) ∧ Below w.heap.size w w' := by
 go_enter Tryz.func77, Tryz.ntmps77
 have B0 := Below.refl w.heap.size w
 obtain ⟨z1, u1, e1, a1, hb1⟩ := run_fop Tryz.prog (w) .quo 30 (.inr (.inr (.inr rfl))) hx1 hx0
 replace B0 := B0.trans (hb1.mono B0.size)
 clear hb1
 go_wp2_with fail
 (with_reducible refine (cup _ a1).mono ?_)
 rintro r w1 ⟨⟨z2, rfl, a2⟩, hb1⟩
 replace B0 := B0.trans (hb1.mono B0.size)
 clear hb1
 obtain ⟨z3, u3, e3, a3, hb3⟩ := run_fop Tryz.prog (w1) .mul 30 (.inr (.inr (.inl rfl))) a2 a2
 replace B0 := B0.trans (hb3.mono B0.size)
 clear hb3
 go_wp2_with fail
 (with_reducible refine (cup _ a3).mono ?_)
 rintro r w2 ⟨⟨z4, rfl, a4⟩, hb2⟩
 replace B0 := B0.trans (hb2.mono B0.size)
 clear hb2
 obtain ⟨z5, u5, e5, a5, hb5⟩ := run_fop Tryz.prog (w2) .add 30 (.inl rfl) (fl_some (b := 4607182418800017408) (by decide) (by decide)) a4
 replace B0 := B0.trans (hb5.mono B0.size)
 clear hb5
 go_wp2_with fail
 (with_reducible refine (cup _ a5).mono ?_)
 rintro r w3 ⟨⟨z6, rfl, a6⟩, hb3⟩
 replace B0 := B0.trans (hb3.mono B0.size)
 clear hb3
 go_wp2_with fail
 (with_reducible refine (csqrt _ a6).mono ?_)
 rintro r w4 ⟨⟨z7, rfl, a7⟩, hb4⟩
 replace B0 := B0.trans (hb4.mono B0.size)
 clear hb4
 go_wp2_with fail
 (with_reducible refine (cup _ a7).mono ?_)
 rintro r w5 ⟨⟨z8, rfl, a8⟩, hb5⟩
 replace B0 := B0.trans (hb5.mono B0.size)
 clear hb5
 obtain ⟨z9, u9, e9, a9, hb9⟩ := run_fop Tryz.prog (w5) .mul 30 (.inr (.inr (.inl rfl))) hx0 a8
 replace B0 := B0.trans (hb9.mono B0.size)
 clear hb9
 go_wp2_with fail
 (with_reducible refine (cup _ a9).mono ?_)
 rintro r w6 ⟨⟨z10, rfl, a10⟩, hb6⟩
 replace B0 := B0.trans (hb6.mono B0.size)
 clear hb6
 go_wp2
 go_ret
 exact ⟨⟨_, rfl, by exact a10⟩, B0⟩
def cHi (Z0 : CV) : FV :=
 let X0 := Z0.1
 let Y0 := Z0.2
 bif cFin (X0, Y0) then (
  let v1 := cSizes (X0, Y0)
  bif feq v1.2 (some 0) then (
   v1.1)
  else (
   let v2 := cReach v1.1 v1.2
   v2))
 else (
  let v1 := (some 9218868437227405312)
  v1)
theorem c_cxHi {x0 y0 : Nat} {X0 Y0 : FV} (w : World) (hx0 : Fl x0 X0) (hy0 : Fl y0 Y0) : Calls Tryz.prog 35 #[.complex .f64 x0 y0] w fun r w' => (∃ z, r = .returned (.float .f64 z) ∧ Fl z (cHi (X0, Y0))) ∧ Below w.heap.size w w' := by
 go_enter Tryz.func35, Tryz.ntmps35
 have B0 := Below.refl w.heap.size w
 go_wp2_with fail
 (with_reducible refine (c_cxKind _ hx0 hy0).mono ?_)
 rintro r w1 ⟨rfl, hb1⟩
 replace B0 := B0.trans (hb1.mono B0.size)
 clear hb1
 rcases cKind_or (X0, Y0) with hk2 | hk2 | hk2
 ·rw [hk2]
  have hf2 := cFin_0 hk2
  go_wp2_with fail
  (with_reducible refine (c_cxsizes _ hx0 hy0).mono ?_)
  rintro r w2 ⟨⟨z3, y3, rfl, a3, b3⟩, hb2⟩
  replace B0 := B0.trans (hb2.mono B0.size)
  clear hb2
  have c4 := c_eq b3 (fl_some (b := 0) (by decide) (by decide))
  cases hk5 : feq (cSizes (X0, Y0)).2 (some 0)
  ·rw [hk5] at c4
   go_wp2_with fail
   (with_reducible refine (c_cxreach _ a3 b3).mono ?_)
   rintro r w3 ⟨⟨z6, rfl, a6⟩, hb3⟩
   replace B0 := B0.trans (hb3.mono B0.size)
   clear hb3
   go_wp2
   go_ret
   exact ⟨⟨_, rfl, by simp only [cHi, hf2, hk5, cond_true, cond_false]; exact a6⟩, B0⟩
  ·rw [hk5] at c4
   go_wp2
   go_ret
   exact ⟨⟨_, rfl, by simp only [cHi, hf2, hk5, cond_true]; exact a3⟩, B0⟩
 ·rw [hk2]
  have hf2 := cFin_1 hk2
  go_wp2_with fail
  (with_reducible refine (cinf _).mono ?_)
  rintro r w2 ⟨⟨z3, rfl, a3⟩, hb2⟩
  replace B0 := B0.trans (hb2.mono B0.size)
  clear hb2
  go_wp2
  go_ret
  exact ⟨⟨_, rfl, by simp only [cHi, hf2, cond_false]; exact a3⟩, B0⟩
 ·rw [hk2]
  have hf2 := cFin_2 hk2
  go_wp2_with fail
  (with_reducible refine (cinf _).mono ?_)
  rintro r w2 ⟨⟨z3, rfl, a3⟩, hb2⟩
  replace B0 := B0.trans (hb2.mono B0.size)
  clear hb2
  go_wp2
  go_ret
  exact ⟨⟨_, rfl, by simp only [cHi, hf2, cond_false]; exact a3⟩, B0⟩
def fFin (Z0 : FV) : Bool :=
 let X0 := Z0
 let v1 := fop .sub X0 X0
 bif feq v1 (some 0) then (
  true)
 else (
  false)
theorem c_bFinite {x0 : Nat} {X0 : FV} (w : World) (hx0 : Fl x0 X0) : Calls Tryz.prog 79 #[.float .f64 x0] w fun r w' => r = .returned (.bool (fFin X0)) ∧ Below w.heap.size w w' := by
 go_enter Tryz.func79, Tryz.ntmps79
 have B0 := Below.refl w.heap.size w
 obtain ⟨z1, u1, e1, a1, hb1⟩ := run_fop Tryz.prog (w) .sub 30 (.inr (.inl rfl)) hx0 hx0
 replace B0 := B0.trans (hb1.mono B0.size)
 clear hb1
 have c2 := c_eq a1 (fl_some (b := 0) (by decide) (by decide))
 cases hk3 : feq (fop .sub X0 X0) (some 0)
 ·rw [hk3] at c2
  go_wp2
  go_ret
  exact ⟨by first | (simp only [fFin, hk3, cond_false]; rfl) | (simp only [fFin, hk3, cond_false]), B0⟩
 ·rw [hk3] at c2
  go_wp2
  go_ret
  exact ⟨by first | (simp only [fFin, hk3, cond_true]; rfl) | (simp only [fFin, hk3, cond_true]), B0⟩
def fPlus (Z0 : FV) (Z1 : FV) : FV :=
 let X0 := Z0
 let X1 := Z1
 bif feq X0 (some 0) then (
  X1)
 else (
  bif feq X1 (some 0) then (
   X0)
  else (
   let v1 := fop .add X0 X1
   let v2 := fup v1
   v2))
theorem c_blplus {x0 x1 : Nat} {X0 X1 : FV} (w : World) (hx0 : Fl x0 X0) (hx1 : Fl x1 X1) : Calls Tryz.prog 72 #[.float .f64 x0, .float .f64 x1] w fun r w' => (∃ z, r = .returned (.float .f64 z) ∧ Fl z (fPlus X0 X1)) ∧ Below w.heap.size w w' := by
 go_enter Tryz.func72, Tryz.ntmps72
 have B0 := Below.refl w.heap.size w
 have c1 := c_eq hx0 (fl_some (b := 0) (by decide) (by decide))
 cases hk2 : feq X0 (some 0)
 ·rw [hk2] at c1
  have c3 := c_eq hx1 (fl_some (b := 0) (by decide) (by decide))
  cases hk4 : feq X1 (some 0)
  ·rw [hk4] at c3
   obtain ⟨z5, u5, e5, a5, hb5⟩ := run_fop Tryz.prog (w) .add 30 (.inl rfl) hx0 hx1
   replace B0 := B0.trans (hb5.mono B0.size)
   clear hb5
   go_wp2_with fail
   (with_reducible refine (cup _ a5).mono ?_)
   rintro r w1 ⟨⟨z6, rfl, a6⟩, hb1⟩
   replace B0 := B0.trans (hb1.mono B0.size)
   clear hb1
   go_wp2
   go_ret
   exact ⟨⟨_, rfl, by simp only [fPlus, hk2, hk4, cond_false]; exact a6⟩, B0⟩
  ·rw [hk4] at c3
   go_wp2
   go_ret
   exact ⟨⟨_, rfl, by simp only [fPlus, hk2, hk4, cond_true, cond_false]; exact hx0⟩, B0⟩
 ·rw [hk2] at c1
  go_wp2
  go_ret
  exact ⟨⟨_, rfl, by simp only [fPlus, hk2, cond_true]; exact hx1⟩, B0⟩
def fTimes (Z0 : FV) (Z1 : FV) : FV :=
 let X0 := Z0
 let X1 := Z1
 bif feq X0 (some 0) then (
  (some 0))
 else (
  bif feq X1 (some 0) then (
   (some 0))
  else (
   let v1 := fop .mul X0 X1
   let v2 := fup v1
   v2))
theorem c_bltimes {x0 x1 : Nat} {X0 X1 : FV} (w : World) (hx0 : Fl x0 X0) (hx1 : Fl x1 X1) : Calls Tryz.prog 73 #[.float .f64 x0, .float .f64 x1] w fun r w' => (∃ z, r = .returned (.float .f64 z) ∧ Fl z (fTimes X0 X1)) ∧ Below w.heap.size w w' := by
 go_enter Tryz.func73, Tryz.ntmps73
 have B0 := Below.refl w.heap.size w
 have c1 := c_eq hx0 (fl_some (b := 0) (by decide) (by decide))
 cases hk2 : feq X0 (some 0)
 ·rw [hk2] at c1
  have c3 := c_eq hx1 (fl_some (b := 0) (by decide) (by decide))
  cases hk4 : feq X1 (some 0)
  ·rw [hk4] at c3
   obtain ⟨z5, u5, e5, a5, hb5⟩ := run_fop Tryz.prog (w) .mul 30 (.inr (.inr (.inl rfl))) hx0 hx1
   replace B0 := B0.trans (hb5.mono B0.size)
   clear hb5
   go_wp2_with fail
   (with_reducible refine (cup _ a5).mono ?_)
   rintro r w1 ⟨⟨z6, rfl, a6⟩, hb1⟩
   replace B0 := B0.trans (hb1.mono B0.size)
   clear hb1
   go_wp2
   go_ret
   exact ⟨⟨_, rfl, by simp only [fTimes, hk2, hk4, cond_false]; exact a6⟩, B0⟩
  ·rw [hk4] at c3
   go_wp2
   go_ret
   exact ⟨⟨_, rfl, by simp only [fTimes, hk2, hk4, cond_true, cond_false]; exact (fl_some (b := 0) (by decide) (by decide))⟩, B0⟩
 ·rw [hk2] at c1
  go_wp2
  go_ret
  exact ⟨⟨_, rfl, by simp only [fTimes, hk2, cond_true]; exact (fl_some (b := 0) (by decide) (by decide))⟩, B0⟩
def fLost (Z0 : FV) (Z1 : FV) : FV :=
 let X0 := Z0
 let X1 := Z1
 let v1 := fop .add X0 X1
 bif feq X0 (some 0) then (
  (some 0))
 else (
  bif feq X1 (some 0) then (
   (some 0))
  else (
   bif feq v1 (some 0) then (
    (some 0))
   else (
    let v2 := fabs v1
    let v3 := fop .mul v2 (some 4368491638549381120)
    let v4 := fup v3
    v4)))
theorem c_bllost {x0 x1 : Nat} {X0 X1 : FV} (w : World) (hx0 : Fl x0 X0) (hx1 : Fl x1 X1) : Calls Tryz.prog 116 #[.float .f64 x0, .float .f64 x1] w fun r w' => (∃ z, r = .returned (.float .f64 z) ∧ Fl z (fLost X0 X1)) ∧ Below w.heap.size w w' := by
 go_enter Tryz.func116, Tryz.ntmps116
 have B0 := Below.refl w.heap.size w
 obtain ⟨z1, u1, e1, a1, hb1⟩ := run_fop Tryz.prog (w) .add 30 (.inl rfl) hx0 hx1
 replace B0 := B0.trans (hb1.mono B0.size)
 clear hb1
 have c2 := c_eq hx0 (fl_some (b := 0) (by decide) (by decide))
 cases hk3 : feq X0 (some 0)
 ·rw [hk3] at c2
  have c4 := c_eq hx1 (fl_some (b := 0) (by decide) (by decide))
  cases hk5 : feq X1 (some 0)
  ·rw [hk5] at c4
   have c6 := c_eq a1 (fl_some (b := 0) (by decide) (by decide))
   cases hk7 : feq (fop .add X0 X1) (some 0)
   ·rw [hk7] at c6
    go_wp2_with fail
    (with_reducible refine (cabs _ a1).mono ?_)
    rintro r w1 ⟨⟨z8, rfl, a8⟩, hb1⟩
    replace B0 := B0.trans (hb1.mono B0.size)
    clear hb1
    obtain ⟨z9, u9, e9, a9, hb9⟩ := run_fop Tryz.prog (w1) .mul 30 (.inr (.inr (.inl rfl))) a8 (fl_some (b := 4368491638549381120) (by decide) (by decide))
    replace B0 := B0.trans (hb9.mono B0.size)
    clear hb9
    go_wp2_with fail
    (with_reducible refine (cup _ a9).mono ?_)
    rintro r w2 ⟨⟨z10, rfl, a10⟩, hb2⟩
    replace B0 := B0.trans (hb2.mono B0.size)
    clear hb2
    go_wp2
    go_ret
    exact ⟨⟨_, rfl, by simp only [fLost, hk3, hk5, hk7, cond_false]; exact a10⟩, B0⟩
   ·rw [hk7] at c6
    go_wp2
    go_ret
    exact ⟨⟨_, rfl, by simp only [fLost, hk3, hk5, hk7, cond_true, cond_false]; exact (fl_some (b := 0) (by decide) (by decide))⟩, B0⟩
  ·rw [hk5] at c4
   go_wp2
   go_ret
   exact ⟨⟨_, rfl, by simp only [fLost, hk3, hk5, cond_true, cond_false]; exact (fl_some (b := 0) (by decide) (by decide))⟩, B0⟩
 ·rw [hk3] at c2
  go_wp2
  go_ret
  exact ⟨⟨_, rfl, by simp only [fLost, hk3, cond_true]; exact (fl_some (b := 0) (by decide) (by decide))⟩, B0⟩
def fLostB (Z0 : CV) (Z1 : CV) : FV :=
 let X0 := Z0.1
 let Y0 := Z0.2
 let X1 := Z1.1
 let Y1 := Z1.2
 let v1 := fLost X0 X1
 let v2 := fLost Y0 Y1
 let v3 := fPlus v1 v2
 v3
theorem c_bllostBoth {x0 y0 x1 y1 : Nat} {X0 Y0 X1 Y1 : FV} (w : World) (hx0 : Fl x0 X0) (hy0 : Fl y0 Y0) (hx1 : Fl x1 X1) (hy1 : Fl y1 Y1) : Calls Tryz.prog 80 #[.complex .f64 x0 y0, .complex .f64 x1 y1] w fun r w' => (∃ z, r = .returned (.float .f64 z) ∧ Fl z (fLostB (X0, Y0) (X1, Y1))) ∧ Below w.heap.size w w' := by
 go_enter Tryz.func80, Tryz.ntmps80
 have B0 := Below.refl w.heap.size w
 go_wp2_with fail
 (with_reducible refine (c_bllost _ hx0 hx1).mono ?_)
 rintro r w1 ⟨⟨z1, rfl, a1⟩, hb1⟩
 replace B0 := B0.trans (hb1.mono B0.size)
 clear hb1
 go_wp2_with fail
 (with_reducible refine (c_bllost _ hy0 hy1).mono ?_)
 rintro r w2 ⟨⟨z2, rfl, a2⟩, hb2⟩
 replace B0 := B0.trans (hb2.mono B0.size)
 clear hb2
 go_wp2_with fail
 (with_reducible refine (c_blplus _ a1 a2).mono ?_)
 rintro r w3 ⟨⟨z3, rfl, a3⟩, hb3⟩
 replace B0 := B0.trans (hb3.mono B0.size)
 clear hb3
 go_wp2
 go_ret
 exact ⟨⟨_, rfl, by exact a3⟩, B0⟩
def fSpoilt (Z0 : CV) (Z1 : CV) : FV :=
 let X0 := Z0.1
 let Y0 := Z0.2
 let X1 := Z1.1
 let Y1 := Z1.2
 bif (feq X0 (some 0) && feq Y0 (some 0)) then (
  (some 0))
 else (
  bif (feq X1 (some 0) && feq Y1 (some 0)) then (
   (some 0))
  else (
   let v1 := fop .mul X0 X1
   let v2 := fabs v1
   let v3 := fop .mul Y0 Y1
   let v4 := fabs v3
   let v5 := fPlus v2 v4
   let v6 := fop .mul X0 Y1
   let v7 := fabs v6
   let v8 := fop .mul Y0 X1
   let v9 := fabs v8
   let v10 := fPlus v7 v9
   let v11 := fPlus v5 v10
   let v12 := fop .mul v11 (some 4377498837804122112)
   let v13 := fup v12
   let v14 := fPlus v13 (some 16)
   v14))
theorem c_blspoilt {x0 y0 x1 y1 : Nat} {X0 Y0 X1 Y1 : FV} (w : World) (hx0 : Fl x0 X0) (hy0 : Fl y0 Y0) (hx1 : Fl x1 X1) (hy1 : Fl y1 Y1) : Calls Tryz.prog 74 #[.complex .f64 x0 y0, .complex .f64 x1 y1] w fun r w' => (∃ z, r = .returned (.float .f64 z) ∧ Fl z (fSpoilt (X0, Y0) (X1, Y1))) ∧ Below w.heap.size w w' := by
 go_enter Tryz.func74, Tryz.ntmps74
 have B0 := Below.refl w.heap.size w
 have c1 := c_eq hx0 (fl_some (b := 0) (by decide) (by decide))
 have d1 := c_eq hy0 (fl_some (b := 0) (by decide) (by decide))
 cases hk2 : (feq X0 (some 0) && feq Y0 (some 0))
 ·have k1 : ((FloatKind.f64.format.order x0 0 == some .eq) && (FloatKind.f64.format.order y0 0 == some .eq)) = false := by rw [c1, d1]; exact hk2
  clear c1 d1
  have c3 := c_eq hx1 (fl_some (b := 0) (by decide) (by decide))
  have d3 := c_eq hy1 (fl_some (b := 0) (by decide) (by decide))
  cases hk4 : (feq X1 (some 0) && feq Y1 (some 0))
  ·have k3 : ((FloatKind.f64.format.order x1 0 == some .eq) && (FloatKind.f64.format.order y1 0 == some .eq)) = false := by rw [c3, d3]; exact hk4
   clear c3 d3
   obtain ⟨z5, u5, e5, a5, hb5⟩ := run_fop Tryz.prog (w) .mul 30 (.inr (.inr (.inl rfl))) hx0 hx1
   replace B0 := B0.trans (hb5.mono B0.size)
   clear hb5
   go_wp2_with fail
   (with_reducible refine (cabs _ a5).mono ?_)
   rintro r w1 ⟨⟨z6, rfl, a6⟩, hb1⟩
   replace B0 := B0.trans (hb1.mono B0.size)
   clear hb1
   obtain ⟨z7, u7, e7, a7, hb7⟩ := run_fop Tryz.prog (w1) .mul 30 (.inr (.inr (.inl rfl))) hy0 hy1
   replace B0 := B0.trans (hb7.mono B0.size)
   clear hb7
   go_wp2_with fail
   (with_reducible refine (cabs _ a7).mono ?_)
   rintro r w2 ⟨⟨z8, rfl, a8⟩, hb2⟩
   replace B0 := B0.trans (hb2.mono B0.size)
   clear hb2
   go_wp2_with fail
   (with_reducible refine (c_blplus _ a6 a8).mono ?_)
   rintro r w3 ⟨⟨z9, rfl, a9⟩, hb3⟩
   replace B0 := B0.trans (hb3.mono B0.size)
   clear hb3
   obtain ⟨z10, u10, e10, a10, hb10⟩ := run_fop Tryz.prog (w3) .mul 30 (.inr (.inr (.inl rfl))) hx0 hy1
   replace B0 := B0.trans (hb10.mono B0.size)
   clear hb10
   go_wp2_with fail
   (with_reducible refine (cabs _ a10).mono ?_)
   rintro r w4 ⟨⟨z11, rfl, a11⟩, hb4⟩
   replace B0 := B0.trans (hb4.mono B0.size)
   clear hb4
   obtain ⟨z12, u12, e12, a12, hb12⟩ := run_fop Tryz.prog (w4) .mul 30 (.inr (.inr (.inl rfl))) hy0 hx1
   replace B0 := B0.trans (hb12.mono B0.size)
   clear hb12
   go_wp2_with fail
   (with_reducible refine (cabs _ a12).mono ?_)
   rintro r w5 ⟨⟨z13, rfl, a13⟩, hb5⟩
   replace B0 := B0.trans (hb5.mono B0.size)
   clear hb5
   go_wp2_with fail
   (with_reducible refine (c_blplus _ a11 a13).mono ?_)
   rintro r w6 ⟨⟨z14, rfl, a14⟩, hb6⟩
   replace B0 := B0.trans (hb6.mono B0.size)
   clear hb6
   go_wp2_with fail
   (with_reducible refine (c_blplus _ a9 a14).mono ?_)
   rintro r w7 ⟨⟨z15, rfl, a15⟩, hb7⟩
   replace B0 := B0.trans (hb7.mono B0.size)
   clear hb7
   obtain ⟨z16, u16, e16, a16, hb16⟩ := run_fop Tryz.prog (w7) .mul 30 (.inr (.inr (.inl rfl))) a15 (fl_some (b := 4377498837804122112) (by decide) (by decide))
   replace B0 := B0.trans (hb16.mono B0.size)
   clear hb16
   go_wp2_with fail
   (with_reducible refine (cup _ a16).mono ?_)
   rintro r w8 ⟨⟨z17, rfl, a17⟩, hb8⟩
   replace B0 := B0.trans (hb8.mono B0.size)
   clear hb8
   go_wp2_with fail
   (with_reducible refine (c_blplus _ a17 (fl_some (b := 16) (by decide) (by decide))).mono ?_)
   rintro r w9 ⟨⟨z18, rfl, a18⟩, hb9⟩
   replace B0 := B0.trans (hb9.mono B0.size)
   clear hb9
   go_wp2
   go_ret
   exact ⟨⟨_, rfl, by simp only [fSpoilt, hk2, hk4, cond_false]; exact a18⟩, B0⟩
  ·have k3 : ((FloatKind.f64.format.order x1 0 == some .eq) && (FloatKind.f64.format.order y1 0 == some .eq)) = true := by rw [c3, d3]; exact hk4
   clear c3 d3
   go_wp2
   go_ret
   exact ⟨⟨_, rfl, by simp only [fSpoilt, hk2, hk4, cond_true, cond_false]; exact (fl_some (b := 0) (by decide) (by decide))⟩, B0⟩
 ·have k1 : ((FloatKind.f64.format.order x0 0 == some .eq) && (FloatKind.f64.format.order y0 0 == some .eq)) = true := by rw [c1, d1]; exact hk2
  clear c1 d1
  go_wp2
  go_ret
  exact ⟨⟨_, rfl, by simp only [fSpoilt, hk2, cond_true]; exact (fl_some (b := 0) (by decide) (by decide))⟩, B0⟩
def bFin (Z0 : CV) : Bool :=
 let X0 := Z0.1
 let Y0 := Z0.2
 bif cFin (X0, Y0) then (
  true)
 else (
  false)
theorem c_blfinite {x0 y0 : Nat} {X0 Y0 : FV} (w : World) (hx0 : Fl x0 X0) (hy0 : Fl y0 Y0) : Calls Tryz.prog 109 #[.complex .f64 x0 y0] w fun r w' => r = .returned (.bool (bFin (X0, Y0))) ∧ Below w.heap.size w w' := by
 go_enter Tryz.func109, Tryz.ntmps109
 have B0 := Below.refl w.heap.size w
 go_wp2_with fail
 (with_reducible refine (c_cxKind _ hx0 hy0).mono ?_)
 rintro r w1 ⟨rfl, hb1⟩
 replace B0 := B0.trans (hb1.mono B0.size)
 clear hb1
 rcases cKind_or (X0, Y0) with hk2 | hk2 | hk2
 ·rw [hk2]
  have hf2 := cFin_0 hk2
  go_wp2
  go_ret
  exact ⟨by first | (simp only [bFin, hf2, cond_true]; rfl) | (simp only [bFin, hf2, cond_true]), B0⟩
 ·rw [hk2]
  have hf2 := cFin_1 hk2
  go_wp2
  go_ret
  exact ⟨by first | (simp only [bFin, hf2, cond_false]; rfl) | (simp only [bFin, hf2, cond_false]), B0⟩
 ·rw [hk2]
  have hf2 := cFin_2 hk2
  go_wp2
  go_ret
  exact ⟨by first | (simp only [bFin, hf2, cond_false]; rfl) | (simp only [bFin, hf2, cond_false]), B0⟩
def pFin (Z0 : CV) : Bool :=
 let X0 := Z0.1
 let Y0 := Z0.2
 bif cFin (X0, Y0) then (
  true)
 else (
  false)
theorem c_pyfinite {x0 y0 : Nat} {X0 Y0 : FV} (w : World) (hx0 : Fl x0 X0) (hy0 : Fl y0 Y0) : Calls Tryz.prog 100 #[.complex .f64 x0 y0] w fun r w' => r = .returned (.bool (pFin (X0, Y0))) ∧ Below w.heap.size w w' := by
 go_enter Tryz.func100, Tryz.ntmps100
 have B0 := Below.refl w.heap.size w
 go_wp2_with fail
 (with_reducible refine (c_cxKind _ hx0 hy0).mono ?_)
 rintro r w1 ⟨rfl, hb1⟩
 replace B0 := B0.trans (hb1.mono B0.size)
 clear hb1
 rcases cKind_or (X0, Y0) with hk2 | hk2 | hk2
 ·rw [hk2]
  have hf2 := cFin_0 hk2
  go_wp2
  go_ret
  exact ⟨by first | (simp only [pFin, hf2, cond_true]; rfl) | (simp only [pFin, hf2, cond_true]), B0⟩
 ·rw [hk2]
  have hf2 := cFin_1 hk2
  go_wp2
  go_ret
  exact ⟨by first | (simp only [pFin, hf2, cond_false]; rfl) | (simp only [pFin, hf2, cond_false]), B0⟩
 ·rw [hk2]
  have hf2 := cFin_2 hk2
  go_wp2
  go_ret
  exact ⟨by first | (simp only [pFin, hf2, cond_false]; rfl) | (simp only [pFin, hf2, cond_false]), B0⟩
def pZero (Z0 : CV) : Bool :=
 let X0 := Z0.1
 let Y0 := Z0.2
 bif (feq X0 (some 0) && feq Y0 (some 0)) then (
  true)
 else (
  false)
theorem c_pyzero {x0 y0 : Nat} {X0 Y0 : FV} (w : World) (hx0 : Fl x0 X0) (hy0 : Fl y0 Y0) : Calls Tryz.prog 99 #[.complex .f64 x0 y0] w fun r w' => r = .returned (.bool (pZero (X0, Y0))) ∧ Below w.heap.size w w' := by
 go_enter Tryz.func99, Tryz.ntmps99
 have B0 := Below.refl w.heap.size w
 have c1 := c_eq hx0 (fl_some (b := 0) (by decide) (by decide))
 have d1 := c_eq hy0 (fl_some (b := 0) (by decide) (by decide))
 cases hk2 : (feq X0 (some 0) && feq Y0 (some 0))
 ·have k1 : ((FloatKind.f64.format.order x0 0 == some .eq) && (FloatKind.f64.format.order y0 0 == some .eq)) = false := by rw [c1, d1]; exact hk2
  clear c1 d1
  go_wp2
  go_ret
  exact ⟨by first | (simp only [pZero, hk2, cond_false]; rfl) | (simp only [pZero, hk2, cond_false]), B0⟩
 ·have k1 : ((FloatKind.f64.format.order x0 0 == some .eq) && (FloatKind.f64.format.order y0 0 == some .eq)) = true := by rw [c1, d1]; exact hk2
  clear c1 d1
  go_wp2
  go_ret
  exact ⟨by first | (simp only [pZero, hk2, cond_true]; rfl) | (simp only [pZero, hk2, cond_true]), B0⟩
def rFin (Z0 : CV) : Bool :=
 let X0 := Z0.1
 let Y0 := Z0.2
 let v1 := fop .sub X0 X0
 let v2 := fop .sub Y0 Y0
 let v3 := fop .sub X0 X0
 let v4 := fop .sub Y0 Y0
 bif (feq v1 v3 && feq v2 v4) then (
  bif cFin (X0, Y0) then (
   true)
  else (
   false))
 else (
  false)
theorem c_rtfinite {x0 y0 : Nat} {X0 Y0 : FV} (w : World) (hx0 : Fl x0 X0) (hy0 : Fl y0 Y0) : Calls Tryz.prog 25 #[.complex .f64 x0 y0] w fun r w' => r = .returned (.bool (rFin (X0, Y0))) ∧ Below w.heap.size w w' := by
 go_enter Tryz.func25, Tryz.ntmps25
 have B0 := Below.refl w.heap.size w
 obtain ⟨z1, y1, u1, e1, a1, b1, hb1⟩ := run_csub Tryz.prog (w) 27 hx0 hy0 hx0 hy0
 replace B0 := B0.trans (hb1.mono B0.size)
 clear hb1
 obtain ⟨z2, y2, u2, e2, a2, b2, hb2⟩ := run_csub Tryz.prog (u1) 27 hx0 hy0 hx0 hy0
 replace B0 := B0.trans (hb2.mono B0.size)
 clear hb2
 have c3 := c_eq a1 a2
 have d3 := c_eq b1 b2
 cases hk4 : (feq (fop .sub X0 X0) (fop .sub X0 X0) && feq (fop .sub Y0 Y0) (fop .sub Y0 Y0))
 ·have k3 : ((FloatKind.f64.format.order z1 z2 == some .eq) && (FloatKind.f64.format.order y1 y2 == some .eq)) = false := by rw [c3, d3]; exact hk4
  clear c3 d3
  go_wp2
  go_ret
  exact ⟨by first | (simp only [rFin, hk4, cond_false]; rfl) | (simp only [rFin, hk4, cond_false]), B0⟩
 ·have k3 : ((FloatKind.f64.format.order z1 z2 == some .eq) && (FloatKind.f64.format.order y1 y2 == some .eq)) = true := by rw [c3, d3]; exact hk4
  clear c3 d3
  go_wp2_with fail
  (with_reducible refine (c_cxKind _ hx0 hy0).mono ?_)
  rintro r w1 ⟨rfl, hb1⟩
  replace B0 := B0.trans (hb1.mono B0.size)
  clear hb1
  rcases cKind_or (X0, Y0) with hk6 | hk6 | hk6
  ·rw [hk6]
   have hf6 := cFin_0 hk6
   go_wp2
   go_ret
   exact ⟨by first | (simp only [rFin, hk4, hf6, cond_true]; rfl) | (simp only [rFin, hk4, hf6, cond_true]), B0⟩
  ·rw [hk6]
   have hf6 := cFin_1 hk6
   go_wp2
   go_ret
   exact ⟨by first | (simp only [rFin, hk4, hf6, cond_true, cond_false]; rfl) | (simp only [rFin, hk4, hf6, cond_true, cond_false]), B0⟩
  ·rw [hk6]
   have hf6 := cFin_2 hk6
   go_wp2
   go_ret
   exact ⟨by first | (simp only [rFin, hk4, hf6, cond_true, cond_false]; rfl) | (simp only [rFin, hk4, hf6, cond_true, cond_false]), B0⟩
end Go.Proofs.YtfdnbogbankjjaaGreatDoor
