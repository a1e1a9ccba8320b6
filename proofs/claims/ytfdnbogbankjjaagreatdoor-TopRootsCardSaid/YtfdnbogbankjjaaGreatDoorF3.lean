/- Complex numbers: the walks of cplx, by what the floats are worth. (printed by gen_f3.py) -/
import Derived.Test.YtfdnbogbankjjaaGreatDoorG3
namespace Go.Proofs.YtfdnbogbankjjaaGreatDoor
open Go Go.RowKit Go.PlainAid Fil

def cInf1 (Z0 : FV) : Bool :=
 let X0 := Z0
 bif (fisinf X0) then (
  true)
 else (
  false)
theorem c_cxinfinite {x0 : Nat} {X0 : FV} (w : World) (hx0 : Fl x0 X0) : Calls Tryz.prog 101 #[.float .f64 x0] w fun r w' => r = .returned (.bool (cInf1 X0)) ∧ Below w.heap.size w w' := by
 go_enter Tryz.func101, Tryz.ntmps101
 have B0 := Below.refl w.heap.size w
 go_wp2_with fail
 (with_reducible refine (cisinf _ hx0).mono ?_)
 rintro r w1 ⟨rfl, hb1⟩
 replace B0 := B0.trans (hb1.mono B0.size)
 clear hb1
 cases hk2 : fisinf X0
 ·go_wp2
  go_ret
  exact ⟨by first | (simp only [cInf1, hk2, cond_false]; rfl) | (simp only [cInf1, hk2, cond_false]), B0⟩
 ·go_wp2
  go_ret
  exact ⟨by first | (simp only [cInf1, hk2, cond_true]; rfl) | (simp only [cInf1, hk2, cond_true]), B0⟩
def cNaN (Z0 : FV) : Bool :=
 let X0 := Z0
 bif feq X0 X0 then (
  false)
 else (
  true)
theorem c_cxnan {x0 : Nat} {X0 : FV} (w : World) (hx0 : Fl x0 X0) : Calls Tryz.prog 102 #[.float .f64 x0] w fun r w' => r = .returned (.bool (cNaN X0)) ∧ Below w.heap.size w w' := by
 go_enter Tryz.func102, Tryz.ntmps102
 have B0 := Below.refl w.heap.size w
 have c1 := c_ne hx0 hx0
 cases hk2 : feq X0 X0
 ·rw [hk2] at c1
  go_wp2
  go_ret
  exact ⟨by first | (simp only [cNaN, hk2, cond_false]; rfl) | (simp only [cNaN, hk2, cond_false]), B0⟩
 ·rw [hk2] at c1
  go_wp2
  go_ret
  exact ⟨by first | (simp only [cNaN, hk2, cond_true]; rfl) | (simp only [cNaN, hk2, cond_true]), B0⟩
def cKind (Z0 : CV) : Int :=
 let X0 := Z0.1
 let Y0 := Z0.2
 bif (cInf1 X0) then (
  1)
 else (
  bif (cInf1 Y0) then (
   1)
  else (
   bif (cNaN X0) then (
    2)
   else (
    bif (cNaN Y0) then (
     2)
    else (
     0))))
theorem c_cxKind {x0 y0 : Nat} {X0 Y0 : FV} (w : World) (hx0 : Fl x0 X0) (hy0 : Fl y0 Y0) : Calls Tryz.prog 61 #[.complex .f64 x0 y0] w fun r w' => r = .returned (.int .u8 (cKind (X0, Y0))) ∧ Below w.heap.size w w' := by
 go_enter Tryz.func61, Tryz.ntmps61
 have B0 := Below.refl w.heap.size w
 go_wp2_with fail
 (with_reducible refine (c_cxinfinite _ hx0).mono ?_)
 rintro r w1 ⟨rfl, hb1⟩
 replace B0 := B0.trans (hb1.mono B0.size)
 clear hb1
 cases hk2 : cInf1 X0
 ·go_wp2_with fail
  (with_reducible refine (c_cxinfinite _ hy0).mono ?_)
  rintro r w2 ⟨rfl, hb2⟩
  replace B0 := B0.trans (hb2.mono B0.size)
  clear hb2
  cases hk4 : cInf1 Y0
  ·go_wp2_with fail
   (with_reducible refine (c_cxnan _ hx0).mono ?_)
   rintro r w3 ⟨rfl, hb3⟩
   replace B0 := B0.trans (hb3.mono B0.size)
   clear hb3
   cases hk6 : cNaN X0
   ·go_wp2_with fail
    (with_reducible refine (c_cxnan _ hy0).mono ?_)
    rintro r w4 ⟨rfl, hb4⟩
    replace B0 := B0.trans (hb4.mono B0.size)
    clear hb4
    cases hk8 : cNaN Y0
    ·go_wp2
     go_ret
     exact ⟨by first | (simp only [cKind, hk2, hk4, hk6, hk8, cond_false]; rfl) | (simp only [cKind, hk2, hk4, hk6, hk8, cond_false]), B0⟩
    ·go_wp2
     go_ret
     exact ⟨by first | (simp only [cKind, hk2, hk4, hk6, hk8, cond_true, cond_false]; rfl) | (simp only [cKind, hk2, hk4, hk6, hk8, cond_true, cond_false]), B0⟩
   ·go_wp2
    go_ret
    exact ⟨by first | (simp only [cKind, hk2, hk4, hk6, cond_true, cond_false]; rfl) | (simp only [cKind, hk2, hk4, hk6, cond_true, cond_false]), B0⟩
  ·go_wp2
   go_ret
   exact ⟨by first | (simp only [cKind, hk2, hk4, cond_true, cond_false]; rfl) | (simp only [cKind, hk2, hk4, cond_true, cond_false]), B0⟩
 ·go_wp2
  go_ret
  exact ⟨by first | (simp only [cKind, hk2, cond_true]; rfl) | (simp only [cKind, hk2, cond_true]), B0⟩
def cFin (Z : CV) : Bool := decide (cKind Z = 0)
theorem cKind_or (Z : CV) : cKind Z = 0 ∨ cKind Z = 1 ∨ cKind Z = 2 := by
 simp only [cKind]
 cases cInf1 Z.1 <;> cases cInf1 Z.2 <;> cases cNaN Z.1 <;> cases cNaN Z.2 <;> simp
theorem cFin_0 {Z : CV} (h : cKind Z = 0) : cFin Z = true := decide_eq_true h
theorem cFin_1 {Z : CV} (h : cKind Z = 1) : cFin Z = false := decide_eq_false (by rw [h]; decide)
theorem cFin_2 {Z : CV} (h : cKind Z = 2) : cFin Z = false := decide_eq_false (by rw [h]; decide)
def cNeg (Z0 : CV) : CV :=
 let X0 := Z0.1
 let Y0 := Z0.2
 let v1 := fneg X0
 let v2 := fneg Y0
 (v1, v2)
theorem c_cxNeg {x0 y0 : Nat} {X0 Y0 : FV} (w : World) (hx0 : Fl x0 X0) (hy0 : Fl y0 Y0) : Calls Tryz.prog 71 #[.complex .f64 x0 y0] w fun r w' => (∃ z y, r = .returned (.complex .f64 z y) ∧ Fl z (cNeg (X0, Y0)).1 ∧ Fl y (cNeg (X0, Y0)).2) ∧ Below w.heap.size w w' := by
 go_enter Tryz.func71, Tryz.ntmps71
 have B0 := Below.refl w.heap.size w
 obtain ⟨z1, e1, a1⟩ := fneg_fl hx0
 replace e1 := e1 Tryz.prog
 obtain ⟨z2, e2, a2⟩ := fneg_fl hy0
 replace e2 := e2 Tryz.prog
 go_wp2
 go_ret
 exact ⟨⟨_, _, rfl, by exact a1, by exact a2⟩, B0⟩
def cAdd (Z0 : CV) (Z1 : CV) : CV :=
 let X0 := Z0.1
 let Y0 := Z0.2
 let X1 := Z1.1
 let Y1 := Z1.2
 let v1 := fop .add X0 X1
 let v2 := fop .add Y0 Y1
 (v1, v2)
theorem c_cxAdd {x0 y0 x1 y1 : Nat} {X0 Y0 X1 Y1 : FV} (w : World) (hx0 : Fl x0 X0) (hy0 : Fl y0 Y0) (hx1 : Fl x1 X1) (hy1 : Fl y1 Y1) : Calls Tryz.prog 106 #[.complex .f64 x0 y0, .complex .f64 x1 y1] w fun r w' => (∃ z y, r = .returned (.complex .f64 z y) ∧ Fl z (cAdd (X0, Y0) (X1, Y1)).1 ∧ Fl y (cAdd (X0, Y0) (X1, Y1)).2) ∧ Below w.heap.size w w' := by
 go_enter Tryz.func106, Tryz.ntmps106
 have B0 := Below.refl w.heap.size w
 obtain ⟨z1, u1, e1, a1, hb1⟩ := run_fop Tryz.prog (w) .add 30 (.inl rfl) hx0 hx1
 replace B0 := B0.trans (hb1.mono B0.size)
 clear hb1
 obtain ⟨z2, u2, e2, a2, hb2⟩ := run_fop Tryz.prog (u1) .add 30 (.inl rfl) hy0 hy1
 replace B0 := B0.trans (hb2.mono B0.size)
 clear hb2
 go_wp2
 go_ret
 exact ⟨⟨_, _, rfl, by exact a1, by exact a2⟩, B0⟩
def cSub (Z0 : CV) (Z1 : CV) : CV :=
 let X0 := Z0.1
 let Y0 := Z0.2
 let X1 := Z1.1
 let Y1 := Z1.2
 let v1 := fop .sub X0 X1
 let v2 := fop .sub Y0 Y1
 (v1, v2)
theorem c_cxSub {x0 y0 x1 y1 : Nat} {X0 Y0 X1 Y1 : FV} (w : World) (hx0 : Fl x0 X0) (hy0 : Fl y0 Y0) (hx1 : Fl x1 X1) (hy1 : Fl y1 Y1) : Calls Tryz.prog 29 #[.complex .f64 x0 y0, .complex .f64 x1 y1] w fun r w' => (∃ z y, r = .returned (.complex .f64 z y) ∧ Fl z (cSub (X0, Y0) (X1, Y1)).1 ∧ Fl y (cSub (X0, Y0) (X1, Y1)).2) ∧ Below w.heap.size w w' := by
 go_enter Tryz.func29, Tryz.ntmps29
 have B0 := Below.refl w.heap.size w
 obtain ⟨z1, u1, e1, a1, hb1⟩ := run_fop Tryz.prog (w) .sub 30 (.inr (.inl rfl)) hx0 hx1
 replace B0 := B0.trans (hb1.mono B0.size)
 clear hb1
 obtain ⟨z2, u2, e2, a2, hb2⟩ := run_fop Tryz.prog (u1) .sub 30 (.inr (.inl rfl)) hy0 hy1
 replace B0 := B0.trans (hb2.mono B0.size)
 clear hb2
 go_wp2
 go_ret
 exact ⟨⟨_, _, rfl, by exact a1, by exact a2⟩, B0⟩
def cScale (Z0 : CV) (Z1 : FV) : CV :=
 let X0 := Z0.1
 let Y0 := Z0.2
 let X1 := Z1
 let v1 := fop .mul X0 X1
 let v2 := fop .mul Y0 X1
 (v1, v2)
theorem c_cxScale {x0 y0 x1 : Nat} {X0 Y0 X1 : FV} (w : World) (hx0 : Fl x0 X0) (hy0 : Fl y0 Y0) (hx1 : Fl x1 X1) : Calls Tryz.prog 107 #[.complex .f64 x0 y0, .float .f64 x1] w fun r w' => (∃ z y, r = .returned (.complex .f64 z y) ∧ Fl z (cScale (X0, Y0) X1).1 ∧ Fl y (cScale (X0, Y0) X1).2) ∧ Below w.heap.size w w' := by
 go_enter Tryz.func107, Tryz.ntmps107
 have B0 := Below.refl w.heap.size w
 obtain ⟨z1, u1, e1, a1, hb1⟩ := run_fop Tryz.prog (w) .mul 30 (.inr (.inr (.inl rfl))) hx0 hx1
 replace B0 := B0.trans (hb1.mono B0.size)
 clear hb1
 obtain ⟨z2, u2, e2, a2, hb2⟩ := run_fop Tryz.prog (u1) .mul 30 (.inr (.inr (.inl rfl))) hy0 hx1
 replace B0 := B0.trans (hb2.mono B0.size)
 clear hb2
 go_wp2
 go_ret
 exact ⟨⟨_, _, rfl, by exact a1, by exact a2⟩, B0⟩
def cMul (Z0 : CV) (Z1 : CV) : CV :=
 let X0 := Z0.1
 let Y0 := Z0.2
 let X1 := Z1.1
 let Y1 := Z1.2
 let v1 := fop .mul X0 X1
 let v2 := fop .mul Y0 Y1
 let v3 := fop .sub v1 v2
 let v4 := fop .mul X0 Y1
 let v5 := fop .mul Y0 X1
 let v6 := fop .add v4 v5
 (v3, v6)
theorem c_cxMul {x0 y0 x1 y1 : Nat} {X0 Y0 X1 Y1 : FV} (w : World) (hx0 : Fl x0 X0) (hy0 : Fl y0 Y0) (hx1 : Fl x1 X1) (hy1 : Fl y1 Y1) : Calls Tryz.prog 58 #[.complex .f64 x0 y0, .complex .f64 x1 y1] w fun r w' => (∃ z y, r = .returned (.complex .f64 z y) ∧ Fl z (cMul (X0, Y0) (X1, Y1)).1 ∧ Fl y (cMul (X0, Y0) (X1, Y1)).2) ∧ Below w.heap.size w w' := by
 go_enter Tryz.func58, Tryz.ntmps58
 have B0 := Below.refl w.heap.size w
 obtain ⟨z1, u1, e1, a1, hb1⟩ := run_fop Tryz.prog (w) .mul 30 (.inr (.inr (.inl rfl))) hx0 hx1
 replace B0 := B0.trans (hb1.mono B0.size)
 clear hb1
 obtain ⟨z2, u2, e2, a2, hb2⟩ := run_fop Tryz.prog (u1) .mul 30 (.inr (.inr (.inl rfl))) hy0 hy1
 replace B0 := B0.trans (hb2.mono B0.size)
 clear hb2
 obtain ⟨z3, u3, e3, a3, hb3⟩ := run_fop Tryz.prog (u2) .sub 30 (.inr (.inl rfl)) a1 a2
 replace B0 := B0.trans (hb3.mono B0.size)
 clear hb3
 obtain ⟨z4, u4, e4, a4, hb4⟩ := run_fop Tryz.prog (u3) .mul 30 (.inr (.inr (.inl rfl))) hx0 hy1
 replace B0 := B0.trans (hb4.mono B0.size)
 clear hb4
 obtain ⟨z5, u5, e5, a5, hb5⟩ := run_fop Tryz.prog (u4) .mul 30 (.inr (.inr (.inl rfl))) hy0 hx1
 replace B0 := B0.trans (hb5.mono B0.size)
 clear hb5
 obtain ⟨z6, u6, e6, a6, hb6⟩ := run_fop Tryz.prog (u5) .add 30 (.inl rfl) a4 a5
 replace B0 := B0.trans (hb6.mono B0.size)
 clear hb6
 go_wp2
 go_ret
 exact ⟨⟨_, _, rfl, by exact a3, by exact a6⟩, B0⟩
def cQuo (Z0 : CV) (Z1 : CV) : CV :=
 let X0 := Z0.1
 let Y0 := Z0.2
 let X1 := Z1.1
 let Y1 := Z1.2
 let v1 := fabs X1
 let v2 := fabs Y1
 bif fge v1 v2 then (
  let v3 := fop .quo Y1 X1
  let v4 := fop .mul Y1 v3
  let v5 := fop .add X1 v4
  let v6 := fop .mul Y0 v3
  let v7 := fop .add X0 v6
  let v8 := fop .mul X0 v3
  let v9 := fop .sub Y0 v8
  let v10 := fop .quo v7 v5
  let v11 := fop .quo v9 v5
  (v10, v11))
 else (
  let v3 := fop .quo X1 Y1
  let v4 := fop .mul X1 v3
  let v5 := fop .add Y1 v4
  let v6 := fop .mul X0 v3
  let v7 := fop .add v6 Y0
  let v8 := fop .mul Y0 v3
  let v9 := fop .sub v8 X0
  let v10 := fop .quo v7 v5
  let v11 := fop .quo v9 v5
  (v10, v11))
theorem c_cxQuo {x0 y0 x1 y1 : Nat} {X0 Y0 X1 Y1 : FV} (w : World) (hx0 : Fl x0 X0) (hy0 : Fl y0 Y0) (hx1 : Fl x1 X1) (hy1 : Fl y1 Y1) : Calls Tryz.prog 28 #[.complex .f64 x0 y0, .complex .f64 x1 y1] w fun r w' => (∃ z y, r = .returned (.complex .f64 z y) ∧ Fl z (cQuo (X0, Y0) (X1, Y1)).1 ∧ Fl y (cQuo (X0, Y0) (X1, Y1)).2) ∧ Below w.heap.size w w' := by
 go_enter Tryz.func28, Tryz.ntmps28
 have B0 := Below.refl w.heap.size w
 go_wp2_with fail
 (with_reducible refine (cabs _ hx1).mono ?_)
 rintro r w1 ⟨⟨z1, rfl, a1⟩, hb1⟩
 replace B0 := B0.trans (hb1.mono B0.size)
 clear hb1
 go_wp2_with fail
 (with_reducible refine (cabs _ hy1).mono ?_)
 rintro r w2 ⟨⟨z2, rfl, a2⟩, hb2⟩
 replace B0 := B0.trans (hb2.mono B0.size)
 clear hb2
 have c3 := c_ge a1 a2
 cases hk4 : fge (fabs X1) (fabs Y1)
 ·rw [hk4] at c3
  obtain ⟨z5, u5, e5, a5, hb5⟩ := run_fop Tryz.prog (w2) .quo 30 (.inr (.inr (.inr rfl))) hx1 hy1
  replace B0 := B0.trans (hb5.mono B0.size)
  clear hb5
  obtain ⟨z6, u6, e6, a6, hb6⟩ := run_fop Tryz.prog (u5) .mul 30 (.inr (.inr (.inl rfl))) hx1 a5
  replace B0 := B0.trans (hb6.mono B0.size)
  clear hb6
  obtain ⟨z7, u7, e7, a7, hb7⟩ := run_fop Tryz.prog (u6) .add 30 (.inl rfl) hy1 a6
  replace B0 := B0.trans (hb7.mono B0.size)
  clear hb7
  obtain ⟨z8, u8, e8, a8, hb8⟩ := run_fop Tryz.prog (u7) .mul 30 (.inr (.inr (.inl rfl))) hx0 a5
  replace B0 := B0.trans (hb8.mono B0.size)
  clear hb8
  obtain ⟨z9, u9, e9, a9, hb9⟩ := run_fop Tryz.prog (u8) .add 30 (.inl rfl) a8 hy0
  replace B0 := B0.trans (hb9.mono B0.size)
  clear hb9
  obtain ⟨z10, u10, e10, a10, hb10⟩ := run_fop Tryz.prog (u9) .mul 30 (.inr (.inr (.inl rfl))) hy0 a5
  replace B0 := B0.trans (hb10.mono B0.size)
  clear hb10
  obtain ⟨z11, u11, e11, a11, hb11⟩ := run_fop Tryz.prog (u10) .sub 30 (.inr (.inl rfl)) a10 hx0
  replace B0 := B0.trans (hb11.mono B0.size)
  clear hb11
  obtain ⟨z12, u12, e12, a12, hb12⟩ := run_fop Tryz.prog (u11) .quo 30 (.inr (.inr (.inr rfl))) a9 a7
  replace B0 := B0.trans (hb12.mono B0.size)
  clear hb12
  obtain ⟨z13, u13, e13, a13, hb13⟩ := run_fop Tryz.prog (u12) .quo 30 (.inr (.inr (.inr rfl))) a11 a7
  replace B0 := B0.trans (hb13.mono B0.size)
  clear hb13
  go_wp2
  go_ret
  exact ⟨⟨_, _, rfl, by simp only [cQuo, hk4, cond_false]; exact a12, by simp only [cQuo, hk4, cond_false]; exact a13⟩, B0⟩
 ·rw [hk4] at c3
  obtain ⟨z5, u5, e5, a5, hb5⟩ := run_fop Tryz.prog (w2) .quo 30 (.inr (.inr (.inr rfl))) hy1 hx1
  replace B0 := B0.trans (hb5.mono B0.size)
  clear hb5
  obtain ⟨z6, u6, e6, a6, hb6⟩ := run_fop Tryz.prog (u5) .mul 30 (.inr (.inr (.inl rfl))) hy1 a5
  replace B0 := B0.trans (hb6.mono B0.size)
  clear hb6
  obtain ⟨z7, u7, e7, a7, hb7⟩ := run_fop Tryz.prog (u6) .add 30 (.inl rfl) hx1 a6
  replace B0 := B0.trans (hb7.mono B0.size)
  clear hb7
  obtain ⟨z8, u8, e8, a8, hb8⟩ := run_fop Tryz.prog (u7) .mul 30 (.inr (.inr (.inl rfl))) hy0 a5
  replace B0 := B0.trans (hb8.mono B0.size)
  clear hb8
  obtain ⟨z9, u9, e9, a9, hb9⟩ := run_fop Tryz.prog (u8) .add 30 (.inl rfl) hx0 a8
  replace B0 := B0.trans (hb9.mono B0.size)
  clear hb9
  obtain ⟨z10, u10, e10, a10, hb10⟩ := run_fop Tryz.prog (u9) .mul 30 (.inr (.inr (.inl rfl))) hx0 a5
  replace B0 := B0.trans (hb10.mono B0.size)
  clear hb10
  obtain ⟨z11, u11, e11, a11, hb11⟩ := run_fop Tryz.prog (u10) .sub 30 (.inr (.inl rfl)) hy0 a10
  replace B0 := B0.trans (hb11.mono B0.size)
  clear hb11
  obtain ⟨z12, u12, e12, a12, hb12⟩ := run_fop Tryz.prog (u11) .quo 30 (.inr (.inr (.inr rfl))) a9 a7
  replace B0 := B0.trans (hb12.mono B0.size)
  clear hb12
  obtain ⟨z13, u13, e13, a13, hb13⟩ := run_fop Tryz.prog (u12) .quo 30 (.inr (.inr (.inr rfl))) a11 a7
  replace B0 := B0.trans (hb13.mono B0.size)
  clear hb13
  go_wp2
  go_ret
  exact ⟨⟨_, _, rfl, by simp only [cQuo, hk4, cond_true]; exact a12, by simp only [cQuo, hk4, cond_true]; exact a13⟩, B0⟩
def cSame (Z0 : CV) (Z1 : CV) : Bool :=
 let X0 := Z0.1
 let Y0 := Z0.2
 let X1 := Z1.1
 let Y1 := Z1.2
 bif (fLike X0 X1) then (
  bif (fLike Y0 Y1) then (
   true)
  else (
   false))
 else (
  false)
theorem c_cxSame {x0 y0 x1 y1 : Nat} {X0 Y0 X1 Y1 : FV} (w : World) (hx0 : Fl x0 X0) (hy0 : Fl y0 Y0) (hx1 : Fl x1 X1) (hy1 : Fl y1 Y1) : Calls Tryz.prog 108 #[.complex .f64 x0 y0, .complex .f64 x1 y1] w fun r w' => r = .returned (.bool (cSame (X0, Y0) (X1, Y1))) ∧ Below w.heap.size w w' := by
 go_enter Tryz.func108, Tryz.ntmps108
 have B0 := Below.refl w.heap.size w
 go_wp2_with fail
 (with_reducible refine (clike _ hx0 hx1).mono ?_)
 rintro r w1 ⟨rfl, hb1⟩
 replace B0 := B0.trans (hb1.mono B0.size)
 clear hb1
 cases hk2 : fLike X0 X1
 ·go_wp2
  go_ret
  exact ⟨by first | (simp only [cSame, hk2, cond_false]; rfl) | (simp only [cSame, hk2, cond_false]), B0⟩
 ·go_wp2_with fail
  (with_reducible refine (clike _ hy0 hy1).mono ?_)
  rintro r w2 ⟨rfl, hb2⟩
  replace B0 := B0.trans (hb2.mono B0.size)
  clear hb2
  cases hk4 : fLike Y0 Y1
  ·go_wp2
   go_ret
   exact ⟨by first | (simp only [cSame, hk2, hk4, cond_true, cond_false]; rfl) | (simp only [cSame, hk2, hk4, cond_true, cond_false]), B0⟩
  ·go_wp2
   go_ret
   exact ⟨by first | (simp only [cSame, hk2, hk4, cond_true]; rfl) | (simp only [cSame, hk2, hk4, cond_true]), B0⟩
def cSizes (Z0 : CV) : FV × FV :=
 let X0 := Z0.1
 let Y0 := Z0.2
 let v1 := fabs X0
 let v2 := fabs Y0
 bif flt v1 v2 then (
  (v2, v1))
 else (
  (v1, v2))
theorem c_cxsizes {x0 y0 : Nat} {X0 Y0 : FV} (w : World) (hx0 : Fl x0 X0) (hy0 : Fl y0 Y0) : Calls Tryz.prog 76 #[.complex .f64 x0 y0] w fun r w' => (∃ z y, r = .returned (.tuple #[.float .f64 z, .float .f64 y]) ∧ Fl z (cSizes (X0, Y0)).1 ∧ Fl y (cSizes (X0, Y0)).2) ∧ Below w.heap.size w w' := by
 go_enter Tryz.func76, Tryz.ntmps76
 have B0 := Below.refl w.heap.size w
 go_wp2_with fail
 (with_reducible refine (cabs _ hx0).mono ?_)
 rintro r w1 ⟨⟨z1, rfl, a1⟩, hb1⟩
 replace B0 := B0.trans (hb1.mono B0.size)
 clear hb1
 go_wp2_with fail
 (with_reducible refine (cabs _ hy0).mono ?_)
 rintro r w2 ⟨⟨z2, rfl, a2⟩, hb2⟩
 replace B0 := B0.trans (hb2.mono B0.size)
 clear hb2
 have c3 := c_lt a1 a2
 cases hk4 : flt (fabs X0) (fabs Y0)
 ·rw [hk4] at c3
  go_wp2
  go_ret2
  exact ⟨⟨_, _, rfl, by simp only [cSizes, hk4, cond_false]; exact a1, by simp only [cSizes, hk4, cond_false]; exact a2⟩, B0⟩
 ·rw [hk4] at c3
  go_wp2
  go_ret2
  exact ⟨⟨_, _, rfl, by simp only [cSizes, hk4, cond_true]; exact a2, by simp only [cSizes, hk4, cond_true]; exact a1⟩, B0⟩
end Go.Proofs.YtfdnbogbankjjaaGreatDoor
