/- Balls: the walks of ball, by what the floats are worth. (printed by gen_f5.py) -/
import Derived.Test.YtfdnbogbankjjaaGreatDoorF4
import Derived.ScopeJumps
namespace Go.Proofs.YtfdnbogbankjjaaGreatDoor
open Go Go.RowKit Go.PlainAid Fil

theorem Blk.ce2 {w : World} {b : Nat} {v0 v1 : Value} {t : TypeId} (h : Blk w b #[v0, v1] t) : w.cell? ⟨b, 0, none⟩ = some v0 ∧ w.cell? ⟨b, 1, none⟩ = some v1 := ⟨Blk.at h 0 (by simp), Blk.at h 1 (by simp)⟩
theorem Blk.fr2 {w : World} {b : Nat} {v0 v1 : Value} {t : TypeId} (h : Blk w b #[v0, v1] t) : w.frozen? ⟨b, 0, none⟩ = false ∧ w.frozen? ⟨b, 1, none⟩ = false := ⟨Blk.free h 0, Blk.free h 1⟩
theorem jump_ret {l : Nat} {J : Act → World → Prop} {Q : Exit → Act → World → Prop} {a : Act} {w : World} : Exit.jump l J Q .ret a w = Q .ret a w := rfl
/-- a scope with one label, to which the run jumps forward once at most -/
theorem wp_scope_fwd {P : Program} {a : Act} {w : World} {Q : Exit → Act → World → Prop} {c rest : Code} (l : Nat) (hf : findLabel c l = some rest)
  (first : c.wp P (Exit.jump l (fun a w => rest.wp P (Exit.noGoto Q) a w) Q) a w) : (Code.scope c).wp P Q a w := by
 refine wp_scope_jumps l (fun a w => rest.wp P (Exit.noGoto Q) a w) (fun _ _ => 0) hf first fun a w h => ?_
 intro b k cs
 obtain ⟨e, a1, w1, hq, harr⟩ := h b k cs
 cases e with
 | goto l' => exact absurd hq (by simp [Exit.noGoto])
 | normal => exact ⟨.normal, a1, w1, hq, harr⟩
 | exit id => exact ⟨.exit id, a1, w1, hq, harr⟩
 | ret => exact ⟨.ret, a1, w1, hq, harr⟩
 | panic ch => exact ⟨.panic ch, a1, w1, hq, harr⟩
 | outgrown => exact ⟨.outgrown, a1, w1, hq, harr⟩
def bWhole  : BV :=
 let v1 := (some 9218868437227405312)
 (((some 0), (some 0)), v1)
theorem c_blWhole (w : World)  : Calls Tryz.prog 70 #[] w fun r w' => (∃ z y t, r = .returned (.agg #[.complex .f64 z y, .float .f64 t]) ∧ Fl z (bWhole).1.1 ∧ Fl y (bWhole).1.2 ∧ Fl t (bWhole).2) ∧ Below w.heap.size w w' := by
 go_enter Tryz.func70, Tryz.ntmps70
 have B0 := Below.refl w.heap.size w
 have hst1 := fun (a : Addr) (v : Nat) (m : Mode) (W : World) => (run_store Tryz.prog W a (.float .f64 v) m rfl : (store a (.float .f64 v) m).run Tryz.prog W = stored Tryz.prog W a (.float .f64 v) m)
 have hst2 := fun (a : Addr) (u v : Nat) (m : Mode) (W : World) => (run_store Tryz.prog W a (.complex .f64 u v) m rfl : (store a (.complex .f64 u v) m).run Tryz.prog W = stored Tryz.prog W a (.complex .f64 u v) m)
 have q_w_F0 : Hid (w.heap.size ≤ w.heap.size) := Lib.hid (by omega)
 have F0 := Blk.put (w) #[.complex .f64 0 0, .float .f64 0] 32
 replace B0 := B0.alloc B0.size (.cells #[.complex .f64 0 0, .float .f64 0] 32)
 go_wp2_with fail
 (with_reducible refine (cinf _).mono ?_)
 rintro r w1 ⟨⟨z1, rfl, a1⟩, hb1⟩
 replace F0 := F0.keep hb1
 replace B0 := B0.trans (hb1.mono B0.size)
 clear hb1
 obtain ⟨xF01_0, xF01_1⟩ := F0.ce2
 obtain ⟨xF01_0f, xF01_1f⟩ := F0.fr2
 replace F0 : Blk (((w1).setCell ⟨w.heap.size, 0, none⟩ (.complex .f64 0 0)).setCell ⟨w.heap.size, 1, none⟩ (.float .f64 z1)) (w.heap.size) #[.complex .f64 0 0, .float .f64 z1] 32 := ((F0.setAt 0 (.complex .f64 0 0)).setAt 1 (.float .f64 z1))
 replace B0 := ((B0.setCell (p := ⟨w.heap.size, 0, none⟩) q_w_F0.out (.complex .f64 0 0)).setCell (p := ⟨w.heap.size, 1, none⟩) q_w_F0.out (.float .f64 z1))
 obtain ⟨xF02_0, xF02_1⟩ := F0.ce2
 go_wp2
 exact bodyPost_ret (v := .agg #[.complex .f64 0 0, .float .f64 z1]) (by simp [results, Tryz.results70, go_sem, xF02_0, xF02_1]) rfl ⟨⟨_, _, _, rfl, by exact (fl_some (b := 0) (by decide) (by decide)), by exact (fl_some (b := 0) (by decide) (by decide)), by exact a1⟩, B0⟩
def bTold (Z0 : CV) (Z1 : FV) : BV :=
 let X0 := Z0.1
 let Y0 := Z0.2
 let X1 := Z1
 bif (bFin (X0, Y0)) then (
  bif (fFin X1) then (
   ((X0, Y0), X1))
  else (
   let v1 := bWhole
   ((v1.1.1, v1.1.2), v1.2)))
 else (
  let v1 := bWhole
  ((v1.1.1, v1.1.2), v1.2))
theorem c_bltold {x0 y0 x1 : Nat} {X0 Y0 X1 : FV} (w : World) (hx0 : Fl x0 X0) (hy0 : Fl y0 Y0) (hx1 : Fl x1 X1) : Calls Tryz.prog 69 #[.complex .f64 x0 y0, .float .f64 x1] w fun r w' => (∃ z y t, r = .returned (.agg #[.complex .f64 z y, .float .f64 t]) ∧ Fl z (bTold (X0, Y0) X1).1.1 ∧ Fl y (bTold (X0, Y0) X1).1.2 ∧ Fl t (bTold (X0, Y0) X1).2) ∧ Below w.heap.size w w' := by
 go_enter Tryz.func69, Tryz.ntmps69
 have B0 := Below.refl w.heap.size w
 have hst1 := fun (a : Addr) (v : Nat) (m : Mode) (W : World) => (run_store Tryz.prog W a (.float .f64 v) m rfl : (store a (.float .f64 v) m).run Tryz.prog W = stored Tryz.prog W a (.float .f64 v) m)
 have hst2 := fun (a : Addr) (u v : Nat) (m : Mode) (W : World) => (run_store Tryz.prog W a (.complex .f64 u v) m rfl : (store a (.complex .f64 u v) m).run Tryz.prog W = stored Tryz.prog W a (.complex .f64 u v) m)
 have q_w_F4 : Hid (w.heap.size ≤ w.heap.size) := Lib.hid (by omega)
 have F4 := Blk.put (w) #[.complex .f64 0 0, .float .f64 0] 32
 replace B0 := B0.alloc B0.size (.cells #[.complex .f64 0 0, .float .f64 0] 32)
 go_wp2_with fail
 refine wp_scope_fwd 0 rfl ?_
 go_wp2_with fail
 (with_reducible refine (c_blfinite _ hx0 hy0).mono ?_)
 rintro r w1 ⟨rfl, hb1⟩
 replace F4 := F4.keep hb1
 replace B0 := B0.trans (hb1.mono B0.size)
 clear hb1
 cases hk2 : bFin (X0, Y0)
 ·go_wp2_with fail
  go_step3
  refine ⟨rfl, ?_⟩
  go_wp2_with fail
  (with_reducible refine (c_blWhole _).mono ?_)
  rintro r w2 ⟨⟨z3, y3, t3, rfl, a3, b3, d3⟩, hb2⟩
  replace F4 := F4.keep hb2
  replace B0 := B0.trans (hb2.mono B0.size)
  clear hb2
  obtain ⟨xF42_0, xF42_1⟩ := F4.ce2
  obtain ⟨xF42_0f, xF42_1f⟩ := F4.fr2
  replace F4 : Blk (((w2).setCell ⟨w.heap.size, 0, none⟩ (.complex .f64 z3 y3)).setCell ⟨w.heap.size, 1, none⟩ (.float .f64 t3)) (w.heap.size) #[.complex .f64 z3 y3, .float .f64 t3] 32 := ((F4.setAt 0 (.complex .f64 z3 y3)).setAt 1 (.float .f64 t3))
  replace B0 := ((B0.setCell (p := ⟨w.heap.size, 0, none⟩) q_w_F4.out (.complex .f64 z3 y3)).setCell (p := ⟨w.heap.size, 1, none⟩) q_w_F4.out (.float .f64 t3))
  obtain ⟨xF43_0, xF43_1⟩ := F4.ce2
  go_wp2
  rw [Exit.noGoto_ret]
  exact bodyPost_ret (v := .agg #[.complex .f64 z3 y3, .float .f64 t3]) (by simp [results, Tryz.results69, go_sem, xF43_0, xF43_1]) rfl ⟨⟨_, _, _, rfl, by simp only [bTold, hk2, cond_false]; exact a3, by simp only [bTold, hk2, cond_false]; exact b3, by simp only [bTold, hk2, cond_false]; exact d3⟩, B0⟩
 ·go_wp2_with fail
  (with_reducible refine (c_bFinite _ hx1).mono ?_)
  rintro r w2 ⟨rfl, hb2⟩
  replace F4 := F4.keep hb2
  replace B0 := B0.trans (hb2.mono B0.size)
  clear hb2
  cases hk4 : fFin X1
  ·go_wp2_with fail
   go_step3
   refine ⟨rfl, ?_⟩
   go_wp2_with fail
   (with_reducible refine (c_blWhole _).mono ?_)
   rintro r w3 ⟨⟨z5, y5, t5, rfl, a5, b5, d5⟩, hb3⟩
   replace F4 := F4.keep hb3
   replace B0 := B0.trans (hb3.mono B0.size)
   clear hb3
   obtain ⟨xF43_0, xF43_1⟩ := F4.ce2
   obtain ⟨xF43_0f, xF43_1f⟩ := F4.fr2
   replace F4 : Blk (((w3).setCell ⟨w.heap.size, 0, none⟩ (.complex .f64 z5 y5)).setCell ⟨w.heap.size, 1, none⟩ (.float .f64 t5)) (w.heap.size) #[.complex .f64 z5 y5, .float .f64 t5] 32 := ((F4.setAt 0 (.complex .f64 z5 y5)).setAt 1 (.float .f64 t5))
   replace B0 := ((B0.setCell (p := ⟨w.heap.size, 0, none⟩) q_w_F4.out (.complex .f64 z5 y5)).setCell (p := ⟨w.heap.size, 1, none⟩) q_w_F4.out (.float .f64 t5))
   obtain ⟨xF44_0, xF44_1⟩ := F4.ce2
   go_wp2
   rw [Exit.noGoto_ret]
   exact bodyPost_ret (v := .agg #[.complex .f64 z5 y5, .float .f64 t5]) (by simp [results, Tryz.results69, go_sem, xF44_0, xF44_1]) rfl ⟨⟨_, _, _, rfl, by simp only [bTold, hk2, hk4, cond_true, cond_false]; exact a5, by simp only [bTold, hk2, hk4, cond_true, cond_false]; exact b5, by simp only [bTold, hk2, hk4, cond_true, cond_false]; exact d5⟩, B0⟩
  ·obtain ⟨xF42_0, xF42_1⟩ := F4.ce2
   obtain ⟨xF42_0f, xF42_1f⟩ := F4.fr2
   replace F4 : Blk (((w2).setCell ⟨w.heap.size, 0, none⟩ (.complex .f64 x0 y0)).setCell ⟨w.heap.size, 1, none⟩ (.float .f64 x1)) (w.heap.size) #[.complex .f64 x0 y0, .float .f64 x1] 32 := ((F4.setAt 0 (.complex .f64 x0 y0)).setAt 1 (.float .f64 x1))
   replace B0 := ((B0.setCell (p := ⟨w.heap.size, 0, none⟩) q_w_F4.out (.complex .f64 x0 y0)).setCell (p := ⟨w.heap.size, 1, none⟩) q_w_F4.out (.float .f64 x1))
   obtain ⟨xF43_0, xF43_1⟩ := F4.ce2
   go_wp2
   rw [jump_ret]
   exact bodyPost_ret (v := .agg #[.complex .f64 x0 y0, .float .f64 x1]) (by simp [results, Tryz.results69, go_sem, xF43_0, xF43_1]) rfl ⟨⟨_, _, _, rfl, by simp only [bTold, hk2, hk4, cond_true]; exact hx0, by simp only [bTold, hk2, hk4, cond_true]; exact hy0, by simp only [bTold, hk2, hk4, cond_true]; exact hx1⟩, B0⟩
def bPoint (Z0 : CV) : BV :=
 let X0 := Z0.1
 let Y0 := Z0.2
 let v1 := bTold (X0, Y0) (some 0)
 ((v1.1.1, v1.1.2), v1.2)
theorem c_blPoint {x0 y0 : Nat} {X0 Y0 : FV} (w : World) (hx0 : Fl x0 X0) (hy0 : Fl y0 Y0) : Calls Tryz.prog 31 #[.complex .f64 x0 y0] w fun r w' => (∃ z y t, r = .returned (.agg #[.complex .f64 z y, .float .f64 t]) ∧ Fl z (bPoint (X0, Y0)).1.1 ∧ Fl y (bPoint (X0, Y0)).1.2 ∧ Fl t (bPoint (X0, Y0)).2) ∧ Below w.heap.size w w' := by
 go_enter Tryz.func31, Tryz.ntmps31
 have B0 := Below.refl w.heap.size w
 have hst1 := fun (a : Addr) (v : Nat) (m : Mode) (W : World) => (run_store Tryz.prog W a (.float .f64 v) m rfl : (store a (.float .f64 v) m).run Tryz.prog W = stored Tryz.prog W a (.float .f64 v) m)
 have hst2 := fun (a : Addr) (u v : Nat) (m : Mode) (W : World) => (run_store Tryz.prog W a (.complex .f64 u v) m rfl : (store a (.complex .f64 u v) m).run Tryz.prog W = stored Tryz.prog W a (.complex .f64 u v) m)
 have q_w_F2 : Hid (w.heap.size ≤ w.heap.size) := Lib.hid (by omega)
 have F2 := Blk.put (w) #[.complex .f64 0 0, .float .f64 0] 32
 replace B0 := B0.alloc B0.size (.cells #[.complex .f64 0 0, .float .f64 0] 32)
 go_wp2_with fail
 (with_reducible refine (c_bltold _ hx0 hy0 (fl_some (b := 0) (by decide) (by decide))).mono ?_)
 rintro r w1 ⟨⟨z1, y1, t1, rfl, a1, b1, d1⟩, hb1⟩
 replace F2 := F2.keep hb1
 replace B0 := B0.trans (hb1.mono B0.size)
 clear hb1
 obtain ⟨xF21_0, xF21_1⟩ := F2.ce2
 obtain ⟨xF21_0f, xF21_1f⟩ := F2.fr2
 replace F2 : Blk (((w1).setCell ⟨w.heap.size, 0, none⟩ (.complex .f64 z1 y1)).setCell ⟨w.heap.size, 1, none⟩ (.float .f64 t1)) (w.heap.size) #[.complex .f64 z1 y1, .float .f64 t1] 32 := ((F2.setAt 0 (.complex .f64 z1 y1)).setAt 1 (.float .f64 t1))
 replace B0 := ((B0.setCell (p := ⟨w.heap.size, 0, none⟩) q_w_F2.out (.complex .f64 z1 y1)).setCell (p := ⟨w.heap.size, 1, none⟩) q_w_F2.out (.float .f64 t1))
 obtain ⟨xF22_0, xF22_1⟩ := F2.ce2
 go_wp2
 exact bodyPost_ret (v := .agg #[.complex .f64 z1 y1, .float .f64 t1]) (by simp [results, Tryz.results31, go_sem, xF22_0, xF22_1]) rfl ⟨⟨_, _, _, rfl, by exact a1, by exact b1, by exact d1⟩, B0⟩
end Go.Proofs.YtfdnbogbankjjaaGreatDoor
