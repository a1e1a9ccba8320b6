/- filigreetop.holds. (printed by gen_fy.py) -/
import Derived.Test.YtfdnbogbankjjaaGreatDoorFW
import Derived.Test.YtfdnbogbankjjaaGreatDoorFS
namespace Go.Proofs.YtfdnbogbankjjaaGreatDoor
open Go Go.RowKit Go.PlainAid Fil

theorem fin_Q {x : Nat} (h : fr x < 9218868437227405312) : flQ x ≠ 2047 := by unfold flQ; unfold fr at h; omega
theorem flT_real {x : Nat} (h : fr x < 9218868437227405312) : flT x = (flY x, 0) := flT_fin (fin_Q h)
set_option maxRecDepth 100000 in
set_option maxHeartbeats 8000000 in
theorem holds_core {x y r : Nat} {ar ai P Q D E N S : DY} {R : FV} {k : Int} (w : World) (hg : Fl r R) (hR : Rl R r)
  (hE : ∀ W, Calls Tryz.prog 14 #[.complex .f64 x y] W fun e w' => e = .returned (.tuple #[.agg #[.bool P.n, .string (bstr P.x), .int .i64 P.e, .bool Q.n, .string (bstr Q.x), .int .i64 Q.e], .bool true]) ∧ Below W.heap.size W w')
  (hL : ∀ W, Calls Tryz.prog 16 #[.agg #[.bool ar.n, .string (bstr ar.x), .int .i64 ar.e, .bool ai.n, .string (bstr ai.x), .int .i64 ai.e], .agg #[.bool P.n, .string (bstr P.x), .int .i64 P.e, .bool Q.n, .string (bstr Q.x), .int .i64 Q.e]] W fun e w' => e = .returned (.tuple #[.agg #[.bool D.n, .string (bstr D.x), .int .i64 D.e, .bool E.n, .string (bstr E.x), .int .i64 E.e], .bool true]) ∧ Below W.heap.size W w')
  (hN : ∀ W, Calls Tryz.prog 19 #[.agg #[.bool D.n, .string (bstr D.x), .int .i64 D.e, .bool E.n, .string (bstr E.x), .int .i64 E.e]] W fun e w' => e = .returned (.tuple #[.agg #[.bool N.n, .string (bstr N.x), .int .i64 N.e], .bool true]) ∧ Below W.heap.size W w')
  (hS : ∀ W, Calls Tryz.prog 20 #[.float .f64 r] W fun e w' => e = .returned (.tuple #[.agg #[.bool S.n, .string (bstr S.x), .int .i64 S.e], .bool true]) ∧ Below W.heap.size W w')
  (hC : ∀ W, Calls Tryz.prog 21 #[.agg #[.bool N.n, .string (bstr N.x), .int .i64 N.e], .agg #[.bool S.n, .string (bstr S.x), .int .i64 S.e]] W fun e w' => e = .returned (.int .i64 k) ∧ Below W.heap.size W w') :
  Calls Tryz.prog 7 #[.agg #[.complex .f64 x y, .float .f64 r], .agg #[.bool ar.n, .string (bstr ar.x), .int .i64 ar.e, .bool ai.n, .string (bstr ai.x), .int .i64 ai.e]] w fun e w' => e = .returned (.tuple #[.bool (decide (k ≤ 0)), .bool true]) ∧ Below w.heap.size w w' := by
 go_enter Tryz.func7, Tryz.ntmps7
 have B0 := Below.refl w.heap.size w
 have F2 := Blk.put (w) #[.complex .f64 x y, .float .f64 r] 32
 replace B0 := B0.alloc B0.size (.cells #[.complex .f64 x y, .float .f64 r] 32)
 replace F2 := F2.allocd (.cells #[.bool ar.n, .string (bstr ar.x), .int .i64 ar.e, .bool ai.n, .string (bstr ai.x), .int .i64 ai.e] 44)
 have F3 := Blk.put ((w).alloc (.cells #[.complex .f64 x y, .float .f64 r] 32)) #[.bool ar.n, .string (bstr ar.x), .int .i64 ar.e, .bool ai.n, .string (bstr ai.x), .int .i64 ai.e] 44
 rw [show ((w).alloc (.cells #[.complex .f64 x y, .float .f64 r] 32)).heap.size = w.heap.size + 1 by simp] at F3
 replace B0 := B0.alloc B0.size (.cells #[.bool ar.n, .string (bstr ar.x), .int .i64 ar.e, .bool ai.n, .string (bstr ai.x), .int .i64 ai.e] 44)
 obtain ⟨xF22_0, xF22_1⟩ := F2.ce2
 have c1 := c_gt hg fl_zero
 cases hk1 : fgt R (some 0)
 ·rw [hk1] at c1
  go_wp2_with fail
  (with_reducible refine (hE _).mono ?_)
  rintro r w1 ⟨rfl, hb1⟩
  clear xF22_0 xF22_1
  replace F2 := F2.keep hb1
  replace F3 := F3.keep hb1
  replace B0 := B0.trans (hb1.mono B0.size)
  clear hb1
  replace F2 := F2.allocd (.cells #[.bool P.n, .string (bstr P.x), .int .i64 P.e, .bool Q.n, .string (bstr Q.x), .int .i64 Q.e] 44)
  replace F3 := F3.allocd (.cells #[.bool P.n, .string (bstr P.x), .int .i64 P.e, .bool Q.n, .string (bstr Q.x), .int .i64 Q.e] 44)
  have F6 := Blk.put (w1) #[.bool P.n, .string (bstr P.x), .int .i64 P.e, .bool Q.n, .string (bstr Q.x), .int .i64 Q.e] 44
  replace B0 := B0.alloc B0.size (.cells #[.bool P.n, .string (bstr P.x), .int .i64 P.e, .bool Q.n, .string (bstr Q.x), .int .i64 Q.e] 44)
  obtain ⟨xF34_0, xF34_1, xF34_2, xF34_3, xF34_4, xF34_5⟩ := F3.ce6
  obtain ⟨xF64_0, xF64_1, xF64_2, xF64_3, xF64_4, xF64_5⟩ := F6.ce6
  go_wp2_with fail
  (with_reducible refine (hL _).mono ?_)
  rintro r w2 ⟨rfl, hb2⟩
  clear xF34_0 xF34_1 xF34_2 xF34_3 xF34_4 xF34_5 xF64_0 xF64_1 xF64_2 xF64_3 xF64_4 xF64_5
  replace F2 := F2.keep hb2
  replace F3 := F3.keep hb2
  replace F6 := F6.keep hb2
  replace B0 := B0.trans (hb2.mono B0.size)
  clear hb2
  replace F2 := F2.allocd (.cells #[.bool D.n, .string (bstr D.x), .int .i64 D.e, .bool E.n, .string (bstr E.x), .int .i64 E.e] 44)
  clear F3
  clear F6
  have F8 := Blk.put (w2) #[.bool D.n, .string (bstr D.x), .int .i64 D.e, .bool E.n, .string (bstr E.x), .int .i64 E.e] 44
  replace B0 := B0.alloc B0.size (.cells #[.bool D.n, .string (bstr D.x), .int .i64 D.e, .bool E.n, .string (bstr E.x), .int .i64 E.e] 44)
  obtain ⟨xF86_0, xF86_1, xF86_2, xF86_3, xF86_4, xF86_5⟩ := F8.ce6
  go_wp2_with fail
  (with_reducible refine (hN _).mono ?_)
  rintro r w3 ⟨rfl, hb3⟩
  clear xF86_0 xF86_1 xF86_2 xF86_3 xF86_4 xF86_5
  replace F2 := F2.keep hb3
  replace F8 := F8.keep hb3
  replace B0 := B0.trans (hb3.mono B0.size)
  clear hb3
  replace F2 := F2.allocd (.cells #[.bool N.n, .string (bstr N.x), .int .i64 N.e] 38)
  clear F8
  have F9 := Blk.put (w3) #[.bool N.n, .string (bstr N.x), .int .i64 N.e] 38
  replace B0 := B0.alloc B0.size (.cells #[.bool N.n, .string (bstr N.x), .int .i64 N.e] 38)
  obtain ⟨xF28_0, xF28_1⟩ := F2.ce2
  go_wp2_with fail
  (with_reducible refine (hS _).mono ?_)
  rintro r w4 ⟨rfl, hb4⟩
  clear xF28_0 xF28_1
  replace F2 := F2.keep hb4
  replace F9 := F9.keep hb4
  replace B0 := B0.trans (hb4.mono B0.size)
  clear hb4
  clear F2
  replace F9 := F9.allocd (.cells #[.bool S.n, .string (bstr S.x), .int .i64 S.e] 38)
  have F10 := Blk.put (w4) #[.bool S.n, .string (bstr S.x), .int .i64 S.e] 38
  replace B0 := B0.alloc B0.size (.cells #[.bool S.n, .string (bstr S.x), .int .i64 S.e] 38)
  obtain ⟨xF910_0, xF910_1, xF910_2⟩ := F9.ce3
  obtain ⟨xF1010_0, xF1010_1, xF1010_2⟩ := F10.ce3
  go_wp2_with fail
  (with_reducible refine (hC _).mono ?_)
  rintro r w5 ⟨rfl, hb5⟩
  clear xF910_0 xF910_1 xF910_2 xF1010_0 xF1010_1 xF1010_2
  replace F9 := F9.keep hb5
  replace F10 := F10.keep hb5
  replace B0 := B0.trans (hb5.mono B0.size)
  clear hb5
  go_wp2
  go_ret2
  exact ⟨rfl, B0⟩
 ·rw [hk1] at c1
  obtain ⟨z9, u9, e9, a9, hb9⟩ := run_fop Tryz.prog (((w).alloc (.cells #[.complex .f64 x y, .float .f64 r] 32)).alloc (.cells #[.bool ar.n, .string (bstr ar.x), .int .i64 ar.e, .bool ai.n, .string (bstr ai.x), .int .i64 ai.e] 44)) .sub 30 (.inr (.inl rfl)) hg hg
  rw [hR.sub] at a9
  have c9 := c_ne a9 fl_zero
  rw [show feq (some 0) (some 0) = true by decide] at c9
  replace F2 := F2.keep hb9
  replace F3 := F3.keep hb9
  replace B0 := B0.trans (hb9.mono B0.size)
  clear hb9
  obtain ⟨xF23_0, xF23_1⟩ := F2.ce2
  go_wp2_with fail
  (with_reducible refine (hE _).mono ?_)
  rintro r w1 ⟨rfl, hb1⟩
  clear xF22_0 xF22_1 xF23_0 xF23_1
  replace F2 := F2.keep hb1
  replace F3 := F3.keep hb1
  replace B0 := B0.trans (hb1.mono B0.size)
  clear hb1
  replace F2 := F2.allocd (.cells #[.bool P.n, .string (bstr P.x), .int .i64 P.e, .bool Q.n, .string (bstr Q.x), .int .i64 Q.e] 44)
  replace F3 := F3.allocd (.cells #[.bool P.n, .string (bstr P.x), .int .i64 P.e, .bool Q.n, .string (bstr Q.x), .int .i64 Q.e] 44)
  have F6 := Blk.put (w1) #[.bool P.n, .string (bstr P.x), .int .i64 P.e, .bool Q.n, .string (bstr Q.x), .int .i64 Q.e] 44
  replace B0 := B0.alloc B0.size (.cells #[.bool P.n, .string (bstr P.x), .int .i64 P.e, .bool Q.n, .string (bstr Q.x), .int .i64 Q.e] 44)
  obtain ⟨xF35_0, xF35_1, xF35_2, xF35_3, xF35_4, xF35_5⟩ := F3.ce6
  obtain ⟨xF65_0, xF65_1, xF65_2, xF65_3, xF65_4, xF65_5⟩ := F6.ce6
  go_wp2_with fail
  (with_reducible refine (hL _).mono ?_)
  rintro r w2 ⟨rfl, hb2⟩
  clear xF35_0 xF35_1 xF35_2 xF35_3 xF35_4 xF35_5 xF65_0 xF65_1 xF65_2 xF65_3 xF65_4 xF65_5
  replace F2 := F2.keep hb2
  replace F3 := F3.keep hb2
  replace F6 := F6.keep hb2
  replace B0 := B0.trans (hb2.mono B0.size)
  clear hb2
  replace F2 := F2.allocd (.cells #[.bool D.n, .string (bstr D.x), .int .i64 D.e, .bool E.n, .string (bstr E.x), .int .i64 E.e] 44)
  clear F3
  clear F6
  have F8 := Blk.put (w2) #[.bool D.n, .string (bstr D.x), .int .i64 D.e, .bool E.n, .string (bstr E.x), .int .i64 E.e] 44
  replace B0 := B0.alloc B0.size (.cells #[.bool D.n, .string (bstr D.x), .int .i64 D.e, .bool E.n, .string (bstr E.x), .int .i64 E.e] 44)
  obtain ⟨xF87_0, xF87_1, xF87_2, xF87_3, xF87_4, xF87_5⟩ := F8.ce6
  go_wp2_with fail
  (with_reducible refine (hN _).mono ?_)
  rintro r w3 ⟨rfl, hb3⟩
  clear xF87_0 xF87_1 xF87_2 xF87_3 xF87_4 xF87_5
  replace F2 := F2.keep hb3
  replace F8 := F8.keep hb3
  replace B0 := B0.trans (hb3.mono B0.size)
  clear hb3
  replace F2 := F2.allocd (.cells #[.bool N.n, .string (bstr N.x), .int .i64 N.e] 38)
  clear F8
  have F9 := Blk.put (w3) #[.bool N.n, .string (bstr N.x), .int .i64 N.e] 38
  replace B0 := B0.alloc B0.size (.cells #[.bool N.n, .string (bstr N.x), .int .i64 N.e] 38)
  obtain ⟨xF29_0, xF29_1⟩ := F2.ce2
  go_wp2_with fail
  (with_reducible refine (hS _).mono ?_)
  rintro r w4 ⟨rfl, hb4⟩
  clear xF29_0 xF29_1
  replace F2 := F2.keep hb4
  replace F9 := F9.keep hb4
  replace B0 := B0.trans (hb4.mono B0.size)
  clear hb4
  clear F2
  replace F9 := F9.allocd (.cells #[.bool S.n, .string (bstr S.x), .int .i64 S.e] 38)
  have F10 := Blk.put (w4) #[.bool S.n, .string (bstr S.x), .int .i64 S.e] 38
  replace B0 := B0.alloc B0.size (.cells #[.bool S.n, .string (bstr S.x), .int .i64 S.e] 38)
  obtain ⟨xF911_0, xF911_1, xF911_2⟩ := F9.ce3
  obtain ⟨xF1011_0, xF1011_1, xF1011_2⟩ := F10.ce3
  go_wp2_with fail
  (with_reducible refine (hC _).mono ?_)
  rintro r w5 ⟨rfl, hb5⟩
  clear xF911_0 xF911_1 xF911_2 xF1011_0 xF1011_1 xF1011_2
  replace F9 := F9.keep hb5
  replace F10 := F10.keep hb5
  replace B0 := B0.trans (hb5.mono B0.size)
  clear hb5
  go_wp2
  go_ret2
  exact ⟨rfl, B0⟩
/-- nothing overflows -/
def HdOk (x y r : Nat) (ar ai : DY) : Prop := (ySub ar (flY x)).2 = 0 ∧ (ySub ai (flY y)).2 = 0 ∧ NmOk (ySub ar (flY x)).1 (ySub ai (flY y)).1 ∧ SqOk r
theorem c_tholds {x y r : Nat} {ar ai : DY} {b : BV} (w : World) (g : GB b x y r) (oar : ar.ok) (oai : ai.ok) (h : HdOk x y r ar ai) :
  Calls Tryz.prog 7 #[.agg #[.complex .f64 x y, .float .f64 r], .agg #[.bool ar.n, .string (bstr ar.x), .int .i64 ar.e, .bool ai.n, .string (bstr ai.x), .int .i64 ai.e]] w fun e w' => e = .returned (.tuple #[.bool (decide (yCmp (yAdd (yMul (ySub ar (flY x)).1 (ySub ar (flY x)).1).1 (yMul (ySub ai (flY y)).1 (ySub ai (flY y)).1).1).1 (yMul (flY r) (flY r)).1 ≤ 0)), .bool true]) ∧ Below w.heap.size w w' := by
 obtain ⟨h1, h2, h3, h4⟩ := h
 have tx := flT_real g.x.2.2
 have ty := flT_real g.y.2.2
 have tr := flT_real g.r.2.2
 refine holds_core (P := flY x) (Q := flY y) (D := (ySub ar (flY x)).1) (E := (ySub ai (flY y)).1) (N := (yAdd (yMul (ySub ar (flY x)).1 (ySub ar (flY x)).1).1 (yMul (ySub ai (flY y)).1 (ySub ai (flY y)).1).1).1) (S := (yMul (flY r) (flY r)).1) w g.r.fl g.r ?_ ?_ ?_ ?_ ?_
 ·intro W
  refine (c_texact W g.x.2.1 g.y.2.1).mono ?_
  rintro e w' ⟨⟨p, q, b, rfl, hp, hq, hb⟩, hbb⟩
  rw [tx] at hp
  rw [ty] at hq
  rw [tx, ty] at hb
  obtain rfl : b = true := hb.2 ⟨rfl, rfl⟩
  obtain rfl : p = flY x := hp
  obtain rfl : q = flY y := hq
  exact ⟨rfl, hbb⟩
 ·intro W
  refine (c_tless W oar oai (flY_ok x) (flY_ok y)).mono ?_
  rintro e w' ⟨⟨p, q, b, rfl, rfl, rfl, hb⟩, hbb⟩
  obtain rfl : b = true := hb.2 ⟨h1, h2⟩
  exact ⟨rfl, hbb⟩
 ·intro W
  refine (c_tnorm W (ySub_ok ar (flY x)) (ySub_ok ai (flY y))).mono ?_
  rintro e w' ⟨⟨p, b, rfl, _, hb, he⟩, hbb⟩
  obtain rfl : b = true := hb.2 h3
  obtain rfl := he rfl
  exact ⟨rfl, hbb⟩
 ·intro W
  refine (c_tsquare W g.r.2.1).mono ?_
  rintro e w' ⟨⟨p, b, rfl, _, hb, he⟩, hbb⟩
  obtain rfl : b = true := hb.2 h4
  have he2 := he rfl
  rw [tr] at he2
  obtain rfl : p = (yMul (flY r) (flY r)).1 := he2
  exact ⟨rfl, hbb⟩
 ·intro W
  exact rccmp _ _ W (yAdd_ok _ _) (yMul_ok _ _)
end Go.Proofs.YtfdnbogbankjjaaGreatDoor
