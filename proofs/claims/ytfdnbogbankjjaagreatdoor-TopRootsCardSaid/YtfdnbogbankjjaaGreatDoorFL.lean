/- roots.Certify. (printed by gen_fl.py) -/
import Derived.Test.YtfdnbogbankjjaaGreatDoorFG
import Derived.Test.YtfdnbogbankjjaaGreatDoorFK
namespace Go.Proofs.YtfdnbogbankjjaaGreatDoor
open Go Go.RowKit Go.PlainAid Fil

theorem run_max2 (P : Program) (w : World) {x y : Nat} {X Y : FV} (hx : Fl x X) (hy : Fl y Y) :
  ∃ r w', (Builtin.max2 (.float .f64 x) (.float .f64 y)).run P w = .ok (.float .f64 r) w' ∧ Fl r (fmax X Y) ∧ Below w.heap.size w w' := by
 obtain ⟨r, w1, h, hr, hb⟩ := run_fmax P w #[] 30 hx hy
 exact ⟨r, w1, by simpa [Builtin.max_] using h, hr, hb⟩
theorem run_fmax3 (P : Program) (w : World) (ts : Array TypeId) (t : TypeId) {x y z : Nat} {X Y Z : FV} (hx : Fl x X) (hy : Fl y Y) (hz : Fl z Z) :
  ∃ r w', (Builtin.max_ ts t #[.float .f64 x, .float .f64 y, .float .f64 z]).run P w = .ok (.float .f64 r) w' ∧ Fl r (fmax (fmax X Y) Z) ∧ Below w.heap.size w w' := by
 obtain ⟨r, w1, h1, hr, hb1⟩ := run_max2 P w hx hy
 obtain ⟨s, w2, h2, hs, hb2⟩ := run_max2 P w1 hr hz
 exact ⟨s, w2, by simp [Builtin.max_, h1, h2], hs, hb1.trans (hb2.mono hb1.size)⟩
/-- one radius -/
def ceTest (L : List CV) (Z : CV) (mv py : BV) (r : FV) : Bool :=
 bif bMay (Z, r) then (bContracts mv (bSub (bPoint (some 4607182418800017408, some 0)) (bMul py (onF (slF L) (Z, r)))) r).2 else false
def ceLoop (T : FV → Bool) : Nat → FV → Option FV
 | 0, _ => none
 | k + 1, r => bif T r then some r else ceLoop T k (fop .mul r (some 4616189618054758400))
theorem ceLoop_step {T : FV → Bool} {k : Nat} {r : FV} (hk : k < 12) (h : T r = false) : ceLoop T (12 - k) r = ceLoop T (12 - (k + 1)) (fop .mul r (some 4616189618054758400)) := by
 rw [show 12 - k = (12 - (k + 1)) + 1 by omega]
 show (bif T r then some r else ceLoop T (12 - (k + 1)) (fop .mul r (some 4616189618054758400))) = _
 rw [h]; rfl
theorem ceLoop_stop {T : FV → Bool} {k : Nat} {r : FV} (hk : k < 12) (h : T r = true) : ceLoop T (12 - k) r = some r := by
 rw [show 12 - k = (12 - (k + 1)) + 1 by omega]
 show (bif T r then some r else ceLoop T (12 - (k + 1)) (fop .mul r (some 4616189618054758400))) = _
 rw [h]; rfl
def ceF (L : List CV) (Z : CV) : Option FV :=
 let v := atF (stF L) Z
 let y := cQuo (some 4607182418800017408, some 0) v
 bif rFin v then (bif rFin y then (bif (feq v.1 (some 0) && feq v.2 (some 0)) then none else
  ceLoop (ceTest L Z (bNeg (bMul (bPoint y) (onF (ptsF L) (bPoint Z)))) (bPoint y)) 12
   (fmax (fmax (fop .mul (bHi (bNeg (bMul (bPoint y) (onF (ptsF L) (bPoint Z))))) (some 4611686018427387904)) (fop .mul (cHi Z) (some 4382002437431492608))) (some 103582791429521408))) else none) else none
/-- what Certify says -/
def CeR (o : Option FV) (Z : CV) (z y t : Nat) (b : Bool) : Prop := match o with
 | some R => b = true ∧ Fb z y t (Z, R)
 | none => b = false
set_option maxRecDepth 100000 in
set_option maxHeartbeats 4000000 in
theorem c_pySlopeOn_bad {B : Nat} {v : Value} {L : List CV} {x y r : Nat} {Z : BV} (w : World) (h : PL B w v L) (G : GP L) (hZ : Fb x y r Z) (hM : bMay Z = false) :
  Calls Tryz.prog 36 #[v, .agg #[.complex .f64 x y, .float .f64 r]] w fun e w' => (∃ z y t, e = .returned (.tuple #[.agg #[.complex .f64 z y, .float .f64 t], .int .i64 2])) ∧ Below w.heap.size w w' := by
 obtain ⟨a', c, rfl, hc, hm⟩ := h.slc
 have hmay := fun W => c_blMay W hZ.1 hZ.2.1 hZ.2.2
 rw [show ((Z.1.1, Z.1.2), Z.2) = Z from rfl, hM] at hmay
 go_enter Tryz.func36, Tryz.ntmps36
 have B0 := Below.refl w.heap.size w
 have hst1 := fun (a : Addr) (v : Nat) (m : Mode) (W : World) => (run_store Tryz.prog W a (.float .f64 v) m rfl : (store a (.float .f64 v) m).run Tryz.prog W = stored Tryz.prog W a (.float .f64 v) m)
 have hst2 := fun (a : Addr) (u v : Nat) (m : Mode) (W : World) => (run_store Tryz.prog W a (.complex .f64 u v) m rfl : (store a (.complex .f64 u v) m).run Tryz.prog W = stored Tryz.prog W a (.complex .f64 u v) m)
 have F3 := Blk.put (w) #[.complex .f64 x y, .float .f64 r] 32
 replace B0 := B0.alloc B0.size (.cells #[.complex .f64 x y, .float .f64 r] 32)
 have q_w_F4 : Hid (w.heap.size ≤ w.heap.size + 1) := Lib.hid (by omega)
 replace F3 := F3.allocd (.cells #[.complex .f64 0 0, .float .f64 0] 32)
 have F4 := Blk.put ((w).alloc (.cells #[.complex .f64 x y, .float .f64 r] 32)) #[.complex .f64 0 0, .float .f64 0] 32
 rw [show ((w).alloc (.cells #[.complex .f64 x y, .float .f64 r] 32)).heap.size = w.heap.size + 1 by simp] at F4
 replace B0 := B0.alloc B0.size (.cells #[.complex .f64 0 0, .float .f64 0] 32)
 replace F3 := F3.allocd (.cells #[.slice a' L.length c] 29)
 replace F4 := F4.allocd (.cells #[.slice a' L.length c] 29)
 have F9 := Blk.put (((w).alloc (.cells #[.complex .f64 x y, .float .f64 r] 32)).alloc (.cells #[.complex .f64 0 0, .float .f64 0] 32)) #[.slice a' L.length c] 29
 rw [show (((w).alloc (.cells #[.complex .f64 x y, .float .f64 r] 32)).alloc (.cells #[.complex .f64 0 0, .float .f64 0] 32)).heap.size = w.heap.size + 1 + 1 by simp] at F9
 replace B0 := B0.alloc B0.size (.cells #[.slice a' L.length c] 29)
 go_wp2_with fail
 (with_reducible refine (c_pyall _ (h.keep B0) G F9.ce1).mono ?_)
 rintro r w1 ⟨rfl, hb1⟩
 replace F3 := F3.keep hb1
 replace F4 := F4.keep hb1
 replace F9 := F9.keep hb1
 replace B0 := B0.trans (hb1.mono B0.size)
 clear hb1
 obtain ⟨xF31_0, xF31_1⟩ := F3.ce2
 go_wp2_with fail
 (with_reducible refine (hmay _).mono ?_)
 rintro r w2 ⟨rfl, hb2⟩
 clear xF31_0 xF31_1
 replace F3 := F3.keep hb2
 replace F4 := F4.keep hb2
 clear F9
 replace B0 := B0.trans (hb2.mono B0.size)
 clear hb2
 obtain ⟨xF42_0, xF42_1⟩ := F4.ce2
 obtain ⟨xF42_0f, xF42_1f⟩ := F4.fr2
 clear F3
 replace F4 : Blk (((w2).setCell ⟨w.heap.size + 1, 0, none⟩ (.complex .f64 0 0)).setCell ⟨w.heap.size + 1, 1, none⟩ (.float .f64 0)) (w.heap.size + 1) #[.complex .f64 0 0, .float .f64 0] 32 := ((F4.setAt 0 (.complex .f64 0 0)).setAt 1 (.float .f64 0))
 replace B0 := ((B0.setCell (p := ⟨w.heap.size + 1, 0, none⟩) q_w_F4.out (.complex .f64 0 0)).setCell (p := ⟨w.heap.size + 1, 1, none⟩) q_w_F4.out (.float .f64 0))
 obtain ⟨xF43_0, xF43_1⟩ := F4.ce2
 go_wp2
 exact bodyPost_ret (v := .tuple #[.agg #[.complex .f64 0 0, .float .f64 0], .int .i64 2]) (by simp [results, Tryz.results36, go_sem, xF43_0, xF43_1]) rfl ⟨⟨_, _, _, rfl⟩, B0⟩
set_option maxRecDepth 100000 in
set_option maxHeartbeats 16000000 in
theorem c_rtCertify {B : Nat} {v : Value} {L : List CV} {x y : Nat} {Z : CV} (w : World) (h : PL B w v L) (G : GP L) (hL : 1 < L.length) (hx : Fl x Z.1) (hy : Fl y Z.2) (hz : rFin Z = true) (hpm : bMay (bPoint Z) = true) :
  Calls Tryz.prog 10 #[v, .complex .f64 x y] w fun r w' => (∃ z y t b, r = .returned (.tuple #[.agg #[.complex .f64 z y, .float .f64 t], .bool b, .int .i64 0]) ∧ CeR (ceF L Z) Z z y t b) ∧ Below w.heap.size w w' := by
 have hmay := c_rtmay w h G
 have hfz := fun W => c_rtfinite W hx hy
 rw [pair_eta, hz] at hfz
 obtain ⟨X1, Y1⟩ := Z
 obtain ⟨a', c, rfl, hc, hm⟩ := h.slc
 have hln : (L.length : Int) ≠ 1 := by omega
 have hce : ceF L (X1, Y1) = (bif rFin (atF (stF L) (X1, Y1)) then (bif rFin (cQuo (some 4607182418800017408, some 0) (atF (stF L) (X1, Y1))) then (bif (feq (atF (stF L) (X1, Y1)).1 (some 0) && feq (atF (stF L) (X1, Y1)).2 (some 0)) then none else
  ceLoop (ceTest L (X1, Y1) (bNeg (bMul (bPoint (cQuo (some 4607182418800017408, some 0) (atF (stF L) (X1, Y1)))) (onF (ptsF L) (bPoint (X1, Y1))))) (bPoint (cQuo (some 4607182418800017408, some 0) (atF (stF L) (X1, Y1))))) 12
   (fmax (fmax (fop .mul (bHi (bNeg (bMul (bPoint (cQuo (some 4607182418800017408, some 0) (atF (stF L) (X1, Y1)))) (onF (ptsF L) (bPoint (X1, Y1)))))) (some 4611686018427387904)) (fop .mul (cHi (X1, Y1)) (some 4382002437431492608))) (some 103582791429521408))) else none) else none) := rfl
 go_enter Tryz.func10, Tryz.ntmps10
 have B0 := Below.refl w.heap.size w
 have hst1 := fun (a : Addr) (v : Nat) (m : Mode) (W : World) => (run_store Tryz.prog W a (.float .f64 v) m rfl : (store a (.float .f64 v) m).run Tryz.prog W = stored Tryz.prog W a (.float .f64 v) m)
 have hst2 := fun (a : Addr) (u v : Nat) (m : Mode) (W : World) => (run_store Tryz.prog W a (.complex .f64 u v) m rfl : (store a (.complex .f64 u v) m).run Tryz.prog W = stored Tryz.prog W a (.complex .f64 u v) m)
 have q_w_F4 : Hid (w.heap.size ≤ w.heap.size) := Lib.hid (by omega)
 have F4 := Blk.put (w) #[.complex .f64 0 0, .float .f64 0] 32
 replace B0 := B0.alloc B0.size (.cells #[.complex .f64 0 0, .float .f64 0] 32)
 go_wp2_with fail
 refine wp_scope_fwd 0 rfl ?_
 go_wp2_with fail
 replace hmay := fun W hW => c_rtmay W (h.keep hW) G
 replace hmay := hmay _ B0
 (with_reducible refine (hmay).mono ?_)
 rintro r w1 ⟨rfl, hb1⟩
 replace F4 := F4.keep hb1
 replace B0 := B0.trans (hb1.mono B0.size)
 clear hb1
 go_wp2_with fail
 (with_reducible refine (hfz _).mono ?_)
 rintro r w2 ⟨rfl, hb2⟩
 replace F4 := F4.keep hb2
 replace B0 := B0.trans (hb2.mono B0.size)
 clear hb2
 go_wp2_with fail
 (with_reducible refine (c_pySlopeAt (Z := (X1, Y1)) _ (h.keep B0) G hL hx hy).mono ?_)
 rintro r w3 ⟨⟨z3, j3, rfl, a3, b3⟩, hb3⟩
 replace F4 := F4.keep hb3
 replace B0 := B0.trans (hb3.mono B0.size)
 clear hb3
 obtain ⟨⟨P3, Q3⟩, hP3⟩ : ∃ V, V = atF (stF L) (X1, Y1) := ⟨_, rfl⟩
 rw [← hP3] at hce
 rw [← hP3] at a3 b3
 clear hP3
 go_wp2_with fail
 (with_reducible refine (c_cxQuo _ (fl_some (b := 4607182418800017408) (by decide) (by decide)) (fl_some (b := 0) (by decide) (by decide)) a3 b3).mono ?_)
 rintro r w4 ⟨⟨z4, j4, rfl, a4, b4⟩, hb4⟩
 replace F4 := F4.keep hb4
 replace B0 := B0.trans (hb4.mono B0.size)
 clear hb4
 obtain ⟨⟨P4, Q4⟩, hP4⟩ : ∃ V, V = (cQuo ((some 4607182418800017408), (some 0)) (P3, Q3)) := ⟨_, rfl⟩
 rw [← hP4] at hce
 rw [← hP4] at a4 b4
 clear hP4
 go_wp2_with fail
 (with_reducible refine (c_blPoint _ hx hy).mono ?_)
 rintro r w5 ⟨⟨z5, j5, t5, rfl, a5, b5, d5⟩, hb5⟩
 replace F4 := F4.keep hb5
 replace B0 := B0.trans (hb5.mono B0.size)
 clear hb5
 obtain ⟨⟨⟨P5, Q5⟩, R5⟩, hP5⟩ : ∃ V, V = bPoint (X1, Y1) := ⟨_, rfl⟩
 rw [← hP5] at hce hpm
 rw [← hP5] at a5 b5 d5
 clear hP5
 have hfp : Fb z5 j5 t5 ((P5, Q5), R5) := ⟨a5, b5, d5⟩
 go_wp2_with fail
 (with_reducible refine (c_pyOn (Z := ((P5, Q5), R5)) _ (h.keep B0) G hfp hpm).mono ?_)
 rintro r w6 ⟨⟨z6, j6, t6, rfl, hR6⟩, hb6⟩
 replace F4 := F4.keep hb6
 replace B0 := B0.trans (hb6.mono B0.size)
 clear hb6
 obtain ⟨⟨⟨P6, Q6⟩, R6⟩, hP6⟩ : ∃ V, V = onF (ptsF L) ((P5, Q5), R5) := ⟨_, rfl⟩
 rw [← hP6] at hce
 rw [← hP6] at hR6
 clear hP6
 obtain ⟨a6, b6, d6⟩ := hR6
 replace F4 := F4.allocd (.cells #[.complex .f64 z6 j6, .float .f64 t6] 32)
 have F9 := Blk.put (w6) #[.complex .f64 z6 j6, .float .f64 t6] 32
 replace B0 := B0.alloc B0.size (.cells #[.complex .f64 z6 j6, .float .f64 t6] 32)
 go_wp2_with fail
 (with_reducible refine (c_rtfinite _ a3 b3).mono ?_)
 rintro r w7 ⟨rfl, hb7⟩
 replace F4 := F4.keep hb7
 replace F9 := F9.keep hb7
 replace B0 := B0.trans (hb7.mono B0.size)
 clear hb7
 cases hk8 : rFin (P3, Q3)
 ·rw [hk8] at hce
  obtain ⟨xF47_0, xF47_1⟩ := F4.ce2
  obtain ⟨xF47_0f, xF47_1f⟩ := F4.fr2
  clear F9
  replace F4 : Blk (((w7).setCell ⟨w.heap.size, 0, none⟩ (.complex .f64 0 0)).setCell ⟨w.heap.size, 1, none⟩ (.float .f64 0)) (w.heap.size) #[.complex .f64 0 0, .float .f64 0] 32 := ((F4.setAt 0 (.complex .f64 0 0)).setAt 1 (.float .f64 0))
  replace B0 := ((B0.setCell (p := ⟨w.heap.size, 0, none⟩) q_w_F4.out (.complex .f64 0 0)).setCell (p := ⟨w.heap.size, 1, none⟩) q_w_F4.out (.float .f64 0))
  obtain ⟨xF48_0, xF48_1⟩ := F4.ce2
  go_wp2
  rw [jump_ret]
  exact bodyPost_ret (v := .tuple #[.agg #[.complex .f64 0 0, .float .f64 0], .bool false, .int .i64 0]) (by simp [results, Tryz.results10, go_sem, xF48_0, xF48_1]) rfl ⟨⟨_, _, _, _, rfl, by rw [hce]; rfl⟩, B0⟩
 ·rw [hk8] at hce
  go_wp2_with fail
  (with_reducible refine (c_rtfinite _ a4 b4).mono ?_)
  rintro r w8 ⟨rfl, hb8⟩
  replace F4 := F4.keep hb8
  replace F9 := F9.keep hb8
  replace B0 := B0.trans (hb8.mono B0.size)
  clear hb8
  cases hk10 : rFin (P4, Q4)
  ·rw [hk10] at hce
   obtain ⟨xF48_0, xF48_1⟩ := F4.ce2
   obtain ⟨xF48_0f, xF48_1f⟩ := F4.fr2
   clear F9
   replace F4 : Blk (((w8).setCell ⟨w.heap.size, 0, none⟩ (.complex .f64 0 0)).setCell ⟨w.heap.size, 1, none⟩ (.float .f64 0)) (w.heap.size) #[.complex .f64 0 0, .float .f64 0] 32 := ((F4.setAt 0 (.complex .f64 0 0)).setAt 1 (.float .f64 0))
   replace B0 := ((B0.setCell (p := ⟨w.heap.size, 0, none⟩) q_w_F4.out (.complex .f64 0 0)).setCell (p := ⟨w.heap.size, 1, none⟩) q_w_F4.out (.float .f64 0))
   obtain ⟨xF49_0, xF49_1⟩ := F4.ce2
   go_wp2
   rw [jump_ret]
   exact bodyPost_ret (v := .tuple #[.agg #[.complex .f64 0 0, .float .f64 0], .bool false, .int .i64 0]) (by simp [results, Tryz.results10, go_sem, xF49_0, xF49_1]) rfl ⟨⟨_, _, _, _, rfl, by rw [hce]; rfl⟩, B0⟩
  ·rw [hk10] at hce
   have c11 := c_eq a3 (fl_some (b := 0) (by decide) (by decide))
   have d11 := c_eq b3 (fl_some (b := 0) (by decide) (by decide))
   cases hk12 : (feq P3 (some 0) && feq Q3 (some 0))
   ·rw [hk12] at hce
    have k11 : ((FloatKind.f64.format.order z3 0 == some .eq) && (FloatKind.f64.format.order j3 0 == some .eq)) = false := by rw [c11, d11]; exact hk12
    clear c11 d11
    go_wp2_with fail
    (with_reducible refine (c_blPoint _ a4 b4).mono ?_)
    rintro r w9 ⟨⟨z13, j13, t13, rfl, a13, b13, d13⟩, hb9⟩
    replace F4 := F4.keep hb9
    replace F9 := F9.keep hb9
    replace B0 := B0.trans (hb9.mono B0.size)
    clear hb9
    obtain ⟨⟨⟨P13, Q13⟩, R13⟩, hP13⟩ : ∃ V, V = (bPoint (P4, Q4)) := ⟨_, rfl⟩
    rw [← hP13] at hce
    rw [← hP13] at a13 b13 d13
    clear hP13
    have q_F4_F11 : Hid (w.heap.size < w9.heap.size) := Lib.hid (by have := F4.lt; first | exact this | omega | (simp; done) | simpa using this)
    replace F4 := F4.allocd (.cells #[.complex .f64 z13 j13, .float .f64 t13] 32)
    replace F9 := F9.allocd (.cells #[.complex .f64 z13 j13, .float .f64 t13] 32)
    have F11 := Blk.put (w9) #[.complex .f64 z13 j13, .float .f64 t13] 32
    replace B0 := B0.alloc B0.size (.cells #[.complex .f64 z13 j13, .float .f64 t13] 32)
    obtain ⟨xF119_0, xF119_1⟩ := F11.ce2
    obtain ⟨xF99_0, xF99_1⟩ := F9.ce2
    go_wp2_with fail
    (with_reducible refine (c_blMul _ a13 b13 d13 a6 b6 d6).mono ?_)
    rintro r w10 ⟨⟨z14, j14, t14, rfl, a14, b14, d14⟩, hb10⟩
    clear xF119_0 xF119_1 xF99_0 xF99_1
    replace F4 := F4.keep hb10
    replace F9 := F9.keep hb10
    replace F11 := F11.keep hb10
    replace B0 := B0.trans (hb10.mono B0.size)
    clear hb10
    obtain ⟨⟨⟨P14, Q14⟩, R14⟩, hP14⟩ : ∃ V, V = (bMul ((P13, Q13), R13) ((P6, Q6), R6)) := ⟨_, rfl⟩
    rw [← hP14] at hce
    rw [← hP14] at a14 b14 d14
    clear hP14
    go_wp2_with fail
    (with_reducible refine (c_blNeg _ a14 b14 d14).mono ?_)
    rintro r w11 ⟨⟨z15, j15, t15, rfl, a15, b15, d15⟩, hb11⟩
    replace F4 := F4.keep hb11
    clear F9
    replace F11 := F11.keep hb11
    replace B0 := B0.trans (hb11.mono B0.size)
    clear hb11
    obtain ⟨⟨⟨P15, Q15⟩, R15⟩, hP15⟩ : ∃ V, V = (bNeg ((P14, Q14), R14)) := ⟨_, rfl⟩
    rw [← hP15] at hce
    rw [← hP15] at a15 b15 d15
    clear hP15
    have q_F4_F12 : Hid (w.heap.size < w11.heap.size) := Lib.hid (by have := F4.lt; first | exact this | omega | (simp; done) | simpa using this)
    replace F4 := F4.allocd (.cells #[.complex .f64 z15 j15, .float .f64 t15] 32)
    replace F11 := F11.allocd (.cells #[.complex .f64 z15 j15, .float .f64 t15] 32)
    have F12 := Blk.put (w11) #[.complex .f64 z15 j15, .float .f64 t15] 32
    replace B0 := B0.alloc B0.size (.cells #[.complex .f64 z15 j15, .float .f64 t15] 32)
    obtain ⟨xF1211_0, xF1211_1⟩ := F12.ce2
    go_wp2_with fail
    (with_reducible refine (c_blHi _ a15 b15 d15).mono ?_)
    rintro r w12 ⟨⟨z16, rfl, a16⟩, hb12⟩
    clear xF1211_0 xF1211_1
    replace F4 := F4.keep hb12
    replace F11 := F11.keep hb12
    replace F12 := F12.keep hb12
    replace B0 := B0.trans (hb12.mono B0.size)
    clear hb12
    obtain ⟨P16, hP16⟩ : ∃ V, V = (bHi ((P15, Q15), R15)) := ⟨_, rfl⟩
    rw [← hP16] at hce
    rw [← hP16] at a16
    clear hP16
    obtain ⟨z17, u17, e17, a17, hb17⟩ := run_fop Tryz.prog (w12) .mul 30 (.inr (.inr (.inl rfl))) a16 (fl_some (b := 4611686018427387904) (by decide) (by decide))
    replace F4 := F4.keep hb17
    replace F11 := F11.keep hb17
    replace F12 := F12.keep hb17
    replace B0 := B0.trans (hb17.mono B0.size)
    clear hb17
    go_wp2_with fail
    (with_reducible refine (c_cxHi _ hx hy).mono ?_)
    rintro r w13 ⟨⟨z18, rfl, a18⟩, hb13⟩
    replace F4 := F4.keep hb13
    replace F11 := F11.keep hb13
    replace F12 := F12.keep hb13
    replace B0 := B0.trans (hb13.mono B0.size)
    clear hb13
    obtain ⟨P18, hP18⟩ : ∃ V, V = (cHi (X1, Y1)) := ⟨_, rfl⟩
    rw [← hP18] at hce
    rw [← hP18] at a18
    clear hP18
    obtain ⟨z19, u19, e19, a19, hb19⟩ := run_fop Tryz.prog (w13) .mul 30 (.inr (.inr (.inl rfl))) a18 (fl_some (b := 4382002437431492608) (by decide) (by decide))
    replace F4 := F4.keep hb19
    replace F11 := F11.keep hb19
    replace F12 := F12.keep hb19
    replace B0 := B0.trans (hb19.mono B0.size)
    clear hb19
    obtain ⟨z20, u20, e20, a20, hb20⟩ := run_fmax3 Tryz.prog (u19) #[30, 30, 30] 30 a17 a19 (fl_some (b := 103582791429521408) (by decide) (by decide))
    replace F4 := F4.keep hb20
    replace F11 := F11.keep hb20
    replace F12 := F12.keep hb20
    replace B0 := B0.trans (hb20.mono B0.size)
    clear hb20
    have e4 := trivial
    have e411 := q_F4_F11.out
    have e412 := q_F4_F12.out
    have hqw := q_w_F4.out
    go_wp2
    clear hpm hmay
    go_loopg [13, 14] 12 (fun g s13 s14 wr => ∃ (k xr : Nat) (R : FV), k ≤ 12 ∧ g = 12 - k ∧ s14 = .int .i64 k ∧ s13 = .float .f64 xr ∧ Fl xr R ∧ ceF L (X1, Y1) = ceLoop (ceTest L (X1, Y1) ((P15, Q15), R15) ((P13, Q13), R13)) (12 - k) R ∧ (∃ z y t, Blk wr (w.heap.size) #[.complex .f64 z y, .float .f64 t] 32) ∧ Blk wr (w9.heap.size) #[.complex .f64 z13 j13, .float .f64 t13] 32 ∧ Blk wr (w11.heap.size) #[.complex .f64 z15 j15, .float .f64 t15] 32 ∧ Below w.heap.size w wr)
    case atStart => exact ⟨0, _, _, by omega, by omega, rfl, rfl, a20, hce, ⟨_, _, _, F4⟩, F11, F12, B0⟩
    case round =>
     clear F4 F11 F12 B0 hce
     obtain ⟨k, xr, R, hk, hg, rfl, rfl, hR, hce, ⟨zq, yq, tq, F4⟩, F11, F12, B0⟩ := hrel
     by_cases hkn : k = 12
     ·subst hkn
      have q_w_F4 := Lib.hid hqw
      obtain ⟨xF450_0, xF450_1⟩ := F4.ce2
      obtain ⟨xF450_0f, xF450_1f⟩ := F4.fr2
      replace F4 : Blk (((wr).setCell ⟨w.heap.size, 0, none⟩ (.complex .f64 0 0)).setCell ⟨w.heap.size, 1, none⟩ (.float .f64 0)) (w.heap.size) #[.complex .f64 0 0, .float .f64 0] 32 := ((F4.setAt 0 (.complex .f64 0 0)).setAt 1 (.float .f64 0))
      replace B0 := ((B0.setCell (p := ⟨w.heap.size, 0, none⟩) q_w_F4.out (.complex .f64 0 0)).setCell (p := ⟨w.heap.size, 1, none⟩) q_w_F4.out (.float .f64 0))
      obtain ⟨xF451_0, xF451_1⟩ := F4.ce2
      go_wp2_with fail
      go_step3
      refine ⟨rfl, ?_⟩
      go_wp2
      rw [Exit.noGoto_ret]
      exact bodyPost_ret (v := .tuple #[.agg #[.complex .f64 0 0, .float .f64 0], .bool false, .int .i64 0]) (by simp [results, Tryz.results10, go_sem, xF451_0, xF451_1]) rfl ⟨⟨_, _, _, _, rfl, by rw [hce]; rfl⟩, B0⟩
     ·have hte : ceTest L (X1, Y1) ((P15, Q15), R15) ((P13, Q13), R13) R = bif bMay ((X1, Y1), R) then (bContracts ((P15, Q15), R15) (bSub (bPoint (some 4607182418800017408, some 0)) (bMul ((P13, Q13), R13) (onF (slF L) ((X1, Y1), R)))) R).2 else false := rfl
      have hZ : Fb x y xr ((X1, Y1), R) := ⟨hx, hy, hR⟩
      have hkk : (k : Int) ≠ 12 := by omega
      cases hM : bMay ((X1, Y1), R)
      ·rw [hM] at hte
       replace hte : ceTest L (X1, Y1) ((P15, Q15), R15) ((P13, Q13), R13) R = false := hte
       have q_w_F4 := Lib.hid hqw
       obtain ⟨xF450_0, xF450_1⟩ := F4.ce2
       obtain ⟨xF450_0f, xF450_1f⟩ := F4.fr2
       replace F11 := ((F11.far 0 (.complex .f64 x y) (Nat.ne_of_gt q_F4_F11.out)).far 1 (.float .f64 xr) (Nat.ne_of_gt q_F4_F11.out))
       replace F12 := ((F12.far 0 (.complex .f64 x y) (Nat.ne_of_gt q_F4_F12.out)).far 1 (.float .f64 xr) (Nat.ne_of_gt q_F4_F12.out))
       replace F4 : Blk (((wr).setCell ⟨w.heap.size, 0, none⟩ (.complex .f64 x y)).setCell ⟨w.heap.size, 1, none⟩ (.float .f64 xr)) (w.heap.size) #[.complex .f64 x y, .float .f64 xr] 32 := ((F4.setAt 0 (.complex .f64 x y)).setAt 1 (.float .f64 xr))
       replace B0 := ((B0.setCell (p := ⟨w.heap.size, 0, none⟩) q_w_F4.out (.complex .f64 x y)).setCell (p := ⟨w.heap.size, 1, none⟩) q_w_F4.out (.float .f64 xr))
       obtain ⟨xF451_0, xF451_1⟩ := F4.ce2
       go_wp2_with fail
       (with_reducible refine (c_pySlopeOn_bad _ (h.keep B0) G hZ hM).mono ?_)
       rintro r w41 ⟨⟨z41, j41, t41, rfl⟩, hb41⟩
       clear xF450_0 xF450_1 xF450_0f xF450_1f xF451_0 xF451_1
       replace F4 := F4.keep hb41
       replace F11 := F11.keep hb41
       replace F12 := F12.keep hb41
       replace B0 := B0.trans (hb41.mono B0.size)
       clear hb41
       replace F4 := F4.allocd (.cells #[.complex .f64 z41 j41, .float .f64 t41] 32)
       replace F11 := F11.allocd (.cells #[.complex .f64 z41 j41, .float .f64 t41] 32)
       replace F12 := F12.allocd (.cells #[.complex .f64 z41 j41, .float .f64 t41] 32)
       replace B0 := B0.alloc B0.size (.cells #[.complex .f64 z41 j41, .float .f64 t41] 32)
       obtain ⟨z42, u42, e42, a42, hb42⟩ := run_fop Tryz.prog ((w41).alloc (.cells #[.complex .f64 z41 j41, .float .f64 t41] 32)) .mul 30 (.inr (.inr (.inl rfl))) hR (fl_some (b := 4616189618054758400) (by decide) (by decide))
       replace F4 := F4.keep hb42
       replace F11 := F11.keep hb42
       replace F12 := F12.keep hb42
       replace B0 := B0.trans (hb42.mono B0.size)
       clear hb42
       go_wp2_with fail
       go_wp2
       go_roundg (12 - (k + 1))
       case measure => omega
       case rel => exact ⟨k + 1, _, _, by omega, rfl, by go_num, rfl, a42, by rw [hce, ceLoop_step (by omega) hte], ⟨_, _, _, F4⟩, F11, F12, B0⟩
      ·rw [hM] at hte
       replace hte : ceTest L (X1, Y1) ((P15, Q15), R15) ((P13, Q13), R13) R = (bContracts ((P15, Q15), R15) (bSub (bPoint (some 4607182418800017408, some 0)) (bMul ((P13, Q13), R13) (onF (slF L) ((X1, Y1), R)))) R).2 := hte
       have q_w_F4 := Lib.hid hqw
       obtain ⟨xF450_0, xF450_1⟩ := F4.ce2
       obtain ⟨xF450_0f, xF450_1f⟩ := F4.fr2
       replace F11 := ((F11.far 0 (.complex .f64 x y) (Nat.ne_of_gt q_F4_F11.out)).far 1 (.float .f64 xr) (Nat.ne_of_gt q_F4_F11.out))
       replace F12 := ((F12.far 0 (.complex .f64 x y) (Nat.ne_of_gt q_F4_F12.out)).far 1 (.float .f64 xr) (Nat.ne_of_gt q_F4_F12.out))
       replace F4 : Blk (((wr).setCell ⟨w.heap.size, 0, none⟩ (.complex .f64 x y)).setCell ⟨w.heap.size, 1, none⟩ (.float .f64 xr)) (w.heap.size) #[.complex .f64 x y, .float .f64 xr] 32 := ((F4.setAt 0 (.complex .f64 x y)).setAt 1 (.float .f64 xr))
       replace B0 := ((B0.setCell (p := ⟨w.heap.size, 0, none⟩) q_w_F4.out (.complex .f64 x y)).setCell (p := ⟨w.heap.size, 1, none⟩) q_w_F4.out (.float .f64 xr))
       obtain ⟨xF451_0, xF451_1⟩ := F4.ce2
       go_wp2_with fail
       (with_reducible refine (c_pySlopeOn _ (h.keep B0) G hL hZ hM).mono ?_)
       rintro r w41 ⟨⟨z41, j41, t41, rfl, hR41⟩, hb41⟩
       clear xF450_0 xF450_1 xF450_0f xF450_1f xF451_0 xF451_1
       replace F4 := F4.keep hb41
       replace F11 := F11.keep hb41
       replace F12 := F12.keep hb41
       replace B0 := B0.trans (hb41.mono B0.size)
       clear hb41
       obtain ⟨⟨⟨P41, Q41⟩, R41⟩, hP41⟩ : ∃ V, V = onF (slF L) ((X1, Y1), R) := ⟨_, rfl⟩
       rw [← hP41] at hte
       rw [← hP41] at hR41
       clear hP41
       obtain ⟨a41, b41, d41⟩ := hR41
       replace F4 := F4.allocd (.cells #[.complex .f64 z41 j41, .float .f64 t41] 32)
       replace F11 := F11.allocd (.cells #[.complex .f64 z41 j41, .float .f64 t41] 32)
       replace F12 := F12.allocd (.cells #[.complex .f64 z41 j41, .float .f64 t41] 32)
       have F15 := Blk.put (w41) #[.complex .f64 z41 j41, .float .f64 t41] 32
       replace B0 := B0.alloc B0.size (.cells #[.complex .f64 z41 j41, .float .f64 t41] 32)
       go_wp2_with fail
       refine wp_region_cut 11 (by kernel_rfl) (by kernel_rfl) ?_
       rintro W rfl
       simp only [List.take_succ_cons, List.take_zero, List.drop_succ_cons, List.drop_zero]
       obtain ⟨xF1252_0, xF1252_1⟩ := F12.ce2
       obtain ⟨xF1152_0, xF1152_1⟩ := F11.ce2
       obtain ⟨xF1552_0, xF1552_1⟩ := F15.ce2
       have hHeld : (fun w' : World => w'.cell? ⟨w11.heap.size, 0, none⟩ = some (.complex .f64 z15 j15) ∧ w'.cell? ⟨w11.heap.size, 1, none⟩ = some (.float .f64 t15) ∧ w'.cell? ⟨w9.heap.size, 0, none⟩ = some (.complex .f64 z13 j13) ∧ w'.cell? ⟨w9.heap.size, 1, none⟩ = some (.float .f64 t13) ∧ w'.cell? ⟨w41.heap.size, 0, none⟩ = some (.complex .f64 z41 j41) ∧ w'.cell? ⟨w41.heap.size, 1, none⟩ = some (.float .f64 t41)) ((w41).alloc (.cells #[.complex .f64 z41 j41, .float .f64 t41] 32)).drew := ⟨xF1252_0, xF1252_1, xF1152_0, xF1152_1, xF1552_0, xF1552_1⟩
       refine wpAny_of_held (S := fun w' : World => w'.cell? ⟨w11.heap.size, 0, none⟩ = some (.complex .f64 z15 j15) ∧ w'.cell? ⟨w11.heap.size, 1, none⟩ = some (.float .f64 t15) ∧ w'.cell? ⟨w9.heap.size, 0, none⟩ = some (.complex .f64 z13 j13) ∧ w'.cell? ⟨w9.heap.size, 1, none⟩ = some (.float .f64 t13) ∧ w'.cell? ⟨w41.heap.size, 0, none⟩ = some (.complex .f64 z41 j41) ∧ w'.cell? ⟨w41.heap.size, 1, none⟩ = some (.float .f64 t41)) _ _ _ ((w41).alloc (.cells #[.complex .f64 z41 j41, .float .f64 t41] 32)).drew ?_
       replace F4 := F4.drew
       replace F11 := F11.drew
       replace F12 := F12.drew
       replace F15 := F15.drew
       replace B0 := B0.drew
       generalize ((w41).alloc (.cells #[.complex .f64 z41 j41, .float .f64 t41] 32)).drew = v1 at *
       refine tkA 0 ?_
       (try dsimp only [Act.put]); (try go_frame)
       refine tkA 2 ?_
       (try dsimp only [Act.put]); (try go_frame)
       refine tkA 3 ?_
       (try dsimp only [Act.put]); (try go_frame)
       refine tkA 6 ?_
       (try dsimp only [Act.put]); (try go_frame)
       refine wpAnyH_ready (rs := [1]) (by kernel_rfl) (by simp) ?_
       refine AllReadyH.cons rfl (fun K hK => ?_) AllReadyH.nil
       go_simp
       (with_reducible refine (c_blPoint _ (fl_some (b := 4607182418800017408) (by decide) (by decide)) (fl_some (b := 0) (by decide) (by decide))).mono ?_)
       rintro r w42 ⟨⟨z42, j42, t42, rfl, a42, b42, d42⟩, hb42⟩
       clear xF1252_0 xF1252_1 xF1152_0 xF1152_1 xF1552_0 xF1552_1
       replace F4 := F4.keep hb42
       replace F11 := F11.keep hb42
       replace F12 := F12.keep hb42
       replace F15 := F15.keep hb42
       replace B0 := B0.trans (hb42.mono B0.size)
       clear hb42
       obtain ⟨xF1255_0, xF1255_1⟩ := F12.ce2
       obtain ⟨xF1155_0, xF1155_1⟩ := F11.ce2
       obtain ⟨xF1555_0, xF1555_1⟩ := F15.ce2
       refine hK.out _ _ ?_ (fun hHeld => ?_)
       ·exact ⟨xF1255_0, xF1255_1, xF1155_0, xF1155_1, xF1555_0, xF1555_1⟩
       clear hK K
       (try dsimp only [Act.put]); (try go_frame)
       obtain ⟨⟨⟨P42, Q42⟩, R42⟩, hP42⟩ : ∃ V, V = (bPoint ((some 4607182418800017408), (some 0))) := ⟨_, rfl⟩
       rw [← hP42] at hte
       rw [← hP42] at a42 b42 d42
       clear hP42
       refine wpAnyH_ready (rs := [4]) (by kernel_rfl) (by simp) ?_
       refine AllReadyH.cons rfl (fun K hK => ?_) AllReadyH.nil
       go_simp
       (with_reducible refine (c_blMul _ a13 b13 d13 a41 b41 d41).mono ?_)
       rintro r w43 ⟨⟨z43, j43, t43, rfl, a43, b43, d43⟩, hb43⟩
       clear xF1255_0 xF1255_1 xF1155_0 xF1155_1 xF1555_0 xF1555_1
       replace F4 := F4.keep hb43
       replace F11 := F11.keep hb43
       replace F12 := F12.keep hb43
       replace F15 := F15.keep hb43
       replace B0 := B0.trans (hb43.mono B0.size)
       clear hb43
       obtain ⟨xF1256_0, xF1256_1⟩ := F12.ce2
       obtain ⟨xF1156_0, xF1156_1⟩ := F11.ce2
       obtain ⟨xF1556_0, xF1556_1⟩ := F15.ce2
       refine hK.out _ _ ?_ (fun hHeld => ?_)
       ·exact ⟨xF1256_0, xF1256_1, xF1156_0, xF1156_1, xF1556_0, xF1556_1⟩
       clear hK K
       (try dsimp only [Act.put]); (try go_frame)
       obtain ⟨⟨⟨P43, Q43⟩, R43⟩, hP43⟩ : ∃ V, V = (bMul ((P13, Q13), R13) ((P41, Q41), R41)) := ⟨_, rfl⟩
       rw [← hP43] at hte
       rw [← hP43] at a43 b43 d43
       clear hP43
       refine wpAnyH_ready (rs := [5]) (by kernel_rfl) (by simp) ?_
       refine AllReadyH.cons rfl (fun K hK => ?_) AllReadyH.nil
       go_simp
       (with_reducible refine (c_blSub _ a42 b42 d42 a43 b43 d43).mono ?_)
       rintro r w44 ⟨⟨z44, j44, t44, rfl, a44, b44, d44⟩, hb44⟩
       clear xF1256_0 xF1256_1 xF1156_0 xF1156_1 xF1556_0 xF1556_1
       replace F4 := F4.keep hb44
       replace F11 := F11.keep hb44
       replace F12 := F12.keep hb44
       replace F15 := F15.keep hb44
       replace B0 := B0.trans (hb44.mono B0.size)
       clear hb44
       obtain ⟨xF1257_0, xF1257_1⟩ := F12.ce2
       obtain ⟨xF1157_0, xF1157_1⟩ := F11.ce2
       obtain ⟨xF1557_0, xF1557_1⟩ := F15.ce2
       refine hK.out _ _ ?_ (fun hHeld => ?_)
       ·exact ⟨xF1257_0, xF1257_1, xF1157_0, xF1157_1, xF1557_0, xF1557_1⟩
       clear hK K
       (try dsimp only [Act.put]); (try go_frame)
       obtain ⟨⟨⟨P44, Q44⟩, R44⟩, hP44⟩ : ∃ V, V = (bSub ((P42, Q42), R42) ((P43, Q43), R43)) := ⟨_, rfl⟩
       rw [← hP44] at hte
       rw [← hP44] at a44 b44 d44
       clear hP44
       refine wpAnyH_ready (rs := [7]) (by kernel_rfl) (by simp) ?_
       refine AllReadyH.cons rfl (fun K hK => ?_) AllReadyH.nil
       go_simp
       (with_reducible refine (c_blContracts _ a15 b15 d15 a44 b44 d44 hR).mono ?_)
       rintro r w45 ⟨⟨z45, rfl, a45⟩, hb45⟩
       clear xF1257_0 xF1257_1 xF1157_0 xF1157_1 xF1557_0 xF1557_1
       replace F4 := F4.keep hb45
       replace F11 := F11.keep hb45
       replace F12 := F12.keep hb45
       replace F15 := F15.keep hb45
       replace B0 := B0.trans (hb45.mono B0.size)
       clear hb45
       obtain ⟨xF1258_0, xF1258_1⟩ := F12.ce2
       obtain ⟨xF1158_0, xF1158_1⟩ := F11.ce2
       obtain ⟨xF1558_0, xF1558_1⟩ := F15.ce2
       refine hK.out _ _ ?_ (fun hHeld => ?_)
       ·exact ⟨xF1258_0, xF1258_1, xF1158_0, xF1158_1, xF1558_0, xF1558_1⟩
       clear hK K
       (try dsimp only [Act.put]); (try go_frame)
       refine tkA 8 ?_
       (try dsimp only [Act.put]); (try go_frame)
       refine tkA 9 ?_
       (try dsimp only [Act.put]); (try go_frame)
       refine tkA 10 ?_
       (try dsimp only [Act.put]); (try go_frame)
       refine wpAnyH_done (by kernel_rfl) ?_ _
       try simp only [QCut]
       clear hHeld
       clear xF1258_0 xF1258_1 xF1158_0 xF1158_1 xF1558_0 xF1558_1
       cases hk46 : (bContracts ((P15, Q15), R15) ((P44, Q44), R44) R).2
       ·rw [hk46] at hte
        obtain ⟨z47, u47, e47, a47, hb47⟩ := run_fop Tryz.prog (w45) .mul 30 (.inr (.inr (.inl rfl))) hR (fl_some (b := 4616189618054758400) (by decide) (by decide))
        replace F4 := F4.keep hb47
        replace F11 := F11.keep hb47
        replace F12 := F12.keep hb47
        clear F15
        replace B0 := B0.trans (hb47.mono B0.size)
        clear hb47
        go_wp2_with fail
        go_wp2
        go_roundg (12 - (k + 1))
        case measure => omega
        case rel => exact ⟨k + 1, _, _, by omega, rfl, by go_num, rfl, a47, by rw [hce, ceLoop_step (by omega) hte], ⟨_, _, _, F4⟩, F11, F12, B0⟩
       ·rw [hk46] at hte
        obtain ⟨xF458_0, xF458_1⟩ := F4.ce2
        obtain ⟨xF458_0f, xF458_1f⟩ := F4.fr2
        clear F11
        clear F12
        clear F15
        replace F4 : Blk (((w45).setCell ⟨w.heap.size, 0, none⟩ (.complex .f64 x y)).setCell ⟨w.heap.size, 1, none⟩ (.float .f64 xr)) (w.heap.size) #[.complex .f64 x y, .float .f64 xr] 32 := ((F4.setAt 0 (.complex .f64 x y)).setAt 1 (.float .f64 xr))
        replace B0 := ((B0.setCell (p := ⟨w.heap.size, 0, none⟩) q_w_F4.out (.complex .f64 x y)).setCell (p := ⟨w.heap.size, 1, none⟩) q_w_F4.out (.float .f64 xr))
        obtain ⟨xF459_0, xF459_1⟩ := F4.ce2
        go_wp2
        rw [jump_ret]
        exact bodyPost_ret (v := .tuple #[.agg #[.complex .f64 x y, .float .f64 xr], .bool true, .int .i64 0]) (by simp [results, Tryz.results10, go_sem, xF459_0, xF459_1]) rfl ⟨⟨_, _, _, _, rfl, by rw [hce, ceLoop_stop (by omega) hte]; exact ⟨rfl, hx, hy, hR⟩⟩, B0⟩
   ·rw [hk12] at hce
    have k11 : ((FloatKind.f64.format.order z3 0 == some .eq) && (FloatKind.f64.format.order j3 0 == some .eq)) = true := by rw [c11, d11]; exact hk12
    clear c11 d11
    obtain ⟨xF48_0, xF48_1⟩ := F4.ce2
    obtain ⟨xF48_0f, xF48_1f⟩ := F4.fr2
    clear F9
    replace F4 : Blk (((w8).setCell ⟨w.heap.size, 0, none⟩ (.complex .f64 0 0)).setCell ⟨w.heap.size, 1, none⟩ (.float .f64 0)) (w.heap.size) #[.complex .f64 0 0, .float .f64 0] 32 := ((F4.setAt 0 (.complex .f64 0 0)).setAt 1 (.float .f64 0))
    replace B0 := ((B0.setCell (p := ⟨w.heap.size, 0, none⟩) q_w_F4.out (.complex .f64 0 0)).setCell (p := ⟨w.heap.size, 1, none⟩) q_w_F4.out (.float .f64 0))
    obtain ⟨xF49_0, xF49_1⟩ := F4.ce2
    go_wp2
    rw [jump_ret]
    exact bodyPost_ret (v := .tuple #[.agg #[.complex .f64 0 0, .float .f64 0], .bool false, .int .i64 0]) (by simp [results, Tryz.results10, go_sem, xF49_0, xF49_1]) rfl ⟨⟨_, _, _, _, rfl, by rw [hce]; rfl⟩, B0⟩
end Go.Proofs.YtfdnbogbankjjaaGreatDoor
