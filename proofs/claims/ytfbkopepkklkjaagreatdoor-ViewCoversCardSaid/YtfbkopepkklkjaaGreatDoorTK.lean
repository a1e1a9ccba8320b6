/- The reference of layer 24: enough; of layer 6: Near, Complex; math.Sqrt. -/
import Derived.Test.YtfbkopepkklkjaaGreatDoorT7
import Derived.Test.YtfbkopepkklkjaaGreatDoorT9
import Derived.Test.YtfbkopepkklkjaaGreatDoorQ4
import Derived.Test.YtfbkopepkklkjaaGreatDoorQ5
import Derived.Test.YtfbkopepkklkjaaGreatDoorH1
import Derived.Test.YtfbkopepkklkjaaGreatDoorBJ
import Derived.Test.YtfbkopepkklkjaaGreatDoorBG
import Derived.Test.YtfbkopepkklkjaaGreatDoorBL
namespace Go.Proofs.YtfbkopepkklkjaaGreatDoor
open Go Go.RowKit Go.PlainAid Fil

theorem rcfl (b : Nat) (w : World) (hb : b < 18446744073709551616) (h : flQ b ≠ 2047) :
  Calls Tryz.prog 86 #[.float .f64 b] w fun r w' => r = .returned (.tuple #[.agg #[.bool (flY b).n, .string (bstr (flY b).x), .int .i64 (flY b).e], .int .i64 0]) ∧ Below w.heap.size w w' := by
 have k := rfromfloat_any b w hb
 unfold flD at k
 rw [if_neg h] at k
 unfold mkV dyR at k
 rw [show mkR (sz (fs b) (flM b)) (flE b) = 0 from mkR_ok (fl_ok h)] at k
 exact k
theorem rcfl_bad (b : Nat) (w : World) (hb : b < 18446744073709551616) (h : flQ b = 2047) :
  Calls Tryz.prog 86 #[.float .f64 b] w fun r w' => r = .returned (.tuple #[.agg #[.bool false, .string { data := #[] }, .int .i64 0], .int .i64 5]) ∧ Below w.heap.size w w' := by
 have k := rfromfloat_any b w hb
 unfold flD at k
 rw [if_pos h, show dyR false 0 0 5 = .tuple #[.agg #[.bool false, .string (bstr 0), .int .i64 0], .int .i64 5] from rfl, bstr_zero] at k
 exact k
/-- what the extern gives, by the exact answer -/
def sqrtOf (x : Nat) (q : Option Nat) : Sem Value :=
 match q with
 | some r => pure (.float .f64 r)
 | none => do pure (.float .f64 (← choose (.nanBits .f64 x x)))
theorem run_sqrt {x o : Nat} (h : Ieee.double.sqrt x = some o) (w : World) : (callFunc 91 #[.float .f64 x]).run Tryz.prog w = .ok (.value (.float .f64 o)) w := by
 rw [run_callFunc_extern (e := Extern.MathSqrt.sqrt) Tryz.func91 (by kernel_rfl) (by kernel_rfl) (by kernel_rfl) (by kernel_rfl)]
 have e : FloatKind.f64.format.sqrt x = some o := h
 have k : Extern.MathSqrt.sqrt #[.float .f64 x] = sqrtOf x (FloatKind.f64.format.sqrt x) := rfl
 rw [k, e]
 rfl
theorem msqrt_w {x o : Nat} (h : Ieee.double.sqrt x = some o) (w : World) : Calls Tryz.prog 49 #[.float .f64 x] w fun r w' => r = .returned (.float .f64 o) ∧ Below w.heap.size w w' := by
 have hr := fun W => run_sqrt h W
 have B0 := Below.refl w.heap.size w
 go_enter Tryz.func49, Tryz.ntmps49
 go_wp2
 go_ret
 exact ⟨rfl, B0⟩
theorem root_num (k m : Nat) (i : Int) : ∃ d, Ieee.Datum.root k (.number false m i) = some d := by
 by_cases h : m = 0
 ·exact ⟨_, if_pos h⟩
 ·exact ⟨_, (if_neg h).trans (if_neg (by decide))⟩
theorem sqrt_some (x : Nat) (hx : x ≤ 9218868437227405312) : ∃ o, Ieee.double.sqrt x = some o ∧ o < 18446744073709551616 := by
 have key : ∃ o, Ieee.double.sqrt x = some o := by
  unfold Ieee.Format.sqrt
  by_cases h : x = 9218868437227405312
  ·rw [read_inf (by unfold fr; omega), show fs x = false from fs_lt (by omega)]
   exact ⟨_, rfl⟩
  ·have hq : flQ x ≠ 2047 := by unfold flQ; omega
   rw [read_fl hq, show fs x = false from fs_lt (by omega)]
   obtain ⟨d, hd⟩ := root_num (Ieee.double.fractionBits + 2) (flM x) (flE x)
   rw [hd]
   exact ⟨_, rfl⟩
 obtain ⟨o, ho⟩ := key
 exact ⟨o, ho, Nat.lt_of_lt_of_le (Ieee.Format.sqrt_lt Ieee.double ho) (by decide)⟩

set_option maxRecDepth 10000 in
set_option maxHeartbeats 4000000 in
theorem renough_w (n : DY) (b : Nat) (f : DY) (q : DY) (r : Int) (K : Int) (E_f : flY b = f) (E_q : (yMul f f).1 = q) (E_r : (yMul f f).2 = r) (E_K : yCmp n q = K) (w : World) (ok_n : n.ok) (hb : b < 18446744073709551616) (hq : flQ b ≠ 2047) :
  Calls Tryz.prog 48 #[.agg #[.bool n.n, .string (bstr n.x), .int .i64 n.e], .int .u64 (b : Nat)] w fun r w' => r = .returned (.bool (decide (K ≤ 0))) ∧ Below w.heap.size w w' := by
 have ok_f : f.ok := E_f ▸ flY_ok b
 have ok_q : q.ok := E_q ▸ yMul_ok _ _
 have h1 := fun W => rcfl b W hb hq
 rw [E_f] at h1
 have h2 := fun W => rcmul f f W ok_f ok_f
 rw [E_q] at h2
 rw [E_r] at h2
 have h3 := fun W => rccmp n q W ok_n ok_q
 rw [E_K] at h3
 have hfr := run_from_nat b
 clear hb hq
 clear E_f E_q E_r E_K ok_f ok_q ok_n
 obtain ⟨nn, nX, ne⟩ := n
 obtain ⟨fn, fX, fe⟩ := f
 obtain ⟨qn, qX, qe⟩ := q
 dsimp only at *
 generalize bstr nX = nS at *
 generalize bstr fX = fS at *
 generalize bstr qX = qS at *
 go_enter Tryz.func48, Tryz.ntmps48
 have B0 := Below.refl w.heap.size w
 have F2 := Blk.put (w) #[.bool nn, .string nS, .int .i64 ne] 24
 replace B0 := B0.alloc B0.size (.cells #[.bool nn, .string nS, .int .i64 ne] 24)
 go_wp2_with fail
 (with_reducible refine (h1 _).mono ?_)
 rintro r w1 ⟨rfl, hb1⟩
 replace F2 := F2.keep hb1
 replace B0 := B0.trans (hb1.mono B0.size)
 clear hb1
 replace F2 := F2.allocd (.cells #[.bool fn, .string fS, .int .i64 fe] 24)
 have F5 := Blk.put (w1) #[.bool fn, .string fS, .int .i64 fe] 24
 replace B0 := B0.alloc B0.size (.cells #[.bool fn, .string fS, .int .i64 fe] 24)
 obtain ⟨xF51_0, xF51_1, xF51_2⟩ := F5.ce3
 go_wp2_with fail
 (with_reducible refine (h2 _).mono ?_)
 rintro r w2 ⟨rfl, hb2⟩
 clear xF51_0 xF51_1 xF51_2
 replace F2 := F2.keep hb2
 replace F5 := F5.keep hb2
 replace B0 := B0.trans (hb2.mono B0.size)
 clear hb2
 replace F2 := F2.allocd (.cells #[.bool qn, .string qS, .int .i64 qe] 24)
 clear F5
 have F7 := Blk.put (w2) #[.bool qn, .string qS, .int .i64 qe] 24
 replace B0 := B0.alloc B0.size (.cells #[.bool qn, .string qS, .int .i64 qe] 24)
 obtain ⟨xF22_0, xF22_1, xF22_2⟩ := F2.ce3
 obtain ⟨xF72_0, xF72_1, xF72_2⟩ := F7.ce3
 go_wp2_with fail
 (with_reducible refine (h3 _).mono ?_)
 rintro r w3 ⟨rfl, hb3⟩
 clear xF22_0 xF22_1 xF22_2 xF72_0 xF72_1 xF72_2
 replace F2 := F2.keep hb3
 replace F7 := F7.keep hb3
 replace B0 := B0.trans (hb3.mono B0.size)
 clear hb3
 go_wp2
 go_ret
 exact ⟨rfl, B0⟩

theorem renough (n : DY) (b : Nat) (w : World) (hn : n.ok) (hb : b < 9218868437227405312) :
  Calls Tryz.prog 48 #[.agg #[.bool n.n, .string (bstr n.x), .int .i64 n.e], .int .u64 (b : Nat)] w fun r w' => r = .returned (.bool (rpB n b)) ∧ Below w.heap.size w w' := by
 have := renough_w n b _ _ _ _ rfl rfl rfl rfl w hn (by omega) (pos_fin hb)
 rw [show decide (yCmp n (yMul (flY b) (flY b)).1 ≤ 0) = rpB n b by unfold rpB; rw [decide_eq_decide, yCmp_le, yCmp_ge]] at this
 exact this

set_option maxRecDepth 10000 in
set_option maxHeartbeats 4000000 in
theorem qnear_w (g : GY) (x : Nat) (y : Nat) (E_x : nearF g.re.n g.re.x g.re.e = x) (E_y : nearF g.im.n g.im.x g.im.e = y) (w : World) (ok_g : g.ok)  :
  Calls Tryz.prog 43 #[.agg #[.bool g.re.n, .string (bstr g.re.x), .int .i64 g.re.e, .bool g.im.n, .string (bstr g.im.x), .int .i64 g.im.e]] w fun r w' => r = .returned (.complex .f64 x y) ∧ Below w.heap.size w w' := by
 have h2 := fun W => rnear_ok g.re.n g.re.x g.re.e W ok_g.1
 rw [E_x] at h2
 have h3 := fun W => rnear_ok g.im.n g.im.x g.im.e W ok_g.2
 rw [E_y] at h3
 clear E_x E_y ok_g
 obtain ⟨⟨gn, gX, ge⟩, ⟨gm, gY, gf⟩⟩ := g
 dsimp only at *
 generalize bstr gX = gS at *
 generalize bstr gY = gT at *
 go_enter Tryz.func43, Tryz.ntmps43
 have B0 := Below.refl w.heap.size w
 have F1 := Blk.put (w) #[.bool gn, .string gS, .int .i64 ge, .bool gm, .string gT, .int .i64 gf] 28
 replace B0 := B0.alloc B0.size (.cells #[.bool gn, .string gS, .int .i64 ge, .bool gm, .string gT, .int .i64 gf] 28)
 go_wp2_with fail
 refine wp_region_cut 7 (by kernel_rfl) (by kernel_rfl) ?_
 rintro W rfl
 simp only [List.take_succ_cons, List.take_zero, List.drop_succ_cons, List.drop_zero]
 obtain ⟨xF10_0, xF10_1, xF10_2, xF10_3, xF10_4, xF10_5⟩ := F1.ce6
 have hHeld : (fun w' : World => w'.cell? ⟨w.heap.size, 0, none⟩ = some (.bool gn) ∧ w'.cell? ⟨w.heap.size, 1, none⟩ = some (.string gS) ∧ w'.cell? ⟨w.heap.size, 2, none⟩ = some (.int .i64 ge) ∧ w'.cell? ⟨w.heap.size, 3, none⟩ = some (.bool gm) ∧ w'.cell? ⟨w.heap.size, 4, none⟩ = some (.string gT) ∧ w'.cell? ⟨w.heap.size, 5, none⟩ = some (.int .i64 gf)) ((w).alloc (.cells #[.bool gn, .string gS, .int .i64 ge, .bool gm, .string gT, .int .i64 gf] 28)).drew := ⟨xF10_0, xF10_1, xF10_2, xF10_3, xF10_4, xF10_5⟩
 refine wpAny_of_held (S := fun w' : World => w'.cell? ⟨w.heap.size, 0, none⟩ = some (.bool gn) ∧ w'.cell? ⟨w.heap.size, 1, none⟩ = some (.string gS) ∧ w'.cell? ⟨w.heap.size, 2, none⟩ = some (.int .i64 ge) ∧ w'.cell? ⟨w.heap.size, 3, none⟩ = some (.bool gm) ∧ w'.cell? ⟨w.heap.size, 4, none⟩ = some (.string gT) ∧ w'.cell? ⟨w.heap.size, 5, none⟩ = some (.int .i64 gf)) _ _ _ ((w).alloc (.cells #[.bool gn, .string gS, .int .i64 ge, .bool gm, .string gT, .int .i64 gf] 28)).drew ?_
 replace F1 := F1.drew
 replace B0 := B0.drew
 generalize ((w).alloc (.cells #[.bool gn, .string gS, .int .i64 ge, .bool gm, .string gT, .int .i64 gf] 28)).drew = v1 at *
 refine tkA 0 ?_
 (try dsimp only [Act.put]); (try go_frame)
 refine tkA 1 ?_
 (try dsimp only [Act.put]); (try go_frame)
 refine tkA 3 ?_
 (try dsimp only [Act.put]); (try go_frame)
 refine tkA 4 ?_
 (try dsimp only [Act.put]); (try go_frame)
 refine wpAnyH_ready (rs := [2]) (by kernel_rfl) (by simp) ?_
 refine AllReadyH.cons rfl (fun K hK => ?_) AllReadyH.nil
 go_simp
 (with_reducible refine (h2 _).mono ?_)
 rintro r w1 ⟨rfl, hb1⟩
 clear xF10_0 xF10_1 xF10_2 xF10_3 xF10_4 xF10_5
 replace F1 := F1.keep hb1
 replace B0 := B0.trans (hb1.mono B0.size)
 clear hb1
 obtain ⟨xF13_0, xF13_1, xF13_2, xF13_3, xF13_4, xF13_5⟩ := F1.ce6
 refine hK.out _ _ ?_ (fun hHeld => ?_)
 ·exact ⟨xF13_0, xF13_1, xF13_2, xF13_3, xF13_4, xF13_5⟩
 clear hK K
 (try dsimp only [Act.put]); (try go_frame)
 refine wpAnyH_ready (rs := [5]) (by kernel_rfl) (by simp) ?_
 refine AllReadyH.cons rfl (fun K hK => ?_) AllReadyH.nil
 go_simp
 (with_reducible refine (h3 _).mono ?_)
 rintro r w2 ⟨rfl, hb2⟩
 clear xF13_0 xF13_1 xF13_2 xF13_3 xF13_4 xF13_5
 replace F1 := F1.keep hb2
 replace B0 := B0.trans (hb2.mono B0.size)
 clear hb2
 obtain ⟨xF14_0, xF14_1, xF14_2, xF14_3, xF14_4, xF14_5⟩ := F1.ce6
 refine hK.out _ _ ?_ (fun hHeld => ?_)
 ·exact ⟨xF14_0, xF14_1, xF14_2, xF14_3, xF14_4, xF14_5⟩
 clear hK K
 (try dsimp only [Act.put]); (try go_frame)
 refine tkA 6 ?_
 (try dsimp only [Act.put]); (try go_frame)
 refine wpAnyH_done (by kernel_rfl) ?_ _
 try simp only [QCut]
 clear hHeld
 clear xF14_0 xF14_1 xF14_2 xF14_3 xF14_4 xF14_5
 go_wp2
 go_ret
 exact ⟨rfl, B0⟩

set_option maxRecDepth 10000 in
set_option maxHeartbeats 4000000 in
theorem qcomplex_w (x : Nat) (y : Nat) (p : DY) (q : DY) (E_p : flY x = p) (E_q : flY y = q) (w : World) (hx : x < 18446744073709551616) (hx2 : flQ x ≠ 2047) (hy : y < 18446744073709551616) (hy2 : flQ y ≠ 2047) :
  Calls Tryz.prog 44 #[.complex .f64 x y] w fun r w' => r = .returned (.tuple #[.agg #[.bool p.n, .string (bstr p.x), .int .i64 p.e, .bool q.n, .string (bstr q.x), .int .i64 q.e], .int .i64 0]) ∧ Below w.heap.size w w' := by
 have ok_p : p.ok := E_p ▸ flY_ok x
 have ok_q : q.ok := E_q ▸ flY_ok y
 have h1 := fun W => rcfl x W hx hx2
 rw [E_p] at h1
 have h2 := fun W => rcfl y W hy hy2
 rw [E_q] at h2
 clear hx hy hx2 hy2
 clear E_p E_q ok_p ok_q
 obtain ⟨pn, pX, pe⟩ := p
 obtain ⟨qn, qX, qe⟩ := q
 dsimp only at *
 generalize bstr pX = pS at *
 generalize bstr qX = qS at *
 go_enter Tryz.func44, Tryz.ntmps44
 have B0 := Below.refl w.heap.size w
 have q_w_F2 : Hid (w.heap.size ≤ w.heap.size) := Lib.hid (by omega)
 have F2 := Blk.put (w) #[.bool false, .string { data := #[] }, .int .i64 0, .bool false, .string { data := #[] }, .int .i64 0] 28
 replace B0 := B0.alloc B0.size (.cells #[.bool false, .string { data := #[] }, .int .i64 0, .bool false, .string { data := #[] }, .int .i64 0] 28)
 go_wp2_with fail
 (with_reducible refine (h1 _).mono ?_)
 rintro r w1 ⟨rfl, hb1⟩
 replace F2 := F2.keep hb1
 replace B0 := B0.trans (hb1.mono B0.size)
 clear hb1
 have q_F2_F4 : Hid (w.heap.size < w1.heap.size) := Lib.hid (by have := F2.lt; first | exact this | omega | (simp; done) | simpa using this)
 replace F2 := F2.allocd (.cells #[.bool pn, .string pS, .int .i64 pe] 24)
 have F4 := Blk.put (w1) #[.bool pn, .string pS, .int .i64 pe] 24
 replace B0 := B0.alloc B0.size (.cells #[.bool pn, .string pS, .int .i64 pe] 24)
 go_wp2_with fail
 (with_reducible refine (h2 _).mono ?_)
 rintro r w2 ⟨rfl, hb2⟩
 replace F2 := F2.keep hb2
 replace F4 := F4.keep hb2
 replace B0 := B0.trans (hb2.mono B0.size)
 clear hb2
 have q_F2_F6 : Hid (w.heap.size < w2.heap.size) := Lib.hid (by have := F2.lt; first | exact this | omega | (simp; done) | simpa using this)
 replace F2 := F2.allocd (.cells #[.bool qn, .string qS, .int .i64 qe] 24)
 replace F4 := F4.allocd (.cells #[.bool qn, .string qS, .int .i64 qe] 24)
 have F6 := Blk.put (w2) #[.bool qn, .string qS, .int .i64 qe] 24
 replace B0 := B0.alloc B0.size (.cells #[.bool qn, .string qS, .int .i64 qe] 24)
 obtain ⟨xF42_0, xF42_1, xF42_2⟩ := F4.ce3
 obtain ⟨xF62_0, xF62_1, xF62_2⟩ := F6.ce3
 obtain ⟨xF22_0, xF22_1, xF22_2, xF22_3, xF22_4, xF22_5⟩ := F2.ce6
 obtain ⟨xF22_0f, xF22_1f, xF22_2f, xF22_3f, xF22_4f, xF22_5f⟩ := F2.fr6
 replace F4 := ((((((F4.far 0 (.bool pn) (Nat.ne_of_gt q_F2_F4.out)).far 1 (.string pS) (Nat.ne_of_gt q_F2_F4.out)).far 2 (.int .i64 pe) (Nat.ne_of_gt q_F2_F4.out)).far 3 (.bool qn) (Nat.ne_of_gt q_F2_F4.out)).far 4 (.string qS) (Nat.ne_of_gt q_F2_F4.out)).far 5 (.int .i64 qe) (Nat.ne_of_gt q_F2_F4.out))
 replace F6 := ((((((F6.far 0 (.bool pn) (Nat.ne_of_gt q_F2_F6.out)).far 1 (.string pS) (Nat.ne_of_gt q_F2_F6.out)).far 2 (.int .i64 pe) (Nat.ne_of_gt q_F2_F6.out)).far 3 (.bool qn) (Nat.ne_of_gt q_F2_F6.out)).far 4 (.string qS) (Nat.ne_of_gt q_F2_F6.out)).far 5 (.int .i64 qe) (Nat.ne_of_gt q_F2_F6.out))
 replace F2 : Blk ((((((((w2).alloc (.cells #[.bool qn, .string qS, .int .i64 qe] 24)).setCell ⟨w.heap.size, 0, none⟩ (.bool pn)).setCell ⟨w.heap.size, 1, none⟩ (.string pS)).setCell ⟨w.heap.size, 2, none⟩ (.int .i64 pe)).setCell ⟨w.heap.size, 3, none⟩ (.bool qn)).setCell ⟨w.heap.size, 4, none⟩ (.string qS)).setCell ⟨w.heap.size, 5, none⟩ (.int .i64 qe)) (w.heap.size) #[.bool pn, .string pS, .int .i64 pe, .bool qn, .string qS, .int .i64 qe] 28 := ((((((F2.setAt 0 (.bool pn)).setAt 1 (.string pS)).setAt 2 (.int .i64 pe)).setAt 3 (.bool qn)).setAt 4 (.string qS)).setAt 5 (.int .i64 qe))
 replace B0 := ((((((B0.setCell (p := ⟨w.heap.size, 0, none⟩) q_w_F2.out (.bool pn)).setCell (p := ⟨w.heap.size, 1, none⟩) q_w_F2.out (.string pS)).setCell (p := ⟨w.heap.size, 2, none⟩) q_w_F2.out (.int .i64 pe)).setCell (p := ⟨w.heap.size, 3, none⟩) q_w_F2.out (.bool qn)).setCell (p := ⟨w.heap.size, 4, none⟩) q_w_F2.out (.string qS)).setCell (p := ⟨w.heap.size, 5, none⟩) q_w_F2.out (.int .i64 qe))
 obtain ⟨xF23_0, xF23_1, xF23_2, xF23_3, xF23_4, xF23_5⟩ := F2.ce6
 go_wp2
 exact bodyPost_ret (v := .tuple #[.agg #[.bool pn, .string pS, .int .i64 pe, .bool qn, .string qS, .int .i64 qe], .int .i64 0]) (by simp [results, Tryz.results44, go_sem, xF23_0, xF23_1, xF23_2, xF23_3, xF23_4, xF23_5]) rfl ⟨rfl, B0⟩

set_option maxRecDepth 10000 in
set_option maxHeartbeats 4000000 in
theorem qcomplex_y (x : Nat) (y : Nat) (p : DY) (E_p : flY x = p) (w : World) (hx : x < 18446744073709551616) (hx2 : flQ x ≠ 2047) (hy : y < 18446744073709551616) (hy2 : flQ y = 2047) :
  Calls Tryz.prog 44 #[.complex .f64 x y] w fun r w' => r = .returned (.tuple #[.agg #[.bool false, .string { data := #[] }, .int .i64 0, .bool false, .string { data := #[] }, .int .i64 0], .int .i64 5]) ∧ Below w.heap.size w w' := by
 have ok_p : p.ok := E_p ▸ flY_ok x
 have h1 := fun W => rcfl x W hx hx2
 rw [E_p] at h1
 have h2 := fun W => rcfl_bad y W hy hy2
 clear hx hy hx2 hy2
 clear E_p ok_p
 obtain ⟨pn, pX, pe⟩ := p
 dsimp only at *
 generalize bstr pX = pS at *
 go_enter Tryz.func44, Tryz.ntmps44
 have B0 := Below.refl w.heap.size w
 have q_w_F2 : Hid (w.heap.size ≤ w.heap.size) := Lib.hid (by omega)
 have F2 := Blk.put (w) #[.bool false, .string { data := #[] }, .int .i64 0, .bool false, .string { data := #[] }, .int .i64 0] 28
 replace B0 := B0.alloc B0.size (.cells #[.bool false, .string { data := #[] }, .int .i64 0, .bool false, .string { data := #[] }, .int .i64 0] 28)
 go_wp2_with fail
 (with_reducible refine (h1 _).mono ?_)
 rintro r w1 ⟨rfl, hb1⟩
 replace F2 := F2.keep hb1
 replace B0 := B0.trans (hb1.mono B0.size)
 clear hb1
 replace F2 := F2.allocd (.cells #[.bool pn, .string pS, .int .i64 pe] 24)
 replace B0 := B0.alloc B0.size (.cells #[.bool pn, .string pS, .int .i64 pe] 24)
 go_wp2_with fail
 (with_reducible refine (h2 _).mono ?_)
 rintro r w2 ⟨rfl, hb2⟩
 replace F2 := F2.keep hb2
 replace B0 := B0.trans (hb2.mono B0.size)
 clear hb2
 replace F2 := F2.allocd (.cells #[.bool false, .string { data := #[] }, .int .i64 0] 24)
 replace B0 := B0.alloc B0.size (.cells #[.bool false, .string { data := #[] }, .int .i64 0] 24)
 obtain ⟨xF22_0, xF22_1, xF22_2, xF22_3, xF22_4, xF22_5⟩ := F2.ce6
 obtain ⟨xF22_0f, xF22_1f, xF22_2f, xF22_3f, xF22_4f, xF22_5f⟩ := F2.fr6
 replace F2 : Blk ((((((((w2).alloc (.cells #[.bool false, .string { data := #[] }, .int .i64 0] 24)).setCell ⟨w.heap.size, 0, none⟩ (.bool false)).setCell ⟨w.heap.size, 1, none⟩ (.string { data := #[] })).setCell ⟨w.heap.size, 2, none⟩ (.int .i64 0)).setCell ⟨w.heap.size, 3, none⟩ (.bool false)).setCell ⟨w.heap.size, 4, none⟩ (.string { data := #[] })).setCell ⟨w.heap.size, 5, none⟩ (.int .i64 0)) (w.heap.size) #[.bool false, .string { data := #[] }, .int .i64 0, .bool false, .string { data := #[] }, .int .i64 0] 28 := ((((((F2.setAt 0 (.bool false)).setAt 1 (.string { data := #[] })).setAt 2 (.int .i64 0)).setAt 3 (.bool false)).setAt 4 (.string { data := #[] })).setAt 5 (.int .i64 0))
 replace B0 := ((((((B0.setCell (p := ⟨w.heap.size, 0, none⟩) q_w_F2.out (.bool false)).setCell (p := ⟨w.heap.size, 1, none⟩) q_w_F2.out (.string { data := #[] })).setCell (p := ⟨w.heap.size, 2, none⟩) q_w_F2.out (.int .i64 0)).setCell (p := ⟨w.heap.size, 3, none⟩) q_w_F2.out (.bool false)).setCell (p := ⟨w.heap.size, 4, none⟩) q_w_F2.out (.string { data := #[] })).setCell (p := ⟨w.heap.size, 5, none⟩) q_w_F2.out (.int .i64 0))
 obtain ⟨xF23_0, xF23_1, xF23_2, xF23_3, xF23_4, xF23_5⟩ := F2.ce6
 go_wp2
 exact bodyPost_ret (v := .tuple #[.agg #[.bool false, .string { data := #[] }, .int .i64 0, .bool false, .string { data := #[] }, .int .i64 0], .int .i64 5]) (by simp [results, Tryz.results44, go_sem, xF23_0, xF23_1, xF23_2, xF23_3, xF23_4, xF23_5]) rfl ⟨rfl, B0⟩

set_option maxRecDepth 10000 in
set_option maxHeartbeats 4000000 in
theorem qcomplex_x (x y : Nat) (w : World) (hx : x < 18446744073709551616) (hx2 : flQ x = 2047) (qn : Bool) (qS : ByteArray) (qe ey : Int) (h2 : ∀ W, Calls Tryz.prog 86 #[.float .f64 y] W fun r w' => r = .returned (.tuple #[.agg #[.bool qn, .string qS, .int .i64 qe], .int .i64 ey]) ∧ Below W.heap.size W w') :
  Calls Tryz.prog 44 #[.complex .f64 x y] w fun r w' => r = .returned (.tuple #[.agg #[.bool false, .string { data := #[] }, .int .i64 0, .bool false, .string { data := #[] }, .int .i64 0], .int .i64 5]) ∧ Below w.heap.size w w' := by
 have h1 := fun W => rcfl_bad x W hx hx2
 clear hx hx2
 go_enter Tryz.func44, Tryz.ntmps44
 have B0 := Below.refl w.heap.size w
 have q_w_F2 : Hid (w.heap.size ≤ w.heap.size) := Lib.hid (by omega)
 have F2 := Blk.put (w) #[.bool false, .string { data := #[] }, .int .i64 0, .bool false, .string { data := #[] }, .int .i64 0] 28
 replace B0 := B0.alloc B0.size (.cells #[.bool false, .string { data := #[] }, .int .i64 0, .bool false, .string { data := #[] }, .int .i64 0] 28)
 go_wp2_with fail
 (with_reducible refine (h1 _).mono ?_)
 rintro r w1 ⟨rfl, hb1⟩
 replace F2 := F2.keep hb1
 replace B0 := B0.trans (hb1.mono B0.size)
 clear hb1
 replace F2 := F2.allocd (.cells #[.bool false, .string { data := #[] }, .int .i64 0] 24)
 replace B0 := B0.alloc B0.size (.cells #[.bool false, .string { data := #[] }, .int .i64 0] 24)
 go_wp2_with fail
 (with_reducible refine (h2 _).mono ?_)
 rintro r w2 ⟨rfl, hb2⟩
 replace F2 := F2.keep hb2
 replace B0 := B0.trans (hb2.mono B0.size)
 clear hb2
 replace F2 := F2.allocd (.cells #[.bool qn, .string qS, .int .i64 qe] 24)
 replace B0 := B0.alloc B0.size (.cells #[.bool qn, .string qS, .int .i64 qe] 24)
 obtain ⟨xF22_0, xF22_1, xF22_2, xF22_3, xF22_4, xF22_5⟩ := F2.ce6
 obtain ⟨xF22_0f, xF22_1f, xF22_2f, xF22_3f, xF22_4f, xF22_5f⟩ := F2.fr6
 replace F2 : Blk ((((((((w2).alloc (.cells #[.bool qn, .string qS, .int .i64 qe] 24)).setCell ⟨w.heap.size, 0, none⟩ (.bool false)).setCell ⟨w.heap.size, 1, none⟩ (.string { data := #[] })).setCell ⟨w.heap.size, 2, none⟩ (.int .i64 0)).setCell ⟨w.heap.size, 3, none⟩ (.bool false)).setCell ⟨w.heap.size, 4, none⟩ (.string { data := #[] })).setCell ⟨w.heap.size, 5, none⟩ (.int .i64 0)) (w.heap.size) #[.bool false, .string { data := #[] }, .int .i64 0, .bool false, .string { data := #[] }, .int .i64 0] 28 := ((((((F2.setAt 0 (.bool false)).setAt 1 (.string { data := #[] })).setAt 2 (.int .i64 0)).setAt 3 (.bool false)).setAt 4 (.string { data := #[] })).setAt 5 (.int .i64 0))
 replace B0 := ((((((B0.setCell (p := ⟨w.heap.size, 0, none⟩) q_w_F2.out (.bool false)).setCell (p := ⟨w.heap.size, 1, none⟩) q_w_F2.out (.string { data := #[] })).setCell (p := ⟨w.heap.size, 2, none⟩) q_w_F2.out (.int .i64 0)).setCell (p := ⟨w.heap.size, 3, none⟩) q_w_F2.out (.bool false)).setCell (p := ⟨w.heap.size, 4, none⟩) q_w_F2.out (.string { data := #[] })).setCell (p := ⟨w.heap.size, 5, none⟩) q_w_F2.out (.int .i64 0))
 obtain ⟨xF23_0, xF23_1, xF23_2, xF23_3, xF23_4, xF23_5⟩ := F2.ce6
 go_wp2
 exact bodyPost_ret (v := .tuple #[.agg #[.bool false, .string { data := #[] }, .int .i64 0, .bool false, .string { data := #[] }, .int .i64 0], .int .i64 5]) (by simp [results, Tryz.results44, go_sem, xF23_0, xF23_1, xF23_2, xF23_3, xF23_4, xF23_5]) rfl ⟨rfl, B0⟩

theorem qcomplex_bad (x y : Nat) (hx : x < 18446744073709551616) (hy : y < 18446744073709551616) (h : flQ x = 2047 ∨ flQ y = 2047) (w : World) :
  Calls Tryz.prog 44 #[.complex .f64 x y] w fun r w' => r = .returned (.tuple #[.agg #[.bool false, .string { data := #[] }, .int .i64 0, .bool false, .string { data := #[] }, .int .i64 0], .int .i64 5]) ∧ Below w.heap.size w w' := by
 by_cases kx : flQ x = 2047
 ·by_cases ky : flQ y = 2047
  ·exact qcomplex_x x y w hx kx _ _ _ _ (fun W => rcfl_bad y W hy ky)
  ·exact qcomplex_x x y w hx kx _ _ _ _ (fun W => rcfl y W hy ky)
 ·have ky : flQ y = 2047 := h.resolve_left kx
  exact qcomplex_y x y _ rfl w hx kx hy ky

end Go.Proofs.YtfbkopepkklkjaaGreatDoor
