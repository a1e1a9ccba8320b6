/- view.Cover: the walk, all ways, over letters. -/
import Derived.Test.YtfbkopepkklkjaaGreatDoorQ5
import Derived.Test.YtfbkopepkklkjaaGreatDoorQ6
import Derived.Test.YtfbkopepkklkjaaGreatDoorQ7
import Derived.Test.YtfbkopepkklkjaaGreatDoorG6
import Derived.Deep.CutBlock
namespace Go.Proofs.YtfbkopepkklkjaaGreatDoor
open Go Go.RowKit Go.PlainAid Fil


set_option maxRecDepth 1000000 in
set_option maxHeartbeats 16000000 in
theorem cover_main (e er ef em ez d0 d1 d2 d3 f0 f1 f2 f3 K0 K1 K2 K3 : Int) (ok : Bool) (x y R bx by' bR : Nat) (ln : Bool) (lS : ByteArray) (le : Int) (bn : Bool) (bS : ByteArray) (be : Int) (pn : Bool) (pS : ByteArray) (pe : Int) (qn : Bool) (qS : ByteArray) (qe : Int) (mn : Bool) (mS : ByteArray) (me : Int) (nn : Bool) (nS : ByteArray) (ne : Int) (gn : Bool) (gS : ByteArray) (ge : Int) (hn : Bool) (hS : ByteArray) (he : Int) (s0n : Bool) (s0S : ByteArray) (s0e : Int) (s1n : Bool) (s1S : ByteArray) (s1e : Int) (s2n : Bool) (s2S : ByteArray) (s2e : Int) (s3n : Bool) (s3S : ByteArray) (s3e : Int) (t0n : Bool) (t0S : ByteArray) (t0e : Int) (t1n : Bool) (t1S : ByteArray) (t1e : Int) (t2n : Bool) (t2S : ByteArray) (t2e : Int) (t3n : Bool) (t3S : ByteArray) (t3e : Int) (n0n : Bool) (n0S : ByteArray) (n0e : Int) (n1n : Bool) (n1S : ByteArray) (n1e : Int) (n2n : Bool) (n2S : ByteArray) (n2e : Int) (n3n : Bool) (n3S : ByteArray) (n3e : Int) (u0n : Bool) (u0S : ByteArray) (u0e : Int) (u1n : Bool) (u1S : ByteArray) (u1e : Int) (u2n : Bool) (u2S : ByteArray) (u2e : Int) (u3n : Bool) (u3S : ByteArray) (u3e : Int) (P0 P1 P2 P3 P4 : Prop) (w : World) (h1 : ∀ W : World, Calls Tryz.prog 11 #[.agg #[.bool ln, .string lS, .int .i64 le, .bool bn, .string bS, .int .i64 be, .int .i64 e]] W fun r w' => r = .returned (.int .i64 0) ∧ Below W.heap.size W w') (h : ((ef ≠ 0 ∧ ef = er ∧ 0 = bx ∧ 0 = by' ∧ 0 = bR ∧ (∀ W : World, Tab W → Calls Tryz.prog 5 #[.agg #[.bool ln, .string lS, .int .i64 le, .bool bn, .string bS, .int .i64 be, .int .i64 e]] W fun r w' => r = .returned (.tuple #[.agg #[.bool false, .string { data := #[] }, .int .i64 0, .bool false, .string { data := #[] }, .int .i64 0, .bool false, .string { data := #[] }, .int .i64 0, .bool false, .string { data := #[] }, .int .i64 0, .bool false, .string { data := #[] }, .int .i64 0, .bool false, .string { data := #[] }, .int .i64 0, .bool false, .string { data := #[] }, .int .i64 0, .bool false, .string { data := #[] }, .int .i64 0], .int .i64 ef]) ∧ Below W.heap.size W w')) ∨ ((∀ W : World, Tab W → Calls Tryz.prog 5 #[.agg #[.bool ln, .string lS, .int .i64 le, .bool bn, .string bS, .int .i64 be, .int .i64 e]] W fun r w' => r = .returned (.tuple #[.agg #[.bool ln, .string lS, .int .i64 le, .bool bn, .string bS, .int .i64 be, .bool pn, .string pS, .int .i64 pe, .bool bn, .string bS, .int .i64 be, .bool ln, .string lS, .int .i64 le, .bool qn, .string qS, .int .i64 qe, .bool pn, .string pS, .int .i64 pe, .bool qn, .string qS, .int .i64 qe], .int .i64 0]) ∧ Below W.heap.size W w') ∧ ((em ≠ 0 ∧ em = er ∧ 0 = bx ∧ 0 = by' ∧ 0 = bR ∧ (∀ W : World, Tab W → Calls Tryz.prog 6 #[.agg #[.bool ln, .string lS, .int .i64 le, .bool bn, .string bS, .int .i64 be, .int .i64 e]] W fun r w' => r = .returned (.tuple #[.agg #[.bool false, .string { data := #[] }, .int .i64 0, .bool false, .string { data := #[] }, .int .i64 0], .int .i64 em]) ∧ Below W.heap.size W w')) ∨ ((∀ W : World, Tab W → Calls Tryz.prog 6 #[.agg #[.bool ln, .string lS, .int .i64 le, .bool bn, .string bS, .int .i64 be, .int .i64 e]] W fun r w' => r = .returned (.tuple #[.agg #[.bool mn, .string mS, .int .i64 me, .bool nn, .string nS, .int .i64 ne], .int .i64 0]) ∧ Below W.heap.size W w') ∧ ((∀ W : World, Tab W → Calls Tryz.prog 37 #[.agg #[.bool mn, .string mS, .int .i64 me, .bool nn, .string nS, .int .i64 ne]] W fun r w' => r = .returned (.tuple #[.complex .f64 x y, .int .i64 0]) ∧ Below W.heap.size W w') ∧ ((ez ≠ 0 ∧ ez = er ∧ 0 = bx ∧ 0 = by' ∧ 0 = bR ∧ (∀ W : World, Tab W → Calls Tryz.prog 38 #[.complex .f64 x y] W fun r w' => r = .returned (.tuple #[.agg #[.bool false, .string { data := #[] }, .int .i64 0, .bool false, .string { data := #[] }, .int .i64 0], .int .i64 ez]) ∧ Below W.heap.size W w')) ∨ ((∀ W : World, Tab W → Calls Tryz.prog 38 #[.complex .f64 x y] W fun r w' => r = .returned (.tuple #[.agg #[.bool gn, .string gS, .int .i64 ge, .bool hn, .string hS, .int .i64 he], .int .i64 0]) ∧ Below W.heap.size W w') ∧ P0)))))))) (k0 : P0 → ((d0 ≠ 0 ∧ d0 = er ∧ 0 = bx ∧ 0 = by' ∧ 0 = bR ∧ (∀ W : World, Tab W → Calls Tryz.prog 39 #[.agg #[.bool ln, .string lS, .int .i64 le, .bool bn, .string bS, .int .i64 be], .agg #[.bool gn, .string gS, .int .i64 ge, .bool hn, .string hS, .int .i64 he]] W fun r w' => r = .returned (.tuple #[.agg #[.bool false, .string { data := #[] }, .int .i64 0, .bool false, .string { data := #[] }, .int .i64 0], .int .i64 d0]) ∧ Below W.heap.size W w')) ∨ ((∀ W : World, Tab W → Calls Tryz.prog 39 #[.agg #[.bool ln, .string lS, .int .i64 le, .bool bn, .string bS, .int .i64 be], .agg #[.bool gn, .string gS, .int .i64 ge, .bool hn, .string hS, .int .i64 he]] W fun r w' => r = .returned (.tuple #[.agg #[.bool s0n, .string s0S, .int .i64 s0e, .bool t0n, .string t0S, .int .i64 t0e], .int .i64 0]) ∧ Below W.heap.size W w') ∧ ((f0 ≠ 0 ∧ f0 = er ∧ 0 = bx ∧ 0 = by' ∧ 0 = bR ∧ (∀ W : World, Tab W → Calls Tryz.prog 40 #[.agg #[.bool s0n, .string s0S, .int .i64 s0e, .bool t0n, .string t0S, .int .i64 t0e]] W fun r w' => r = .returned (.tuple #[.agg #[.bool false, .string { data := #[] }, .int .i64 0], .int .i64 f0]) ∧ Below W.heap.size W w')) ∨ ((∀ W : World, Tab W → Calls Tryz.prog 40 #[.agg #[.bool s0n, .string s0S, .int .i64 s0e, .bool t0n, .string t0S, .int .i64 t0e]] W fun r w' => r = .returned (.tuple #[.agg #[.bool n0n, .string n0S, .int .i64 n0e], .int .i64 0]) ∧ Below W.heap.size W w') ∧ (∀ W : World, Calls Tryz.prog 24 #[.agg #[.bool n0n, .string n0S, .int .i64 n0e], .agg #[.bool false, .string { data := #[] }, .int .i64 0]] W fun r w' => r = .returned (.tuple #[.int .i64 K0, .int .i64 0]) ∧ Below W.heap.size W w') ∧ ((0 < K0 ∧ n0n = u0n ∧ n0S = u0S ∧ n0e = u0e) ∨ (¬ 0 < K0 ∧ false = u0n ∧ { data := #[] } = u0S ∧ 0 = u0e)) ∧ P1))))) (k1 : P1 → ((d1 ≠ 0 ∧ d1 = er ∧ 0 = bx ∧ 0 = by' ∧ 0 = bR ∧ (∀ W : World, Tab W → Calls Tryz.prog 39 #[.agg #[.bool pn, .string pS, .int .i64 pe, .bool bn, .string bS, .int .i64 be], .agg #[.bool gn, .string gS, .int .i64 ge, .bool hn, .string hS, .int .i64 he]] W fun r w' => r = .returned (.tuple #[.agg #[.bool false, .string { data := #[] }, .int .i64 0, .bool false, .string { data := #[] }, .int .i64 0], .int .i64 d1]) ∧ Below W.heap.size W w')) ∨ ((∀ W : World, Tab W → Calls Tryz.prog 39 #[.agg #[.bool pn, .string pS, .int .i64 pe, .bool bn, .string bS, .int .i64 be], .agg #[.bool gn, .string gS, .int .i64 ge, .bool hn, .string hS, .int .i64 he]] W fun r w' => r = .returned (.tuple #[.agg #[.bool s1n, .string s1S, .int .i64 s1e, .bool t1n, .string t1S, .int .i64 t1e], .int .i64 0]) ∧ Below W.heap.size W w') ∧ ((f1 ≠ 0 ∧ f1 = er ∧ 0 = bx ∧ 0 = by' ∧ 0 = bR ∧ (∀ W : World, Tab W → Calls Tryz.prog 40 #[.agg #[.bool s1n, .string s1S, .int .i64 s1e, .bool t1n, .string t1S, .int .i64 t1e]] W fun r w' => r = .returned (.tuple #[.agg #[.bool false, .string { data := #[] }, .int .i64 0], .int .i64 f1]) ∧ Below W.heap.size W w')) ∨ ((∀ W : World, Tab W → Calls Tryz.prog 40 #[.agg #[.bool s1n, .string s1S, .int .i64 s1e, .bool t1n, .string t1S, .int .i64 t1e]] W fun r w' => r = .returned (.tuple #[.agg #[.bool n1n, .string n1S, .int .i64 n1e], .int .i64 0]) ∧ Below W.heap.size W w') ∧ (∀ W : World, Calls Tryz.prog 24 #[.agg #[.bool n1n, .string n1S, .int .i64 n1e], .agg #[.bool u0n, .string u0S, .int .i64 u0e]] W fun r w' => r = .returned (.tuple #[.int .i64 K1, .int .i64 0]) ∧ Below W.heap.size W w') ∧ ((0 < K1 ∧ n1n = u1n ∧ n1S = u1S ∧ n1e = u1e) ∨ (¬ 0 < K1 ∧ u0n = u1n ∧ u0S = u1S ∧ u0e = u1e)) ∧ P2))))) (k2 : P2 → ((d2 ≠ 0 ∧ d2 = er ∧ 0 = bx ∧ 0 = by' ∧ 0 = bR ∧ (∀ W : World, Tab W → Calls Tryz.prog 39 #[.agg #[.bool ln, .string lS, .int .i64 le, .bool qn, .string qS, .int .i64 qe], .agg #[.bool gn, .string gS, .int .i64 ge, .bool hn, .string hS, .int .i64 he]] W fun r w' => r = .returned (.tuple #[.agg #[.bool false, .string { data := #[] }, .int .i64 0, .bool false, .string { data := #[] }, .int .i64 0], .int .i64 d2]) ∧ Below W.heap.size W w')) ∨ ((∀ W : World, Tab W → Calls Tryz.prog 39 #[.agg #[.bool ln, .string lS, .int .i64 le, .bool qn, .string qS, .int .i64 qe], .agg #[.bool gn, .string gS, .int .i64 ge, .bool hn, .string hS, .int .i64 he]] W fun r w' => r = .returned (.tuple #[.agg #[.bool s2n, .string s2S, .int .i64 s2e, .bool t2n, .string t2S, .int .i64 t2e], .int .i64 0]) ∧ Below W.heap.size W w') ∧ ((f2 ≠ 0 ∧ f2 = er ∧ 0 = bx ∧ 0 = by' ∧ 0 = bR ∧ (∀ W : World, Tab W → Calls Tryz.prog 40 #[.agg #[.bool s2n, .string s2S, .int .i64 s2e, .bool t2n, .string t2S, .int .i64 t2e]] W fun r w' => r = .returned (.tuple #[.agg #[.bool false, .string { data := #[] }, .int .i64 0], .int .i64 f2]) ∧ Below W.heap.size W w')) ∨ ((∀ W : World, Tab W → Calls Tryz.prog 40 #[.agg #[.bool s2n, .string s2S, .int .i64 s2e, .bool t2n, .string t2S, .int .i64 t2e]] W fun r w' => r = .returned (.tuple #[.agg #[.bool n2n, .string n2S, .int .i64 n2e], .int .i64 0]) ∧ Below W.heap.size W w') ∧ (∀ W : World, Calls Tryz.prog 24 #[.agg #[.bool n2n, .string n2S, .int .i64 n2e], .agg #[.bool u1n, .string u1S, .int .i64 u1e]] W fun r w' => r = .returned (.tuple #[.int .i64 K2, .int .i64 0]) ∧ Below W.heap.size W w') ∧ ((0 < K2 ∧ n2n = u2n ∧ n2S = u2S ∧ n2e = u2e) ∨ (¬ 0 < K2 ∧ u1n = u2n ∧ u1S = u2S ∧ u1e = u2e)) ∧ P3))))) (k3 : P3 → ((d3 ≠ 0 ∧ d3 = er ∧ 0 = bx ∧ 0 = by' ∧ 0 = bR ∧ (∀ W : World, Tab W → Calls Tryz.prog 39 #[.agg #[.bool pn, .string pS, .int .i64 pe, .bool qn, .string qS, .int .i64 qe], .agg #[.bool gn, .string gS, .int .i64 ge, .bool hn, .string hS, .int .i64 he]] W fun r w' => r = .returned (.tuple #[.agg #[.bool false, .string { data := #[] }, .int .i64 0, .bool false, .string { data := #[] }, .int .i64 0], .int .i64 d3]) ∧ Below W.heap.size W w')) ∨ ((∀ W : World, Tab W → Calls Tryz.prog 39 #[.agg #[.bool pn, .string pS, .int .i64 pe, .bool qn, .string qS, .int .i64 qe], .agg #[.bool gn, .string gS, .int .i64 ge, .bool hn, .string hS, .int .i64 he]] W fun r w' => r = .returned (.tuple #[.agg #[.bool s3n, .string s3S, .int .i64 s3e, .bool t3n, .string t3S, .int .i64 t3e], .int .i64 0]) ∧ Below W.heap.size W w') ∧ ((f3 ≠ 0 ∧ f3 = er ∧ 0 = bx ∧ 0 = by' ∧ 0 = bR ∧ (∀ W : World, Tab W → Calls Tryz.prog 40 #[.agg #[.bool s3n, .string s3S, .int .i64 s3e, .bool t3n, .string t3S, .int .i64 t3e]] W fun r w' => r = .returned (.tuple #[.agg #[.bool false, .string { data := #[] }, .int .i64 0], .int .i64 f3]) ∧ Below W.heap.size W w')) ∨ ((∀ W : World, Tab W → Calls Tryz.prog 40 #[.agg #[.bool s3n, .string s3S, .int .i64 s3e, .bool t3n, .string t3S, .int .i64 t3e]] W fun r w' => r = .returned (.tuple #[.agg #[.bool n3n, .string n3S, .int .i64 n3e], .int .i64 0]) ∧ Below W.heap.size W w') ∧ (∀ W : World, Calls Tryz.prog 24 #[.agg #[.bool n3n, .string n3S, .int .i64 n3e], .agg #[.bool u2n, .string u2S, .int .i64 u2e]] W fun r w' => r = .returned (.tuple #[.int .i64 K3, .int .i64 0]) ∧ Below W.heap.size W w') ∧ ((0 < K3 ∧ n3n = u3n ∧ n3S = u3S ∧ n3e = u3e) ∨ (¬ 0 < K3 ∧ u2n = u3n ∧ u2S = u3S ∧ u2e = u3e)) ∧ P4))))) (kr : P4 → ((∀ W : World, Tab W → Calls Tryz.prog 41 #[.agg #[.bool u3n, .string u3S, .int .i64 u3e]] W fun r w' => r = .returned (.tuple #[.float .f64 R, .bool ok]) ∧ Below W.heap.size W w') ∧ ((ok = false ∧ 5 = er ∧ 0 = bx ∧ 0 = by' ∧ 0 = bR) ∨ (ok = true ∧ 0 = er ∧ x = bx ∧ y = by' ∧ R = bR)))) (hT : Tab w) :
  Calls Tryz.prog 19 #[.agg #[.bool ln, .string lS, .int .i64 le, .bool bn, .string bS, .int .i64 be, .int .i64 e]] w fun r w' => r = .returned (.tuple #[.agg #[.complex .f64 bx by', .float .f64 bR], .int .i64 er]) ∧ Below w.heap.size w w' := by
 replace h := Lib.hid h
 replace k0 := Lib.hid k0
 replace k1 := Lib.hid k1
 replace k2 := Lib.hid k2
 replace k3 := Lib.hid k3
 replace kr := Lib.hid kr
 have hst1 := fun (a : Addr) (v : Nat) (m : Mode) (W : World) => (run_store Tryz.prog W a (.float .f64 v) m rfl : (store a (.float .f64 v) m).run Tryz.prog W = stored Tryz.prog W a (.float .f64 v) m)
 have hst2 := fun (a : Addr) (v u : Nat) (m : Mode) (W : World) => (run_store Tryz.prog W a (.complex .f64 v u) m rfl : (store a (.complex .f64 v u) m).run Tryz.prog W = stored Tryz.prog W a (.complex .f64 v u) m)
 go_enter Tryz.func19, Tryz.ntmps19
 have B0 := Below.refl w.heap.size w
 have F1 := Blk.put (w) #[.bool ln, .string lS, .int .i64 le, .bool bn, .string bS, .int .i64 be, .int .i64 e] 26
 replace B0 := B0.alloc B0.size (.cells #[.bool ln, .string lS, .int .i64 le, .bool bn, .string bS, .int .i64 be, .int .i64 e] 26)
 have q_w_F2 : Hid (w.heap.size ≤ w.heap.size + 1) := Lib.hid (by omega)
 replace F1 := F1.allocd (.cells #[.complex .f64 0 0, .float .f64 0] 59)
 have F2 := Blk.put ((w).alloc (.cells #[.bool ln, .string lS, .int .i64 le, .bool bn, .string bS, .int .i64 be, .int .i64 e] 26)) #[.complex .f64 0 0, .float .f64 0] 59
 rw [show ((w).alloc (.cells #[.bool ln, .string lS, .int .i64 le, .bool bn, .string bS, .int .i64 be, .int .i64 e] 26)).heap.size = w.heap.size + 1 by simp] at F2
 replace B0 := B0.alloc B0.size (.cells #[.complex .f64 0 0, .float .f64 0] 59)
 obtain ⟨xF10_0, xF10_1, xF10_2, xF10_3, xF10_4, xF10_5, xF10_6⟩ := F1.ce7
 go_wp2_with fail
 (with_reducible refine (h1 _).mono ?_)
 rintro r w1 ⟨rfl, hb1⟩
 clear xF10_0 xF10_1 xF10_2 xF10_3 xF10_4 xF10_5 xF10_6
 replace F1 := F1.keep hb1
 replace F2 := F2.keep hb1
 replace B0 := B0.trans (hb1.mono B0.size)
 clear hb1
 rcases h.out with ⟨kf, rfl, rfl, rfl, rfl, hx⟩ | ⟨hC, hh⟩
 ·have kf2 : (ef != 0) = true := by simpa using kf
  clear kf
  obtain ⟨xF11_0, xF11_1, xF11_2, xF11_3, xF11_4, xF11_5, xF11_6⟩ := F1.ce7
  go_wp2_with fail
  (with_reducible refine (hx _ (hT.below B0)).mono ?_)
  rintro r w2 ⟨rfl, hb2⟩
  clear xF11_0 xF11_1 xF11_2 xF11_3 xF11_4 xF11_5 xF11_6
  replace F1 := F1.keep hb2
  replace F2 := F2.keep hb2
  replace B0 := B0.trans (hb2.mono B0.size)
  clear hb2
  dsimp only
  go_step
  refine wpList_move rfl _ (.inl rfl) (.tuple #[.agg #[.bool false, .string { data := #[] }, .int .i64 0, .bool false, .string { data := #[] }, .int .i64 0, .bool false, .string { data := #[] }, .int .i64 0, .bool false, .string { data := #[] }, .int .i64 0, .bool false, .string { data := #[] }, .int .i64 0, .bool false, .string { data := #[] }, .int .i64 0, .bool false, .string { data := #[] }, .int .i64 0, .bool false, .string { data := #[] }, .int .i64 0], .int .i64 ef]) rfl ?_
  (try dsimp only [Act.put]); (try go_frame)
  refine wpList_extract rfl _ 0 rfl _ (.agg #[.bool false, .string { data := #[] }, .int .i64 0, .bool false, .string { data := #[] }, .int .i64 0, .bool false, .string { data := #[] }, .int .i64 0, .bool false, .string { data := #[] }, .int .i64 0, .bool false, .string { data := #[] }, .int .i64 0, .bool false, .string { data := #[] }, .int .i64 0, .bool false, .string { data := #[] }, .int .i64 0, .bool false, .string { data := #[] }, .int .i64 0]) rfl rfl ?_
  (try dsimp only [Act.put]); (try go_frame)
  refine wpList_extract rfl _ 1 rfl _ (.int .i64 ef) rfl rfl ?_
  (try dsimp only [Act.put]); (try go_frame)
  refine wpList_new rfl _ rfl _ Tryz.zeroValue29 ?_
  (try dsimp only [Act.put]); (try go_frame)
  refine wpList_store_new rfl _ _ _ rfl _ #[.bool false, .string { data := #[] }, .int .i64 0, .bool false, .string { data := #[] }, .int .i64 0, .bool false, .string { data := #[] }, .int .i64 0, .bool false, .string { data := #[] }, .int .i64 0, .bool false, .string { data := #[] }, .int .i64 0, .bool false, .string { data := #[] }, .int .i64 0, .bool false, .string { data := #[] }, .int .i64 0, .bool false, .string { data := #[] }, .int .i64 0] rfl rfl (by kernel_rfl) rfl (by simp [Value.oneCell']) ?_
  (try dsimp only [Act.put]); (try go_frame)
  clear F1
  replace F2 := F2.allocd (.cells #[.bool false, .string { data := #[] }, .int .i64 0, .bool false, .string { data := #[] }, .int .i64 0, .bool false, .string { data := #[] }, .int .i64 0, .bool false, .string { data := #[] }, .int .i64 0, .bool false, .string { data := #[] }, .int .i64 0, .bool false, .string { data := #[] }, .int .i64 0, .bool false, .string { data := #[] }, .int .i64 0, .bool false, .string { data := #[] }, .int .i64 0] 29)
  replace B0 := B0.alloc B0.size (.cells #[.bool false, .string { data := #[] }, .int .i64 0, .bool false, .string { data := #[] }, .int .i64 0, .bool false, .string { data := #[] }, .int .i64 0, .bool false, .string { data := #[] }, .int .i64 0, .bool false, .string { data := #[] }, .int .i64 0, .bool false, .string { data := #[] }, .int .i64 0, .bool false, .string { data := #[] }, .int .i64 0, .bool false, .string { data := #[] }, .int .i64 0] 29)
  refine wpList_move rfl _ (.inr rfl) (.int .i64 ef) rfl ?_
  (try dsimp only [Act.put]); (try go_frame)
  obtain ⟨xF22_0, xF22_1⟩ := F2.ce2
  obtain ⟨xF22_0f, xF22_1f⟩ := F2.fr2
  replace F2 : Blk ((((w2).alloc (.cells #[.bool false, .string { data := #[] }, .int .i64 0, .bool false, .string { data := #[] }, .int .i64 0, .bool false, .string { data := #[] }, .int .i64 0, .bool false, .string { data := #[] }, .int .i64 0, .bool false, .string { data := #[] }, .int .i64 0, .bool false, .string { data := #[] }, .int .i64 0, .bool false, .string { data := #[] }, .int .i64 0, .bool false, .string { data := #[] }, .int .i64 0] 29)).setCell ⟨w.heap.size + 1, 0, none⟩ (.complex .f64 0 0)).setCell ⟨w.heap.size + 1, 1, none⟩ (.float .f64 0)) (w.heap.size + 1) #[.complex .f64 0 0, .float .f64 0] 59 := ((F2.setAt 0 (.complex .f64 0 0)).setAt 1 (.float .f64 0))
  replace B0 := ((B0.setCell (p := ⟨w.heap.size + 1, 0, none⟩) q_w_F2.out (.complex .f64 0 0)).setCell (p := ⟨w.heap.size + 1, 1, none⟩) q_w_F2.out (.float .f64 0))
  obtain ⟨xF23_0, xF23_1⟩ := F2.ce2
  go_wp2
  exact bodyPost_ret (v := .tuple #[.agg #[.complex .f64 0 0, .float .f64 0], .int .i64 ef]) (by simp [results, Tryz.results19, go_sem, xF23_0, xF23_1]) rfl ⟨rfl, B0⟩
 ·replace h := Lib.hid hh
  clear hh
  obtain ⟨xF11_0, xF11_1, xF11_2, xF11_3, xF11_4, xF11_5, xF11_6⟩ := F1.ce7
  go_wp2_with fail
  (with_reducible refine (hC _ (hT.below B0)).mono ?_)
  rintro r w2 ⟨rfl, hb2⟩
  clear xF11_0 xF11_1 xF11_2 xF11_3 xF11_4 xF11_5 xF11_6
  replace F1 := F1.keep hb2
  replace F2 := F2.keep hb2
  replace B0 := B0.trans (hb2.mono B0.size)
  clear hb2
  dsimp only
  go_step
  refine wpList_move rfl _ (.inl rfl) (.tuple #[.agg #[.bool ln, .string lS, .int .i64 le, .bool bn, .string bS, .int .i64 be, .bool pn, .string pS, .int .i64 pe, .bool bn, .string bS, .int .i64 be, .bool ln, .string lS, .int .i64 le, .bool qn, .string qS, .int .i64 qe, .bool pn, .string pS, .int .i64 pe, .bool qn, .string qS, .int .i64 qe], .int .i64 0]) rfl ?_
  (try dsimp only [Act.put]); (try go_frame)
  refine wpList_extract rfl _ 0 rfl _ (.agg #[.bool ln, .string lS, .int .i64 le, .bool bn, .string bS, .int .i64 be, .bool pn, .string pS, .int .i64 pe, .bool bn, .string bS, .int .i64 be, .bool ln, .string lS, .int .i64 le, .bool qn, .string qS, .int .i64 qe, .bool pn, .string pS, .int .i64 pe, .bool qn, .string qS, .int .i64 qe]) rfl rfl ?_
  (try dsimp only [Act.put]); (try go_frame)
  refine wpList_extract rfl _ 1 rfl _ (.int .i64 0) rfl rfl ?_
  (try dsimp only [Act.put]); (try go_frame)
  refine wpList_new rfl _ rfl _ Tryz.zeroValue29 ?_
  (try dsimp only [Act.put]); (try go_frame)
  refine wpList_store_new rfl _ _ _ rfl _ #[.bool ln, .string lS, .int .i64 le, .bool bn, .string bS, .int .i64 be, .bool pn, .string pS, .int .i64 pe, .bool bn, .string bS, .int .i64 be, .bool ln, .string lS, .int .i64 le, .bool qn, .string qS, .int .i64 qe, .bool pn, .string pS, .int .i64 pe, .bool qn, .string qS, .int .i64 qe] rfl rfl (by kernel_rfl) rfl (by simp [Value.oneCell']) ?_
  (try dsimp only [Act.put]); (try go_frame)
  replace F1 := F1.allocd (.cells #[.bool ln, .string lS, .int .i64 le, .bool bn, .string bS, .int .i64 be, .bool pn, .string pS, .int .i64 pe, .bool bn, .string bS, .int .i64 be, .bool ln, .string lS, .int .i64 le, .bool qn, .string qS, .int .i64 qe, .bool pn, .string pS, .int .i64 pe, .bool qn, .string qS, .int .i64 qe] 29)
  replace F2 := F2.allocd (.cells #[.bool ln, .string lS, .int .i64 le, .bool bn, .string bS, .int .i64 be, .bool pn, .string pS, .int .i64 pe, .bool bn, .string bS, .int .i64 be, .bool ln, .string lS, .int .i64 le, .bool qn, .string qS, .int .i64 qe, .bool pn, .string pS, .int .i64 pe, .bool qn, .string qS, .int .i64 qe] 29)
  have F4 := Blk.put (w2) #[.bool ln, .string lS, .int .i64 le, .bool bn, .string bS, .int .i64 be, .bool pn, .string pS, .int .i64 pe, .bool bn, .string bS, .int .i64 be, .bool ln, .string lS, .int .i64 le, .bool qn, .string qS, .int .i64 qe, .bool pn, .string pS, .int .i64 pe, .bool qn, .string qS, .int .i64 qe] 29
  replace B0 := B0.alloc B0.size (.cells #[.bool ln, .string lS, .int .i64 le, .bool bn, .string bS, .int .i64 be, .bool pn, .string pS, .int .i64 pe, .bool bn, .string bS, .int .i64 be, .bool ln, .string lS, .int .i64 le, .bool qn, .string qS, .int .i64 qe, .bool pn, .string pS, .int .i64 pe, .bool qn, .string qS, .int .i64 qe] 29)
  refine wpList_move rfl _ (.inr rfl) (.int .i64 0) rfl ?_
  (try dsimp only [Act.put]); (try go_frame)
  rcases h.out with ⟨km, rfl, rfl, rfl, rfl, hx⟩ | ⟨hm, hnr, hh⟩
  ·have km2 : (em != 0) = true := by simpa using km
   clear km
   obtain ⟨xF12_0, xF12_1, xF12_2, xF12_3, xF12_4, xF12_5, xF12_6⟩ := F1.ce7
   go_wp2_with fail
   (with_reducible refine (hx _ (hT.below B0)).mono ?_)
   rintro r w3 ⟨rfl, hb3⟩
   clear xF12_0 xF12_1 xF12_2 xF12_3 xF12_4 xF12_5 xF12_6
   replace F1 := F1.keep hb3
   replace F2 := F2.keep hb3
   clear F4
   replace B0 := B0.trans (hb3.mono B0.size)
   clear hb3
   clear F1
   replace F2 := F2.allocd (.cells #[.bool false, .string { data := #[] }, .int .i64 0, .bool false, .string { data := #[] }, .int .i64 0] 28)
   replace B0 := B0.alloc B0.size (.cells #[.bool false, .string { data := #[] }, .int .i64 0, .bool false, .string { data := #[] }, .int .i64 0] 28)
   obtain ⟨xF23_0, xF23_1⟩ := F2.ce2
   obtain ⟨xF23_0f, xF23_1f⟩ := F2.fr2
   replace F2 : Blk ((((w3).alloc (.cells #[.bool false, .string { data := #[] }, .int .i64 0, .bool false, .string { data := #[] }, .int .i64 0] 28)).setCell ⟨w.heap.size + 1, 0, none⟩ (.complex .f64 0 0)).setCell ⟨w.heap.size + 1, 1, none⟩ (.float .f64 0)) (w.heap.size + 1) #[.complex .f64 0 0, .float .f64 0] 59 := ((F2.setAt 0 (.complex .f64 0 0)).setAt 1 (.float .f64 0))
   replace B0 := ((B0.setCell (p := ⟨w.heap.size + 1, 0, none⟩) q_w_F2.out (.complex .f64 0 0)).setCell (p := ⟨w.heap.size + 1, 1, none⟩) q_w_F2.out (.float .f64 0))
   obtain ⟨xF24_0, xF24_1⟩ := F2.ce2
   go_wp2
   exact bodyPost_ret (v := .tuple #[.agg #[.complex .f64 0 0, .float .f64 0], .int .i64 em]) (by simp [results, Tryz.results19, go_sem, xF24_0, xF24_1]) rfl ⟨rfl, B0⟩
  ·replace h := Lib.hid hh
   clear hh
   obtain ⟨xF12_0, xF12_1, xF12_2, xF12_3, xF12_4, xF12_5, xF12_6⟩ := F1.ce7
   go_wp2_with fail
   (with_reducible refine (hm _ (hT.below B0)).mono ?_)
   rintro r w3 ⟨rfl, hb3⟩
   clear xF12_0 xF12_1 xF12_2 xF12_3 xF12_4 xF12_5 xF12_6
   replace F1 := F1.keep hb3
   replace F2 := F2.keep hb3
   replace F4 := F4.keep hb3
   replace B0 := B0.trans (hb3.mono B0.size)
   clear hb3
   clear F1
   replace F2 := F2.allocd (.cells #[.bool mn, .string mS, .int .i64 me, .bool nn, .string nS, .int .i64 ne] 28)
   replace F4 := F4.allocd (.cells #[.bool mn, .string mS, .int .i64 me, .bool nn, .string nS, .int .i64 ne] 28)
   have F6 := Blk.put (w3) #[.bool mn, .string mS, .int .i64 me, .bool nn, .string nS, .int .i64 ne] 28
   replace B0 := B0.alloc B0.size (.cells #[.bool mn, .string mS, .int .i64 me, .bool nn, .string nS, .int .i64 ne] 28)
   obtain ⟨xF63_0, xF63_1, xF63_2, xF63_3, xF63_4, xF63_5⟩ := F6.ce6
   go_wp2_with fail
   (with_reducible refine (hnr _ (hT.below B0)).mono ?_)
   rintro r w4 ⟨rfl, hb4⟩
   clear xF63_0 xF63_1 xF63_2 xF63_3 xF63_4 xF63_5
   replace F2 := F2.keep hb4
   replace F4 := F4.keep hb4
   replace F6 := F6.keep hb4
   replace B0 := B0.trans (hb4.mono B0.size)
   clear hb4
   rcases h.out with ⟨kz, rfl, rfl, rfl, rfl, hx⟩ | ⟨hc, p0⟩
   ·have kz2 : (ez != 0) = true := by simpa using kz
    clear kz
    go_wp2_with fail
    (with_reducible refine (hx _ (hT.below B0)).mono ?_)
    rintro r w5 ⟨rfl, hb5⟩
    replace F2 := F2.keep hb5
    clear F4
    clear F6
    replace B0 := B0.trans (hb5.mono B0.size)
    clear hb5
    replace F2 := F2.allocd (.cells #[.bool false, .string { data := #[] }, .int .i64 0, .bool false, .string { data := #[] }, .int .i64 0] 28)
    replace B0 := B0.alloc B0.size (.cells #[.bool false, .string { data := #[] }, .int .i64 0, .bool false, .string { data := #[] }, .int .i64 0] 28)
    obtain ⟨xF25_0, xF25_1⟩ := F2.ce2
    obtain ⟨xF25_0f, xF25_1f⟩ := F2.fr2
    replace F2 : Blk ((((w5).alloc (.cells #[.bool false, .string { data := #[] }, .int .i64 0, .bool false, .string { data := #[] }, .int .i64 0] 28)).setCell ⟨w.heap.size + 1, 0, none⟩ (.complex .f64 0 0)).setCell ⟨w.heap.size + 1, 1, none⟩ (.float .f64 0)) (w.heap.size + 1) #[.complex .f64 0 0, .float .f64 0] 59 := ((F2.setAt 0 (.complex .f64 0 0)).setAt 1 (.float .f64 0))
    replace B0 := ((B0.setCell (p := ⟨w.heap.size + 1, 0, none⟩) q_w_F2.out (.complex .f64 0 0)).setCell (p := ⟨w.heap.size + 1, 1, none⟩) q_w_F2.out (.float .f64 0))
    obtain ⟨xF26_0, xF26_1⟩ := F2.ce2
    go_wp2
    exact bodyPost_ret (v := .tuple #[.agg #[.complex .f64 0 0, .float .f64 0], .int .i64 ez]) (by simp [results, Tryz.results19, go_sem, xF26_0, xF26_1]) rfl ⟨rfl, B0⟩
   ·clear h
    go_wp2_with fail
    (with_reducible refine (hc _ (hT.below B0)).mono ?_)
    rintro r w5 ⟨rfl, hb5⟩
    replace F2 := F2.keep hb5
    replace F4 := F4.keep hb5
    clear F6
    replace B0 := B0.trans (hb5.mono B0.size)
    clear hb5
    replace F2 := F2.allocd (.cells #[.bool gn, .string gS, .int .i64 ge, .bool hn, .string hS, .int .i64 he] 28)
    replace F4 := F4.allocd (.cells #[.bool gn, .string gS, .int .i64 ge, .bool hn, .string hS, .int .i64 he] 28)
    have F9 := Blk.put (w5) #[.bool gn, .string gS, .int .i64 ge, .bool hn, .string hS, .int .i64 he] 28
    replace B0 := B0.alloc B0.size (.cells #[.bool gn, .string gS, .int .i64 ge, .bool hn, .string hS, .int .i64 he] 28)
    have q_F2_F11 : Hid (w.heap.size + 1 < w5.heap.size + 1) := Lib.hid (by have := F2.lt; first | exact this | omega | (simp; done) | simpa using this)
    have q_F9_F11 : Hid (w5.heap.size < w5.heap.size + 1) := Lib.hid (by have := F9.lt; first | exact this | omega | (simp; done) | simpa using this)
    have q_w_F11 : Hid (w.heap.size ≤ w5.heap.size + 1) := Lib.hid (by have := B0.size; first | exact this | omega | (simp; done) | simpa using this)
    replace F2 := F2.allocd (.cells #[.bool false, .string { data := #[] }, .int .i64 0] 24)
    replace F4 := F4.allocd (.cells #[.bool false, .string { data := #[] }, .int .i64 0] 24)
    replace F9 := F9.allocd (.cells #[.bool false, .string { data := #[] }, .int .i64 0] 24)
    have F11 := Blk.put ((w5).alloc (.cells #[.bool gn, .string gS, .int .i64 ge, .bool hn, .string hS, .int .i64 he] 28)) #[.bool false, .string { data := #[] }, .int .i64 0] 24
    rw [show ((w5).alloc (.cells #[.bool gn, .string gS, .int .i64 ge, .bool hn, .string hS, .int .i64 he] 28)).heap.size = w5.heap.size + 1 by simp] at F11
    replace B0 := B0.alloc B0.size (.cells #[.bool false, .string { data := #[] }, .int .i64 0] 24)
    go_upto_region 14 with fail
    refine wp_region_lit ?_
    refine wpList_load_row rfl _ _ rfl (w2.heap.size) _ _ _ rfl F4 Tryz.underlying29 (by kernel_rfl) ?_
    (try dsimp only [Act.put]); (try go_frame)
    refine wpList_move rfl _ (.inl rfl) (.int .i64 0) rfl ?_
    (try dsimp only [Act.put]); (try go_frame)
    go_wp2_with fail
    refine wp_loop_rounds 5 ?_
    rw [rounds_succ]
    go_upto_block 1 with fail
    go_cut [] (fun  wx => Blk wx (w.heap.size + 1) #[.complex .f64 0 0, .float .f64 0] 59 ∧ Blk wx (w5.heap.size) #[.bool gn, .string gS, .int .i64 ge, .bool hn, .string hS, .int .i64 he] 28 ∧ Blk wx (w5.heap.size + 1) #[.bool u0n, .string u0S, .int .i64 u0e] 24 ∧ P1 ∧ Below w.heap.size w wx)
    case first =>
     clear kr k1 k2 k3
     as_aux_lemma =>
     go_upto_region 16 with fail
     refine wp_region_lit ?_
     refine wpList_index rfl _ _ _ rfl _ _ _ #[.bool ln, .string lS, .int .i64 le, .bool bn, .string bS, .int .i64 be] _ 0 rfl rfl Tryz.underlying29 Tryz.sizeOf28 Tryz.isAgg28 (by omega) (by omega) rfl ?_
     (try dsimp only [Act.put]); (try go_frame)
     replace F2 := F2.allocd (.cells #[.bool ln, .string lS, .int .i64 le, .bool bn, .string bS, .int .i64 be] 28)
     replace F4 := F4.allocd (.cells #[.bool ln, .string lS, .int .i64 le, .bool bn, .string bS, .int .i64 be] 28)
     replace F9 := F9.allocd (.cells #[.bool ln, .string lS, .int .i64 le, .bool bn, .string bS, .int .i64 be] 28)
     replace F11 := F11.allocd (.cells #[.bool ln, .string lS, .int .i64 le, .bool bn, .string bS, .int .i64 be] 28)
     have F13r0 := Blk.put (((w5).alloc (.cells #[.bool gn, .string gS, .int .i64 ge, .bool hn, .string hS, .int .i64 he] 28)).alloc (.cells #[.bool false, .string { data := #[] }, .int .i64 0] 24)) #[.bool ln, .string lS, .int .i64 le, .bool bn, .string bS, .int .i64 be] 28
     rw [show (((w5).alloc (.cells #[.bool gn, .string gS, .int .i64 ge, .bool hn, .string hS, .int .i64 he] 28)).alloc (.cells #[.bool false, .string { data := #[] }, .int .i64 0] 24)).heap.size = w5.heap.size + 1 + 1 by simp] at F13r0
     replace B0 := B0.alloc B0.size (.cells #[.bool ln, .string lS, .int .i64 le, .bool bn, .string bS, .int .i64 be] 28)
     rcases k0.out p0 with ⟨kd, rfl, rfl, rfl, rfl, hx⟩ | ⟨hS, hh⟩
     ·have kd2 : (d0 != 0) = true := by simpa using kd
      clear kd
      obtain ⟨xF13r05_0, xF13r05_1, xF13r05_2, xF13r05_3, xF13r05_4, xF13r05_5⟩ := F13r0.ce6
      obtain ⟨xF95_0, xF95_1, xF95_2, xF95_3, xF95_4, xF95_5⟩ := F9.ce6
      go_wp2_with fail
      (with_reducible refine (hx _ (hT.below B0)).mono ?_)
      rintro r w6 ⟨rfl, hb6⟩
      clear xF13r05_0 xF13r05_1 xF13r05_2 xF13r05_3 xF13r05_4 xF13r05_5 xF95_0 xF95_1 xF95_2 xF95_3 xF95_4 xF95_5
      replace F2 := F2.keep hb6
      replace F4 := F4.keep hb6
      replace F9 := F9.keep hb6
      replace F11 := F11.keep hb6
      replace F13r0 := F13r0.keep hb6
      replace B0 := B0.trans (hb6.mono B0.size)
      clear hb6
      replace F2 := F2.allocd (.cells #[.bool false, .string { data := #[] }, .int .i64 0, .bool false, .string { data := #[] }, .int .i64 0] 28)
      clear F4
      clear F9
      clear F11
      clear F13r0
      replace B0 := B0.alloc B0.size (.cells #[.bool false, .string { data := #[] }, .int .i64 0, .bool false, .string { data := #[] }, .int .i64 0] 28)
      obtain ⟨xF26_0, xF26_1⟩ := F2.ce2
      obtain ⟨xF26_0f, xF26_1f⟩ := F2.fr2
      replace F2 : Blk ((((w6).alloc (.cells #[.bool false, .string { data := #[] }, .int .i64 0, .bool false, .string { data := #[] }, .int .i64 0] 28)).setCell ⟨w.heap.size + 1, 0, none⟩ (.complex .f64 0 0)).setCell ⟨w.heap.size + 1, 1, none⟩ (.float .f64 0)) (w.heap.size + 1) #[.complex .f64 0 0, .float .f64 0] 59 := ((F2.setAt 0 (.complex .f64 0 0)).setAt 1 (.float .f64 0))
      replace B0 := ((B0.setCell (p := ⟨w.heap.size + 1, 0, none⟩) q_w_F2.out (.complex .f64 0 0)).setCell (p := ⟨w.heap.size + 1, 1, none⟩) q_w_F2.out (.float .f64 0))
      obtain ⟨xF27_0, xF27_1⟩ := F2.ce2
      go_wp2
      exact bodyPost_ret (v := .tuple #[.agg #[.complex .f64 0 0, .float .f64 0], .int .i64 d0]) (by simp [results, Tryz.results19, go_sem, xF27_0, xF27_1]) rfl ⟨rfl, B0⟩
     ·obtain ⟨xF13r05_0, xF13r05_1, xF13r05_2, xF13r05_3, xF13r05_4, xF13r05_5⟩ := F13r0.ce6
      obtain ⟨xF95_0, xF95_1, xF95_2, xF95_3, xF95_4, xF95_5⟩ := F9.ce6
      go_wp2_with fail
      (with_reducible refine (hS _ (hT.below B0)).mono ?_)
      rintro r w6 ⟨rfl, hb6⟩
      clear xF13r05_0 xF13r05_1 xF13r05_2 xF13r05_3 xF13r05_4 xF13r05_5 xF95_0 xF95_1 xF95_2 xF95_3 xF95_4 xF95_5
      replace F2 := F2.keep hb6
      replace F4 := F4.keep hb6
      replace F9 := F9.keep hb6
      replace F11 := F11.keep hb6
      replace F13r0 := F13r0.keep hb6
      replace B0 := B0.trans (hb6.mono B0.size)
      clear hb6
      replace F2 := F2.allocd (.cells #[.bool s0n, .string s0S, .int .i64 s0e, .bool t0n, .string t0S, .int .i64 t0e] 28)
      clear F4
      replace F9 := F9.allocd (.cells #[.bool s0n, .string s0S, .int .i64 s0e, .bool t0n, .string t0S, .int .i64 t0e] 28)
      replace F11 := F11.allocd (.cells #[.bool s0n, .string s0S, .int .i64 s0e, .bool t0n, .string t0S, .int .i64 t0e] 28)
      clear F13r0
      have F14r0 := Blk.put (w6) #[.bool s0n, .string s0S, .int .i64 s0e, .bool t0n, .string t0S, .int .i64 t0e] 28
      replace B0 := B0.alloc B0.size (.cells #[.bool s0n, .string s0S, .int .i64 s0e, .bool t0n, .string t0S, .int .i64 t0e] 28)
      rcases hh with ⟨kf, rfl, rfl, rfl, rfl, hx⟩ | ⟨hN, hK, hm, p1⟩
      ·have kf2 : (f0 != 0) = true := by simpa using kf
       clear kf
       obtain ⟨xF14r06_0, xF14r06_1, xF14r06_2, xF14r06_3, xF14r06_4, xF14r06_5⟩ := F14r0.ce6
       go_wp2_with fail
       (with_reducible refine (hx _ (hT.below B0)).mono ?_)
       rintro r w7 ⟨rfl, hb7⟩
       clear xF14r06_0 xF14r06_1 xF14r06_2 xF14r06_3 xF14r06_4 xF14r06_5
       replace F2 := F2.keep hb7
       clear F9
       clear F11
       replace F14r0 := F14r0.keep hb7
       replace B0 := B0.trans (hb7.mono B0.size)
       clear hb7
       replace F2 := F2.allocd (.cells #[.bool false, .string { data := #[] }, .int .i64 0] 24)
       clear F14r0
       replace B0 := B0.alloc B0.size (.cells #[.bool false, .string { data := #[] }, .int .i64 0] 24)
       obtain ⟨xF27_0, xF27_1⟩ := F2.ce2
       obtain ⟨xF27_0f, xF27_1f⟩ := F2.fr2
       replace F2 : Blk ((((w7).alloc (.cells #[.bool false, .string { data := #[] }, .int .i64 0] 24)).setCell ⟨w.heap.size + 1, 0, none⟩ (.complex .f64 0 0)).setCell ⟨w.heap.size + 1, 1, none⟩ (.float .f64 0)) (w.heap.size + 1) #[.complex .f64 0 0, .float .f64 0] 59 := ((F2.setAt 0 (.complex .f64 0 0)).setAt 1 (.float .f64 0))
       replace B0 := ((B0.setCell (p := ⟨w.heap.size + 1, 0, none⟩) q_w_F2.out (.complex .f64 0 0)).setCell (p := ⟨w.heap.size + 1, 1, none⟩) q_w_F2.out (.float .f64 0))
       obtain ⟨xF28_0, xF28_1⟩ := F2.ce2
       go_wp2
       exact bodyPost_ret (v := .tuple #[.agg #[.complex .f64 0 0, .float .f64 0], .int .i64 f0]) (by simp [results, Tryz.results19, go_sem, xF28_0, xF28_1]) rfl ⟨rfl, B0⟩
      ·obtain ⟨xF14r06_0, xF14r06_1, xF14r06_2, xF14r06_3, xF14r06_4, xF14r06_5⟩ := F14r0.ce6
       go_wp2_with fail
       (with_reducible refine (hN _ (hT.below B0)).mono ?_)
       rintro r w7 ⟨rfl, hb7⟩
       clear xF14r06_0 xF14r06_1 xF14r06_2 xF14r06_3 xF14r06_4 xF14r06_5
       replace F2 := F2.keep hb7
       replace F9 := F9.keep hb7
       replace F11 := F11.keep hb7
       replace F14r0 := F14r0.keep hb7
       replace B0 := B0.trans (hb7.mono B0.size)
       clear hb7
       have q_F11_F16r0 : Hid (w5.heap.size + 1 < w7.heap.size) := Lib.hid (by have := F11.lt; first | exact this | omega | (simp; done) | simpa using this)
       replace F2 := F2.allocd (.cells #[.bool n0n, .string n0S, .int .i64 n0e] 24)
       replace F9 := F9.allocd (.cells #[.bool n0n, .string n0S, .int .i64 n0e] 24)
       replace F11 := F11.allocd (.cells #[.bool n0n, .string n0S, .int .i64 n0e] 24)
       clear F14r0
       have F16r0 := Blk.put (w7) #[.bool n0n, .string n0S, .int .i64 n0e] 24
       replace B0 := B0.alloc B0.size (.cells #[.bool n0n, .string n0S, .int .i64 n0e] 24)
       obtain ⟨xF16r07_0, xF16r07_1, xF16r07_2⟩ := F16r0.ce3
       obtain ⟨xF117_0, xF117_1, xF117_2⟩ := F11.ce3
       go_wp2_with fail
       (with_reducible refine (hK _).mono ?_)
       rintro r w8 ⟨rfl, hb8⟩
       clear xF16r07_0 xF16r07_1 xF16r07_2 xF117_0 xF117_1 xF117_2
       replace F2 := F2.keep hb8
       replace F9 := F9.keep hb8
       replace F11 := F11.keep hb8
       replace F16r0 := F16r0.keep hb8
       replace B0 := B0.trans (hb8.mono B0.size)
       clear hb8
       clear hN hS hK
       rcases hm with ⟨hk, rfl, rfl, rfl⟩ | ⟨hk, rfl, rfl, rfl⟩
       ·have hk2 : decide (0 < K0) = true := decide_eq_true (by omega)
        clear hk
        obtain ⟨xF16r08_0, xF16r08_1, xF16r08_2⟩ := F16r0.ce3
        obtain ⟨xF118_0, xF118_1, xF118_2⟩ := F11.ce3
        obtain ⟨xF118_0f, xF118_1f, xF118_2f⟩ := F11.fr3
        replace F2 := (((F2.far 0 (.bool n0n) (Nat.ne_of_lt q_F2_F11.out)).far 1 (.string n0S) (Nat.ne_of_lt q_F2_F11.out)).far 2 (.int .i64 n0e) (Nat.ne_of_lt q_F2_F11.out))
        replace F9 := (((F9.far 0 (.bool n0n) (Nat.ne_of_lt q_F9_F11.out)).far 1 (.string n0S) (Nat.ne_of_lt q_F9_F11.out)).far 2 (.int .i64 n0e) (Nat.ne_of_lt q_F9_F11.out))
        replace F16r0 := (((F16r0.far 0 (.bool n0n) (Nat.ne_of_gt q_F11_F16r0.out)).far 1 (.string n0S) (Nat.ne_of_gt q_F11_F16r0.out)).far 2 (.int .i64 n0e) (Nat.ne_of_gt q_F11_F16r0.out))
        replace F11 : Blk ((((w8).setCell ⟨w5.heap.size + 1, 0, none⟩ (.bool n0n)).setCell ⟨w5.heap.size + 1, 1, none⟩ (.string n0S)).setCell ⟨w5.heap.size + 1, 2, none⟩ (.int .i64 n0e)) (w5.heap.size + 1) #[.bool n0n, .string n0S, .int .i64 n0e] 24 := (((F11.setAt 0 (.bool n0n)).setAt 1 (.string n0S)).setAt 2 (.int .i64 n0e))
        replace B0 := (((B0.setCell (p := ⟨w5.heap.size + 1, 0, none⟩) q_w_F11.out (.bool n0n)).setCell (p := ⟨w5.heap.size + 1, 1, none⟩) q_w_F11.out (.string n0S)).setCell (p := ⟨w5.heap.size + 1, 2, none⟩) q_w_F11.out (.int .i64 n0e))
        go_wp2_with fail
        go_meet
        exact ⟨F2, F9, F11, p1, B0⟩
       ·have hk2 : decide (0 < K0) = false := decide_eq_false (by omega)
        clear hk
        go_wp2_with fail
        go_meet
        exact ⟨F2, F9, F11, p1, B0⟩
    case rest =>
     clear B0
     clear F2
     clear F4
     clear F9
     clear F11
     obtain ⟨F2, F9, F11, p1, B0⟩ := hcut
     generalize wc = v1 at *
     go_wp2_with fail
     rw [rounds_succ]
     go_upto_block 1 with fail
     go_cut [] (fun  wx => Blk wx (w.heap.size + 1) #[.complex .f64 0 0, .float .f64 0] 59 ∧ Blk wx (w5.heap.size) #[.bool gn, .string gS, .int .i64 ge, .bool hn, .string hS, .int .i64 he] 28 ∧ Blk wx (w5.heap.size + 1) #[.bool u1n, .string u1S, .int .i64 u1e] 24 ∧ P2 ∧ Below w.heap.size w wx)
     case first =>
      clear kr k0 k2 k3
      as_aux_lemma =>
      go_upto_region 16 with fail
      refine wp_region_lit ?_
      refine wpList_index rfl _ _ _ rfl _ _ _ #[.bool pn, .string pS, .int .i64 pe, .bool bn, .string bS, .int .i64 be] _ 1 rfl rfl Tryz.underlying29 Tryz.sizeOf28 Tryz.isAgg28 (by omega) (by omega) rfl ?_
      (try dsimp only [Act.put]); (try go_frame)
      replace F2 := F2.allocd (.cells #[.bool pn, .string pS, .int .i64 pe, .bool bn, .string bS, .int .i64 be] 28)
      replace F9 := F9.allocd (.cells #[.bool pn, .string pS, .int .i64 pe, .bool bn, .string bS, .int .i64 be] 28)
      replace F11 := F11.allocd (.cells #[.bool pn, .string pS, .int .i64 pe, .bool bn, .string bS, .int .i64 be] 28)
      have F13r1 := Blk.put (v1) #[.bool pn, .string pS, .int .i64 pe, .bool bn, .string bS, .int .i64 be] 28
      replace B0 := B0.alloc B0.size (.cells #[.bool pn, .string pS, .int .i64 pe, .bool bn, .string bS, .int .i64 be] 28)
      rcases k1.out p1 with ⟨kd, rfl, rfl, rfl, rfl, hx⟩ | ⟨hS, hh⟩
      ·have kd2 : (d1 != 0) = true := by simpa using kd
       clear kd
       obtain ⟨xF13r16_0, xF13r16_1, xF13r16_2, xF13r16_3, xF13r16_4, xF13r16_5⟩ := F13r1.ce6
       obtain ⟨xF96_0, xF96_1, xF96_2, xF96_3, xF96_4, xF96_5⟩ := F9.ce6
       go_wp2_with fail
       (with_reducible refine (hx _ (hT.below B0)).mono ?_)
       rintro r w6 ⟨rfl, hb6⟩
       clear xF13r16_0 xF13r16_1 xF13r16_2 xF13r16_3 xF13r16_4 xF13r16_5 xF96_0 xF96_1 xF96_2 xF96_3 xF96_4 xF96_5
       replace F2 := F2.keep hb6
       replace F9 := F9.keep hb6
       replace F11 := F11.keep hb6
       replace F13r1 := F13r1.keep hb6
       replace B0 := B0.trans (hb6.mono B0.size)
       clear hb6
       replace F2 := F2.allocd (.cells #[.bool false, .string { data := #[] }, .int .i64 0, .bool false, .string { data := #[] }, .int .i64 0] 28)
       clear F9
       clear F11
       clear F13r1
       replace B0 := B0.alloc B0.size (.cells #[.bool false, .string { data := #[] }, .int .i64 0, .bool false, .string { data := #[] }, .int .i64 0] 28)
       obtain ⟨xF27_0, xF27_1⟩ := F2.ce2
       obtain ⟨xF27_0f, xF27_1f⟩ := F2.fr2
       replace F2 : Blk ((((w6).alloc (.cells #[.bool false, .string { data := #[] }, .int .i64 0, .bool false, .string { data := #[] }, .int .i64 0] 28)).setCell ⟨w.heap.size + 1, 0, none⟩ (.complex .f64 0 0)).setCell ⟨w.heap.size + 1, 1, none⟩ (.float .f64 0)) (w.heap.size + 1) #[.complex .f64 0 0, .float .f64 0] 59 := ((F2.setAt 0 (.complex .f64 0 0)).setAt 1 (.float .f64 0))
       replace B0 := ((B0.setCell (p := ⟨w.heap.size + 1, 0, none⟩) q_w_F2.out (.complex .f64 0 0)).setCell (p := ⟨w.heap.size + 1, 1, none⟩) q_w_F2.out (.float .f64 0))
       obtain ⟨xF28_0, xF28_1⟩ := F2.ce2
       go_wp2
       exact bodyPost_ret (v := .tuple #[.agg #[.complex .f64 0 0, .float .f64 0], .int .i64 d1]) (by simp [results, Tryz.results19, go_sem, xF28_0, xF28_1]) rfl ⟨rfl, B0⟩
      ·obtain ⟨xF13r16_0, xF13r16_1, xF13r16_2, xF13r16_3, xF13r16_4, xF13r16_5⟩ := F13r1.ce6
       obtain ⟨xF96_0, xF96_1, xF96_2, xF96_3, xF96_4, xF96_5⟩ := F9.ce6
       go_wp2_with fail
       (with_reducible refine (hS _ (hT.below B0)).mono ?_)
       rintro r w6 ⟨rfl, hb6⟩
       clear xF13r16_0 xF13r16_1 xF13r16_2 xF13r16_3 xF13r16_4 xF13r16_5 xF96_0 xF96_1 xF96_2 xF96_3 xF96_4 xF96_5
       replace F2 := F2.keep hb6
       replace F9 := F9.keep hb6
       replace F11 := F11.keep hb6
       replace F13r1 := F13r1.keep hb6
       replace B0 := B0.trans (hb6.mono B0.size)
       clear hb6
       replace F2 := F2.allocd (.cells #[.bool s1n, .string s1S, .int .i64 s1e, .bool t1n, .string t1S, .int .i64 t1e] 28)
       replace F9 := F9.allocd (.cells #[.bool s1n, .string s1S, .int .i64 s1e, .bool t1n, .string t1S, .int .i64 t1e] 28)
       replace F11 := F11.allocd (.cells #[.bool s1n, .string s1S, .int .i64 s1e, .bool t1n, .string t1S, .int .i64 t1e] 28)
       clear F13r1
       have F14r1 := Blk.put (w6) #[.bool s1n, .string s1S, .int .i64 s1e, .bool t1n, .string t1S, .int .i64 t1e] 28
       replace B0 := B0.alloc B0.size (.cells #[.bool s1n, .string s1S, .int .i64 s1e, .bool t1n, .string t1S, .int .i64 t1e] 28)
       rcases hh with ⟨kf, rfl, rfl, rfl, rfl, hx⟩ | ⟨hN, hK, hm, p2⟩
       ·have kf2 : (f1 != 0) = true := by simpa using kf
        clear kf
        obtain ⟨xF14r17_0, xF14r17_1, xF14r17_2, xF14r17_3, xF14r17_4, xF14r17_5⟩ := F14r1.ce6
        go_wp2_with fail
        (with_reducible refine (hx _ (hT.below B0)).mono ?_)
        rintro r w7 ⟨rfl, hb7⟩
        clear xF14r17_0 xF14r17_1 xF14r17_2 xF14r17_3 xF14r17_4 xF14r17_5
        replace F2 := F2.keep hb7
        clear F9
        clear F11
        replace F14r1 := F14r1.keep hb7
        replace B0 := B0.trans (hb7.mono B0.size)
        clear hb7
        replace F2 := F2.allocd (.cells #[.bool false, .string { data := #[] }, .int .i64 0] 24)
        clear F14r1
        replace B0 := B0.alloc B0.size (.cells #[.bool false, .string { data := #[] }, .int .i64 0] 24)
        obtain ⟨xF28_0, xF28_1⟩ := F2.ce2
        obtain ⟨xF28_0f, xF28_1f⟩ := F2.fr2
        replace F2 : Blk ((((w7).alloc (.cells #[.bool false, .string { data := #[] }, .int .i64 0] 24)).setCell ⟨w.heap.size + 1, 0, none⟩ (.complex .f64 0 0)).setCell ⟨w.heap.size + 1, 1, none⟩ (.float .f64 0)) (w.heap.size + 1) #[.complex .f64 0 0, .float .f64 0] 59 := ((F2.setAt 0 (.complex .f64 0 0)).setAt 1 (.float .f64 0))
        replace B0 := ((B0.setCell (p := ⟨w.heap.size + 1, 0, none⟩) q_w_F2.out (.complex .f64 0 0)).setCell (p := ⟨w.heap.size + 1, 1, none⟩) q_w_F2.out (.float .f64 0))
        obtain ⟨xF29_0, xF29_1⟩ := F2.ce2
        go_wp2
        exact bodyPost_ret (v := .tuple #[.agg #[.complex .f64 0 0, .float .f64 0], .int .i64 f1]) (by simp [results, Tryz.results19, go_sem, xF29_0, xF29_1]) rfl ⟨rfl, B0⟩
       ·obtain ⟨xF14r17_0, xF14r17_1, xF14r17_2, xF14r17_3, xF14r17_4, xF14r17_5⟩ := F14r1.ce6
        go_wp2_with fail
        (with_reducible refine (hN _ (hT.below B0)).mono ?_)
        rintro r w7 ⟨rfl, hb7⟩
        clear xF14r17_0 xF14r17_1 xF14r17_2 xF14r17_3 xF14r17_4 xF14r17_5
        replace F2 := F2.keep hb7
        replace F9 := F9.keep hb7
        replace F11 := F11.keep hb7
        replace F14r1 := F14r1.keep hb7
        replace B0 := B0.trans (hb7.mono B0.size)
        clear hb7
        have q_F11_F16r1 : Hid (w5.heap.size + 1 < w7.heap.size) := Lib.hid (by have := F11.lt; first | exact this | omega | (simp; done) | simpa using this)
        replace F2 := F2.allocd (.cells #[.bool n1n, .string n1S, .int .i64 n1e] 24)
        replace F9 := F9.allocd (.cells #[.bool n1n, .string n1S, .int .i64 n1e] 24)
        replace F11 := F11.allocd (.cells #[.bool n1n, .string n1S, .int .i64 n1e] 24)
        clear F14r1
        have F16r1 := Blk.put (w7) #[.bool n1n, .string n1S, .int .i64 n1e] 24
        replace B0 := B0.alloc B0.size (.cells #[.bool n1n, .string n1S, .int .i64 n1e] 24)
        obtain ⟨xF16r18_0, xF16r18_1, xF16r18_2⟩ := F16r1.ce3
        obtain ⟨xF118_0, xF118_1, xF118_2⟩ := F11.ce3
        go_wp2_with fail
        (with_reducible refine (hK _).mono ?_)
        rintro r w8 ⟨rfl, hb8⟩
        clear xF16r18_0 xF16r18_1 xF16r18_2 xF118_0 xF118_1 xF118_2
        replace F2 := F2.keep hb8
        replace F9 := F9.keep hb8
        replace F11 := F11.keep hb8
        replace F16r1 := F16r1.keep hb8
        replace B0 := B0.trans (hb8.mono B0.size)
        clear hb8
        clear hN hS hK
        rcases hm with ⟨hk, rfl, rfl, rfl⟩ | ⟨hk, rfl, rfl, rfl⟩
        ·have hk2 : decide (0 < K1) = true := decide_eq_true (by omega)
         clear hk
         obtain ⟨xF16r19_0, xF16r19_1, xF16r19_2⟩ := F16r1.ce3
         obtain ⟨xF119_0, xF119_1, xF119_2⟩ := F11.ce3
         obtain ⟨xF119_0f, xF119_1f, xF119_2f⟩ := F11.fr3
         replace F2 := (((F2.far 0 (.bool n1n) (Nat.ne_of_lt q_F2_F11.out)).far 1 (.string n1S) (Nat.ne_of_lt q_F2_F11.out)).far 2 (.int .i64 n1e) (Nat.ne_of_lt q_F2_F11.out))
         replace F9 := (((F9.far 0 (.bool n1n) (Nat.ne_of_lt q_F9_F11.out)).far 1 (.string n1S) (Nat.ne_of_lt q_F9_F11.out)).far 2 (.int .i64 n1e) (Nat.ne_of_lt q_F9_F11.out))
         replace F16r1 := (((F16r1.far 0 (.bool n1n) (Nat.ne_of_gt q_F11_F16r1.out)).far 1 (.string n1S) (Nat.ne_of_gt q_F11_F16r1.out)).far 2 (.int .i64 n1e) (Nat.ne_of_gt q_F11_F16r1.out))
         replace F11 : Blk ((((w8).setCell ⟨w5.heap.size + 1, 0, none⟩ (.bool n1n)).setCell ⟨w5.heap.size + 1, 1, none⟩ (.string n1S)).setCell ⟨w5.heap.size + 1, 2, none⟩ (.int .i64 n1e)) (w5.heap.size + 1) #[.bool n1n, .string n1S, .int .i64 n1e] 24 := (((F11.setAt 0 (.bool n1n)).setAt 1 (.string n1S)).setAt 2 (.int .i64 n1e))
         replace B0 := (((B0.setCell (p := ⟨w5.heap.size + 1, 0, none⟩) q_w_F11.out (.bool n1n)).setCell (p := ⟨w5.heap.size + 1, 1, none⟩) q_w_F11.out (.string n1S)).setCell (p := ⟨w5.heap.size + 1, 2, none⟩) q_w_F11.out (.int .i64 n1e))
         go_wp2_with fail
         go_meet
         exact ⟨F2, F9, F11, p2, B0⟩
        ·have hk2 : decide (0 < K1) = false := decide_eq_false (by omega)
         clear hk
         go_wp2_with fail
         go_meet
         exact ⟨F2, F9, F11, p2, B0⟩
     case rest =>
      clear B0
      clear F2
      clear F9
      clear F11
      obtain ⟨F2, F9, F11, p2, B0⟩ := hcut
      generalize wc = v2 at *
      go_wp2_with fail
      rw [rounds_succ]
      go_upto_block 1 with fail
      go_cut [] (fun  wx => Blk wx (w.heap.size + 1) #[.complex .f64 0 0, .float .f64 0] 59 ∧ Blk wx (w5.heap.size) #[.bool gn, .string gS, .int .i64 ge, .bool hn, .string hS, .int .i64 he] 28 ∧ Blk wx (w5.heap.size + 1) #[.bool u2n, .string u2S, .int .i64 u2e] 24 ∧ P3 ∧ Below w.heap.size w wx)
      case first =>
       clear kr k0 k1 k3
       as_aux_lemma =>
       go_upto_region 16 with fail
       refine wp_region_lit ?_
       refine wpList_index rfl _ _ _ rfl _ _ _ #[.bool ln, .string lS, .int .i64 le, .bool qn, .string qS, .int .i64 qe] _ 2 rfl rfl Tryz.underlying29 Tryz.sizeOf28 Tryz.isAgg28 (by omega) (by omega) rfl ?_
       (try dsimp only [Act.put]); (try go_frame)
       replace F2 := F2.allocd (.cells #[.bool ln, .string lS, .int .i64 le, .bool qn, .string qS, .int .i64 qe] 28)
       replace F9 := F9.allocd (.cells #[.bool ln, .string lS, .int .i64 le, .bool qn, .string qS, .int .i64 qe] 28)
       replace F11 := F11.allocd (.cells #[.bool ln, .string lS, .int .i64 le, .bool qn, .string qS, .int .i64 qe] 28)
       have F13r2 := Blk.put (v2) #[.bool ln, .string lS, .int .i64 le, .bool qn, .string qS, .int .i64 qe] 28
       replace B0 := B0.alloc B0.size (.cells #[.bool ln, .string lS, .int .i64 le, .bool qn, .string qS, .int .i64 qe] 28)
       rcases k2.out p2 with ⟨kd, rfl, rfl, rfl, rfl, hx⟩ | ⟨hS, hh⟩
       ·have kd2 : (d2 != 0) = true := by simpa using kd
        clear kd
        obtain ⟨xF13r27_0, xF13r27_1, xF13r27_2, xF13r27_3, xF13r27_4, xF13r27_5⟩ := F13r2.ce6
        obtain ⟨xF97_0, xF97_1, xF97_2, xF97_3, xF97_4, xF97_5⟩ := F9.ce6
        go_wp2_with fail
        (with_reducible refine (hx _ (hT.below B0)).mono ?_)
        rintro r w6 ⟨rfl, hb6⟩
        clear xF13r27_0 xF13r27_1 xF13r27_2 xF13r27_3 xF13r27_4 xF13r27_5 xF97_0 xF97_1 xF97_2 xF97_3 xF97_4 xF97_5
        replace F2 := F2.keep hb6
        replace F9 := F9.keep hb6
        replace F11 := F11.keep hb6
        replace F13r2 := F13r2.keep hb6
        replace B0 := B0.trans (hb6.mono B0.size)
        clear hb6
        replace F2 := F2.allocd (.cells #[.bool false, .string { data := #[] }, .int .i64 0, .bool false, .string { data := #[] }, .int .i64 0] 28)
        clear F9
        clear F11
        clear F13r2
        replace B0 := B0.alloc B0.size (.cells #[.bool false, .string { data := #[] }, .int .i64 0, .bool false, .string { data := #[] }, .int .i64 0] 28)
        obtain ⟨xF28_0, xF28_1⟩ := F2.ce2
        obtain ⟨xF28_0f, xF28_1f⟩ := F2.fr2
        replace F2 : Blk ((((w6).alloc (.cells #[.bool false, .string { data := #[] }, .int .i64 0, .bool false, .string { data := #[] }, .int .i64 0] 28)).setCell ⟨w.heap.size + 1, 0, none⟩ (.complex .f64 0 0)).setCell ⟨w.heap.size + 1, 1, none⟩ (.float .f64 0)) (w.heap.size + 1) #[.complex .f64 0 0, .float .f64 0] 59 := ((F2.setAt 0 (.complex .f64 0 0)).setAt 1 (.float .f64 0))
        replace B0 := ((B0.setCell (p := ⟨w.heap.size + 1, 0, none⟩) q_w_F2.out (.complex .f64 0 0)).setCell (p := ⟨w.heap.size + 1, 1, none⟩) q_w_F2.out (.float .f64 0))
        obtain ⟨xF29_0, xF29_1⟩ := F2.ce2
        go_wp2
        exact bodyPost_ret (v := .tuple #[.agg #[.complex .f64 0 0, .float .f64 0], .int .i64 d2]) (by simp [results, Tryz.results19, go_sem, xF29_0, xF29_1]) rfl ⟨rfl, B0⟩
       ·obtain ⟨xF13r27_0, xF13r27_1, xF13r27_2, xF13r27_3, xF13r27_4, xF13r27_5⟩ := F13r2.ce6
        obtain ⟨xF97_0, xF97_1, xF97_2, xF97_3, xF97_4, xF97_5⟩ := F9.ce6
        go_wp2_with fail
        (with_reducible refine (hS _ (hT.below B0)).mono ?_)
        rintro r w6 ⟨rfl, hb6⟩
        clear xF13r27_0 xF13r27_1 xF13r27_2 xF13r27_3 xF13r27_4 xF13r27_5 xF97_0 xF97_1 xF97_2 xF97_3 xF97_4 xF97_5
        replace F2 := F2.keep hb6
        replace F9 := F9.keep hb6
        replace F11 := F11.keep hb6
        replace F13r2 := F13r2.keep hb6
        replace B0 := B0.trans (hb6.mono B0.size)
        clear hb6
        replace F2 := F2.allocd (.cells #[.bool s2n, .string s2S, .int .i64 s2e, .bool t2n, .string t2S, .int .i64 t2e] 28)
        replace F9 := F9.allocd (.cells #[.bool s2n, .string s2S, .int .i64 s2e, .bool t2n, .string t2S, .int .i64 t2e] 28)
        replace F11 := F11.allocd (.cells #[.bool s2n, .string s2S, .int .i64 s2e, .bool t2n, .string t2S, .int .i64 t2e] 28)
        clear F13r2
        have F14r2 := Blk.put (w6) #[.bool s2n, .string s2S, .int .i64 s2e, .bool t2n, .string t2S, .int .i64 t2e] 28
        replace B0 := B0.alloc B0.size (.cells #[.bool s2n, .string s2S, .int .i64 s2e, .bool t2n, .string t2S, .int .i64 t2e] 28)
        rcases hh with ⟨kf, rfl, rfl, rfl, rfl, hx⟩ | ⟨hN, hK, hm, p3⟩
        ·have kf2 : (f2 != 0) = true := by simpa using kf
         clear kf
         obtain ⟨xF14r28_0, xF14r28_1, xF14r28_2, xF14r28_3, xF14r28_4, xF14r28_5⟩ := F14r2.ce6
         go_wp2_with fail
         (with_reducible refine (hx _ (hT.below B0)).mono ?_)
         rintro r w7 ⟨rfl, hb7⟩
         clear xF14r28_0 xF14r28_1 xF14r28_2 xF14r28_3 xF14r28_4 xF14r28_5
         replace F2 := F2.keep hb7
         clear F9
         clear F11
         replace F14r2 := F14r2.keep hb7
         replace B0 := B0.trans (hb7.mono B0.size)
         clear hb7
         replace F2 := F2.allocd (.cells #[.bool false, .string { data := #[] }, .int .i64 0] 24)
         clear F14r2
         replace B0 := B0.alloc B0.size (.cells #[.bool false, .string { data := #[] }, .int .i64 0] 24)
         obtain ⟨xF29_0, xF29_1⟩ := F2.ce2
         obtain ⟨xF29_0f, xF29_1f⟩ := F2.fr2
         replace F2 : Blk ((((w7).alloc (.cells #[.bool false, .string { data := #[] }, .int .i64 0] 24)).setCell ⟨w.heap.size + 1, 0, none⟩ (.complex .f64 0 0)).setCell ⟨w.heap.size + 1, 1, none⟩ (.float .f64 0)) (w.heap.size + 1) #[.complex .f64 0 0, .float .f64 0] 59 := ((F2.setAt 0 (.complex .f64 0 0)).setAt 1 (.float .f64 0))
         replace B0 := ((B0.setCell (p := ⟨w.heap.size + 1, 0, none⟩) q_w_F2.out (.complex .f64 0 0)).setCell (p := ⟨w.heap.size + 1, 1, none⟩) q_w_F2.out (.float .f64 0))
         obtain ⟨xF210_0, xF210_1⟩ := F2.ce2
         go_wp2
         exact bodyPost_ret (v := .tuple #[.agg #[.complex .f64 0 0, .float .f64 0], .int .i64 f2]) (by simp [results, Tryz.results19, go_sem, xF210_0, xF210_1]) rfl ⟨rfl, B0⟩
        ·obtain ⟨xF14r28_0, xF14r28_1, xF14r28_2, xF14r28_3, xF14r28_4, xF14r28_5⟩ := F14r2.ce6
         go_wp2_with fail
         (with_reducible refine (hN _ (hT.below B0)).mono ?_)
         rintro r w7 ⟨rfl, hb7⟩
         clear xF14r28_0 xF14r28_1 xF14r28_2 xF14r28_3 xF14r28_4 xF14r28_5
         replace F2 := F2.keep hb7
         replace F9 := F9.keep hb7
         replace F11 := F11.keep hb7
         replace F14r2 := F14r2.keep hb7
         replace B0 := B0.trans (hb7.mono B0.size)
         clear hb7
         have q_F11_F16r2 : Hid (w5.heap.size + 1 < w7.heap.size) := Lib.hid (by have := F11.lt; first | exact this | omega | (simp; done) | simpa using this)
         replace F2 := F2.allocd (.cells #[.bool n2n, .string n2S, .int .i64 n2e] 24)
         replace F9 := F9.allocd (.cells #[.bool n2n, .string n2S, .int .i64 n2e] 24)
         replace F11 := F11.allocd (.cells #[.bool n2n, .string n2S, .int .i64 n2e] 24)
         clear F14r2
         have F16r2 := Blk.put (w7) #[.bool n2n, .string n2S, .int .i64 n2e] 24
         replace B0 := B0.alloc B0.size (.cells #[.bool n2n, .string n2S, .int .i64 n2e] 24)
         obtain ⟨xF16r29_0, xF16r29_1, xF16r29_2⟩ := F16r2.ce3
         obtain ⟨xF119_0, xF119_1, xF119_2⟩ := F11.ce3
         go_wp2_with fail
         (with_reducible refine (hK _).mono ?_)
         rintro r w8 ⟨rfl, hb8⟩
         clear xF16r29_0 xF16r29_1 xF16r29_2 xF119_0 xF119_1 xF119_2
         replace F2 := F2.keep hb8
         replace F9 := F9.keep hb8
         replace F11 := F11.keep hb8
         replace F16r2 := F16r2.keep hb8
         replace B0 := B0.trans (hb8.mono B0.size)
         clear hb8
         clear hN hS hK
         rcases hm with ⟨hk, rfl, rfl, rfl⟩ | ⟨hk, rfl, rfl, rfl⟩
         ·have hk2 : decide (0 < K2) = true := decide_eq_true (by omega)
          clear hk
          obtain ⟨xF16r210_0, xF16r210_1, xF16r210_2⟩ := F16r2.ce3
          obtain ⟨xF1110_0, xF1110_1, xF1110_2⟩ := F11.ce3
          obtain ⟨xF1110_0f, xF1110_1f, xF1110_2f⟩ := F11.fr3
          replace F2 := (((F2.far 0 (.bool n2n) (Nat.ne_of_lt q_F2_F11.out)).far 1 (.string n2S) (Nat.ne_of_lt q_F2_F11.out)).far 2 (.int .i64 n2e) (Nat.ne_of_lt q_F2_F11.out))
          replace F9 := (((F9.far 0 (.bool n2n) (Nat.ne_of_lt q_F9_F11.out)).far 1 (.string n2S) (Nat.ne_of_lt q_F9_F11.out)).far 2 (.int .i64 n2e) (Nat.ne_of_lt q_F9_F11.out))
          replace F16r2 := (((F16r2.far 0 (.bool n2n) (Nat.ne_of_gt q_F11_F16r2.out)).far 1 (.string n2S) (Nat.ne_of_gt q_F11_F16r2.out)).far 2 (.int .i64 n2e) (Nat.ne_of_gt q_F11_F16r2.out))
          replace F11 : Blk ((((w8).setCell ⟨w5.heap.size + 1, 0, none⟩ (.bool n2n)).setCell ⟨w5.heap.size + 1, 1, none⟩ (.string n2S)).setCell ⟨w5.heap.size + 1, 2, none⟩ (.int .i64 n2e)) (w5.heap.size + 1) #[.bool n2n, .string n2S, .int .i64 n2e] 24 := (((F11.setAt 0 (.bool n2n)).setAt 1 (.string n2S)).setAt 2 (.int .i64 n2e))
          replace B0 := (((B0.setCell (p := ⟨w5.heap.size + 1, 0, none⟩) q_w_F11.out (.bool n2n)).setCell (p := ⟨w5.heap.size + 1, 1, none⟩) q_w_F11.out (.string n2S)).setCell (p := ⟨w5.heap.size + 1, 2, none⟩) q_w_F11.out (.int .i64 n2e))
          go_wp2_with fail
          go_meet
          exact ⟨F2, F9, F11, p3, B0⟩
         ·have hk2 : decide (0 < K2) = false := decide_eq_false (by omega)
          clear hk
          go_wp2_with fail
          go_meet
          exact ⟨F2, F9, F11, p3, B0⟩
      case rest =>
       clear B0
       clear F2
       clear F9
       clear F11
       obtain ⟨F2, F9, F11, p3, B0⟩ := hcut
       generalize wc = v3 at *
       go_wp2_with fail
       rw [rounds_succ]
       go_upto_block 1 with fail
       go_cut [] (fun  wx => Blk wx (w.heap.size + 1) #[.complex .f64 0 0, .float .f64 0] 59 ∧ Blk wx (w5.heap.size) #[.bool gn, .string gS, .int .i64 ge, .bool hn, .string hS, .int .i64 he] 28 ∧ Blk wx (w5.heap.size + 1) #[.bool u3n, .string u3S, .int .i64 u3e] 24 ∧ P4 ∧ Below w.heap.size w wx)
       case first =>
        clear kr k0 k1 k2
        as_aux_lemma =>
        go_upto_region 16 with fail
        refine wp_region_lit ?_
        refine wpList_index rfl _ _ _ rfl _ _ _ #[.bool pn, .string pS, .int .i64 pe, .bool qn, .string qS, .int .i64 qe] _ 3 rfl rfl Tryz.underlying29 Tryz.sizeOf28 Tryz.isAgg28 (by omega) (by omega) rfl ?_
        (try dsimp only [Act.put]); (try go_frame)
        replace F2 := F2.allocd (.cells #[.bool pn, .string pS, .int .i64 pe, .bool qn, .string qS, .int .i64 qe] 28)
        replace F9 := F9.allocd (.cells #[.bool pn, .string pS, .int .i64 pe, .bool qn, .string qS, .int .i64 qe] 28)
        replace F11 := F11.allocd (.cells #[.bool pn, .string pS, .int .i64 pe, .bool qn, .string qS, .int .i64 qe] 28)
        have F13r3 := Blk.put (v3) #[.bool pn, .string pS, .int .i64 pe, .bool qn, .string qS, .int .i64 qe] 28
        replace B0 := B0.alloc B0.size (.cells #[.bool pn, .string pS, .int .i64 pe, .bool qn, .string qS, .int .i64 qe] 28)
        rcases k3.out p3 with ⟨kd, rfl, rfl, rfl, rfl, hx⟩ | ⟨hS, hh⟩
        ·have kd2 : (d3 != 0) = true := by simpa using kd
         clear kd
         obtain ⟨xF13r38_0, xF13r38_1, xF13r38_2, xF13r38_3, xF13r38_4, xF13r38_5⟩ := F13r3.ce6
         obtain ⟨xF98_0, xF98_1, xF98_2, xF98_3, xF98_4, xF98_5⟩ := F9.ce6
         go_wp2_with fail
         (with_reducible refine (hx _ (hT.below B0)).mono ?_)
         rintro r w6 ⟨rfl, hb6⟩
         clear xF13r38_0 xF13r38_1 xF13r38_2 xF13r38_3 xF13r38_4 xF13r38_5 xF98_0 xF98_1 xF98_2 xF98_3 xF98_4 xF98_5
         replace F2 := F2.keep hb6
         replace F9 := F9.keep hb6
         replace F11 := F11.keep hb6
         replace F13r3 := F13r3.keep hb6
         replace B0 := B0.trans (hb6.mono B0.size)
         clear hb6
         replace F2 := F2.allocd (.cells #[.bool false, .string { data := #[] }, .int .i64 0, .bool false, .string { data := #[] }, .int .i64 0] 28)
         clear F9
         clear F11
         clear F13r3
         replace B0 := B0.alloc B0.size (.cells #[.bool false, .string { data := #[] }, .int .i64 0, .bool false, .string { data := #[] }, .int .i64 0] 28)
         obtain ⟨xF29_0, xF29_1⟩ := F2.ce2
         obtain ⟨xF29_0f, xF29_1f⟩ := F2.fr2
         replace F2 : Blk ((((w6).alloc (.cells #[.bool false, .string { data := #[] }, .int .i64 0, .bool false, .string { data := #[] }, .int .i64 0] 28)).setCell ⟨w.heap.size + 1, 0, none⟩ (.complex .f64 0 0)).setCell ⟨w.heap.size + 1, 1, none⟩ (.float .f64 0)) (w.heap.size + 1) #[.complex .f64 0 0, .float .f64 0] 59 := ((F2.setAt 0 (.complex .f64 0 0)).setAt 1 (.float .f64 0))
         replace B0 := ((B0.setCell (p := ⟨w.heap.size + 1, 0, none⟩) q_w_F2.out (.complex .f64 0 0)).setCell (p := ⟨w.heap.size + 1, 1, none⟩) q_w_F2.out (.float .f64 0))
         obtain ⟨xF210_0, xF210_1⟩ := F2.ce2
         go_wp2
         exact bodyPost_ret (v := .tuple #[.agg #[.complex .f64 0 0, .float .f64 0], .int .i64 d3]) (by simp [results, Tryz.results19, go_sem, xF210_0, xF210_1]) rfl ⟨rfl, B0⟩
        ·obtain ⟨xF13r38_0, xF13r38_1, xF13r38_2, xF13r38_3, xF13r38_4, xF13r38_5⟩ := F13r3.ce6
         obtain ⟨xF98_0, xF98_1, xF98_2, xF98_3, xF98_4, xF98_5⟩ := F9.ce6
         go_wp2_with fail
         (with_reducible refine (hS _ (hT.below B0)).mono ?_)
         rintro r w6 ⟨rfl, hb6⟩
         clear xF13r38_0 xF13r38_1 xF13r38_2 xF13r38_3 xF13r38_4 xF13r38_5 xF98_0 xF98_1 xF98_2 xF98_3 xF98_4 xF98_5
         replace F2 := F2.keep hb6
         replace F9 := F9.keep hb6
         replace F11 := F11.keep hb6
         replace F13r3 := F13r3.keep hb6
         replace B0 := B0.trans (hb6.mono B0.size)
         clear hb6
         replace F2 := F2.allocd (.cells #[.bool s3n, .string s3S, .int .i64 s3e, .bool t3n, .string t3S, .int .i64 t3e] 28)
         replace F9 := F9.allocd (.cells #[.bool s3n, .string s3S, .int .i64 s3e, .bool t3n, .string t3S, .int .i64 t3e] 28)
         replace F11 := F11.allocd (.cells #[.bool s3n, .string s3S, .int .i64 s3e, .bool t3n, .string t3S, .int .i64 t3e] 28)
         clear F13r3
         have F14r3 := Blk.put (w6) #[.bool s3n, .string s3S, .int .i64 s3e, .bool t3n, .string t3S, .int .i64 t3e] 28
         replace B0 := B0.alloc B0.size (.cells #[.bool s3n, .string s3S, .int .i64 s3e, .bool t3n, .string t3S, .int .i64 t3e] 28)
         rcases hh with ⟨kf, rfl, rfl, rfl, rfl, hx⟩ | ⟨hN, hK, hm, p4⟩
         ·have kf2 : (f3 != 0) = true := by simpa using kf
          clear kf
          obtain ⟨xF14r39_0, xF14r39_1, xF14r39_2, xF14r39_3, xF14r39_4, xF14r39_5⟩ := F14r3.ce6
          go_wp2_with fail
          (with_reducible refine (hx _ (hT.below B0)).mono ?_)
          rintro r w7 ⟨rfl, hb7⟩
          clear xF14r39_0 xF14r39_1 xF14r39_2 xF14r39_3 xF14r39_4 xF14r39_5
          replace F2 := F2.keep hb7
          clear F9
          clear F11
          replace F14r3 := F14r3.keep hb7
          replace B0 := B0.trans (hb7.mono B0.size)
          clear hb7
          replace F2 := F2.allocd (.cells #[.bool false, .string { data := #[] }, .int .i64 0] 24)
          clear F14r3
          replace B0 := B0.alloc B0.size (.cells #[.bool false, .string { data := #[] }, .int .i64 0] 24)
          obtain ⟨xF210_0, xF210_1⟩ := F2.ce2
          obtain ⟨xF210_0f, xF210_1f⟩ := F2.fr2
          replace F2 : Blk ((((w7).alloc (.cells #[.bool false, .string { data := #[] }, .int .i64 0] 24)).setCell ⟨w.heap.size + 1, 0, none⟩ (.complex .f64 0 0)).setCell ⟨w.heap.size + 1, 1, none⟩ (.float .f64 0)) (w.heap.size + 1) #[.complex .f64 0 0, .float .f64 0] 59 := ((F2.setAt 0 (.complex .f64 0 0)).setAt 1 (.float .f64 0))
          replace B0 := ((B0.setCell (p := ⟨w.heap.size + 1, 0, none⟩) q_w_F2.out (.complex .f64 0 0)).setCell (p := ⟨w.heap.size + 1, 1, none⟩) q_w_F2.out (.float .f64 0))
          obtain ⟨xF211_0, xF211_1⟩ := F2.ce2
          go_wp2
          exact bodyPost_ret (v := .tuple #[.agg #[.complex .f64 0 0, .float .f64 0], .int .i64 f3]) (by simp [results, Tryz.results19, go_sem, xF211_0, xF211_1]) rfl ⟨rfl, B0⟩
         ·obtain ⟨xF14r39_0, xF14r39_1, xF14r39_2, xF14r39_3, xF14r39_4, xF14r39_5⟩ := F14r3.ce6
          go_wp2_with fail
          (with_reducible refine (hN _ (hT.below B0)).mono ?_)
          rintro r w7 ⟨rfl, hb7⟩
          clear xF14r39_0 xF14r39_1 xF14r39_2 xF14r39_3 xF14r39_4 xF14r39_5
          replace F2 := F2.keep hb7
          replace F9 := F9.keep hb7
          replace F11 := F11.keep hb7
          replace F14r3 := F14r3.keep hb7
          replace B0 := B0.trans (hb7.mono B0.size)
          clear hb7
          have q_F11_F16r3 : Hid (w5.heap.size + 1 < w7.heap.size) := Lib.hid (by have := F11.lt; first | exact this | omega | (simp; done) | simpa using this)
          replace F2 := F2.allocd (.cells #[.bool n3n, .string n3S, .int .i64 n3e] 24)
          replace F9 := F9.allocd (.cells #[.bool n3n, .string n3S, .int .i64 n3e] 24)
          replace F11 := F11.allocd (.cells #[.bool n3n, .string n3S, .int .i64 n3e] 24)
          clear F14r3
          have F16r3 := Blk.put (w7) #[.bool n3n, .string n3S, .int .i64 n3e] 24
          replace B0 := B0.alloc B0.size (.cells #[.bool n3n, .string n3S, .int .i64 n3e] 24)
          obtain ⟨xF16r310_0, xF16r310_1, xF16r310_2⟩ := F16r3.ce3
          obtain ⟨xF1110_0, xF1110_1, xF1110_2⟩ := F11.ce3
          go_wp2_with fail
          (with_reducible refine (hK _).mono ?_)
          rintro r w8 ⟨rfl, hb8⟩
          clear xF16r310_0 xF16r310_1 xF16r310_2 xF1110_0 xF1110_1 xF1110_2
          replace F2 := F2.keep hb8
          replace F9 := F9.keep hb8
          replace F11 := F11.keep hb8
          replace F16r3 := F16r3.keep hb8
          replace B0 := B0.trans (hb8.mono B0.size)
          clear hb8
          clear hN hS hK
          rcases hm with ⟨hk, rfl, rfl, rfl⟩ | ⟨hk, rfl, rfl, rfl⟩
          ·have hk2 : decide (0 < K3) = true := decide_eq_true (by omega)
           clear hk
           obtain ⟨xF16r311_0, xF16r311_1, xF16r311_2⟩ := F16r3.ce3
           obtain ⟨xF1111_0, xF1111_1, xF1111_2⟩ := F11.ce3
           obtain ⟨xF1111_0f, xF1111_1f, xF1111_2f⟩ := F11.fr3
           replace F2 := (((F2.far 0 (.bool n3n) (Nat.ne_of_lt q_F2_F11.out)).far 1 (.string n3S) (Nat.ne_of_lt q_F2_F11.out)).far 2 (.int .i64 n3e) (Nat.ne_of_lt q_F2_F11.out))
           replace F9 := (((F9.far 0 (.bool n3n) (Nat.ne_of_lt q_F9_F11.out)).far 1 (.string n3S) (Nat.ne_of_lt q_F9_F11.out)).far 2 (.int .i64 n3e) (Nat.ne_of_lt q_F9_F11.out))
           replace F16r3 := (((F16r3.far 0 (.bool n3n) (Nat.ne_of_gt q_F11_F16r3.out)).far 1 (.string n3S) (Nat.ne_of_gt q_F11_F16r3.out)).far 2 (.int .i64 n3e) (Nat.ne_of_gt q_F11_F16r3.out))
           replace F11 : Blk ((((w8).setCell ⟨w5.heap.size + 1, 0, none⟩ (.bool n3n)).setCell ⟨w5.heap.size + 1, 1, none⟩ (.string n3S)).setCell ⟨w5.heap.size + 1, 2, none⟩ (.int .i64 n3e)) (w5.heap.size + 1) #[.bool n3n, .string n3S, .int .i64 n3e] 24 := (((F11.setAt 0 (.bool n3n)).setAt 1 (.string n3S)).setAt 2 (.int .i64 n3e))
           replace B0 := (((B0.setCell (p := ⟨w5.heap.size + 1, 0, none⟩) q_w_F11.out (.bool n3n)).setCell (p := ⟨w5.heap.size + 1, 1, none⟩) q_w_F11.out (.string n3S)).setCell (p := ⟨w5.heap.size + 1, 2, none⟩) q_w_F11.out (.int .i64 n3e))
           go_wp2_with fail
           go_meet
           exact ⟨F2, F9, F11, p4, B0⟩
          ·have hk2 : decide (0 < K3) = false := decide_eq_false (by omega)
           clear hk
           go_wp2_with fail
           go_meet
           exact ⟨F2, F9, F11, p4, B0⟩
       case rest =>
        clear B0
        clear F2
        clear F9
        clear F11
        obtain ⟨F2, F9, F11, p4, B0⟩ := hcut
        generalize wc = v4 at *
        go_wp2_with fail
        rw [rounds_succ]
        obtain ⟨hr, hh⟩ := kr.out p4
        obtain ⟨xF119_0, xF119_1, xF119_2⟩ := F11.ce3
        go_wp2_with fail
        (with_reducible refine (hr _ (hT.below B0)).mono ?_)
        rintro r w6 ⟨rfl, hb6⟩
        clear xF119_0 xF119_1 xF119_2
        replace F2 := F2.keep hb6
        replace F9 := F9.keep hb6
        replace F11 := F11.keep hb6
        replace B0 := B0.trans (hb6.mono B0.size)
        clear hb6
        rcases hh with ⟨rfl, rfl, rfl, rfl, rfl⟩ | ⟨rfl, rfl, rfl, rfl, rfl⟩
        ·obtain ⟨xF210_0, xF210_1⟩ := F2.ce2
         obtain ⟨xF210_0f, xF210_1f⟩ := F2.fr2
         clear F9
         clear F11
         replace F2 : Blk (((w6).setCell ⟨w.heap.size + 1, 0, none⟩ (.complex .f64 0 0)).setCell ⟨w.heap.size + 1, 1, none⟩ (.float .f64 0)) (w.heap.size + 1) #[.complex .f64 0 0, .float .f64 0] 59 := ((F2.setAt 0 (.complex .f64 0 0)).setAt 1 (.float .f64 0))
         replace B0 := ((B0.setCell (p := ⟨w.heap.size + 1, 0, none⟩) q_w_F2.out (.complex .f64 0 0)).setCell (p := ⟨w.heap.size + 1, 1, none⟩) q_w_F2.out (.float .f64 0))
         obtain ⟨xF211_0, xF211_1⟩ := F2.ce2
         go_wp2
         exact bodyPost_ret (v := .tuple #[.agg #[.complex .f64 0 0, .float .f64 0], .int .i64 5]) (by simp [results, Tryz.results19, go_sem, xF211_0, xF211_1]) rfl ⟨rfl, B0⟩
        ·obtain ⟨xF210_0, xF210_1⟩ := F2.ce2
         obtain ⟨xF210_0f, xF210_1f⟩ := F2.fr2
         clear F9
         clear F11
         replace F2 : Blk (((w6).setCell ⟨w.heap.size + 1, 0, none⟩ (.complex .f64 x y)).setCell ⟨w.heap.size + 1, 1, none⟩ (.float .f64 R)) (w.heap.size + 1) #[.complex .f64 x y, .float .f64 R] 59 := ((F2.setAt 0 (.complex .f64 x y)).setAt 1 (.float .f64 R))
         replace B0 := ((B0.setCell (p := ⟨w.heap.size + 1, 0, none⟩) q_w_F2.out (.complex .f64 x y)).setCell (p := ⟨w.heap.size + 1, 1, none⟩) q_w_F2.out (.float .f64 R))
         obtain ⟨xF211_0, xF211_1⟩ := F2.ce2
         go_wp2
         exact bodyPost_ret (v := .tuple #[.agg #[.complex .f64 x y, .float .f64 R], .int .i64 0]) (by simp [results, Tryz.results19, go_sem, xF211_0, xF211_1]) rfl ⟨rfl, B0⟩

set_option maxRecDepth 10000 in
set_option maxHeartbeats 4000000 in
theorem vcover_bad (l : DRw) (b : DRw) (e : Int) (w : World) (ok_l : l.fit) (ok_b : b.fit) (h : sqB l b e = false) :
  Calls Tryz.prog 19 #[.agg #[.bool l.n, .string l.s, .int .i64 l.e, .bool b.n, .string b.s, .int .i64 b.e, .int .i64 e]] w fun r w' => r = .returned (.tuple #[.agg #[.complex .f64 0 0, .float .f64 0], .int .i64 240]) ∧ Below w.heap.size w w' := by
 have h1 := fun W => vright_any l b e W ok_l ok_b
 rw [if_neg (by rw [h]; decide)] at h1
 have hst1 := fun (a : Addr) (v : Nat) (m : Mode) (W : World) => (run_store Tryz.prog W a (.float .f64 v) m rfl : (store a (.float .f64 v) m).run Tryz.prog W = stored Tryz.prog W a (.float .f64 v) m)
 have hst2 := fun (a : Addr) (v u : Nat) (m : Mode) (W : World) => (run_store Tryz.prog W a (.complex .f64 v u) m rfl : (store a (.complex .f64 v u) m).run Tryz.prog W = stored Tryz.prog W a (.complex .f64 v u) m)
 clear ok_l ok_b
 obtain ⟨ln, lS, le⟩ := l
 obtain ⟨bn, bS, be⟩ := b
 dsimp only at *
 clear h
 go_enter Tryz.func19, Tryz.ntmps19
 have B0 := Below.refl w.heap.size w
 have F1 := Blk.put (w) #[.bool ln, .string lS, .int .i64 le, .bool bn, .string bS, .int .i64 be, .int .i64 e] 26
 replace B0 := B0.alloc B0.size (.cells #[.bool ln, .string lS, .int .i64 le, .bool bn, .string bS, .int .i64 be, .int .i64 e] 26)
 have q_w_F2 : Hid (w.heap.size ≤ w.heap.size + 1) := Lib.hid (by omega)
 replace F1 := F1.allocd (.cells #[.complex .f64 0 0, .float .f64 0] 59)
 have F2 := Blk.put ((w).alloc (.cells #[.bool ln, .string lS, .int .i64 le, .bool bn, .string bS, .int .i64 be, .int .i64 e] 26)) #[.complex .f64 0 0, .float .f64 0] 59
 rw [show ((w).alloc (.cells #[.bool ln, .string lS, .int .i64 le, .bool bn, .string bS, .int .i64 be, .int .i64 e] 26)).heap.size = w.heap.size + 1 by simp] at F2
 replace B0 := B0.alloc B0.size (.cells #[.complex .f64 0 0, .float .f64 0] 59)
 obtain ⟨xF10_0, xF10_1, xF10_2, xF10_3, xF10_4, xF10_5, xF10_6⟩ := F1.ce7
 go_wp2_with fail
 (with_reducible refine (h1 _).mono ?_)
 rintro r w1 ⟨rfl, hb1⟩
 clear xF10_0 xF10_1 xF10_2 xF10_3 xF10_4 xF10_5 xF10_6
 replace F1 := F1.keep hb1
 replace F2 := F2.keep hb1
 replace B0 := B0.trans (hb1.mono B0.size)
 clear hb1
 obtain ⟨xF21_0, xF21_1⟩ := F2.ce2
 obtain ⟨xF21_0f, xF21_1f⟩ := F2.fr2
 clear F1
 replace F2 : Blk (((w1).setCell ⟨w.heap.size + 1, 0, none⟩ (.complex .f64 0 0)).setCell ⟨w.heap.size + 1, 1, none⟩ (.float .f64 0)) (w.heap.size + 1) #[.complex .f64 0 0, .float .f64 0] 59 := ((F2.setAt 0 (.complex .f64 0 0)).setAt 1 (.float .f64 0))
 replace B0 := ((B0.setCell (p := ⟨w.heap.size + 1, 0, none⟩) q_w_F2.out (.complex .f64 0 0)).setCell (p := ⟨w.heap.size + 1, 1, none⟩) q_w_F2.out (.float .f64 0))
 obtain ⟨xF22_0, xF22_1⟩ := F2.ce2
 go_wp2
 exact bodyPost_ret (v := .tuple #[.agg #[.complex .f64 0 0, .float .f64 0], .int .i64 240]) (by simp [results, Tryz.results19, go_sem, xF22_0, xF22_1]) rfl ⟨rfl, B0⟩

end Go.Proofs.YtfbkopepkklkjaaGreatDoor
