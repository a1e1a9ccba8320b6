/- The reference of layer 24: Cover, all ways, over letters. -/
import Derived.Test.YtfbkopepkklkjaaGreatDoorTK
import Derived.Test.YtfbkopepkklkjaaGreatDoorQ6
import Derived.Test.YtfbkopepkklkjaaGreatDoorQ7
import Derived.Deep.CutBlock
namespace Go.Proofs.YtfbkopepkklkjaaGreatDoor
open Go Go.RowKit Go.PlainAid Fil


set_option maxRecDepth 1000000 in
set_option maxHeartbeats 16000000 in
theorem rcover_main (e er ef em ez d0 d1 d2 d3 f0 f1 f2 f3 K0 K1 K2 K3 : Int) (x y g0 G1 bx by' bR : Nat) (Pb : Nat → Bool) (ln : Bool) (lS : ByteArray) (le : Int) (bn : Bool) (bS : ByteArray) (be : Int) (a0n : Bool) (a0S : ByteArray) (a0e : Int) (a1n : Bool) (a1S : ByteArray) (a1e : Int) (a2n : Bool) (a2S : ByteArray) (a2e : Int) (a3n : Bool) (a3S : ByteArray) (a3e : Int) (c0n : Bool) (c0S : ByteArray) (c0e : Int) (c1n : Bool) (c1S : ByteArray) (c1e : Int) (c2n : Bool) (c2S : ByteArray) (c2e : Int) (c3n : Bool) (c3S : ByteArray) (c3e : Int) (mn : Bool) (mS : ByteArray) (me : Int) (nn : Bool) (nS : ByteArray) (ne : Int) (gn : Bool) (gS : ByteArray) (ge : Int) (hn : Bool) (hS : ByteArray) (he : Int) (s0n : Bool) (s0S : ByteArray) (s0e : Int) (s1n : Bool) (s1S : ByteArray) (s1e : Int) (s2n : Bool) (s2S : ByteArray) (s2e : Int) (s3n : Bool) (s3S : ByteArray) (s3e : Int) (t0n : Bool) (t0S : ByteArray) (t0e : Int) (t1n : Bool) (t1S : ByteArray) (t1e : Int) (t2n : Bool) (t2S : ByteArray) (t2e : Int) (t3n : Bool) (t3S : ByteArray) (t3e : Int) (n0n : Bool) (n0S : ByteArray) (n0e : Int) (n1n : Bool) (n1S : ByteArray) (n1e : Int) (n2n : Bool) (n2S : ByteArray) (n2e : Int) (n3n : Bool) (n3S : ByteArray) (n3e : Int) (u0n : Bool) (u0S : ByteArray) (u0e : Int) (u1n : Bool) (u1S : ByteArray) (u1e : Int) (u2n : Bool) (u2S : ByteArray) (u2e : Int) (u3n : Bool) (u3S : ByteArray) (u3e : Int) (P0 P1 P2 P3 P4 : Prop) (w : World) (hC : (∀ W : World, Calls Tryz.prog 13 #[.agg #[.bool ln, .string lS, .int .i64 le, .bool bn, .string bS, .int .i64 be, .int .i64 e]] W fun r w' => r = .returned (.tuple #[.agg #[.bool a0n, .string a0S, .int .i64 a0e, .bool c0n, .string c0S, .int .i64 c0e, .bool a1n, .string a1S, .int .i64 a1e, .bool c1n, .string c1S, .int .i64 c1e, .bool a2n, .string a2S, .int .i64 a2e, .bool c2n, .string c2S, .int .i64 c2e, .bool a3n, .string a3S, .int .i64 a3e, .bool c3n, .string c3S, .int .i64 c3e], .int .i64 ef]) ∧ Below W.heap.size W w')) (hM : (∀ W : World, Calls Tryz.prog 14 #[.agg #[.bool ln, .string lS, .int .i64 le, .bool bn, .string bS, .int .i64 be, .int .i64 e]] W fun r w' => r = .returned (.tuple #[.agg #[.bool mn, .string mS, .int .i64 me, .bool nn, .string nS, .int .i64 ne], .int .i64 em]) ∧ Below W.heap.size W w')) (h : ((ef ≠ 0 ∧ 4 = er ∧ 0 = bx ∧ 0 = by' ∧ 0 = bR) ∨ (ef = 0 ∧ em ≠ 0 ∧ 4 = er ∧ 0 = bx ∧ 0 = by' ∧ 0 = bR) ∨ (ef = 0 ∧ em = 0 ∧ ((∀ W : World, Calls Tryz.prog 43 #[.agg #[.bool mn, .string mS, .int .i64 me, .bool nn, .string nS, .int .i64 ne]] W fun r w' => r = .returned (.complex .f64 x y) ∧ Below W.heap.size W w') ∧ (∀ W : World, Calls Tryz.prog 44 #[.complex .f64 x y] W fun r w' => r = .returned (.tuple #[.agg #[.bool gn, .string gS, .int .i64 ge, .bool hn, .string hS, .int .i64 he], .int .i64 ez]) ∧ Below W.heap.size W w') ∧ ((ez ≠ 0 ∧ 5 = er ∧ 0 = bx ∧ 0 = by' ∧ 0 = bR) ∨ (ez = 0 ∧ P0)))))) (k0 : P0 → ((∀ W : World, Calls Tryz.prog 45 #[.agg #[.bool a0n, .string a0S, .int .i64 a0e, .bool c0n, .string c0S, .int .i64 c0e], .agg #[.bool gn, .string gS, .int .i64 ge, .bool hn, .string hS, .int .i64 he]] W fun r w' => r = .returned (.tuple #[.agg #[.bool s0n, .string s0S, .int .i64 s0e, .bool t0n, .string t0S, .int .i64 t0e], .int .i64 d0]) ∧ Below W.heap.size W w') ∧ (∀ W : World, Calls Tryz.prog 46 #[.agg #[.bool s0n, .string s0S, .int .i64 s0e, .bool t0n, .string t0S, .int .i64 t0e]] W fun r w' => r = .returned (.tuple #[.agg #[.bool n0n, .string n0S, .int .i64 n0e], .int .i64 f0]) ∧ Below W.heap.size W w') ∧ ((d0 ≠ 0 ∧ 4 = er ∧ 0 = bx ∧ 0 = by' ∧ 0 = bR) ∨ (d0 = 0 ∧ f0 ≠ 0 ∧ 4 = er ∧ 0 = bx ∧ 0 = by' ∧ 0 = bR) ∨ (d0 = 0 ∧ f0 = 0 ∧ (∀ W : World, Calls Tryz.prog 36 #[.agg #[.bool false, .string { data := #[] }, .int .i64 0], .agg #[.bool n0n, .string n0S, .int .i64 n0e]] W fun r w' => r = .returned (.int .i64 K0) ∧ Below W.heap.size W w') ∧ ((K0 < 0 ∧ n0n = u0n ∧ n0S = u0S ∧ n0e = u0e) ∨ (¬ K0 < 0 ∧ false = u0n ∧ { data := #[] } = u0S ∧ 0 = u0e)) ∧ P1)))) (k1 : P1 → ((∀ W : World, Calls Tryz.prog 45 #[.agg #[.bool a1n, .string a1S, .int .i64 a1e, .bool c1n, .string c1S, .int .i64 c1e], .agg #[.bool gn, .string gS, .int .i64 ge, .bool hn, .string hS, .int .i64 he]] W fun r w' => r = .returned (.tuple #[.agg #[.bool s1n, .string s1S, .int .i64 s1e, .bool t1n, .string t1S, .int .i64 t1e], .int .i64 d1]) ∧ Below W.heap.size W w') ∧ (∀ W : World, Calls Tryz.prog 46 #[.agg #[.bool s1n, .string s1S, .int .i64 s1e, .bool t1n, .string t1S, .int .i64 t1e]] W fun r w' => r = .returned (.tuple #[.agg #[.bool n1n, .string n1S, .int .i64 n1e], .int .i64 f1]) ∧ Below W.heap.size W w') ∧ ((d1 ≠ 0 ∧ 4 = er ∧ 0 = bx ∧ 0 = by' ∧ 0 = bR) ∨ (d1 = 0 ∧ f1 ≠ 0 ∧ 4 = er ∧ 0 = bx ∧ 0 = by' ∧ 0 = bR) ∨ (d1 = 0 ∧ f1 = 0 ∧ (∀ W : World, Calls Tryz.prog 36 #[.agg #[.bool u0n, .string u0S, .int .i64 u0e], .agg #[.bool n1n, .string n1S, .int .i64 n1e]] W fun r w' => r = .returned (.int .i64 K1) ∧ Below W.heap.size W w') ∧ ((K1 < 0 ∧ n1n = u1n ∧ n1S = u1S ∧ n1e = u1e) ∨ (¬ K1 < 0 ∧ u0n = u1n ∧ u0S = u1S ∧ u0e = u1e)) ∧ P2)))) (k2 : P2 → ((∀ W : World, Calls Tryz.prog 45 #[.agg #[.bool a2n, .string a2S, .int .i64 a2e, .bool c2n, .string c2S, .int .i64 c2e], .agg #[.bool gn, .string gS, .int .i64 ge, .bool hn, .string hS, .int .i64 he]] W fun r w' => r = .returned (.tuple #[.agg #[.bool s2n, .string s2S, .int .i64 s2e, .bool t2n, .string t2S, .int .i64 t2e], .int .i64 d2]) ∧ Below W.heap.size W w') ∧ (∀ W : World, Calls Tryz.prog 46 #[.agg #[.bool s2n, .string s2S, .int .i64 s2e, .bool t2n, .string t2S, .int .i64 t2e]] W fun r w' => r = .returned (.tuple #[.agg #[.bool n2n, .string n2S, .int .i64 n2e], .int .i64 f2]) ∧ Below W.heap.size W w') ∧ ((d2 ≠ 0 ∧ 4 = er ∧ 0 = bx ∧ 0 = by' ∧ 0 = bR) ∨ (d2 = 0 ∧ f2 ≠ 0 ∧ 4 = er ∧ 0 = bx ∧ 0 = by' ∧ 0 = bR) ∨ (d2 = 0 ∧ f2 = 0 ∧ (∀ W : World, Calls Tryz.prog 36 #[.agg #[.bool u1n, .string u1S, .int .i64 u1e], .agg #[.bool n2n, .string n2S, .int .i64 n2e]] W fun r w' => r = .returned (.int .i64 K2) ∧ Below W.heap.size W w') ∧ ((K2 < 0 ∧ n2n = u2n ∧ n2S = u2S ∧ n2e = u2e) ∨ (¬ K2 < 0 ∧ u1n = u2n ∧ u1S = u2S ∧ u1e = u2e)) ∧ P3)))) (k3 : P3 → ((∀ W : World, Calls Tryz.prog 45 #[.agg #[.bool a3n, .string a3S, .int .i64 a3e, .bool c3n, .string c3S, .int .i64 c3e], .agg #[.bool gn, .string gS, .int .i64 ge, .bool hn, .string hS, .int .i64 he]] W fun r w' => r = .returned (.tuple #[.agg #[.bool s3n, .string s3S, .int .i64 s3e, .bool t3n, .string t3S, .int .i64 t3e], .int .i64 d3]) ∧ Below W.heap.size W w') ∧ (∀ W : World, Calls Tryz.prog 46 #[.agg #[.bool s3n, .string s3S, .int .i64 s3e, .bool t3n, .string t3S, .int .i64 t3e]] W fun r w' => r = .returned (.tuple #[.agg #[.bool n3n, .string n3S, .int .i64 n3e], .int .i64 f3]) ∧ Below W.heap.size W w') ∧ ((d3 ≠ 0 ∧ 4 = er ∧ 0 = bx ∧ 0 = by' ∧ 0 = bR) ∨ (d3 = 0 ∧ f3 ≠ 0 ∧ 4 = er ∧ 0 = bx ∧ 0 = by' ∧ 0 = bR) ∨ (d3 = 0 ∧ f3 = 0 ∧ (∀ W : World, Calls Tryz.prog 36 #[.agg #[.bool u2n, .string u2S, .int .i64 u2e], .agg #[.bool n3n, .string n3S, .int .i64 n3e]] W fun r w' => r = .returned (.int .i64 K3) ∧ Below W.heap.size W w') ∧ ((K3 < 0 ∧ n3n = u3n ∧ n3S = u3S ∧ n3e = u3e) ∨ (¬ K3 < 0 ∧ u2n = u3n ∧ u2S = u3S ∧ u2e = u3e)) ∧ P4)))) (kr : P4 → ((∀ (W : World) (v : Nat), v ≤ 9218868437227405311 → Calls Tryz.prog 48 #[.agg #[.bool u3n, .string u3S, .int .i64 u3e], .int .u64 (v : Nat)] W fun r w' => r = .returned (.bool (Pb v)) ∧ Below W.heap.size W w') ∧ ((Pb 9218868437227405311 = false ∧ 5 = er ∧ 0 = bx ∧ 0 = by' ∧ 0 = bR) ∨ (Pb 9218868437227405311 = true ∧ 0 = er ∧ x = bx ∧ y = by' ∧ (∀ W : World, Calls Tryz.prog 50 #[.agg #[.bool u3n, .string u3S, .int .i64 u3e]] W fun r w' => r = .returned (.float .f64 g0) ∧ Below W.heap.size W w') ∧ (∀ W : World, Calls Tryz.prog 49 #[.float .f64 g0] W fun r w' => r = .returned (.float .f64 G1) ∧ Below W.heap.size W w') ∧ G1 < 18446744073709551616 ∧ (∀ a b : Nat, a + 1 = b → b ≤ 9218868437227405311 → Pb b = true → (a = 0 ∨ Pb a = false) → b = bR))))) :
  Calls Tryz.prog 21 #[.agg #[.bool ln, .string lS, .int .i64 le, .bool bn, .string bS, .int .i64 be, .int .i64 e]] w fun r w' => r = .returned (.tuple #[.agg #[.complex .f64 bx by', .float .f64 bR], .int .i64 er]) ∧ Below w.heap.size w w' := by
 replace h := Lib.hid h
 replace k0 := Lib.hid k0
 replace k1 := Lib.hid k1
 replace k2 := Lib.hid k2
 replace k3 := Lib.hid k3
 replace kr := Lib.hid kr
 have hst1 := fun (a : Addr) (v : Nat) (m : Mode) (W : World) => (run_store Tryz.prog W a (.float .f64 v) m rfl : (store a (.float .f64 v) m).run Tryz.prog W = stored Tryz.prog W a (.float .f64 v) m)
 have hst2 := fun (a : Addr) (v u : Nat) (m : Mode) (W : World) => (run_store Tryz.prog W a (.complex .f64 v u) m rfl : (store a (.complex .f64 v u) m).run Tryz.prog W = stored Tryz.prog W a (.complex .f64 v u) m)
 go_enter Tryz.func21, Tryz.ntmps21
 have B0 := Below.refl w.heap.size w
 have F1 := Blk.put (w) #[.bool ln, .string lS, .int .i64 le, .bool bn, .string bS, .int .i64 be, .int .i64 e] 26
 replace B0 := B0.alloc B0.size (.cells #[.bool ln, .string lS, .int .i64 le, .bool bn, .string bS, .int .i64 be, .int .i64 e] 26)
 have q_w_F2 : Hid (w.heap.size ≤ w.heap.size + 1) := Lib.hid (by omega)
 replace F1 := F1.allocd (.cells #[.complex .f64 0 0, .float .f64 0] 59)
 have F2 := Blk.put ((w).alloc (.cells #[.bool ln, .string lS, .int .i64 le, .bool bn, .string bS, .int .i64 be, .int .i64 e] 26)) #[.complex .f64 0 0, .float .f64 0] 59
 rw [show ((w).alloc (.cells #[.bool ln, .string lS, .int .i64 le, .bool bn, .string bS, .int .i64 be, .int .i64 e] 26)).heap.size = w.heap.size + 1 by simp] at F2
 replace B0 := B0.alloc B0.size (.cells #[.complex .f64 0 0, .float .f64 0] 59)
 obtain ⟨xF10_0, xF10_1, xF10_2, xF10_3, xF10_4, xF10_5, xF10_6⟩ := F1.ce7
 go_wp2_with fail
 (with_reducible refine (hC _).mono ?_)
 rintro r w1 ⟨rfl, hb1⟩
 clear xF10_0 xF10_1 xF10_2 xF10_3 xF10_4 xF10_5 xF10_6
 replace F1 := F1.keep hb1
 replace F2 := F2.keep hb1
 replace B0 := B0.trans (hb1.mono B0.size)
 clear hb1
 dsimp only
 go_step
 refine wpList_move rfl _ (.inl rfl) (.tuple #[.agg #[.bool a0n, .string a0S, .int .i64 a0e, .bool c0n, .string c0S, .int .i64 c0e, .bool a1n, .string a1S, .int .i64 a1e, .bool c1n, .string c1S, .int .i64 c1e, .bool a2n, .string a2S, .int .i64 a2e, .bool c2n, .string c2S, .int .i64 c2e, .bool a3n, .string a3S, .int .i64 a3e, .bool c3n, .string c3S, .int .i64 c3e], .int .i64 ef]) rfl ?_
 (try dsimp only [Act.put]); (try go_frame)
 refine wpList_extract rfl _ 0 rfl _ (.agg #[.bool a0n, .string a0S, .int .i64 a0e, .bool c0n, .string c0S, .int .i64 c0e, .bool a1n, .string a1S, .int .i64 a1e, .bool c1n, .string c1S, .int .i64 c1e, .bool a2n, .string a2S, .int .i64 a2e, .bool c2n, .string c2S, .int .i64 c2e, .bool a3n, .string a3S, .int .i64 a3e, .bool c3n, .string c3S, .int .i64 c3e]) rfl rfl ?_
 (try dsimp only [Act.put]); (try go_frame)
 refine wpList_extract rfl _ 1 rfl _ (.int .i64 ef) rfl rfl ?_
 (try dsimp only [Act.put]); (try go_frame)
 refine wpList_new rfl _ rfl _ Tryz.zeroValue29 ?_
 (try dsimp only [Act.put]); (try go_frame)
 refine wpList_store_new rfl _ _ _ rfl _ #[.bool a0n, .string a0S, .int .i64 a0e, .bool c0n, .string c0S, .int .i64 c0e, .bool a1n, .string a1S, .int .i64 a1e, .bool c1n, .string c1S, .int .i64 c1e, .bool a2n, .string a2S, .int .i64 a2e, .bool c2n, .string c2S, .int .i64 c2e, .bool a3n, .string a3S, .int .i64 a3e, .bool c3n, .string c3S, .int .i64 c3e] rfl rfl (by kernel_rfl) rfl (by simp [Value.oneCell']) ?_
 (try dsimp only [Act.put]); (try go_frame)
 replace F1 := F1.allocd (.cells #[.bool a0n, .string a0S, .int .i64 a0e, .bool c0n, .string c0S, .int .i64 c0e, .bool a1n, .string a1S, .int .i64 a1e, .bool c1n, .string c1S, .int .i64 c1e, .bool a2n, .string a2S, .int .i64 a2e, .bool c2n, .string c2S, .int .i64 c2e, .bool a3n, .string a3S, .int .i64 a3e, .bool c3n, .string c3S, .int .i64 c3e] 29)
 replace F2 := F2.allocd (.cells #[.bool a0n, .string a0S, .int .i64 a0e, .bool c0n, .string c0S, .int .i64 c0e, .bool a1n, .string a1S, .int .i64 a1e, .bool c1n, .string c1S, .int .i64 c1e, .bool a2n, .string a2S, .int .i64 a2e, .bool c2n, .string c2S, .int .i64 c2e, .bool a3n, .string a3S, .int .i64 a3e, .bool c3n, .string c3S, .int .i64 c3e] 29)
 have F4 := Blk.put (w1) #[.bool a0n, .string a0S, .int .i64 a0e, .bool c0n, .string c0S, .int .i64 c0e, .bool a1n, .string a1S, .int .i64 a1e, .bool c1n, .string c1S, .int .i64 c1e, .bool a2n, .string a2S, .int .i64 a2e, .bool c2n, .string c2S, .int .i64 c2e, .bool a3n, .string a3S, .int .i64 a3e, .bool c3n, .string c3S, .int .i64 c3e] 29
 replace B0 := B0.alloc B0.size (.cells #[.bool a0n, .string a0S, .int .i64 a0e, .bool c0n, .string c0S, .int .i64 c0e, .bool a1n, .string a1S, .int .i64 a1e, .bool c1n, .string c1S, .int .i64 c1e, .bool a2n, .string a2S, .int .i64 a2e, .bool c2n, .string c2S, .int .i64 c2e, .bool a3n, .string a3S, .int .i64 a3e, .bool c3n, .string c3S, .int .i64 c3e] 29)
 refine wpList_move rfl _ (.inr rfl) (.int .i64 ef) rfl ?_
 (try dsimp only [Act.put]); (try go_frame)
 obtain ⟨xF11_0, xF11_1, xF11_2, xF11_3, xF11_4, xF11_5, xF11_6⟩ := F1.ce7
 go_wp2_with fail
 (with_reducible refine (hM _).mono ?_)
 rintro r w2 ⟨rfl, hb2⟩
 clear xF11_0 xF11_1 xF11_2 xF11_3 xF11_4 xF11_5 xF11_6
 replace F1 := F1.keep hb2
 replace F2 := F2.keep hb2
 replace F4 := F4.keep hb2
 replace B0 := B0.trans (hb2.mono B0.size)
 clear hb2
 clear F1
 replace F2 := F2.allocd (.cells #[.bool mn, .string mS, .int .i64 me, .bool nn, .string nS, .int .i64 ne] 28)
 replace F4 := F4.allocd (.cells #[.bool mn, .string mS, .int .i64 me, .bool nn, .string nS, .int .i64 ne] 28)
 have F6 := Blk.put (w2) #[.bool mn, .string mS, .int .i64 me, .bool nn, .string nS, .int .i64 ne] 28
 replace B0 := B0.alloc B0.size (.cells #[.bool mn, .string mS, .int .i64 me, .bool nn, .string nS, .int .i64 ne] 28)
 rcases h.out with ⟨kf, rfl, rfl, rfl, rfl⟩ | ⟨rfl, kf, rfl, rfl, rfl, rfl⟩ | ⟨rfl, rfl, hnr, hc, hh⟩
 ·have kf2 : (ef != 0) = true := by simpa using kf
  clear kf
  obtain ⟨xF22_0, xF22_1⟩ := F2.ce2
  obtain ⟨xF22_0f, xF22_1f⟩ := F2.fr2
  clear F4
  clear F6
  replace F2 : Blk ((((w2).alloc (.cells #[.bool mn, .string mS, .int .i64 me, .bool nn, .string nS, .int .i64 ne] 28)).setCell ⟨w.heap.size + 1, 0, none⟩ (.complex .f64 0 0)).setCell ⟨w.heap.size + 1, 1, none⟩ (.float .f64 0)) (w.heap.size + 1) #[.complex .f64 0 0, .float .f64 0] 59 := ((F2.setAt 0 (.complex .f64 0 0)).setAt 1 (.float .f64 0))
  replace B0 := ((B0.setCell (p := ⟨w.heap.size + 1, 0, none⟩) q_w_F2.out (.complex .f64 0 0)).setCell (p := ⟨w.heap.size + 1, 1, none⟩) q_w_F2.out (.float .f64 0))
  obtain ⟨xF23_0, xF23_1⟩ := F2.ce2
  go_wp2
  exact bodyPost_ret (v := .tuple #[.agg #[.complex .f64 0 0, .float .f64 0], .int .i64 4]) (by simp [results, Tryz.results21, go_sem, xF23_0, xF23_1]) rfl ⟨rfl, B0⟩
 ·have kf2 : (em != 0) = true := by simpa using kf
  clear kf
  obtain ⟨xF22_0, xF22_1⟩ := F2.ce2
  obtain ⟨xF22_0f, xF22_1f⟩ := F2.fr2
  clear F4
  clear F6
  replace F2 : Blk ((((w2).alloc (.cells #[.bool mn, .string mS, .int .i64 me, .bool nn, .string nS, .int .i64 ne] 28)).setCell ⟨w.heap.size + 1, 0, none⟩ (.complex .f64 0 0)).setCell ⟨w.heap.size + 1, 1, none⟩ (.float .f64 0)) (w.heap.size + 1) #[.complex .f64 0 0, .float .f64 0] 59 := ((F2.setAt 0 (.complex .f64 0 0)).setAt 1 (.float .f64 0))
  replace B0 := ((B0.setCell (p := ⟨w.heap.size + 1, 0, none⟩) q_w_F2.out (.complex .f64 0 0)).setCell (p := ⟨w.heap.size + 1, 1, none⟩) q_w_F2.out (.float .f64 0))
  obtain ⟨xF23_0, xF23_1⟩ := F2.ce2
  go_wp2
  exact bodyPost_ret (v := .tuple #[.agg #[.complex .f64 0 0, .float .f64 0], .int .i64 4]) (by simp [results, Tryz.results21, go_sem, xF23_0, xF23_1]) rfl ⟨rfl, B0⟩
 ·replace h := Lib.hid hh
  clear hh
  obtain ⟨xF62_0, xF62_1, xF62_2, xF62_3, xF62_4, xF62_5⟩ := F6.ce6
  go_wp2_with fail
  (with_reducible refine (hnr _).mono ?_)
  rintro r w3 ⟨rfl, hb3⟩
  clear xF62_0 xF62_1 xF62_2 xF62_3 xF62_4 xF62_5
  replace F2 := F2.keep hb3
  replace F4 := F4.keep hb3
  replace F6 := F6.keep hb3
  replace B0 := B0.trans (hb3.mono B0.size)
  clear hb3
  go_wp2_with fail
  (with_reducible refine (hc _).mono ?_)
  rintro r w4 ⟨rfl, hb4⟩
  replace F2 := F2.keep hb4
  replace F4 := F4.keep hb4
  clear F6
  replace B0 := B0.trans (hb4.mono B0.size)
  clear hb4
  replace F2 := F2.allocd (.cells #[.bool gn, .string gS, .int .i64 ge, .bool hn, .string hS, .int .i64 he] 28)
  replace F4 := F4.allocd (.cells #[.bool gn, .string gS, .int .i64 ge, .bool hn, .string hS, .int .i64 he] 28)
  have F9 := Blk.put (w4) #[.bool gn, .string gS, .int .i64 ge, .bool hn, .string hS, .int .i64 he] 28
  replace B0 := B0.alloc B0.size (.cells #[.bool gn, .string gS, .int .i64 ge, .bool hn, .string hS, .int .i64 he] 28)
  rcases h.out with ⟨kz, rfl, rfl, rfl, rfl⟩ | ⟨rfl, p0⟩
  ·have kz2 : (ez != 0) = true := by simpa using kz
   clear kz
   obtain ⟨xF24_0, xF24_1⟩ := F2.ce2
   obtain ⟨xF24_0f, xF24_1f⟩ := F2.fr2
   clear F4
   clear F9
   replace F2 : Blk ((((w4).alloc (.cells #[.bool gn, .string gS, .int .i64 ge, .bool hn, .string hS, .int .i64 he] 28)).setCell ⟨w.heap.size + 1, 0, none⟩ (.complex .f64 0 0)).setCell ⟨w.heap.size + 1, 1, none⟩ (.float .f64 0)) (w.heap.size + 1) #[.complex .f64 0 0, .float .f64 0] 59 := ((F2.setAt 0 (.complex .f64 0 0)).setAt 1 (.float .f64 0))
   replace B0 := ((B0.setCell (p := ⟨w.heap.size + 1, 0, none⟩) q_w_F2.out (.complex .f64 0 0)).setCell (p := ⟨w.heap.size + 1, 1, none⟩) q_w_F2.out (.float .f64 0))
   obtain ⟨xF25_0, xF25_1⟩ := F2.ce2
   go_wp2
   exact bodyPost_ret (v := .tuple #[.agg #[.complex .f64 0 0, .float .f64 0], .int .i64 5]) (by simp [results, Tryz.results21, go_sem, xF25_0, xF25_1]) rfl ⟨rfl, B0⟩
  ·clear h
   have q_F2_F10 : Hid (w.heap.size + 1 < w4.heap.size + 1) := Lib.hid (by have := F2.lt; first | exact this | omega | (simp; done) | simpa using this)
   have q_F4_F10 : Hid (w1.heap.size < w4.heap.size + 1) := Lib.hid (by have := F4.lt; first | exact this | omega | (simp; done) | simpa using this)
   have q_F9_F10 : Hid (w4.heap.size < w4.heap.size + 1) := Lib.hid (by have := F9.lt; first | exact this | omega | (simp; done) | simpa using this)
   have q_w_F10 : Hid (w.heap.size ≤ w4.heap.size + 1) := Lib.hid (by have := B0.size; first | exact this | omega | (simp; done) | simpa using this)
   replace F2 := F2.allocd (.cells #[.bool false, .string { data := #[] }, .int .i64 0] 24)
   replace F4 := F4.allocd (.cells #[.bool false, .string { data := #[] }, .int .i64 0] 24)
   replace F9 := F9.allocd (.cells #[.bool false, .string { data := #[] }, .int .i64 0] 24)
   have F10 := Blk.put ((w4).alloc (.cells #[.bool gn, .string gS, .int .i64 ge, .bool hn, .string hS, .int .i64 he] 28)) #[.bool false, .string { data := #[] }, .int .i64 0] 24
   rw [show ((w4).alloc (.cells #[.bool gn, .string gS, .int .i64 ge, .bool hn, .string hS, .int .i64 he] 28)).heap.size = w4.heap.size + 1 by simp] at F10
   replace B0 := B0.alloc B0.size (.cells #[.bool false, .string { data := #[] }, .int .i64 0] 24)
   go_wp2_with fail
   refine wp_loop_rounds 5 ?_
   rw [rounds_succ]
   go_upto_block 1 with fail
   go_cut [] (fun  wx => Blk wx (w.heap.size + 1) #[.complex .f64 0 0, .float .f64 0] 59 ∧ Blk wx (w1.heap.size) #[.bool a0n, .string a0S, .int .i64 a0e, .bool c0n, .string c0S, .int .i64 c0e, .bool a1n, .string a1S, .int .i64 a1e, .bool c1n, .string c1S, .int .i64 c1e, .bool a2n, .string a2S, .int .i64 a2e, .bool c2n, .string c2S, .int .i64 c2e, .bool a3n, .string a3S, .int .i64 a3e, .bool c3n, .string c3S, .int .i64 c3e] 29 ∧ Blk wx (w4.heap.size) #[.bool gn, .string gS, .int .i64 ge, .bool hn, .string hS, .int .i64 he] 28 ∧ Blk wx (w4.heap.size + 1) #[.bool u0n, .string u0S, .int .i64 u0e] 24 ∧ P1 ∧ Below w.heap.size w wx)
   case first =>
    clear kr k1 k2 k3
    obtain ⟨qS1, qN1, hh⟩ := k0.out p0
    replace hh := Lib.hid hh
    clear k0
    as_aux_lemma =>
    go_upto_region 13 with fail
    go_cut [12, 13] (fun s12 s13 wx => ∃ S12, s12 = .pointer (some ⟨S12, 0, none⟩) ∧ s13 = .int .i64 d0 ∧ Blk wx (w.heap.size + 1) #[.complex .f64 0 0, .float .f64 0] 59 ∧ Blk wx (w1.heap.size) #[.bool a0n, .string a0S, .int .i64 a0e, .bool c0n, .string c0S, .int .i64 c0e, .bool a1n, .string a1S, .int .i64 a1e, .bool c1n, .string c1S, .int .i64 c1e, .bool a2n, .string a2S, .int .i64 a2e, .bool c2n, .string c2S, .int .i64 c2e, .bool a3n, .string a3S, .int .i64 a3e, .bool c3n, .string c3S, .int .i64 c3e] 29 ∧ Blk wx (w4.heap.size) #[.bool gn, .string gS, .int .i64 ge, .bool hn, .string hS, .int .i64 he] 28 ∧ Blk wx (w4.heap.size + 1) #[.bool false, .string { data := #[] }, .int .i64 0] 24 ∧ Blk wx S12 #[.bool s0n, .string s0S, .int .i64 s0e, .bool t0n, .string t0S, .int .i64 t0e] 28 ∧ Below w.heap.size w wx)
    case first =>
     clear qN1 hh
     go_wp2_with fail
     refine wp_region_any (by kernel_rfl) ?_
     have yF44_0 : (((w4).alloc (.cells #[.bool gn, .string gS, .int .i64 ge, .bool hn, .string hS, .int .i64 he] 28)).alloc (.cells #[.bool false, .string { data := #[] }, .int .i64 0] 24)).cell? ⟨w1.heap.size, 0, none⟩ = some (.bool a0n) := F4.at 0 (by simp)
     have yF44_1 : (((w4).alloc (.cells #[.bool gn, .string gS, .int .i64 ge, .bool hn, .string hS, .int .i64 he] 28)).alloc (.cells #[.bool false, .string { data := #[] }, .int .i64 0] 24)).cell? ⟨w1.heap.size, 1, none⟩ = some (.string a0S) := F4.at 1 (by simp)
     have yF44_2 : (((w4).alloc (.cells #[.bool gn, .string gS, .int .i64 ge, .bool hn, .string hS, .int .i64 he] 28)).alloc (.cells #[.bool false, .string { data := #[] }, .int .i64 0] 24)).cell? ⟨w1.heap.size, 2, none⟩ = some (.int .i64 a0e) := F4.at 2 (by simp)
     have yF44_3 : (((w4).alloc (.cells #[.bool gn, .string gS, .int .i64 ge, .bool hn, .string hS, .int .i64 he] 28)).alloc (.cells #[.bool false, .string { data := #[] }, .int .i64 0] 24)).cell? ⟨w1.heap.size, 3, none⟩ = some (.bool c0n) := F4.at 3 (by simp)
     have yF44_4 : (((w4).alloc (.cells #[.bool gn, .string gS, .int .i64 ge, .bool hn, .string hS, .int .i64 he] 28)).alloc (.cells #[.bool false, .string { data := #[] }, .int .i64 0] 24)).cell? ⟨w1.heap.size, 4, none⟩ = some (.string c0S) := F4.at 4 (by simp)
     have yF44_5 : (((w4).alloc (.cells #[.bool gn, .string gS, .int .i64 ge, .bool hn, .string hS, .int .i64 he] 28)).alloc (.cells #[.bool false, .string { data := #[] }, .int .i64 0] 24)).cell? ⟨w1.heap.size, 5, none⟩ = some (.int .i64 c0e) := F4.at 5 (by simp)
     obtain ⟨xF94_0, xF94_1, xF94_2, xF94_3, xF94_4, xF94_5⟩ := F9.ce6
     have hHeld : (fun w' : World => w'.cell? ⟨w1.heap.size, 0, none⟩ = some (.bool a0n) ∧ w'.cell? ⟨w1.heap.size, 1, none⟩ = some (.string a0S) ∧ w'.cell? ⟨w1.heap.size, 2, none⟩ = some (.int .i64 a0e) ∧ w'.cell? ⟨w1.heap.size, 3, none⟩ = some (.bool c0n) ∧ w'.cell? ⟨w1.heap.size, 4, none⟩ = some (.string c0S) ∧ w'.cell? ⟨w1.heap.size, 5, none⟩ = some (.int .i64 c0e) ∧ w'.cell? ⟨w4.heap.size, 0, none⟩ = some (.bool gn) ∧ w'.cell? ⟨w4.heap.size, 1, none⟩ = some (.string gS) ∧ w'.cell? ⟨w4.heap.size, 2, none⟩ = some (.int .i64 ge) ∧ w'.cell? ⟨w4.heap.size, 3, none⟩ = some (.bool hn) ∧ w'.cell? ⟨w4.heap.size, 4, none⟩ = some (.string hS) ∧ w'.cell? ⟨w4.heap.size, 5, none⟩ = some (.int .i64 he)) (((w4).alloc (.cells #[.bool gn, .string gS, .int .i64 ge, .bool hn, .string hS, .int .i64 he] 28)).alloc (.cells #[.bool false, .string { data := #[] }, .int .i64 0] 24)).drew := ⟨yF44_0, yF44_1, yF44_2, yF44_3, yF44_4, yF44_5, xF94_0, xF94_1, xF94_2, xF94_3, xF94_4, xF94_5⟩
     refine wpAny_of_held (S := fun w' : World => w'.cell? ⟨w1.heap.size, 0, none⟩ = some (.bool a0n) ∧ w'.cell? ⟨w1.heap.size, 1, none⟩ = some (.string a0S) ∧ w'.cell? ⟨w1.heap.size, 2, none⟩ = some (.int .i64 a0e) ∧ w'.cell? ⟨w1.heap.size, 3, none⟩ = some (.bool c0n) ∧ w'.cell? ⟨w1.heap.size, 4, none⟩ = some (.string c0S) ∧ w'.cell? ⟨w1.heap.size, 5, none⟩ = some (.int .i64 c0e) ∧ w'.cell? ⟨w4.heap.size, 0, none⟩ = some (.bool gn) ∧ w'.cell? ⟨w4.heap.size, 1, none⟩ = some (.string gS) ∧ w'.cell? ⟨w4.heap.size, 2, none⟩ = some (.int .i64 ge) ∧ w'.cell? ⟨w4.heap.size, 3, none⟩ = some (.bool hn) ∧ w'.cell? ⟨w4.heap.size, 4, none⟩ = some (.string hS) ∧ w'.cell? ⟨w4.heap.size, 5, none⟩ = some (.int .i64 he)) _ _ _ _ ?_
     replace F2 := F2.drew
     replace F4 := F4.drew
     replace F9 := F9.drew
     replace F10 := F10.drew
     replace B0 := B0.drew
     refine tkA 0 ?_
     (try dsimp only [Act.put]); (try go_frame)
     refine tkA 1 ?_
     (try dsimp only [Act.put]); (try go_frame)
     refine tkA 2 ?_
     (try dsimp only [Act.put]); (try go_frame)
     refine tkA 3 ?_
     (try dsimp only [Act.put]); (try go_frame)
     refine wpAnyH_ready (rs := [4, 8]) (by kernel_rfl) (by simp) ?_
     refine AllReadyH.cons rfl (fun K hK => ?_) (AllReadyH.cons rfl (fun K hK => ?_) AllReadyH.nil)
     ·go_simp
      (with_reducible refine (qS1 _).mono ?_)
      rintro r w5 ⟨rfl, hb5⟩
      clear yF44_0 yF44_1 yF44_2 yF44_3 yF44_4 yF44_5 xF94_0 xF94_1 xF94_2 xF94_3 xF94_4 xF94_5
      replace F2 := F2.keep hb5
      replace F4 := F4.keep hb5
      replace F9 := F9.keep hb5
      replace F10 := F10.keep hb5
      replace B0 := B0.trans (hb5.mono B0.size)
      clear hb5
      have yF46_0 : (w5).cell? ⟨w1.heap.size, 0, none⟩ = some (.bool a0n) := F4.at 0 (by simp)
      have yF46_1 : (w5).cell? ⟨w1.heap.size, 1, none⟩ = some (.string a0S) := F4.at 1 (by simp)
      have yF46_2 : (w5).cell? ⟨w1.heap.size, 2, none⟩ = some (.int .i64 a0e) := F4.at 2 (by simp)
      have yF46_3 : (w5).cell? ⟨w1.heap.size, 3, none⟩ = some (.bool c0n) := F4.at 3 (by simp)
      have yF46_4 : (w5).cell? ⟨w1.heap.size, 4, none⟩ = some (.string c0S) := F4.at 4 (by simp)
      have yF46_5 : (w5).cell? ⟨w1.heap.size, 5, none⟩ = some (.int .i64 c0e) := F4.at 5 (by simp)
      obtain ⟨xF96_0, xF96_1, xF96_2, xF96_3, xF96_4, xF96_5⟩ := F9.ce6
      refine hK.out _ _ ?_ (fun hHeld => ?_)
      ·exact ⟨yF46_0, yF46_1, yF46_2, yF46_3, yF46_4, yF46_5, xF96_0, xF96_1, xF96_2, xF96_3, xF96_4, xF96_5⟩
      clear hK K
      (try dsimp only [Act.put]); (try go_frame)
      refine tkA 5 ?_
      (try dsimp only [Act.put]); (try go_frame)
      refine tkA 6 ?_
      (try dsimp only [Act.put]); (try go_frame)
      refine tkA 7 ?_
      (try dsimp only [Act.put]); (try go_frame)
      refine wpAnyH_ready (rs := [8]) (by kernel_rfl) (by simp) ?_
      refine AllReadyH.cons rfl (fun K hK => ?_) AllReadyH.nil
      go_simp
      have zF40 := (F4.allocd (.cells #[.bool false, .string { data := #[] }, .int .i64 0, .bool false, .string { data := #[] }, .int .i64 0] 28)).at 0 (by simp)
      have zF41 := (F4.allocd (.cells #[.bool false, .string { data := #[] }, .int .i64 0, .bool false, .string { data := #[] }, .int .i64 0] 28)).at 1 (by simp)
      have zF42 := (F4.allocd (.cells #[.bool false, .string { data := #[] }, .int .i64 0, .bool false, .string { data := #[] }, .int .i64 0] 28)).at 2 (by simp)
      have zF43 := (F4.allocd (.cells #[.bool false, .string { data := #[] }, .int .i64 0, .bool false, .string { data := #[] }, .int .i64 0] 28)).at 3 (by simp)
      have zF44 := (F4.allocd (.cells #[.bool false, .string { data := #[] }, .int .i64 0, .bool false, .string { data := #[] }, .int .i64 0] 28)).at 4 (by simp)
      have zF45 := (F4.allocd (.cells #[.bool false, .string { data := #[] }, .int .i64 0, .bool false, .string { data := #[] }, .int .i64 0] 28)).at 5 (by simp)
      obtain ⟨zF90, zF91, zF92, zF93, zF94, zF95⟩ := (F9.allocd (.cells #[.bool false, .string { data := #[] }, .int .i64 0, .bool false, .string { data := #[] }, .int .i64 0] 28)).ce6
      clear yF46_0 yF46_1 yF46_2 yF46_3 yF46_4 yF46_5 xF96_0 xF96_1 xF96_2 xF96_3 xF96_4 xF96_5
      refine hK.out _ _ ?_ (fun hHeld => ?_)
      ·exact ⟨zF40, zF41, zF42, zF43, zF44, zF45, zF90, zF91, zF92, zF93, zF94, zF95⟩
      clear hK K
      (try dsimp only [Act.put]); (try go_frame)
      clear zF40 zF41 zF42 zF43 zF44 zF45 zF90 zF91 zF92 zF93 zF94 zF95
      refine wpAnyH_ready (rs := [9]) (by kernel_rfl) (by simp) ?_
      refine AllReadyH.cons rfl (fun K hK => ?_) AllReadyH.nil
      go_simp
      have q_w_F12r0 : Hid (w.heap.size ≤ w5.heap.size) := Lib.hid (by have := B0.size; first | exact this | omega | (simp; done) | simpa using this)
      replace F2 := F2.allocd (.cells #[.bool s0n, .string s0S, .int .i64 s0e, .bool t0n, .string t0S, .int .i64 t0e] 28)
      replace F4 := F4.allocd (.cells #[.bool s0n, .string s0S, .int .i64 s0e, .bool t0n, .string t0S, .int .i64 t0e] 28)
      replace F9 := F9.allocd (.cells #[.bool s0n, .string s0S, .int .i64 s0e, .bool t0n, .string t0S, .int .i64 t0e] 28)
      replace F10 := F10.allocd (.cells #[.bool s0n, .string s0S, .int .i64 s0e, .bool t0n, .string t0S, .int .i64 t0e] 28)
      have F12r0 := Blk.put (w5) #[.bool s0n, .string s0S, .int .i64 s0e, .bool t0n, .string t0S, .int .i64 t0e] 28
      replace B0 := B0.alloc B0.size (.cells #[.bool s0n, .string s0S, .int .i64 s0e, .bool t0n, .string t0S, .int .i64 t0e] 28)
      have yF47_0 : ((w5).alloc (.cells #[.bool s0n, .string s0S, .int .i64 s0e, .bool t0n, .string t0S, .int .i64 t0e] 28)).cell? ⟨w1.heap.size, 0, none⟩ = some (.bool a0n) := F4.at 0 (by simp)
      have yF47_1 : ((w5).alloc (.cells #[.bool s0n, .string s0S, .int .i64 s0e, .bool t0n, .string t0S, .int .i64 t0e] 28)).cell? ⟨w1.heap.size, 1, none⟩ = some (.string a0S) := F4.at 1 (by simp)
      have yF47_2 : ((w5).alloc (.cells #[.bool s0n, .string s0S, .int .i64 s0e, .bool t0n, .string t0S, .int .i64 t0e] 28)).cell? ⟨w1.heap.size, 2, none⟩ = some (.int .i64 a0e) := F4.at 2 (by simp)
      have yF47_3 : ((w5).alloc (.cells #[.bool s0n, .string s0S, .int .i64 s0e, .bool t0n, .string t0S, .int .i64 t0e] 28)).cell? ⟨w1.heap.size, 3, none⟩ = some (.bool c0n) := F4.at 3 (by simp)
      have yF47_4 : ((w5).alloc (.cells #[.bool s0n, .string s0S, .int .i64 s0e, .bool t0n, .string t0S, .int .i64 t0e] 28)).cell? ⟨w1.heap.size, 4, none⟩ = some (.string c0S) := F4.at 4 (by simp)
      have yF47_5 : ((w5).alloc (.cells #[.bool s0n, .string s0S, .int .i64 s0e, .bool t0n, .string t0S, .int .i64 t0e] 28)).cell? ⟨w1.heap.size, 5, none⟩ = some (.int .i64 c0e) := F4.at 5 (by simp)
      obtain ⟨xF97_0, xF97_1, xF97_2, xF97_3, xF97_4, xF97_5⟩ := F9.ce6
      refine hK.out _ _ ?_ (fun hHeld => ?_)
      ·exact ⟨yF47_0, yF47_1, yF47_2, yF47_3, yF47_4, yF47_5, xF97_0, xF97_1, xF97_2, xF97_3, xF97_4, xF97_5⟩
      clear hK K
      (try dsimp only [Act.put]); (try go_frame)
      refine tkA 10 ?_
      (try dsimp only [Act.put]); (try go_frame)
      refine wpAnyH_done (by kernel_rfl) ?_ _
      try simp only [QCut]
      clear hHeld
      clear yF47_0 yF47_1 yF47_2 yF47_3 yF47_4 yF47_5 xF97_0 xF97_1 xF97_2 xF97_3 xF97_4 xF97_5
      go_wp2_with fail
      go_meet
      exact ⟨_, by first | rfl | simp, by first | rfl | simp, F2, F4, F9, F10, F12r0, B0⟩
     ·go_simp
      clear yF44_0 yF44_1 yF44_2 yF44_3 yF44_4 yF44_5 xF94_0 xF94_1 xF94_2 xF94_3 xF94_4 xF94_5
      have q_F2_F12r0 : Hid (w.heap.size + 1 < w4.heap.size + 1 + 1) := Lib.hid (by have := F2.lt; first | exact this | omega | (simp; done) | simpa using this)
      have q_F4_F12r0 : Hid (w1.heap.size < w4.heap.size + 1 + 1) := Lib.hid (by have := F4.lt; first | exact this | omega | (simp; done) | simpa using this)
      have q_F9_F12r0 : Hid (w4.heap.size < w4.heap.size + 1 + 1) := Lib.hid (by have := F9.lt; first | exact this | omega | (simp; done) | simpa using this)
      have q_F10_F12r0 : Hid (w4.heap.size + 1 < w4.heap.size + 1 + 1) := Lib.hid (by have := F10.lt; first | exact this | omega | (simp; done) | simpa using this)
      have q_w_F12r0 : Hid (w.heap.size ≤ w4.heap.size + 1 + 1) := Lib.hid (by have := B0.size; first | exact this | omega | (simp; done) | simpa using this)
      replace F2 := F2.allocd (.cells #[.bool false, .string { data := #[] }, .int .i64 0, .bool false, .string { data := #[] }, .int .i64 0] 28)
      replace F4 := F4.allocd (.cells #[.bool false, .string { data := #[] }, .int .i64 0, .bool false, .string { data := #[] }, .int .i64 0] 28)
      replace F9 := F9.allocd (.cells #[.bool false, .string { data := #[] }, .int .i64 0, .bool false, .string { data := #[] }, .int .i64 0] 28)
      replace F10 := F10.allocd (.cells #[.bool false, .string { data := #[] }, .int .i64 0, .bool false, .string { data := #[] }, .int .i64 0] 28)
      have F12r0 := Blk.put ((((w4).alloc (.cells #[.bool gn, .string gS, .int .i64 ge, .bool hn, .string hS, .int .i64 he] 28)).alloc (.cells #[.bool false, .string { data := #[] }, .int .i64 0] 24)).drew) #[.bool false, .string { data := #[] }, .int .i64 0, .bool false, .string { data := #[] }, .int .i64 0] 28
      rw [show ((((w4).alloc (.cells #[.bool gn, .string gS, .int .i64 ge, .bool hn, .string hS, .int .i64 he] 28)).alloc (.cells #[.bool false, .string { data := #[] }, .int .i64 0] 24)).drew).heap.size = w4.heap.size + 1 + 1 by simp] at F12r0
      replace B0 := B0.alloc B0.size (.cells #[.bool false, .string { data := #[] }, .int .i64 0, .bool false, .string { data := #[] }, .int .i64 0] 28)
      have yF46_0 : (((((w4).alloc (.cells #[.bool gn, .string gS, .int .i64 ge, .bool hn, .string hS, .int .i64 he] 28)).alloc (.cells #[.bool false, .string { data := #[] }, .int .i64 0] 24)).drew).alloc (.cells #[.bool false, .string { data := #[] }, .int .i64 0, .bool false, .string { data := #[] }, .int .i64 0] 28)).cell? ⟨w1.heap.size, 0, none⟩ = some (.bool a0n) := F4.at 0 (by simp)
      have yF46_1 : (((((w4).alloc (.cells #[.bool gn, .string gS, .int .i64 ge, .bool hn, .string hS, .int .i64 he] 28)).alloc (.cells #[.bool false, .string { data := #[] }, .int .i64 0] 24)).drew).alloc (.cells #[.bool false, .string { data := #[] }, .int .i64 0, .bool false, .string { data := #[] }, .int .i64 0] 28)).cell? ⟨w1.heap.size, 1, none⟩ = some (.string a0S) := F4.at 1 (by simp)
      have yF46_2 : (((((w4).alloc (.cells #[.bool gn, .string gS, .int .i64 ge, .bool hn, .string hS, .int .i64 he] 28)).alloc (.cells #[.bool false, .string { data := #[] }, .int .i64 0] 24)).drew).alloc (.cells #[.bool false, .string { data := #[] }, .int .i64 0, .bool false, .string { data := #[] }, .int .i64 0] 28)).cell? ⟨w1.heap.size, 2, none⟩ = some (.int .i64 a0e) := F4.at 2 (by simp)
      have yF46_3 : (((((w4).alloc (.cells #[.bool gn, .string gS, .int .i64 ge, .bool hn, .string hS, .int .i64 he] 28)).alloc (.cells #[.bool false, .string { data := #[] }, .int .i64 0] 24)).drew).alloc (.cells #[.bool false, .string { data := #[] }, .int .i64 0, .bool false, .string { data := #[] }, .int .i64 0] 28)).cell? ⟨w1.heap.size, 3, none⟩ = some (.bool c0n) := F4.at 3 (by simp)
      have yF46_4 : (((((w4).alloc (.cells #[.bool gn, .string gS, .int .i64 ge, .bool hn, .string hS, .int .i64 he] 28)).alloc (.cells #[.bool false, .string { data := #[] }, .int .i64 0] 24)).drew).alloc (.cells #[.bool false, .string { data := #[] }, .int .i64 0, .bool false, .string { data := #[] }, .int .i64 0] 28)).cell? ⟨w1.heap.size, 4, none⟩ = some (.string c0S) := F4.at 4 (by simp)
      have yF46_5 : (((((w4).alloc (.cells #[.bool gn, .string gS, .int .i64 ge, .bool hn, .string hS, .int .i64 he] 28)).alloc (.cells #[.bool false, .string { data := #[] }, .int .i64 0] 24)).drew).alloc (.cells #[.bool false, .string { data := #[] }, .int .i64 0, .bool false, .string { data := #[] }, .int .i64 0] 28)).cell? ⟨w1.heap.size, 5, none⟩ = some (.int .i64 c0e) := F4.at 5 (by simp)
      obtain ⟨xF96_0, xF96_1, xF96_2, xF96_3, xF96_4, xF96_5⟩ := F9.ce6
      refine hK.out _ _ ?_ (fun hHeld => ?_)
      ·exact ⟨yF46_0, yF46_1, yF46_2, yF46_3, yF46_4, yF46_5, xF96_0, xF96_1, xF96_2, xF96_3, xF96_4, xF96_5⟩
      clear hK K
      (try dsimp only [Act.put]); (try go_frame)
      refine wpAnyH_ready (rs := [4]) (by kernel_rfl) (by simp) ?_
      refine AllReadyH.cons rfl (fun K hK => ?_) AllReadyH.nil
      go_simp
      (with_reducible refine (qS1 _).mono ?_)
      rintro r w5 ⟨rfl, hb5⟩
      clear yF46_0 yF46_1 yF46_2 yF46_3 yF46_4 yF46_5 xF96_0 xF96_1 xF96_2 xF96_3 xF96_4 xF96_5
      replace F2 := F2.keep hb5
      replace F4 := F4.keep hb5
      replace F9 := F9.keep hb5
      replace F10 := F10.keep hb5
      replace F12r0 := F12r0.keep hb5
      replace B0 := B0.trans (hb5.mono B0.size)
      clear hb5
      have yF47_0 : (w5).cell? ⟨w1.heap.size, 0, none⟩ = some (.bool a0n) := F4.at 0 (by simp)
      have yF47_1 : (w5).cell? ⟨w1.heap.size, 1, none⟩ = some (.string a0S) := F4.at 1 (by simp)
      have yF47_2 : (w5).cell? ⟨w1.heap.size, 2, none⟩ = some (.int .i64 a0e) := F4.at 2 (by simp)
      have yF47_3 : (w5).cell? ⟨w1.heap.size, 3, none⟩ = some (.bool c0n) := F4.at 3 (by simp)
      have yF47_4 : (w5).cell? ⟨w1.heap.size, 4, none⟩ = some (.string c0S) := F4.at 4 (by simp)
      have yF47_5 : (w5).cell? ⟨w1.heap.size, 5, none⟩ = some (.int .i64 c0e) := F4.at 5 (by simp)
      obtain ⟨xF97_0, xF97_1, xF97_2, xF97_3, xF97_4, xF97_5⟩ := F9.ce6
      refine hK.out _ _ ?_ (fun hHeld => ?_)
      ·exact ⟨yF47_0, yF47_1, yF47_2, yF47_3, yF47_4, yF47_5, xF97_0, xF97_1, xF97_2, xF97_3, xF97_4, xF97_5⟩
      clear hK K
      (try dsimp only [Act.put]); (try go_frame)
      refine tkA 5 ?_
      (try dsimp only [Act.put]); (try go_frame)
      refine tkA 6 ?_
      (try dsimp only [Act.put]); (try go_frame)
      refine tkA 7 ?_
      (try dsimp only [Act.put]); (try go_frame)
      obtain ⟨xF12r07_0, xF12r07_1, xF12r07_2, xF12r07_3, xF12r07_4, xF12r07_5⟩ := F12r0.ce6
      obtain ⟨xF12r07_0f, xF12r07_1f, xF12r07_2f, xF12r07_3f, xF12r07_4f, xF12r07_5f⟩ := F12r0.fr6
      refine wpAnyH_ready (rs := [9]) (by kernel_rfl) (by simp) ?_
      refine AllReadyH.cons rfl (fun K hK => ?_) AllReadyH.nil
      go_simp
      replace F2 := ((((((F2.far 0 (.bool s0n) (Nat.ne_of_lt q_F2_F12r0.out)).far 1 (.string s0S) (Nat.ne_of_lt q_F2_F12r0.out)).far 2 (.int .i64 s0e) (Nat.ne_of_lt q_F2_F12r0.out)).far 3 (.bool t0n) (Nat.ne_of_lt q_F2_F12r0.out)).far 4 (.string t0S) (Nat.ne_of_lt q_F2_F12r0.out)).far 5 (.int .i64 t0e) (Nat.ne_of_lt q_F2_F12r0.out))
      replace F4 := ((((((F4.far 0 (.bool s0n) (Nat.ne_of_lt q_F4_F12r0.out)).far 1 (.string s0S) (Nat.ne_of_lt q_F4_F12r0.out)).far 2 (.int .i64 s0e) (Nat.ne_of_lt q_F4_F12r0.out)).far 3 (.bool t0n) (Nat.ne_of_lt q_F4_F12r0.out)).far 4 (.string t0S) (Nat.ne_of_lt q_F4_F12r0.out)).far 5 (.int .i64 t0e) (Nat.ne_of_lt q_F4_F12r0.out))
      replace F9 := ((((((F9.far 0 (.bool s0n) (Nat.ne_of_lt q_F9_F12r0.out)).far 1 (.string s0S) (Nat.ne_of_lt q_F9_F12r0.out)).far 2 (.int .i64 s0e) (Nat.ne_of_lt q_F9_F12r0.out)).far 3 (.bool t0n) (Nat.ne_of_lt q_F9_F12r0.out)).far 4 (.string t0S) (Nat.ne_of_lt q_F9_F12r0.out)).far 5 (.int .i64 t0e) (Nat.ne_of_lt q_F9_F12r0.out))
      replace F10 := ((((((F10.far 0 (.bool s0n) (Nat.ne_of_lt q_F10_F12r0.out)).far 1 (.string s0S) (Nat.ne_of_lt q_F10_F12r0.out)).far 2 (.int .i64 s0e) (Nat.ne_of_lt q_F10_F12r0.out)).far 3 (.bool t0n) (Nat.ne_of_lt q_F10_F12r0.out)).far 4 (.string t0S) (Nat.ne_of_lt q_F10_F12r0.out)).far 5 (.int .i64 t0e) (Nat.ne_of_lt q_F10_F12r0.out))
      replace F12r0 : Blk (((((((w5).setCell ⟨w4.heap.size + 1 + 1, 0, none⟩ (.bool s0n)).setCell ⟨w4.heap.size + 1 + 1, 1, none⟩ (.string s0S)).setCell ⟨w4.heap.size + 1 + 1, 2, none⟩ (.int .i64 s0e)).setCell ⟨w4.heap.size + 1 + 1, 3, none⟩ (.bool t0n)).setCell ⟨w4.heap.size + 1 + 1, 4, none⟩ (.string t0S)).setCell ⟨w4.heap.size + 1 + 1, 5, none⟩ (.int .i64 t0e)) (w4.heap.size + 1 + 1) #[.bool s0n, .string s0S, .int .i64 s0e, .bool t0n, .string t0S, .int .i64 t0e] 28 := ((((((F12r0.setAt 0 (.bool s0n)).setAt 1 (.string s0S)).setAt 2 (.int .i64 s0e)).setAt 3 (.bool t0n)).setAt 4 (.string t0S)).setAt 5 (.int .i64 t0e))
      replace B0 := ((((((B0.setCell (p := ⟨w4.heap.size + 1 + 1, 0, none⟩) q_w_F12r0.out (.bool s0n)).setCell (p := ⟨w4.heap.size + 1 + 1, 1, none⟩) q_w_F12r0.out (.string s0S)).setCell (p := ⟨w4.heap.size + 1 + 1, 2, none⟩) q_w_F12r0.out (.int .i64 s0e)).setCell (p := ⟨w4.heap.size + 1 + 1, 3, none⟩) q_w_F12r0.out (.bool t0n)).setCell (p := ⟨w4.heap.size + 1 + 1, 4, none⟩) q_w_F12r0.out (.string t0S)).setCell (p := ⟨w4.heap.size + 1 + 1, 5, none⟩) q_w_F12r0.out (.int .i64 t0e))
      clear yF47_0 yF47_1 yF47_2 yF47_3 yF47_4 yF47_5 xF97_0 xF97_1 xF97_2 xF97_3 xF97_4 xF97_5 xF12r07_0 xF12r07_1 xF12r07_2 xF12r07_3 xF12r07_4 xF12r07_5 xF12r07_0f xF12r07_1f xF12r07_2f xF12r07_3f xF12r07_4f xF12r07_5f
      have yF48_0 : (((((((w5).setCell ⟨w4.heap.size + 1 + 1, 0, none⟩ (.bool s0n)).setCell ⟨w4.heap.size + 1 + 1, 1, none⟩ (.string s0S)).setCell ⟨w4.heap.size + 1 + 1, 2, none⟩ (.int .i64 s0e)).setCell ⟨w4.heap.size + 1 + 1, 3, none⟩ (.bool t0n)).setCell ⟨w4.heap.size + 1 + 1, 4, none⟩ (.string t0S)).setCell ⟨w4.heap.size + 1 + 1, 5, none⟩ (.int .i64 t0e)).cell? ⟨w1.heap.size, 0, none⟩ = some (.bool a0n) := F4.at 0 (by simp)
      have yF48_1 : (((((((w5).setCell ⟨w4.heap.size + 1 + 1, 0, none⟩ (.bool s0n)).setCell ⟨w4.heap.size + 1 + 1, 1, none⟩ (.string s0S)).setCell ⟨w4.heap.size + 1 + 1, 2, none⟩ (.int .i64 s0e)).setCell ⟨w4.heap.size + 1 + 1, 3, none⟩ (.bool t0n)).setCell ⟨w4.heap.size + 1 + 1, 4, none⟩ (.string t0S)).setCell ⟨w4.heap.size + 1 + 1, 5, none⟩ (.int .i64 t0e)).cell? ⟨w1.heap.size, 1, none⟩ = some (.string a0S) := F4.at 1 (by simp)
      have yF48_2 : (((((((w5).setCell ⟨w4.heap.size + 1 + 1, 0, none⟩ (.bool s0n)).setCell ⟨w4.heap.size + 1 + 1, 1, none⟩ (.string s0S)).setCell ⟨w4.heap.size + 1 + 1, 2, none⟩ (.int .i64 s0e)).setCell ⟨w4.heap.size + 1 + 1, 3, none⟩ (.bool t0n)).setCell ⟨w4.heap.size + 1 + 1, 4, none⟩ (.string t0S)).setCell ⟨w4.heap.size + 1 + 1, 5, none⟩ (.int .i64 t0e)).cell? ⟨w1.heap.size, 2, none⟩ = some (.int .i64 a0e) := F4.at 2 (by simp)
      have yF48_3 : (((((((w5).setCell ⟨w4.heap.size + 1 + 1, 0, none⟩ (.bool s0n)).setCell ⟨w4.heap.size + 1 + 1, 1, none⟩ (.string s0S)).setCell ⟨w4.heap.size + 1 + 1, 2, none⟩ (.int .i64 s0e)).setCell ⟨w4.heap.size + 1 + 1, 3, none⟩ (.bool t0n)).setCell ⟨w4.heap.size + 1 + 1, 4, none⟩ (.string t0S)).setCell ⟨w4.heap.size + 1 + 1, 5, none⟩ (.int .i64 t0e)).cell? ⟨w1.heap.size, 3, none⟩ = some (.bool c0n) := F4.at 3 (by simp)
      have yF48_4 : (((((((w5).setCell ⟨w4.heap.size + 1 + 1, 0, none⟩ (.bool s0n)).setCell ⟨w4.heap.size + 1 + 1, 1, none⟩ (.string s0S)).setCell ⟨w4.heap.size + 1 + 1, 2, none⟩ (.int .i64 s0e)).setCell ⟨w4.heap.size + 1 + 1, 3, none⟩ (.bool t0n)).setCell ⟨w4.heap.size + 1 + 1, 4, none⟩ (.string t0S)).setCell ⟨w4.heap.size + 1 + 1, 5, none⟩ (.int .i64 t0e)).cell? ⟨w1.heap.size, 4, none⟩ = some (.string c0S) := F4.at 4 (by simp)
      have yF48_5 : (((((((w5).setCell ⟨w4.heap.size + 1 + 1, 0, none⟩ (.bool s0n)).setCell ⟨w4.heap.size + 1 + 1, 1, none⟩ (.string s0S)).setCell ⟨w4.heap.size + 1 + 1, 2, none⟩ (.int .i64 s0e)).setCell ⟨w4.heap.size + 1 + 1, 3, none⟩ (.bool t0n)).setCell ⟨w4.heap.size + 1 + 1, 4, none⟩ (.string t0S)).setCell ⟨w4.heap.size + 1 + 1, 5, none⟩ (.int .i64 t0e)).cell? ⟨w1.heap.size, 5, none⟩ = some (.int .i64 c0e) := F4.at 5 (by simp)
      obtain ⟨xF98_0, xF98_1, xF98_2, xF98_3, xF98_4, xF98_5⟩ := F9.ce6
      refine hK.out _ _ ?_ (fun hHeld => ?_)
      ·exact ⟨yF48_0, yF48_1, yF48_2, yF48_3, yF48_4, yF48_5, xF98_0, xF98_1, xF98_2, xF98_3, xF98_4, xF98_5⟩
      clear hK K
      (try dsimp only [Act.put]); (try go_frame)
      refine tkA 10 ?_
      (try dsimp only [Act.put]); (try go_frame)
      refine wpAnyH_done (by kernel_rfl) ?_ _
      try simp only [QCut]
      clear hHeld
      clear yF48_0 yF48_1 yF48_2 yF48_3 yF48_4 yF48_5 xF98_0 xF98_1 xF98_2 xF98_3 xF98_4 xF98_5
      go_wp2_with fail
      go_meet
      exact ⟨_, by first | rfl | simp, by first | rfl | simp, F2, F4, F9, F10, F12r0, B0⟩
    case rest =>
     clear B0
     clear F2
     clear F4
     clear F9
     clear F10
     obtain ⟨S12, rfl, rfl, F2, F4, F9, F10, F12, B0⟩ := hcut
     generalize wc = v1 at *
     clear qS1
     obtain ⟨xF125_0, xF125_1, xF125_2, xF125_3, xF125_4, xF125_5⟩ := F12.ce6
     go_wp2_with fail
     (with_reducible refine (qN1 _).mono ?_)
     rintro r w5 ⟨rfl, hb5⟩
     clear xF125_0 xF125_1 xF125_2 xF125_3 xF125_4 xF125_5
     replace F2 := F2.keep hb5
     replace F4 := F4.keep hb5
     replace F9 := F9.keep hb5
     replace F10 := F10.keep hb5
     replace F12 := F12.keep hb5
     replace B0 := B0.trans (hb5.mono B0.size)
     clear hb5
     have q_F10_F14r0 : Hid (w4.heap.size + 1 < w5.heap.size) := Lib.hid (by have := F10.lt; first | exact this | omega | (simp; done) | simpa using this)
     replace F2 := F2.allocd (.cells #[.bool n0n, .string n0S, .int .i64 n0e] 24)
     replace F4 := F4.allocd (.cells #[.bool n0n, .string n0S, .int .i64 n0e] 24)
     replace F9 := F9.allocd (.cells #[.bool n0n, .string n0S, .int .i64 n0e] 24)
     replace F10 := F10.allocd (.cells #[.bool n0n, .string n0S, .int .i64 n0e] 24)
     clear F12
     have F14r0 := Blk.put (w5) #[.bool n0n, .string n0S, .int .i64 n0e] 24
     replace B0 := B0.alloc B0.size (.cells #[.bool n0n, .string n0S, .int .i64 n0e] 24)
     rcases hh.out with ⟨kd, rfl, rfl, rfl, rfl⟩ | ⟨rfl, kf, rfl, rfl, rfl, rfl⟩ | ⟨rfl, rfl, qK1, qm1, p1⟩
     ·clear hh
      have kd2 : (d0 != 0) = true := by simpa using kd
      clear kd
      obtain ⟨xF26_0, xF26_1⟩ := F2.ce2
      obtain ⟨xF26_0f, xF26_1f⟩ := F2.fr2
      clear F4
      clear F9
      clear F10
      clear F14r0
      replace F2 : Blk ((((w5).alloc (.cells #[.bool n0n, .string n0S, .int .i64 n0e] 24)).setCell ⟨w.heap.size + 1, 0, none⟩ (.complex .f64 0 0)).setCell ⟨w.heap.size + 1, 1, none⟩ (.float .f64 0)) (w.heap.size + 1) #[.complex .f64 0 0, .float .f64 0] 59 := ((F2.setAt 0 (.complex .f64 0 0)).setAt 1 (.float .f64 0))
      replace B0 := ((B0.setCell (p := ⟨w.heap.size + 1, 0, none⟩) q_w_F2.out (.complex .f64 0 0)).setCell (p := ⟨w.heap.size + 1, 1, none⟩) q_w_F2.out (.float .f64 0))
      obtain ⟨xF27_0, xF27_1⟩ := F2.ce2
      go_wp2
      exact bodyPost_ret (v := .tuple #[.agg #[.complex .f64 0 0, .float .f64 0], .int .i64 4]) (by simp [results, Tryz.results21, go_sem, xF27_0, xF27_1]) rfl ⟨rfl, B0⟩
     ·clear hh
      have kd2 : (f0 != 0) = true := by simpa using kf
      clear kf
      obtain ⟨xF26_0, xF26_1⟩ := F2.ce2
      obtain ⟨xF26_0f, xF26_1f⟩ := F2.fr2
      clear F4
      clear F9
      clear F10
      clear F14r0
      replace F2 : Blk ((((w5).alloc (.cells #[.bool n0n, .string n0S, .int .i64 n0e] 24)).setCell ⟨w.heap.size + 1, 0, none⟩ (.complex .f64 0 0)).setCell ⟨w.heap.size + 1, 1, none⟩ (.float .f64 0)) (w.heap.size + 1) #[.complex .f64 0 0, .float .f64 0] 59 := ((F2.setAt 0 (.complex .f64 0 0)).setAt 1 (.float .f64 0))
      replace B0 := ((B0.setCell (p := ⟨w.heap.size + 1, 0, none⟩) q_w_F2.out (.complex .f64 0 0)).setCell (p := ⟨w.heap.size + 1, 1, none⟩) q_w_F2.out (.float .f64 0))
      obtain ⟨xF27_0, xF27_1⟩ := F2.ce2
      go_wp2
      exact bodyPost_ret (v := .tuple #[.agg #[.complex .f64 0 0, .float .f64 0], .int .i64 4]) (by simp [results, Tryz.results21, go_sem, xF27_0, xF27_1]) rfl ⟨rfl, B0⟩
     ·clear hh
      obtain ⟨xF106_0, xF106_1, xF106_2⟩ := F10.ce3
      obtain ⟨xF14r06_0, xF14r06_1, xF14r06_2⟩ := F14r0.ce3
      go_wp2_with fail
      (with_reducible refine (qK1 _).mono ?_)
      rintro r w6 ⟨rfl, hb6⟩
      clear xF106_0 xF106_1 xF106_2 xF14r06_0 xF14r06_1 xF14r06_2
      replace F2 := F2.keep hb6
      replace F4 := F4.keep hb6
      replace F9 := F9.keep hb6
      replace F10 := F10.keep hb6
      replace F14r0 := F14r0.keep hb6
      replace B0 := B0.trans (hb6.mono B0.size)
      clear hb6
      clear qK1
      rcases qm1 with ⟨hk, rfl, rfl, rfl⟩ | ⟨hk, rfl, rfl, rfl⟩
      ·have hk2 : decide (K0 < 0) = true := decide_eq_true (by omega)
       clear hk
       obtain ⟨xF14r07_0, xF14r07_1, xF14r07_2⟩ := F14r0.ce3
       obtain ⟨xF107_0, xF107_1, xF107_2⟩ := F10.ce3
       obtain ⟨xF107_0f, xF107_1f, xF107_2f⟩ := F10.fr3
       replace F2 := (((F2.far 0 (.bool n0n) (Nat.ne_of_lt q_F2_F10.out)).far 1 (.string n0S) (Nat.ne_of_lt q_F2_F10.out)).far 2 (.int .i64 n0e) (Nat.ne_of_lt q_F2_F10.out))
       replace F4 := (((F4.far 0 (.bool n0n) (Nat.ne_of_lt q_F4_F10.out)).far 1 (.string n0S) (Nat.ne_of_lt q_F4_F10.out)).far 2 (.int .i64 n0e) (Nat.ne_of_lt q_F4_F10.out))
       replace F9 := (((F9.far 0 (.bool n0n) (Nat.ne_of_lt q_F9_F10.out)).far 1 (.string n0S) (Nat.ne_of_lt q_F9_F10.out)).far 2 (.int .i64 n0e) (Nat.ne_of_lt q_F9_F10.out))
       replace F14r0 := (((F14r0.far 0 (.bool n0n) (Nat.ne_of_gt q_F10_F14r0.out)).far 1 (.string n0S) (Nat.ne_of_gt q_F10_F14r0.out)).far 2 (.int .i64 n0e) (Nat.ne_of_gt q_F10_F14r0.out))
       replace F10 : Blk ((((w6).setCell ⟨w4.heap.size + 1, 0, none⟩ (.bool n0n)).setCell ⟨w4.heap.size + 1, 1, none⟩ (.string n0S)).setCell ⟨w4.heap.size + 1, 2, none⟩ (.int .i64 n0e)) (w4.heap.size + 1) #[.bool n0n, .string n0S, .int .i64 n0e] 24 := (((F10.setAt 0 (.bool n0n)).setAt 1 (.string n0S)).setAt 2 (.int .i64 n0e))
       replace B0 := (((B0.setCell (p := ⟨w4.heap.size + 1, 0, none⟩) q_w_F10.out (.bool n0n)).setCell (p := ⟨w4.heap.size + 1, 1, none⟩) q_w_F10.out (.string n0S)).setCell (p := ⟨w4.heap.size + 1, 2, none⟩) q_w_F10.out (.int .i64 n0e))
       go_wp2_with fail
       go_meet
       exact ⟨F2, F4, F9, F10, p1, B0⟩
      ·have hk2 : decide (K0 < 0) = false := decide_eq_false (by omega)
       clear hk
       go_wp2_with fail
       go_meet
       exact ⟨F2, F4, F9, F10, p1, B0⟩
   case rest =>
    clear B0
    clear F2
    clear F4
    clear F9
    clear F10
    obtain ⟨F2, F4, F9, F10, p1, B0⟩ := hcut
    generalize wc = v1 at *
    go_wp2_with fail
    rw [rounds_succ]
    go_upto_block 1 with fail
    go_cut [] (fun  wx => Blk wx (w.heap.size + 1) #[.complex .f64 0 0, .float .f64 0] 59 ∧ Blk wx (w1.heap.size) #[.bool a0n, .string a0S, .int .i64 a0e, .bool c0n, .string c0S, .int .i64 c0e, .bool a1n, .string a1S, .int .i64 a1e, .bool c1n, .string c1S, .int .i64 c1e, .bool a2n, .string a2S, .int .i64 a2e, .bool c2n, .string c2S, .int .i64 c2e, .bool a3n, .string a3S, .int .i64 a3e, .bool c3n, .string c3S, .int .i64 c3e] 29 ∧ Blk wx (w4.heap.size) #[.bool gn, .string gS, .int .i64 ge, .bool hn, .string hS, .int .i64 he] 28 ∧ Blk wx (w4.heap.size + 1) #[.bool u1n, .string u1S, .int .i64 u1e] 24 ∧ P2 ∧ Below w.heap.size w wx)
    case first =>
     clear kr k0 k2 k3
     obtain ⟨qS1, qN1, hh⟩ := k1.out p1
     replace hh := Lib.hid hh
     clear k1
     as_aux_lemma =>
     go_upto_region 13 with fail
     go_cut [12, 13] (fun s12 s13 wx => ∃ S12, s12 = .pointer (some ⟨S12, 0, none⟩) ∧ s13 = .int .i64 d1 ∧ Blk wx (w.heap.size + 1) #[.complex .f64 0 0, .float .f64 0] 59 ∧ Blk wx (w1.heap.size) #[.bool a0n, .string a0S, .int .i64 a0e, .bool c0n, .string c0S, .int .i64 c0e, .bool a1n, .string a1S, .int .i64 a1e, .bool c1n, .string c1S, .int .i64 c1e, .bool a2n, .string a2S, .int .i64 a2e, .bool c2n, .string c2S, .int .i64 c2e, .bool a3n, .string a3S, .int .i64 a3e, .bool c3n, .string c3S, .int .i64 c3e] 29 ∧ Blk wx (w4.heap.size) #[.bool gn, .string gS, .int .i64 ge, .bool hn, .string hS, .int .i64 he] 28 ∧ Blk wx (w4.heap.size + 1) #[.bool u0n, .string u0S, .int .i64 u0e] 24 ∧ Blk wx S12 #[.bool s1n, .string s1S, .int .i64 s1e, .bool t1n, .string t1S, .int .i64 t1e] 28 ∧ Below w.heap.size w wx)
     case first =>
      clear qN1 hh
      go_wp2_with fail
      refine wp_region_any (by kernel_rfl) ?_
      have yF45_6 : (v1).cell? ⟨w1.heap.size, 6, none⟩ = some (.bool a1n) := F4.at 6 (by simp)
      have yF45_7 : (v1).cell? ⟨w1.heap.size, 7, none⟩ = some (.string a1S) := F4.at 7 (by simp)
      have yF45_8 : (v1).cell? ⟨w1.heap.size, 8, none⟩ = some (.int .i64 a1e) := F4.at 8 (by simp)
      have yF45_9 : (v1).cell? ⟨w1.heap.size, 9, none⟩ = some (.bool c1n) := F4.at 9 (by simp)
      have yF45_10 : (v1).cell? ⟨w1.heap.size, 10, none⟩ = some (.string c1S) := F4.at 10 (by simp)
      have yF45_11 : (v1).cell? ⟨w1.heap.size, 11, none⟩ = some (.int .i64 c1e) := F4.at 11 (by simp)
      obtain ⟨xF95_0, xF95_1, xF95_2, xF95_3, xF95_4, xF95_5⟩ := F9.ce6
      have hHeld : (fun w' : World => w'.cell? ⟨w1.heap.size, 6, none⟩ = some (.bool a1n) ∧ w'.cell? ⟨w1.heap.size, 7, none⟩ = some (.string a1S) ∧ w'.cell? ⟨w1.heap.size, 8, none⟩ = some (.int .i64 a1e) ∧ w'.cell? ⟨w1.heap.size, 9, none⟩ = some (.bool c1n) ∧ w'.cell? ⟨w1.heap.size, 10, none⟩ = some (.string c1S) ∧ w'.cell? ⟨w1.heap.size, 11, none⟩ = some (.int .i64 c1e) ∧ w'.cell? ⟨w4.heap.size, 0, none⟩ = some (.bool gn) ∧ w'.cell? ⟨w4.heap.size, 1, none⟩ = some (.string gS) ∧ w'.cell? ⟨w4.heap.size, 2, none⟩ = some (.int .i64 ge) ∧ w'.cell? ⟨w4.heap.size, 3, none⟩ = some (.bool hn) ∧ w'.cell? ⟨w4.heap.size, 4, none⟩ = some (.string hS) ∧ w'.cell? ⟨w4.heap.size, 5, none⟩ = some (.int .i64 he)) (v1).drew := ⟨yF45_6, yF45_7, yF45_8, yF45_9, yF45_10, yF45_11, xF95_0, xF95_1, xF95_2, xF95_3, xF95_4, xF95_5⟩
      refine wpAny_of_held (S := fun w' : World => w'.cell? ⟨w1.heap.size, 6, none⟩ = some (.bool a1n) ∧ w'.cell? ⟨w1.heap.size, 7, none⟩ = some (.string a1S) ∧ w'.cell? ⟨w1.heap.size, 8, none⟩ = some (.int .i64 a1e) ∧ w'.cell? ⟨w1.heap.size, 9, none⟩ = some (.bool c1n) ∧ w'.cell? ⟨w1.heap.size, 10, none⟩ = some (.string c1S) ∧ w'.cell? ⟨w1.heap.size, 11, none⟩ = some (.int .i64 c1e) ∧ w'.cell? ⟨w4.heap.size, 0, none⟩ = some (.bool gn) ∧ w'.cell? ⟨w4.heap.size, 1, none⟩ = some (.string gS) ∧ w'.cell? ⟨w4.heap.size, 2, none⟩ = some (.int .i64 ge) ∧ w'.cell? ⟨w4.heap.size, 3, none⟩ = some (.bool hn) ∧ w'.cell? ⟨w4.heap.size, 4, none⟩ = some (.string hS) ∧ w'.cell? ⟨w4.heap.size, 5, none⟩ = some (.int .i64 he)) _ _ _ _ ?_
      replace F2 := F2.drew
      replace F4 := F4.drew
      replace F9 := F9.drew
      replace F10 := F10.drew
      replace B0 := B0.drew
      refine tkA 0 ?_
      (try dsimp only [Act.put]); (try go_frame)
      refine tkA 1 ?_
      (try dsimp only [Act.put]); (try go_frame)
      refine tkA 2 ?_
      (try dsimp only [Act.put]); (try go_frame)
      refine tkA 3 ?_
      (try dsimp only [Act.put]); (try go_frame)
      refine wpAnyH_ready (rs := [4, 8]) (by kernel_rfl) (by simp) ?_
      refine AllReadyH.cons rfl (fun K hK => ?_) (AllReadyH.cons rfl (fun K hK => ?_) AllReadyH.nil)
      ·go_simp
       (with_reducible refine (qS1 _).mono ?_)
       rintro r w5 ⟨rfl, hb5⟩
       clear yF45_6 yF45_7 yF45_8 yF45_9 yF45_10 yF45_11 xF95_0 xF95_1 xF95_2 xF95_3 xF95_4 xF95_5
       replace F2 := F2.keep hb5
       replace F4 := F4.keep hb5
       replace F9 := F9.keep hb5
       replace F10 := F10.keep hb5
       replace B0 := B0.trans (hb5.mono B0.size)
       clear hb5
       have yF47_6 : (w5).cell? ⟨w1.heap.size, 6, none⟩ = some (.bool a1n) := F4.at 6 (by simp)
       have yF47_7 : (w5).cell? ⟨w1.heap.size, 7, none⟩ = some (.string a1S) := F4.at 7 (by simp)
       have yF47_8 : (w5).cell? ⟨w1.heap.size, 8, none⟩ = some (.int .i64 a1e) := F4.at 8 (by simp)
       have yF47_9 : (w5).cell? ⟨w1.heap.size, 9, none⟩ = some (.bool c1n) := F4.at 9 (by simp)
       have yF47_10 : (w5).cell? ⟨w1.heap.size, 10, none⟩ = some (.string c1S) := F4.at 10 (by simp)
       have yF47_11 : (w5).cell? ⟨w1.heap.size, 11, none⟩ = some (.int .i64 c1e) := F4.at 11 (by simp)
       obtain ⟨xF97_0, xF97_1, xF97_2, xF97_3, xF97_4, xF97_5⟩ := F9.ce6
       refine hK.out _ _ ?_ (fun hHeld => ?_)
       ·exact ⟨yF47_6, yF47_7, yF47_8, yF47_9, yF47_10, yF47_11, xF97_0, xF97_1, xF97_2, xF97_3, xF97_4, xF97_5⟩
       clear hK K
       (try dsimp only [Act.put]); (try go_frame)
       refine tkA 5 ?_
       (try dsimp only [Act.put]); (try go_frame)
       refine tkA 6 ?_
       (try dsimp only [Act.put]); (try go_frame)
       refine tkA 7 ?_
       (try dsimp only [Act.put]); (try go_frame)
       refine wpAnyH_ready (rs := [8]) (by kernel_rfl) (by simp) ?_
       refine AllReadyH.cons rfl (fun K hK => ?_) AllReadyH.nil
       go_simp
       have zF46 := (F4.allocd (.cells #[.bool false, .string { data := #[] }, .int .i64 0, .bool false, .string { data := #[] }, .int .i64 0] 28)).at 6 (by simp)
       have zF47 := (F4.allocd (.cells #[.bool false, .string { data := #[] }, .int .i64 0, .bool false, .string { data := #[] }, .int .i64 0] 28)).at 7 (by simp)
       have zF48 := (F4.allocd (.cells #[.bool false, .string { data := #[] }, .int .i64 0, .bool false, .string { data := #[] }, .int .i64 0] 28)).at 8 (by simp)
       have zF49 := (F4.allocd (.cells #[.bool false, .string { data := #[] }, .int .i64 0, .bool false, .string { data := #[] }, .int .i64 0] 28)).at 9 (by simp)
       have zF410 := (F4.allocd (.cells #[.bool false, .string { data := #[] }, .int .i64 0, .bool false, .string { data := #[] }, .int .i64 0] 28)).at 10 (by simp)
       have zF411 := (F4.allocd (.cells #[.bool false, .string { data := #[] }, .int .i64 0, .bool false, .string { data := #[] }, .int .i64 0] 28)).at 11 (by simp)
       obtain ⟨zF90, zF91, zF92, zF93, zF94, zF95⟩ := (F9.allocd (.cells #[.bool false, .string { data := #[] }, .int .i64 0, .bool false, .string { data := #[] }, .int .i64 0] 28)).ce6
       clear yF47_6 yF47_7 yF47_8 yF47_9 yF47_10 yF47_11 xF97_0 xF97_1 xF97_2 xF97_3 xF97_4 xF97_5
       refine hK.out _ _ ?_ (fun hHeld => ?_)
       ·exact ⟨zF46, zF47, zF48, zF49, zF410, zF411, zF90, zF91, zF92, zF93, zF94, zF95⟩
       clear hK K
       (try dsimp only [Act.put]); (try go_frame)
       clear zF46 zF47 zF48 zF49 zF410 zF411 zF90 zF91 zF92 zF93 zF94 zF95
       refine wpAnyH_ready (rs := [9]) (by kernel_rfl) (by simp) ?_
       refine AllReadyH.cons rfl (fun K hK => ?_) AllReadyH.nil
       go_simp
       have q_w_F12r1 : Hid (w.heap.size ≤ w5.heap.size) := Lib.hid (by have := B0.size; first | exact this | omega | (simp; done) | simpa using this)
       replace F2 := F2.allocd (.cells #[.bool s1n, .string s1S, .int .i64 s1e, .bool t1n, .string t1S, .int .i64 t1e] 28)
       replace F4 := F4.allocd (.cells #[.bool s1n, .string s1S, .int .i64 s1e, .bool t1n, .string t1S, .int .i64 t1e] 28)
       replace F9 := F9.allocd (.cells #[.bool s1n, .string s1S, .int .i64 s1e, .bool t1n, .string t1S, .int .i64 t1e] 28)
       replace F10 := F10.allocd (.cells #[.bool s1n, .string s1S, .int .i64 s1e, .bool t1n, .string t1S, .int .i64 t1e] 28)
       have F12r1 := Blk.put (w5) #[.bool s1n, .string s1S, .int .i64 s1e, .bool t1n, .string t1S, .int .i64 t1e] 28
       replace B0 := B0.alloc B0.size (.cells #[.bool s1n, .string s1S, .int .i64 s1e, .bool t1n, .string t1S, .int .i64 t1e] 28)
       have yF48_6 : ((w5).alloc (.cells #[.bool s1n, .string s1S, .int .i64 s1e, .bool t1n, .string t1S, .int .i64 t1e] 28)).cell? ⟨w1.heap.size, 6, none⟩ = some (.bool a1n) := F4.at 6 (by simp)
       have yF48_7 : ((w5).alloc (.cells #[.bool s1n, .string s1S, .int .i64 s1e, .bool t1n, .string t1S, .int .i64 t1e] 28)).cell? ⟨w1.heap.size, 7, none⟩ = some (.string a1S) := F4.at 7 (by simp)
       have yF48_8 : ((w5).alloc (.cells #[.bool s1n, .string s1S, .int .i64 s1e, .bool t1n, .string t1S, .int .i64 t1e] 28)).cell? ⟨w1.heap.size, 8, none⟩ = some (.int .i64 a1e) := F4.at 8 (by simp)
       have yF48_9 : ((w5).alloc (.cells #[.bool s1n, .string s1S, .int .i64 s1e, .bool t1n, .string t1S, .int .i64 t1e] 28)).cell? ⟨w1.heap.size, 9, none⟩ = some (.bool c1n) := F4.at 9 (by simp)
       have yF48_10 : ((w5).alloc (.cells #[.bool s1n, .string s1S, .int .i64 s1e, .bool t1n, .string t1S, .int .i64 t1e] 28)).cell? ⟨w1.heap.size, 10, none⟩ = some (.string c1S) := F4.at 10 (by simp)
       have yF48_11 : ((w5).alloc (.cells #[.bool s1n, .string s1S, .int .i64 s1e, .bool t1n, .string t1S, .int .i64 t1e] 28)).cell? ⟨w1.heap.size, 11, none⟩ = some (.int .i64 c1e) := F4.at 11 (by simp)
       obtain ⟨xF98_0, xF98_1, xF98_2, xF98_3, xF98_4, xF98_5⟩ := F9.ce6
       refine hK.out _ _ ?_ (fun hHeld => ?_)
       ·exact ⟨yF48_6, yF48_7, yF48_8, yF48_9, yF48_10, yF48_11, xF98_0, xF98_1, xF98_2, xF98_3, xF98_4, xF98_5⟩
       clear hK K
       (try dsimp only [Act.put]); (try go_frame)
       refine tkA 10 ?_
       (try dsimp only [Act.put]); (try go_frame)
       refine wpAnyH_done (by kernel_rfl) ?_ _
       try simp only [QCut]
       clear hHeld
       clear yF48_6 yF48_7 yF48_8 yF48_9 yF48_10 yF48_11 xF98_0 xF98_1 xF98_2 xF98_3 xF98_4 xF98_5
       go_wp2_with fail
       go_meet
       exact ⟨_, by first | rfl | simp, by first | rfl | simp, F2, F4, F9, F10, F12r1, B0⟩
      ·go_simp
       clear yF45_6 yF45_7 yF45_8 yF45_9 yF45_10 yF45_11 xF95_0 xF95_1 xF95_2 xF95_3 xF95_4 xF95_5
       have q_F2_F12r1 : Hid (w.heap.size + 1 < v1.heap.size) := Lib.hid (by have := F2.lt; first | exact this | omega | (simp; done) | simpa using this)
       have q_F4_F12r1 : Hid (w1.heap.size < v1.heap.size) := Lib.hid (by have := F4.lt; first | exact this | omega | (simp; done) | simpa using this)
       have q_F9_F12r1 : Hid (w4.heap.size < v1.heap.size) := Lib.hid (by have := F9.lt; first | exact this | omega | (simp; done) | simpa using this)
       have q_F10_F12r1 : Hid (w4.heap.size + 1 < v1.heap.size) := Lib.hid (by have := F10.lt; first | exact this | omega | (simp; done) | simpa using this)
       have q_w_F12r1 : Hid (w.heap.size ≤ v1.heap.size) := Lib.hid (by have := B0.size; first | exact this | omega | (simp; done) | simpa using this)
       replace F2 := F2.allocd (.cells #[.bool false, .string { data := #[] }, .int .i64 0, .bool false, .string { data := #[] }, .int .i64 0] 28)
       replace F4 := F4.allocd (.cells #[.bool false, .string { data := #[] }, .int .i64 0, .bool false, .string { data := #[] }, .int .i64 0] 28)
       replace F9 := F9.allocd (.cells #[.bool false, .string { data := #[] }, .int .i64 0, .bool false, .string { data := #[] }, .int .i64 0] 28)
       replace F10 := F10.allocd (.cells #[.bool false, .string { data := #[] }, .int .i64 0, .bool false, .string { data := #[] }, .int .i64 0] 28)
       have F12r1 := Blk.put ((v1).drew) #[.bool false, .string { data := #[] }, .int .i64 0, .bool false, .string { data := #[] }, .int .i64 0] 28
       rw [show ((v1).drew).heap.size = v1.heap.size by simp] at F12r1
       replace B0 := B0.alloc B0.size (.cells #[.bool false, .string { data := #[] }, .int .i64 0, .bool false, .string { data := #[] }, .int .i64 0] 28)
       have yF47_6 : (((v1).drew).alloc (.cells #[.bool false, .string { data := #[] }, .int .i64 0, .bool false, .string { data := #[] }, .int .i64 0] 28)).cell? ⟨w1.heap.size, 6, none⟩ = some (.bool a1n) := F4.at 6 (by simp)
       have yF47_7 : (((v1).drew).alloc (.cells #[.bool false, .string { data := #[] }, .int .i64 0, .bool false, .string { data := #[] }, .int .i64 0] 28)).cell? ⟨w1.heap.size, 7, none⟩ = some (.string a1S) := F4.at 7 (by simp)
       have yF47_8 : (((v1).drew).alloc (.cells #[.bool false, .string { data := #[] }, .int .i64 0, .bool false, .string { data := #[] }, .int .i64 0] 28)).cell? ⟨w1.heap.size, 8, none⟩ = some (.int .i64 a1e) := F4.at 8 (by simp)
       have yF47_9 : (((v1).drew).alloc (.cells #[.bool false, .string { data := #[] }, .int .i64 0, .bool false, .string { data := #[] }, .int .i64 0] 28)).cell? ⟨w1.heap.size, 9, none⟩ = some (.bool c1n) := F4.at 9 (by simp)
       have yF47_10 : (((v1).drew).alloc (.cells #[.bool false, .string { data := #[] }, .int .i64 0, .bool false, .string { data := #[] }, .int .i64 0] 28)).cell? ⟨w1.heap.size, 10, none⟩ = some (.string c1S) := F4.at 10 (by simp)
       have yF47_11 : (((v1).drew).alloc (.cells #[.bool false, .string { data := #[] }, .int .i64 0, .bool false, .string { data := #[] }, .int .i64 0] 28)).cell? ⟨w1.heap.size, 11, none⟩ = some (.int .i64 c1e) := F4.at 11 (by simp)
       obtain ⟨xF97_0, xF97_1, xF97_2, xF97_3, xF97_4, xF97_5⟩ := F9.ce6
       refine hK.out _ _ ?_ (fun hHeld => ?_)
       ·exact ⟨yF47_6, yF47_7, yF47_8, yF47_9, yF47_10, yF47_11, xF97_0, xF97_1, xF97_2, xF97_3, xF97_4, xF97_5⟩
       clear hK K
       (try dsimp only [Act.put]); (try go_frame)
       refine wpAnyH_ready (rs := [4]) (by kernel_rfl) (by simp) ?_
       refine AllReadyH.cons rfl (fun K hK => ?_) AllReadyH.nil
       go_simp
       (with_reducible refine (qS1 _).mono ?_)
       rintro r w5 ⟨rfl, hb5⟩
       clear yF47_6 yF47_7 yF47_8 yF47_9 yF47_10 yF47_11 xF97_0 xF97_1 xF97_2 xF97_3 xF97_4 xF97_5
       replace F2 := F2.keep hb5
       replace F4 := F4.keep hb5
       replace F9 := F9.keep hb5
       replace F10 := F10.keep hb5
       replace F12r1 := F12r1.keep hb5
       replace B0 := B0.trans (hb5.mono B0.size)
       clear hb5
       have yF48_6 : (w5).cell? ⟨w1.heap.size, 6, none⟩ = some (.bool a1n) := F4.at 6 (by simp)
       have yF48_7 : (w5).cell? ⟨w1.heap.size, 7, none⟩ = some (.string a1S) := F4.at 7 (by simp)
       have yF48_8 : (w5).cell? ⟨w1.heap.size, 8, none⟩ = some (.int .i64 a1e) := F4.at 8 (by simp)
       have yF48_9 : (w5).cell? ⟨w1.heap.size, 9, none⟩ = some (.bool c1n) := F4.at 9 (by simp)
       have yF48_10 : (w5).cell? ⟨w1.heap.size, 10, none⟩ = some (.string c1S) := F4.at 10 (by simp)
       have yF48_11 : (w5).cell? ⟨w1.heap.size, 11, none⟩ = some (.int .i64 c1e) := F4.at 11 (by simp)
       obtain ⟨xF98_0, xF98_1, xF98_2, xF98_3, xF98_4, xF98_5⟩ := F9.ce6
       refine hK.out _ _ ?_ (fun hHeld => ?_)
       ·exact ⟨yF48_6, yF48_7, yF48_8, yF48_9, yF48_10, yF48_11, xF98_0, xF98_1, xF98_2, xF98_3, xF98_4, xF98_5⟩
       clear hK K
       (try dsimp only [Act.put]); (try go_frame)
       refine tkA 5 ?_
       (try dsimp only [Act.put]); (try go_frame)
       refine tkA 6 ?_
       (try dsimp only [Act.put]); (try go_frame)
       refine tkA 7 ?_
       (try dsimp only [Act.put]); (try go_frame)
       obtain ⟨xF12r18_0, xF12r18_1, xF12r18_2, xF12r18_3, xF12r18_4, xF12r18_5⟩ := F12r1.ce6
       obtain ⟨xF12r18_0f, xF12r18_1f, xF12r18_2f, xF12r18_3f, xF12r18_4f, xF12r18_5f⟩ := F12r1.fr6
       refine wpAnyH_ready (rs := [9]) (by kernel_rfl) (by simp) ?_
       refine AllReadyH.cons rfl (fun K hK => ?_) AllReadyH.nil
       go_simp
       replace F2 := ((((((F2.far 0 (.bool s1n) (Nat.ne_of_lt q_F2_F12r1.out)).far 1 (.string s1S) (Nat.ne_of_lt q_F2_F12r1.out)).far 2 (.int .i64 s1e) (Nat.ne_of_lt q_F2_F12r1.out)).far 3 (.bool t1n) (Nat.ne_of_lt q_F2_F12r1.out)).far 4 (.string t1S) (Nat.ne_of_lt q_F2_F12r1.out)).far 5 (.int .i64 t1e) (Nat.ne_of_lt q_F2_F12r1.out))
       replace F4 := ((((((F4.far 0 (.bool s1n) (Nat.ne_of_lt q_F4_F12r1.out)).far 1 (.string s1S) (Nat.ne_of_lt q_F4_F12r1.out)).far 2 (.int .i64 s1e) (Nat.ne_of_lt q_F4_F12r1.out)).far 3 (.bool t1n) (Nat.ne_of_lt q_F4_F12r1.out)).far 4 (.string t1S) (Nat.ne_of_lt q_F4_F12r1.out)).far 5 (.int .i64 t1e) (Nat.ne_of_lt q_F4_F12r1.out))
       replace F9 := ((((((F9.far 0 (.bool s1n) (Nat.ne_of_lt q_F9_F12r1.out)).far 1 (.string s1S) (Nat.ne_of_lt q_F9_F12r1.out)).far 2 (.int .i64 s1e) (Nat.ne_of_lt q_F9_F12r1.out)).far 3 (.bool t1n) (Nat.ne_of_lt q_F9_F12r1.out)).far 4 (.string t1S) (Nat.ne_of_lt q_F9_F12r1.out)).far 5 (.int .i64 t1e) (Nat.ne_of_lt q_F9_F12r1.out))
       replace F10 := ((((((F10.far 0 (.bool s1n) (Nat.ne_of_lt q_F10_F12r1.out)).far 1 (.string s1S) (Nat.ne_of_lt q_F10_F12r1.out)).far 2 (.int .i64 s1e) (Nat.ne_of_lt q_F10_F12r1.out)).far 3 (.bool t1n) (Nat.ne_of_lt q_F10_F12r1.out)).far 4 (.string t1S) (Nat.ne_of_lt q_F10_F12r1.out)).far 5 (.int .i64 t1e) (Nat.ne_of_lt q_F10_F12r1.out))
       replace F12r1 : Blk (((((((w5).setCell ⟨v1.heap.size, 0, none⟩ (.bool s1n)).setCell ⟨v1.heap.size, 1, none⟩ (.string s1S)).setCell ⟨v1.heap.size, 2, none⟩ (.int .i64 s1e)).setCell ⟨v1.heap.size, 3, none⟩ (.bool t1n)).setCell ⟨v1.heap.size, 4, none⟩ (.string t1S)).setCell ⟨v1.heap.size, 5, none⟩ (.int .i64 t1e)) (v1.heap.size) #[.bool s1n, .string s1S, .int .i64 s1e, .bool t1n, .string t1S, .int .i64 t1e] 28 := ((((((F12r1.setAt 0 (.bool s1n)).setAt 1 (.string s1S)).setAt 2 (.int .i64 s1e)).setAt 3 (.bool t1n)).setAt 4 (.string t1S)).setAt 5 (.int .i64 t1e))
       replace B0 := ((((((B0.setCell (p := ⟨v1.heap.size, 0, none⟩) q_w_F12r1.out (.bool s1n)).setCell (p := ⟨v1.heap.size, 1, none⟩) q_w_F12r1.out (.string s1S)).setCell (p := ⟨v1.heap.size, 2, none⟩) q_w_F12r1.out (.int .i64 s1e)).setCell (p := ⟨v1.heap.size, 3, none⟩) q_w_F12r1.out (.bool t1n)).setCell (p := ⟨v1.heap.size, 4, none⟩) q_w_F12r1.out (.string t1S)).setCell (p := ⟨v1.heap.size, 5, none⟩) q_w_F12r1.out (.int .i64 t1e))
       clear yF48_6 yF48_7 yF48_8 yF48_9 yF48_10 yF48_11 xF98_0 xF98_1 xF98_2 xF98_3 xF98_4 xF98_5 xF12r18_0 xF12r18_1 xF12r18_2 xF12r18_3 xF12r18_4 xF12r18_5 xF12r18_0f xF12r18_1f xF12r18_2f xF12r18_3f xF12r18_4f xF12r18_5f
       have yF49_6 : (((((((w5).setCell ⟨v1.heap.size, 0, none⟩ (.bool s1n)).setCell ⟨v1.heap.size, 1, none⟩ (.string s1S)).setCell ⟨v1.heap.size, 2, none⟩ (.int .i64 s1e)).setCell ⟨v1.heap.size, 3, none⟩ (.bool t1n)).setCell ⟨v1.heap.size, 4, none⟩ (.string t1S)).setCell ⟨v1.heap.size, 5, none⟩ (.int .i64 t1e)).cell? ⟨w1.heap.size, 6, none⟩ = some (.bool a1n) := F4.at 6 (by simp)
       have yF49_7 : (((((((w5).setCell ⟨v1.heap.size, 0, none⟩ (.bool s1n)).setCell ⟨v1.heap.size, 1, none⟩ (.string s1S)).setCell ⟨v1.heap.size, 2, none⟩ (.int .i64 s1e)).setCell ⟨v1.heap.size, 3, none⟩ (.bool t1n)).setCell ⟨v1.heap.size, 4, none⟩ (.string t1S)).setCell ⟨v1.heap.size, 5, none⟩ (.int .i64 t1e)).cell? ⟨w1.heap.size, 7, none⟩ = some (.string a1S) := F4.at 7 (by simp)
       have yF49_8 : (((((((w5).setCell ⟨v1.heap.size, 0, none⟩ (.bool s1n)).setCell ⟨v1.heap.size, 1, none⟩ (.string s1S)).setCell ⟨v1.heap.size, 2, none⟩ (.int .i64 s1e)).setCell ⟨v1.heap.size, 3, none⟩ (.bool t1n)).setCell ⟨v1.heap.size, 4, none⟩ (.string t1S)).setCell ⟨v1.heap.size, 5, none⟩ (.int .i64 t1e)).cell? ⟨w1.heap.size, 8, none⟩ = some (.int .i64 a1e) := F4.at 8 (by simp)
       have yF49_9 : (((((((w5).setCell ⟨v1.heap.size, 0, none⟩ (.bool s1n)).setCell ⟨v1.heap.size, 1, none⟩ (.string s1S)).setCell ⟨v1.heap.size, 2, none⟩ (.int .i64 s1e)).setCell ⟨v1.heap.size, 3, none⟩ (.bool t1n)).setCell ⟨v1.heap.size, 4, none⟩ (.string t1S)).setCell ⟨v1.heap.size, 5, none⟩ (.int .i64 t1e)).cell? ⟨w1.heap.size, 9, none⟩ = some (.bool c1n) := F4.at 9 (by simp)
       have yF49_10 : (((((((w5).setCell ⟨v1.heap.size, 0, none⟩ (.bool s1n)).setCell ⟨v1.heap.size, 1, none⟩ (.string s1S)).setCell ⟨v1.heap.size, 2, none⟩ (.int .i64 s1e)).setCell ⟨v1.heap.size, 3, none⟩ (.bool t1n)).setCell ⟨v1.heap.size, 4, none⟩ (.string t1S)).setCell ⟨v1.heap.size, 5, none⟩ (.int .i64 t1e)).cell? ⟨w1.heap.size, 10, none⟩ = some (.string c1S) := F4.at 10 (by simp)
       have yF49_11 : (((((((w5).setCell ⟨v1.heap.size, 0, none⟩ (.bool s1n)).setCell ⟨v1.heap.size, 1, none⟩ (.string s1S)).setCell ⟨v1.heap.size, 2, none⟩ (.int .i64 s1e)).setCell ⟨v1.heap.size, 3, none⟩ (.bool t1n)).setCell ⟨v1.heap.size, 4, none⟩ (.string t1S)).setCell ⟨v1.heap.size, 5, none⟩ (.int .i64 t1e)).cell? ⟨w1.heap.size, 11, none⟩ = some (.int .i64 c1e) := F4.at 11 (by simp)
       obtain ⟨xF99_0, xF99_1, xF99_2, xF99_3, xF99_4, xF99_5⟩ := F9.ce6
       refine hK.out _ _ ?_ (fun hHeld => ?_)
       ·exact ⟨yF49_6, yF49_7, yF49_8, yF49_9, yF49_10, yF49_11, xF99_0, xF99_1, xF99_2, xF99_3, xF99_4, xF99_5⟩
       clear hK K
       (try dsimp only [Act.put]); (try go_frame)
       refine tkA 10 ?_
       (try dsimp only [Act.put]); (try go_frame)
       refine wpAnyH_done (by kernel_rfl) ?_ _
       try simp only [QCut]
       clear hHeld
       clear yF49_6 yF49_7 yF49_8 yF49_9 yF49_10 yF49_11 xF99_0 xF99_1 xF99_2 xF99_3 xF99_4 xF99_5
       go_wp2_with fail
       go_meet
       exact ⟨_, by first | rfl | simp, by first | rfl | simp, F2, F4, F9, F10, F12r1, B0⟩
     case rest =>
      clear B0
      clear F2
      clear F4
      clear F9
      clear F10
      obtain ⟨S12, rfl, rfl, F2, F4, F9, F10, F12, B0⟩ := hcut
      generalize wc = v2 at *
      clear qS1
      obtain ⟨xF126_0, xF126_1, xF126_2, xF126_3, xF126_4, xF126_5⟩ := F12.ce6
      go_wp2_with fail
      (with_reducible refine (qN1 _).mono ?_)
      rintro r w5 ⟨rfl, hb5⟩
      clear xF126_0 xF126_1 xF126_2 xF126_3 xF126_4 xF126_5
      replace F2 := F2.keep hb5
      replace F4 := F4.keep hb5
      replace F9 := F9.keep hb5
      replace F10 := F10.keep hb5
      replace F12 := F12.keep hb5
      replace B0 := B0.trans (hb5.mono B0.size)
      clear hb5
      have q_F10_F14r1 : Hid (w4.heap.size + 1 < w5.heap.size) := Lib.hid (by have := F10.lt; first | exact this | omega | (simp; done) | simpa using this)
      replace F2 := F2.allocd (.cells #[.bool n1n, .string n1S, .int .i64 n1e] 24)
      replace F4 := F4.allocd (.cells #[.bool n1n, .string n1S, .int .i64 n1e] 24)
      replace F9 := F9.allocd (.cells #[.bool n1n, .string n1S, .int .i64 n1e] 24)
      replace F10 := F10.allocd (.cells #[.bool n1n, .string n1S, .int .i64 n1e] 24)
      clear F12
      have F14r1 := Blk.put (w5) #[.bool n1n, .string n1S, .int .i64 n1e] 24
      replace B0 := B0.alloc B0.size (.cells #[.bool n1n, .string n1S, .int .i64 n1e] 24)
      rcases hh.out with ⟨kd, rfl, rfl, rfl, rfl⟩ | ⟨rfl, kf, rfl, rfl, rfl, rfl⟩ | ⟨rfl, rfl, qK1, qm1, p2⟩
      ·clear hh
       have kd2 : (d1 != 0) = true := by simpa using kd
       clear kd
       obtain ⟨xF27_0, xF27_1⟩ := F2.ce2
       obtain ⟨xF27_0f, xF27_1f⟩ := F2.fr2
       clear F4
       clear F9
       clear F10
       clear F14r1
       replace F2 : Blk ((((w5).alloc (.cells #[.bool n1n, .string n1S, .int .i64 n1e] 24)).setCell ⟨w.heap.size + 1, 0, none⟩ (.complex .f64 0 0)).setCell ⟨w.heap.size + 1, 1, none⟩ (.float .f64 0)) (w.heap.size + 1) #[.complex .f64 0 0, .float .f64 0] 59 := ((F2.setAt 0 (.complex .f64 0 0)).setAt 1 (.float .f64 0))
       replace B0 := ((B0.setCell (p := ⟨w.heap.size + 1, 0, none⟩) q_w_F2.out (.complex .f64 0 0)).setCell (p := ⟨w.heap.size + 1, 1, none⟩) q_w_F2.out (.float .f64 0))
       obtain ⟨xF28_0, xF28_1⟩ := F2.ce2
       go_wp2
       exact bodyPost_ret (v := .tuple #[.agg #[.complex .f64 0 0, .float .f64 0], .int .i64 4]) (by simp [results, Tryz.results21, go_sem, xF28_0, xF28_1]) rfl ⟨rfl, B0⟩
      ·clear hh
       have kd2 : (f1 != 0) = true := by simpa using kf
       clear kf
       obtain ⟨xF27_0, xF27_1⟩ := F2.ce2
       obtain ⟨xF27_0f, xF27_1f⟩ := F2.fr2
       clear F4
       clear F9
       clear F10
       clear F14r1
       replace F2 : Blk ((((w5).alloc (.cells #[.bool n1n, .string n1S, .int .i64 n1e] 24)).setCell ⟨w.heap.size + 1, 0, none⟩ (.complex .f64 0 0)).setCell ⟨w.heap.size + 1, 1, none⟩ (.float .f64 0)) (w.heap.size + 1) #[.complex .f64 0 0, .float .f64 0] 59 := ((F2.setAt 0 (.complex .f64 0 0)).setAt 1 (.float .f64 0))
       replace B0 := ((B0.setCell (p := ⟨w.heap.size + 1, 0, none⟩) q_w_F2.out (.complex .f64 0 0)).setCell (p := ⟨w.heap.size + 1, 1, none⟩) q_w_F2.out (.float .f64 0))
       obtain ⟨xF28_0, xF28_1⟩ := F2.ce2
       go_wp2
       exact bodyPost_ret (v := .tuple #[.agg #[.complex .f64 0 0, .float .f64 0], .int .i64 4]) (by simp [results, Tryz.results21, go_sem, xF28_0, xF28_1]) rfl ⟨rfl, B0⟩
      ·clear hh
       obtain ⟨xF107_0, xF107_1, xF107_2⟩ := F10.ce3
       obtain ⟨xF14r17_0, xF14r17_1, xF14r17_2⟩ := F14r1.ce3
       go_wp2_with fail
       (with_reducible refine (qK1 _).mono ?_)
       rintro r w6 ⟨rfl, hb6⟩
       clear xF107_0 xF107_1 xF107_2 xF14r17_0 xF14r17_1 xF14r17_2
       replace F2 := F2.keep hb6
       replace F4 := F4.keep hb6
       replace F9 := F9.keep hb6
       replace F10 := F10.keep hb6
       replace F14r1 := F14r1.keep hb6
       replace B0 := B0.trans (hb6.mono B0.size)
       clear hb6
       clear qK1
       rcases qm1 with ⟨hk, rfl, rfl, rfl⟩ | ⟨hk, rfl, rfl, rfl⟩
       ·have hk2 : decide (K1 < 0) = true := decide_eq_true (by omega)
        clear hk
        obtain ⟨xF14r18_0, xF14r18_1, xF14r18_2⟩ := F14r1.ce3
        obtain ⟨xF108_0, xF108_1, xF108_2⟩ := F10.ce3
        obtain ⟨xF108_0f, xF108_1f, xF108_2f⟩ := F10.fr3
        replace F2 := (((F2.far 0 (.bool n1n) (Nat.ne_of_lt q_F2_F10.out)).far 1 (.string n1S) (Nat.ne_of_lt q_F2_F10.out)).far 2 (.int .i64 n1e) (Nat.ne_of_lt q_F2_F10.out))
        replace F4 := (((F4.far 0 (.bool n1n) (Nat.ne_of_lt q_F4_F10.out)).far 1 (.string n1S) (Nat.ne_of_lt q_F4_F10.out)).far 2 (.int .i64 n1e) (Nat.ne_of_lt q_F4_F10.out))
        replace F9 := (((F9.far 0 (.bool n1n) (Nat.ne_of_lt q_F9_F10.out)).far 1 (.string n1S) (Nat.ne_of_lt q_F9_F10.out)).far 2 (.int .i64 n1e) (Nat.ne_of_lt q_F9_F10.out))
        replace F14r1 := (((F14r1.far 0 (.bool n1n) (Nat.ne_of_gt q_F10_F14r1.out)).far 1 (.string n1S) (Nat.ne_of_gt q_F10_F14r1.out)).far 2 (.int .i64 n1e) (Nat.ne_of_gt q_F10_F14r1.out))
        replace F10 : Blk ((((w6).setCell ⟨w4.heap.size + 1, 0, none⟩ (.bool n1n)).setCell ⟨w4.heap.size + 1, 1, none⟩ (.string n1S)).setCell ⟨w4.heap.size + 1, 2, none⟩ (.int .i64 n1e)) (w4.heap.size + 1) #[.bool n1n, .string n1S, .int .i64 n1e] 24 := (((F10.setAt 0 (.bool n1n)).setAt 1 (.string n1S)).setAt 2 (.int .i64 n1e))
        replace B0 := (((B0.setCell (p := ⟨w4.heap.size + 1, 0, none⟩) q_w_F10.out (.bool n1n)).setCell (p := ⟨w4.heap.size + 1, 1, none⟩) q_w_F10.out (.string n1S)).setCell (p := ⟨w4.heap.size + 1, 2, none⟩) q_w_F10.out (.int .i64 n1e))
        go_wp2_with fail
        go_meet
        exact ⟨F2, F4, F9, F10, p2, B0⟩
       ·have hk2 : decide (K1 < 0) = false := decide_eq_false (by omega)
        clear hk
        go_wp2_with fail
        go_meet
        exact ⟨F2, F4, F9, F10, p2, B0⟩
    case rest =>
     clear B0
     clear F2
     clear F4
     clear F9
     clear F10
     obtain ⟨F2, F4, F9, F10, p2, B0⟩ := hcut
     generalize wc = v2 at *
     go_wp2_with fail
     rw [rounds_succ]
     go_upto_block 1 with fail
     go_cut [] (fun  wx => Blk wx (w.heap.size + 1) #[.complex .f64 0 0, .float .f64 0] 59 ∧ Blk wx (w1.heap.size) #[.bool a0n, .string a0S, .int .i64 a0e, .bool c0n, .string c0S, .int .i64 c0e, .bool a1n, .string a1S, .int .i64 a1e, .bool c1n, .string c1S, .int .i64 c1e, .bool a2n, .string a2S, .int .i64 a2e, .bool c2n, .string c2S, .int .i64 c2e, .bool a3n, .string a3S, .int .i64 a3e, .bool c3n, .string c3S, .int .i64 c3e] 29 ∧ Blk wx (w4.heap.size) #[.bool gn, .string gS, .int .i64 ge, .bool hn, .string hS, .int .i64 he] 28 ∧ Blk wx (w4.heap.size + 1) #[.bool u2n, .string u2S, .int .i64 u2e] 24 ∧ P3 ∧ Below w.heap.size w wx)
     case first =>
      clear kr k0 k1 k3
      obtain ⟨qS1, qN1, hh⟩ := k2.out p2
      replace hh := Lib.hid hh
      clear k2
      as_aux_lemma =>
      go_upto_region 13 with fail
      go_cut [12, 13] (fun s12 s13 wx => ∃ S12, s12 = .pointer (some ⟨S12, 0, none⟩) ∧ s13 = .int .i64 d2 ∧ Blk wx (w.heap.size + 1) #[.complex .f64 0 0, .float .f64 0] 59 ∧ Blk wx (w1.heap.size) #[.bool a0n, .string a0S, .int .i64 a0e, .bool c0n, .string c0S, .int .i64 c0e, .bool a1n, .string a1S, .int .i64 a1e, .bool c1n, .string c1S, .int .i64 c1e, .bool a2n, .string a2S, .int .i64 a2e, .bool c2n, .string c2S, .int .i64 c2e, .bool a3n, .string a3S, .int .i64 a3e, .bool c3n, .string c3S, .int .i64 c3e] 29 ∧ Blk wx (w4.heap.size) #[.bool gn, .string gS, .int .i64 ge, .bool hn, .string hS, .int .i64 he] 28 ∧ Blk wx (w4.heap.size + 1) #[.bool u1n, .string u1S, .int .i64 u1e] 24 ∧ Blk wx S12 #[.bool s2n, .string s2S, .int .i64 s2e, .bool t2n, .string t2S, .int .i64 t2e] 28 ∧ Below w.heap.size w wx)
      case first =>
       clear qN1 hh
       go_wp2_with fail
       refine wp_region_any (by kernel_rfl) ?_
       have yF46_12 : (v2).cell? ⟨w1.heap.size, 12, none⟩ = some (.bool a2n) := F4.at 12 (by simp)
       have yF46_13 : (v2).cell? ⟨w1.heap.size, 13, none⟩ = some (.string a2S) := F4.at 13 (by simp)
       have yF46_14 : (v2).cell? ⟨w1.heap.size, 14, none⟩ = some (.int .i64 a2e) := F4.at 14 (by simp)
       have yF46_15 : (v2).cell? ⟨w1.heap.size, 15, none⟩ = some (.bool c2n) := F4.at 15 (by simp)
       have yF46_16 : (v2).cell? ⟨w1.heap.size, 16, none⟩ = some (.string c2S) := F4.at 16 (by simp)
       have yF46_17 : (v2).cell? ⟨w1.heap.size, 17, none⟩ = some (.int .i64 c2e) := F4.at 17 (by simp)
       obtain ⟨xF96_0, xF96_1, xF96_2, xF96_3, xF96_4, xF96_5⟩ := F9.ce6
       have hHeld : (fun w' : World => w'.cell? ⟨w1.heap.size, 12, none⟩ = some (.bool a2n) ∧ w'.cell? ⟨w1.heap.size, 13, none⟩ = some (.string a2S) ∧ w'.cell? ⟨w1.heap.size, 14, none⟩ = some (.int .i64 a2e) ∧ w'.cell? ⟨w1.heap.size, 15, none⟩ = some (.bool c2n) ∧ w'.cell? ⟨w1.heap.size, 16, none⟩ = some (.string c2S) ∧ w'.cell? ⟨w1.heap.size, 17, none⟩ = some (.int .i64 c2e) ∧ w'.cell? ⟨w4.heap.size, 0, none⟩ = some (.bool gn) ∧ w'.cell? ⟨w4.heap.size, 1, none⟩ = some (.string gS) ∧ w'.cell? ⟨w4.heap.size, 2, none⟩ = some (.int .i64 ge) ∧ w'.cell? ⟨w4.heap.size, 3, none⟩ = some (.bool hn) ∧ w'.cell? ⟨w4.heap.size, 4, none⟩ = some (.string hS) ∧ w'.cell? ⟨w4.heap.size, 5, none⟩ = some (.int .i64 he)) (v2).drew := ⟨yF46_12, yF46_13, yF46_14, yF46_15, yF46_16, yF46_17, xF96_0, xF96_1, xF96_2, xF96_3, xF96_4, xF96_5⟩
       refine wpAny_of_held (S := fun w' : World => w'.cell? ⟨w1.heap.size, 12, none⟩ = some (.bool a2n) ∧ w'.cell? ⟨w1.heap.size, 13, none⟩ = some (.string a2S) ∧ w'.cell? ⟨w1.heap.size, 14, none⟩ = some (.int .i64 a2e) ∧ w'.cell? ⟨w1.heap.size, 15, none⟩ = some (.bool c2n) ∧ w'.cell? ⟨w1.heap.size, 16, none⟩ = some (.string c2S) ∧ w'.cell? ⟨w1.heap.size, 17, none⟩ = some (.int .i64 c2e) ∧ w'.cell? ⟨w4.heap.size, 0, none⟩ = some (.bool gn) ∧ w'.cell? ⟨w4.heap.size, 1, none⟩ = some (.string gS) ∧ w'.cell? ⟨w4.heap.size, 2, none⟩ = some (.int .i64 ge) ∧ w'.cell? ⟨w4.heap.size, 3, none⟩ = some (.bool hn) ∧ w'.cell? ⟨w4.heap.size, 4, none⟩ = some (.string hS) ∧ w'.cell? ⟨w4.heap.size, 5, none⟩ = some (.int .i64 he)) _ _ _ _ ?_
       replace F2 := F2.drew
       replace F4 := F4.drew
       replace F9 := F9.drew
       replace F10 := F10.drew
       replace B0 := B0.drew
       refine tkA 0 ?_
       (try dsimp only [Act.put]); (try go_frame)
       refine tkA 1 ?_
       (try dsimp only [Act.put]); (try go_frame)
       refine tkA 2 ?_
       (try dsimp only [Act.put]); (try go_frame)
       refine tkA 3 ?_
       (try dsimp only [Act.put]); (try go_frame)
       refine wpAnyH_ready (rs := [4, 8]) (by kernel_rfl) (by simp) ?_
       refine AllReadyH.cons rfl (fun K hK => ?_) (AllReadyH.cons rfl (fun K hK => ?_) AllReadyH.nil)
       ·go_simp
        (with_reducible refine (qS1 _).mono ?_)
        rintro r w5 ⟨rfl, hb5⟩
        clear yF46_12 yF46_13 yF46_14 yF46_15 yF46_16 yF46_17 xF96_0 xF96_1 xF96_2 xF96_3 xF96_4 xF96_5
        replace F2 := F2.keep hb5
        replace F4 := F4.keep hb5
        replace F9 := F9.keep hb5
        replace F10 := F10.keep hb5
        replace B0 := B0.trans (hb5.mono B0.size)
        clear hb5
        have yF48_12 : (w5).cell? ⟨w1.heap.size, 12, none⟩ = some (.bool a2n) := F4.at 12 (by simp)
        have yF48_13 : (w5).cell? ⟨w1.heap.size, 13, none⟩ = some (.string a2S) := F4.at 13 (by simp)
        have yF48_14 : (w5).cell? ⟨w1.heap.size, 14, none⟩ = some (.int .i64 a2e) := F4.at 14 (by simp)
        have yF48_15 : (w5).cell? ⟨w1.heap.size, 15, none⟩ = some (.bool c2n) := F4.at 15 (by simp)
        have yF48_16 : (w5).cell? ⟨w1.heap.size, 16, none⟩ = some (.string c2S) := F4.at 16 (by simp)
        have yF48_17 : (w5).cell? ⟨w1.heap.size, 17, none⟩ = some (.int .i64 c2e) := F4.at 17 (by simp)
        obtain ⟨xF98_0, xF98_1, xF98_2, xF98_3, xF98_4, xF98_5⟩ := F9.ce6
        refine hK.out _ _ ?_ (fun hHeld => ?_)
        ·exact ⟨yF48_12, yF48_13, yF48_14, yF48_15, yF48_16, yF48_17, xF98_0, xF98_1, xF98_2, xF98_3, xF98_4, xF98_5⟩
        clear hK K
        (try dsimp only [Act.put]); (try go_frame)
        refine tkA 5 ?_
        (try dsimp only [Act.put]); (try go_frame)
        refine tkA 6 ?_
        (try dsimp only [Act.put]); (try go_frame)
        refine tkA 7 ?_
        (try dsimp only [Act.put]); (try go_frame)
        refine wpAnyH_ready (rs := [8]) (by kernel_rfl) (by simp) ?_
        refine AllReadyH.cons rfl (fun K hK => ?_) AllReadyH.nil
        go_simp
        have zF412 := (F4.allocd (.cells #[.bool false, .string { data := #[] }, .int .i64 0, .bool false, .string { data := #[] }, .int .i64 0] 28)).at 12 (by simp)
        have zF413 := (F4.allocd (.cells #[.bool false, .string { data := #[] }, .int .i64 0, .bool false, .string { data := #[] }, .int .i64 0] 28)).at 13 (by simp)
        have zF414 := (F4.allocd (.cells #[.bool false, .string { data := #[] }, .int .i64 0, .bool false, .string { data := #[] }, .int .i64 0] 28)).at 14 (by simp)
        have zF415 := (F4.allocd (.cells #[.bool false, .string { data := #[] }, .int .i64 0, .bool false, .string { data := #[] }, .int .i64 0] 28)).at 15 (by simp)
        have zF416 := (F4.allocd (.cells #[.bool false, .string { data := #[] }, .int .i64 0, .bool false, .string { data := #[] }, .int .i64 0] 28)).at 16 (by simp)
        have zF417 := (F4.allocd (.cells #[.bool false, .string { data := #[] }, .int .i64 0, .bool false, .string { data := #[] }, .int .i64 0] 28)).at 17 (by simp)
        obtain ⟨zF90, zF91, zF92, zF93, zF94, zF95⟩ := (F9.allocd (.cells #[.bool false, .string { data := #[] }, .int .i64 0, .bool false, .string { data := #[] }, .int .i64 0] 28)).ce6
        clear yF48_12 yF48_13 yF48_14 yF48_15 yF48_16 yF48_17 xF98_0 xF98_1 xF98_2 xF98_3 xF98_4 xF98_5
        refine hK.out _ _ ?_ (fun hHeld => ?_)
        ·exact ⟨zF412, zF413, zF414, zF415, zF416, zF417, zF90, zF91, zF92, zF93, zF94, zF95⟩
        clear hK K
        (try dsimp only [Act.put]); (try go_frame)
        clear zF412 zF413 zF414 zF415 zF416 zF417 zF90 zF91 zF92 zF93 zF94 zF95
        refine wpAnyH_ready (rs := [9]) (by kernel_rfl) (by simp) ?_
        refine AllReadyH.cons rfl (fun K hK => ?_) AllReadyH.nil
        go_simp
        have q_w_F12r2 : Hid (w.heap.size ≤ w5.heap.size) := Lib.hid (by have := B0.size; first | exact this | omega | (simp; done) | simpa using this)
        replace F2 := F2.allocd (.cells #[.bool s2n, .string s2S, .int .i64 s2e, .bool t2n, .string t2S, .int .i64 t2e] 28)
        replace F4 := F4.allocd (.cells #[.bool s2n, .string s2S, .int .i64 s2e, .bool t2n, .string t2S, .int .i64 t2e] 28)
        replace F9 := F9.allocd (.cells #[.bool s2n, .string s2S, .int .i64 s2e, .bool t2n, .string t2S, .int .i64 t2e] 28)
        replace F10 := F10.allocd (.cells #[.bool s2n, .string s2S, .int .i64 s2e, .bool t2n, .string t2S, .int .i64 t2e] 28)
        have F12r2 := Blk.put (w5) #[.bool s2n, .string s2S, .int .i64 s2e, .bool t2n, .string t2S, .int .i64 t2e] 28
        replace B0 := B0.alloc B0.size (.cells #[.bool s2n, .string s2S, .int .i64 s2e, .bool t2n, .string t2S, .int .i64 t2e] 28)
        have yF49_12 : ((w5).alloc (.cells #[.bool s2n, .string s2S, .int .i64 s2e, .bool t2n, .string t2S, .int .i64 t2e] 28)).cell? ⟨w1.heap.size, 12, none⟩ = some (.bool a2n) := F4.at 12 (by simp)
        have yF49_13 : ((w5).alloc (.cells #[.bool s2n, .string s2S, .int .i64 s2e, .bool t2n, .string t2S, .int .i64 t2e] 28)).cell? ⟨w1.heap.size, 13, none⟩ = some (.string a2S) := F4.at 13 (by simp)
        have yF49_14 : ((w5).alloc (.cells #[.bool s2n, .string s2S, .int .i64 s2e, .bool t2n, .string t2S, .int .i64 t2e] 28)).cell? ⟨w1.heap.size, 14, none⟩ = some (.int .i64 a2e) := F4.at 14 (by simp)
        have yF49_15 : ((w5).alloc (.cells #[.bool s2n, .string s2S, .int .i64 s2e, .bool t2n, .string t2S, .int .i64 t2e] 28)).cell? ⟨w1.heap.size, 15, none⟩ = some (.bool c2n) := F4.at 15 (by simp)
        have yF49_16 : ((w5).alloc (.cells #[.bool s2n, .string s2S, .int .i64 s2e, .bool t2n, .string t2S, .int .i64 t2e] 28)).cell? ⟨w1.heap.size, 16, none⟩ = some (.string c2S) := F4.at 16 (by simp)
        have yF49_17 : ((w5).alloc (.cells #[.bool s2n, .string s2S, .int .i64 s2e, .bool t2n, .string t2S, .int .i64 t2e] 28)).cell? ⟨w1.heap.size, 17, none⟩ = some (.int .i64 c2e) := F4.at 17 (by simp)
        obtain ⟨xF99_0, xF99_1, xF99_2, xF99_3, xF99_4, xF99_5⟩ := F9.ce6
        refine hK.out _ _ ?_ (fun hHeld => ?_)
        ·exact ⟨yF49_12, yF49_13, yF49_14, yF49_15, yF49_16, yF49_17, xF99_0, xF99_1, xF99_2, xF99_3, xF99_4, xF99_5⟩
        clear hK K
        (try dsimp only [Act.put]); (try go_frame)
        refine tkA 10 ?_
        (try dsimp only [Act.put]); (try go_frame)
        refine wpAnyH_done (by kernel_rfl) ?_ _
        try simp only [QCut]
        clear hHeld
        clear yF49_12 yF49_13 yF49_14 yF49_15 yF49_16 yF49_17 xF99_0 xF99_1 xF99_2 xF99_3 xF99_4 xF99_5
        go_wp2_with fail
        go_meet
        exact ⟨_, by first | rfl | simp, by first | rfl | simp, F2, F4, F9, F10, F12r2, B0⟩
       ·go_simp
        clear yF46_12 yF46_13 yF46_14 yF46_15 yF46_16 yF46_17 xF96_0 xF96_1 xF96_2 xF96_3 xF96_4 xF96_5
        have q_F2_F12r2 : Hid (w.heap.size + 1 < v2.heap.size) := Lib.hid (by have := F2.lt; first | exact this | omega | (simp; done) | simpa using this)
        have q_F4_F12r2 : Hid (w1.heap.size < v2.heap.size) := Lib.hid (by have := F4.lt; first | exact this | omega | (simp; done) | simpa using this)
        have q_F9_F12r2 : Hid (w4.heap.size < v2.heap.size) := Lib.hid (by have := F9.lt; first | exact this | omega | (simp; done) | simpa using this)
        have q_F10_F12r2 : Hid (w4.heap.size + 1 < v2.heap.size) := Lib.hid (by have := F10.lt; first | exact this | omega | (simp; done) | simpa using this)
        have q_w_F12r2 : Hid (w.heap.size ≤ v2.heap.size) := Lib.hid (by have := B0.size; first | exact this | omega | (simp; done) | simpa using this)
        replace F2 := F2.allocd (.cells #[.bool false, .string { data := #[] }, .int .i64 0, .bool false, .string { data := #[] }, .int .i64 0] 28)
        replace F4 := F4.allocd (.cells #[.bool false, .string { data := #[] }, .int .i64 0, .bool false, .string { data := #[] }, .int .i64 0] 28)
        replace F9 := F9.allocd (.cells #[.bool false, .string { data := #[] }, .int .i64 0, .bool false, .string { data := #[] }, .int .i64 0] 28)
        replace F10 := F10.allocd (.cells #[.bool false, .string { data := #[] }, .int .i64 0, .bool false, .string { data := #[] }, .int .i64 0] 28)
        have F12r2 := Blk.put ((v2).drew) #[.bool false, .string { data := #[] }, .int .i64 0, .bool false, .string { data := #[] }, .int .i64 0] 28
        rw [show ((v2).drew).heap.size = v2.heap.size by simp] at F12r2
        replace B0 := B0.alloc B0.size (.cells #[.bool false, .string { data := #[] }, .int .i64 0, .bool false, .string { data := #[] }, .int .i64 0] 28)
        have yF48_12 : (((v2).drew).alloc (.cells #[.bool false, .string { data := #[] }, .int .i64 0, .bool false, .string { data := #[] }, .int .i64 0] 28)).cell? ⟨w1.heap.size, 12, none⟩ = some (.bool a2n) := F4.at 12 (by simp)
        have yF48_13 : (((v2).drew).alloc (.cells #[.bool false, .string { data := #[] }, .int .i64 0, .bool false, .string { data := #[] }, .int .i64 0] 28)).cell? ⟨w1.heap.size, 13, none⟩ = some (.string a2S) := F4.at 13 (by simp)
        have yF48_14 : (((v2).drew).alloc (.cells #[.bool false, .string { data := #[] }, .int .i64 0, .bool false, .string { data := #[] }, .int .i64 0] 28)).cell? ⟨w1.heap.size, 14, none⟩ = some (.int .i64 a2e) := F4.at 14 (by simp)
        have yF48_15 : (((v2).drew).alloc (.cells #[.bool false, .string { data := #[] }, .int .i64 0, .bool false, .string { data := #[] }, .int .i64 0] 28)).cell? ⟨w1.heap.size, 15, none⟩ = some (.bool c2n) := F4.at 15 (by simp)
        have yF48_16 : (((v2).drew).alloc (.cells #[.bool false, .string { data := #[] }, .int .i64 0, .bool false, .string { data := #[] }, .int .i64 0] 28)).cell? ⟨w1.heap.size, 16, none⟩ = some (.string c2S) := F4.at 16 (by simp)
        have yF48_17 : (((v2).drew).alloc (.cells #[.bool false, .string { data := #[] }, .int .i64 0, .bool false, .string { data := #[] }, .int .i64 0] 28)).cell? ⟨w1.heap.size, 17, none⟩ = some (.int .i64 c2e) := F4.at 17 (by simp)
        obtain ⟨xF98_0, xF98_1, xF98_2, xF98_3, xF98_4, xF98_5⟩ := F9.ce6
        refine hK.out _ _ ?_ (fun hHeld => ?_)
        ·exact ⟨yF48_12, yF48_13, yF48_14, yF48_15, yF48_16, yF48_17, xF98_0, xF98_1, xF98_2, xF98_3, xF98_4, xF98_5⟩
        clear hK K
        (try dsimp only [Act.put]); (try go_frame)
        refine wpAnyH_ready (rs := [4]) (by kernel_rfl) (by simp) ?_
        refine AllReadyH.cons rfl (fun K hK => ?_) AllReadyH.nil
        go_simp
        (with_reducible refine (qS1 _).mono ?_)
        rintro r w5 ⟨rfl, hb5⟩
        clear yF48_12 yF48_13 yF48_14 yF48_15 yF48_16 yF48_17 xF98_0 xF98_1 xF98_2 xF98_3 xF98_4 xF98_5
        replace F2 := F2.keep hb5
        replace F4 := F4.keep hb5
        replace F9 := F9.keep hb5
        replace F10 := F10.keep hb5
        replace F12r2 := F12r2.keep hb5
        replace B0 := B0.trans (hb5.mono B0.size)
        clear hb5
        have yF49_12 : (w5).cell? ⟨w1.heap.size, 12, none⟩ = some (.bool a2n) := F4.at 12 (by simp)
        have yF49_13 : (w5).cell? ⟨w1.heap.size, 13, none⟩ = some (.string a2S) := F4.at 13 (by simp)
        have yF49_14 : (w5).cell? ⟨w1.heap.size, 14, none⟩ = some (.int .i64 a2e) := F4.at 14 (by simp)
        have yF49_15 : (w5).cell? ⟨w1.heap.size, 15, none⟩ = some (.bool c2n) := F4.at 15 (by simp)
        have yF49_16 : (w5).cell? ⟨w1.heap.size, 16, none⟩ = some (.string c2S) := F4.at 16 (by simp)
        have yF49_17 : (w5).cell? ⟨w1.heap.size, 17, none⟩ = some (.int .i64 c2e) := F4.at 17 (by simp)
        obtain ⟨xF99_0, xF99_1, xF99_2, xF99_3, xF99_4, xF99_5⟩ := F9.ce6
        refine hK.out _ _ ?_ (fun hHeld => ?_)
        ·exact ⟨yF49_12, yF49_13, yF49_14, yF49_15, yF49_16, yF49_17, xF99_0, xF99_1, xF99_2, xF99_3, xF99_4, xF99_5⟩
        clear hK K
        (try dsimp only [Act.put]); (try go_frame)
        refine tkA 5 ?_
        (try dsimp only [Act.put]); (try go_frame)
        refine tkA 6 ?_
        (try dsimp only [Act.put]); (try go_frame)
        refine tkA 7 ?_
        (try dsimp only [Act.put]); (try go_frame)
        obtain ⟨xF12r29_0, xF12r29_1, xF12r29_2, xF12r29_3, xF12r29_4, xF12r29_5⟩ := F12r2.ce6
        obtain ⟨xF12r29_0f, xF12r29_1f, xF12r29_2f, xF12r29_3f, xF12r29_4f, xF12r29_5f⟩ := F12r2.fr6
        refine wpAnyH_ready (rs := [9]) (by kernel_rfl) (by simp) ?_
        refine AllReadyH.cons rfl (fun K hK => ?_) AllReadyH.nil
        go_simp
        replace F2 := ((((((F2.far 0 (.bool s2n) (Nat.ne_of_lt q_F2_F12r2.out)).far 1 (.string s2S) (Nat.ne_of_lt q_F2_F12r2.out)).far 2 (.int .i64 s2e) (Nat.ne_of_lt q_F2_F12r2.out)).far 3 (.bool t2n) (Nat.ne_of_lt q_F2_F12r2.out)).far 4 (.string t2S) (Nat.ne_of_lt q_F2_F12r2.out)).far 5 (.int .i64 t2e) (Nat.ne_of_lt q_F2_F12r2.out))
        replace F4 := ((((((F4.far 0 (.bool s2n) (Nat.ne_of_lt q_F4_F12r2.out)).far 1 (.string s2S) (Nat.ne_of_lt q_F4_F12r2.out)).far 2 (.int .i64 s2e) (Nat.ne_of_lt q_F4_F12r2.out)).far 3 (.bool t2n) (Nat.ne_of_lt q_F4_F12r2.out)).far 4 (.string t2S) (Nat.ne_of_lt q_F4_F12r2.out)).far 5 (.int .i64 t2e) (Nat.ne_of_lt q_F4_F12r2.out))
        replace F9 := ((((((F9.far 0 (.bool s2n) (Nat.ne_of_lt q_F9_F12r2.out)).far 1 (.string s2S) (Nat.ne_of_lt q_F9_F12r2.out)).far 2 (.int .i64 s2e) (Nat.ne_of_lt q_F9_F12r2.out)).far 3 (.bool t2n) (Nat.ne_of_lt q_F9_F12r2.out)).far 4 (.string t2S) (Nat.ne_of_lt q_F9_F12r2.out)).far 5 (.int .i64 t2e) (Nat.ne_of_lt q_F9_F12r2.out))
        replace F10 := ((((((F10.far 0 (.bool s2n) (Nat.ne_of_lt q_F10_F12r2.out)).far 1 (.string s2S) (Nat.ne_of_lt q_F10_F12r2.out)).far 2 (.int .i64 s2e) (Nat.ne_of_lt q_F10_F12r2.out)).far 3 (.bool t2n) (Nat.ne_of_lt q_F10_F12r2.out)).far 4 (.string t2S) (Nat.ne_of_lt q_F10_F12r2.out)).far 5 (.int .i64 t2e) (Nat.ne_of_lt q_F10_F12r2.out))
        replace F12r2 : Blk (((((((w5).setCell ⟨v2.heap.size, 0, none⟩ (.bool s2n)).setCell ⟨v2.heap.size, 1, none⟩ (.string s2S)).setCell ⟨v2.heap.size, 2, none⟩ (.int .i64 s2e)).setCell ⟨v2.heap.size, 3, none⟩ (.bool t2n)).setCell ⟨v2.heap.size, 4, none⟩ (.string t2S)).setCell ⟨v2.heap.size, 5, none⟩ (.int .i64 t2e)) (v2.heap.size) #[.bool s2n, .string s2S, .int .i64 s2e, .bool t2n, .string t2S, .int .i64 t2e] 28 := ((((((F12r2.setAt 0 (.bool s2n)).setAt 1 (.string s2S)).setAt 2 (.int .i64 s2e)).setAt 3 (.bool t2n)).setAt 4 (.string t2S)).setAt 5 (.int .i64 t2e))
        replace B0 := ((((((B0.setCell (p := ⟨v2.heap.size, 0, none⟩) q_w_F12r2.out (.bool s2n)).setCell (p := ⟨v2.heap.size, 1, none⟩) q_w_F12r2.out (.string s2S)).setCell (p := ⟨v2.heap.size, 2, none⟩) q_w_F12r2.out (.int .i64 s2e)).setCell (p := ⟨v2.heap.size, 3, none⟩) q_w_F12r2.out (.bool t2n)).setCell (p := ⟨v2.heap.size, 4, none⟩) q_w_F12r2.out (.string t2S)).setCell (p := ⟨v2.heap.size, 5, none⟩) q_w_F12r2.out (.int .i64 t2e))
        clear yF49_12 yF49_13 yF49_14 yF49_15 yF49_16 yF49_17 xF99_0 xF99_1 xF99_2 xF99_3 xF99_4 xF99_5 xF12r29_0 xF12r29_1 xF12r29_2 xF12r29_3 xF12r29_4 xF12r29_5 xF12r29_0f xF12r29_1f xF12r29_2f xF12r29_3f xF12r29_4f xF12r29_5f
        have yF410_12 : (((((((w5).setCell ⟨v2.heap.size, 0, none⟩ (.bool s2n)).setCell ⟨v2.heap.size, 1, none⟩ (.string s2S)).setCell ⟨v2.heap.size, 2, none⟩ (.int .i64 s2e)).setCell ⟨v2.heap.size, 3, none⟩ (.bool t2n)).setCell ⟨v2.heap.size, 4, none⟩ (.string t2S)).setCell ⟨v2.heap.size, 5, none⟩ (.int .i64 t2e)).cell? ⟨w1.heap.size, 12, none⟩ = some (.bool a2n) := F4.at 12 (by simp)
        have yF410_13 : (((((((w5).setCell ⟨v2.heap.size, 0, none⟩ (.bool s2n)).setCell ⟨v2.heap.size, 1, none⟩ (.string s2S)).setCell ⟨v2.heap.size, 2, none⟩ (.int .i64 s2e)).setCell ⟨v2.heap.size, 3, none⟩ (.bool t2n)).setCell ⟨v2.heap.size, 4, none⟩ (.string t2S)).setCell ⟨v2.heap.size, 5, none⟩ (.int .i64 t2e)).cell? ⟨w1.heap.size, 13, none⟩ = some (.string a2S) := F4.at 13 (by simp)
        have yF410_14 : (((((((w5).setCell ⟨v2.heap.size, 0, none⟩ (.bool s2n)).setCell ⟨v2.heap.size, 1, none⟩ (.string s2S)).setCell ⟨v2.heap.size, 2, none⟩ (.int .i64 s2e)).setCell ⟨v2.heap.size, 3, none⟩ (.bool t2n)).setCell ⟨v2.heap.size, 4, none⟩ (.string t2S)).setCell ⟨v2.heap.size, 5, none⟩ (.int .i64 t2e)).cell? ⟨w1.heap.size, 14, none⟩ = some (.int .i64 a2e) := F4.at 14 (by simp)
        have yF410_15 : (((((((w5).setCell ⟨v2.heap.size, 0, none⟩ (.bool s2n)).setCell ⟨v2.heap.size, 1, none⟩ (.string s2S)).setCell ⟨v2.heap.size, 2, none⟩ (.int .i64 s2e)).setCell ⟨v2.heap.size, 3, none⟩ (.bool t2n)).setCell ⟨v2.heap.size, 4, none⟩ (.string t2S)).setCell ⟨v2.heap.size, 5, none⟩ (.int .i64 t2e)).cell? ⟨w1.heap.size, 15, none⟩ = some (.bool c2n) := F4.at 15 (by simp)
        have yF410_16 : (((((((w5).setCell ⟨v2.heap.size, 0, none⟩ (.bool s2n)).setCell ⟨v2.heap.size, 1, none⟩ (.string s2S)).setCell ⟨v2.heap.size, 2, none⟩ (.int .i64 s2e)).setCell ⟨v2.heap.size, 3, none⟩ (.bool t2n)).setCell ⟨v2.heap.size, 4, none⟩ (.string t2S)).setCell ⟨v2.heap.size, 5, none⟩ (.int .i64 t2e)).cell? ⟨w1.heap.size, 16, none⟩ = some (.string c2S) := F4.at 16 (by simp)
        have yF410_17 : (((((((w5).setCell ⟨v2.heap.size, 0, none⟩ (.bool s2n)).setCell ⟨v2.heap.size, 1, none⟩ (.string s2S)).setCell ⟨v2.heap.size, 2, none⟩ (.int .i64 s2e)).setCell ⟨v2.heap.size, 3, none⟩ (.bool t2n)).setCell ⟨v2.heap.size, 4, none⟩ (.string t2S)).setCell ⟨v2.heap.size, 5, none⟩ (.int .i64 t2e)).cell? ⟨w1.heap.size, 17, none⟩ = some (.int .i64 c2e) := F4.at 17 (by simp)
        obtain ⟨xF910_0, xF910_1, xF910_2, xF910_3, xF910_4, xF910_5⟩ := F9.ce6
        refine hK.out _ _ ?_ (fun hHeld => ?_)
        ·exact ⟨yF410_12, yF410_13, yF410_14, yF410_15, yF410_16, yF410_17, xF910_0, xF910_1, xF910_2, xF910_3, xF910_4, xF910_5⟩
        clear hK K
        (try dsimp only [Act.put]); (try go_frame)
        refine tkA 10 ?_
        (try dsimp only [Act.put]); (try go_frame)
        refine wpAnyH_done (by kernel_rfl) ?_ _
        try simp only [QCut]
        clear hHeld
        clear yF410_12 yF410_13 yF410_14 yF410_15 yF410_16 yF410_17 xF910_0 xF910_1 xF910_2 xF910_3 xF910_4 xF910_5
        go_wp2_with fail
        go_meet
        exact ⟨_, by first | rfl | simp, by first | rfl | simp, F2, F4, F9, F10, F12r2, B0⟩
      case rest =>
       clear B0
       clear F2
       clear F4
       clear F9
       clear F10
       obtain ⟨S12, rfl, rfl, F2, F4, F9, F10, F12, B0⟩ := hcut
       generalize wc = v3 at *
       clear qS1
       obtain ⟨xF127_0, xF127_1, xF127_2, xF127_3, xF127_4, xF127_5⟩ := F12.ce6
       go_wp2_with fail
       (with_reducible refine (qN1 _).mono ?_)
       rintro r w5 ⟨rfl, hb5⟩
       clear xF127_0 xF127_1 xF127_2 xF127_3 xF127_4 xF127_5
       replace F2 := F2.keep hb5
       replace F4 := F4.keep hb5
       replace F9 := F9.keep hb5
       replace F10 := F10.keep hb5
       replace F12 := F12.keep hb5
       replace B0 := B0.trans (hb5.mono B0.size)
       clear hb5
       have q_F10_F14r2 : Hid (w4.heap.size + 1 < w5.heap.size) := Lib.hid (by have := F10.lt; first | exact this | omega | (simp; done) | simpa using this)
       replace F2 := F2.allocd (.cells #[.bool n2n, .string n2S, .int .i64 n2e] 24)
       replace F4 := F4.allocd (.cells #[.bool n2n, .string n2S, .int .i64 n2e] 24)
       replace F9 := F9.allocd (.cells #[.bool n2n, .string n2S, .int .i64 n2e] 24)
       replace F10 := F10.allocd (.cells #[.bool n2n, .string n2S, .int .i64 n2e] 24)
       clear F12
       have F14r2 := Blk.put (w5) #[.bool n2n, .string n2S, .int .i64 n2e] 24
       replace B0 := B0.alloc B0.size (.cells #[.bool n2n, .string n2S, .int .i64 n2e] 24)
       rcases hh.out with ⟨kd, rfl, rfl, rfl, rfl⟩ | ⟨rfl, kf, rfl, rfl, rfl, rfl⟩ | ⟨rfl, rfl, qK1, qm1, p3⟩
       ·clear hh
        have kd2 : (d2 != 0) = true := by simpa using kd
        clear kd
        obtain ⟨xF28_0, xF28_1⟩ := F2.ce2
        obtain ⟨xF28_0f, xF28_1f⟩ := F2.fr2
        clear F4
        clear F9
        clear F10
        clear F14r2
        replace F2 : Blk ((((w5).alloc (.cells #[.bool n2n, .string n2S, .int .i64 n2e] 24)).setCell ⟨w.heap.size + 1, 0, none⟩ (.complex .f64 0 0)).setCell ⟨w.heap.size + 1, 1, none⟩ (.float .f64 0)) (w.heap.size + 1) #[.complex .f64 0 0, .float .f64 0] 59 := ((F2.setAt 0 (.complex .f64 0 0)).setAt 1 (.float .f64 0))
        replace B0 := ((B0.setCell (p := ⟨w.heap.size + 1, 0, none⟩) q_w_F2.out (.complex .f64 0 0)).setCell (p := ⟨w.heap.size + 1, 1, none⟩) q_w_F2.out (.float .f64 0))
        obtain ⟨xF29_0, xF29_1⟩ := F2.ce2
        go_wp2
        exact bodyPost_ret (v := .tuple #[.agg #[.complex .f64 0 0, .float .f64 0], .int .i64 4]) (by simp [results, Tryz.results21, go_sem, xF29_0, xF29_1]) rfl ⟨rfl, B0⟩
       ·clear hh
        have kd2 : (f2 != 0) = true := by simpa using kf
        clear kf
        obtain ⟨xF28_0, xF28_1⟩ := F2.ce2
        obtain ⟨xF28_0f, xF28_1f⟩ := F2.fr2
        clear F4
        clear F9
        clear F10
        clear F14r2
        replace F2 : Blk ((((w5).alloc (.cells #[.bool n2n, .string n2S, .int .i64 n2e] 24)).setCell ⟨w.heap.size + 1, 0, none⟩ (.complex .f64 0 0)).setCell ⟨w.heap.size + 1, 1, none⟩ (.float .f64 0)) (w.heap.size + 1) #[.complex .f64 0 0, .float .f64 0] 59 := ((F2.setAt 0 (.complex .f64 0 0)).setAt 1 (.float .f64 0))
        replace B0 := ((B0.setCell (p := ⟨w.heap.size + 1, 0, none⟩) q_w_F2.out (.complex .f64 0 0)).setCell (p := ⟨w.heap.size + 1, 1, none⟩) q_w_F2.out (.float .f64 0))
        obtain ⟨xF29_0, xF29_1⟩ := F2.ce2
        go_wp2
        exact bodyPost_ret (v := .tuple #[.agg #[.complex .f64 0 0, .float .f64 0], .int .i64 4]) (by simp [results, Tryz.results21, go_sem, xF29_0, xF29_1]) rfl ⟨rfl, B0⟩
       ·clear hh
        obtain ⟨xF108_0, xF108_1, xF108_2⟩ := F10.ce3
        obtain ⟨xF14r28_0, xF14r28_1, xF14r28_2⟩ := F14r2.ce3
        go_wp2_with fail
        (with_reducible refine (qK1 _).mono ?_)
        rintro r w6 ⟨rfl, hb6⟩
        clear xF108_0 xF108_1 xF108_2 xF14r28_0 xF14r28_1 xF14r28_2
        replace F2 := F2.keep hb6
        replace F4 := F4.keep hb6
        replace F9 := F9.keep hb6
        replace F10 := F10.keep hb6
        replace F14r2 := F14r2.keep hb6
        replace B0 := B0.trans (hb6.mono B0.size)
        clear hb6
        clear qK1
        rcases qm1 with ⟨hk, rfl, rfl, rfl⟩ | ⟨hk, rfl, rfl, rfl⟩
        ·have hk2 : decide (K2 < 0) = true := decide_eq_true (by omega)
         clear hk
         obtain ⟨xF14r29_0, xF14r29_1, xF14r29_2⟩ := F14r2.ce3
         obtain ⟨xF109_0, xF109_1, xF109_2⟩ := F10.ce3
         obtain ⟨xF109_0f, xF109_1f, xF109_2f⟩ := F10.fr3
         replace F2 := (((F2.far 0 (.bool n2n) (Nat.ne_of_lt q_F2_F10.out)).far 1 (.string n2S) (Nat.ne_of_lt q_F2_F10.out)).far 2 (.int .i64 n2e) (Nat.ne_of_lt q_F2_F10.out))
         replace F4 := (((F4.far 0 (.bool n2n) (Nat.ne_of_lt q_F4_F10.out)).far 1 (.string n2S) (Nat.ne_of_lt q_F4_F10.out)).far 2 (.int .i64 n2e) (Nat.ne_of_lt q_F4_F10.out))
         replace F9 := (((F9.far 0 (.bool n2n) (Nat.ne_of_lt q_F9_F10.out)).far 1 (.string n2S) (Nat.ne_of_lt q_F9_F10.out)).far 2 (.int .i64 n2e) (Nat.ne_of_lt q_F9_F10.out))
         replace F14r2 := (((F14r2.far 0 (.bool n2n) (Nat.ne_of_gt q_F10_F14r2.out)).far 1 (.string n2S) (Nat.ne_of_gt q_F10_F14r2.out)).far 2 (.int .i64 n2e) (Nat.ne_of_gt q_F10_F14r2.out))
         replace F10 : Blk ((((w6).setCell ⟨w4.heap.size + 1, 0, none⟩ (.bool n2n)).setCell ⟨w4.heap.size + 1, 1, none⟩ (.string n2S)).setCell ⟨w4.heap.size + 1, 2, none⟩ (.int .i64 n2e)) (w4.heap.size + 1) #[.bool n2n, .string n2S, .int .i64 n2e] 24 := (((F10.setAt 0 (.bool n2n)).setAt 1 (.string n2S)).setAt 2 (.int .i64 n2e))
         replace B0 := (((B0.setCell (p := ⟨w4.heap.size + 1, 0, none⟩) q_w_F10.out (.bool n2n)).setCell (p := ⟨w4.heap.size + 1, 1, none⟩) q_w_F10.out (.string n2S)).setCell (p := ⟨w4.heap.size + 1, 2, none⟩) q_w_F10.out (.int .i64 n2e))
         go_wp2_with fail
         go_meet
         exact ⟨F2, F4, F9, F10, p3, B0⟩
        ·have hk2 : decide (K2 < 0) = false := decide_eq_false (by omega)
         clear hk
         go_wp2_with fail
         go_meet
         exact ⟨F2, F4, F9, F10, p3, B0⟩
     case rest =>
      clear B0
      clear F2
      clear F4
      clear F9
      clear F10
      obtain ⟨F2, F4, F9, F10, p3, B0⟩ := hcut
      generalize wc = v3 at *
      go_wp2_with fail
      rw [rounds_succ]
      go_upto_block 1 with fail
      go_cut [] (fun  wx => Blk wx (w.heap.size + 1) #[.complex .f64 0 0, .float .f64 0] 59 ∧ Blk wx (w1.heap.size) #[.bool a0n, .string a0S, .int .i64 a0e, .bool c0n, .string c0S, .int .i64 c0e, .bool a1n, .string a1S, .int .i64 a1e, .bool c1n, .string c1S, .int .i64 c1e, .bool a2n, .string a2S, .int .i64 a2e, .bool c2n, .string c2S, .int .i64 c2e, .bool a3n, .string a3S, .int .i64 a3e, .bool c3n, .string c3S, .int .i64 c3e] 29 ∧ Blk wx (w4.heap.size) #[.bool gn, .string gS, .int .i64 ge, .bool hn, .string hS, .int .i64 he] 28 ∧ Blk wx (w4.heap.size + 1) #[.bool u3n, .string u3S, .int .i64 u3e] 24 ∧ P4 ∧ Below w.heap.size w wx)
      case first =>
       clear kr k0 k1 k2
       obtain ⟨qS1, qN1, hh⟩ := k3.out p3
       replace hh := Lib.hid hh
       clear k3
       as_aux_lemma =>
       go_upto_region 13 with fail
       go_cut [12, 13] (fun s12 s13 wx => ∃ S12, s12 = .pointer (some ⟨S12, 0, none⟩) ∧ s13 = .int .i64 d3 ∧ Blk wx (w.heap.size + 1) #[.complex .f64 0 0, .float .f64 0] 59 ∧ Blk wx (w1.heap.size) #[.bool a0n, .string a0S, .int .i64 a0e, .bool c0n, .string c0S, .int .i64 c0e, .bool a1n, .string a1S, .int .i64 a1e, .bool c1n, .string c1S, .int .i64 c1e, .bool a2n, .string a2S, .int .i64 a2e, .bool c2n, .string c2S, .int .i64 c2e, .bool a3n, .string a3S, .int .i64 a3e, .bool c3n, .string c3S, .int .i64 c3e] 29 ∧ Blk wx (w4.heap.size) #[.bool gn, .string gS, .int .i64 ge, .bool hn, .string hS, .int .i64 he] 28 ∧ Blk wx (w4.heap.size + 1) #[.bool u2n, .string u2S, .int .i64 u2e] 24 ∧ Blk wx S12 #[.bool s3n, .string s3S, .int .i64 s3e, .bool t3n, .string t3S, .int .i64 t3e] 28 ∧ Below w.heap.size w wx)
       case first =>
        clear qN1 hh
        go_wp2_with fail
        refine wp_region_any (by kernel_rfl) ?_
        have yF47_18 : (v3).cell? ⟨w1.heap.size, 18, none⟩ = some (.bool a3n) := F4.at 18 (by simp)
        have yF47_19 : (v3).cell? ⟨w1.heap.size, 19, none⟩ = some (.string a3S) := F4.at 19 (by simp)
        have yF47_20 : (v3).cell? ⟨w1.heap.size, 20, none⟩ = some (.int .i64 a3e) := F4.at 20 (by simp)
        have yF47_21 : (v3).cell? ⟨w1.heap.size, 21, none⟩ = some (.bool c3n) := F4.at 21 (by simp)
        have yF47_22 : (v3).cell? ⟨w1.heap.size, 22, none⟩ = some (.string c3S) := F4.at 22 (by simp)
        have yF47_23 : (v3).cell? ⟨w1.heap.size, 23, none⟩ = some (.int .i64 c3e) := F4.at 23 (by simp)
        obtain ⟨xF97_0, xF97_1, xF97_2, xF97_3, xF97_4, xF97_5⟩ := F9.ce6
        have hHeld : (fun w' : World => w'.cell? ⟨w1.heap.size, 18, none⟩ = some (.bool a3n) ∧ w'.cell? ⟨w1.heap.size, 19, none⟩ = some (.string a3S) ∧ w'.cell? ⟨w1.heap.size, 20, none⟩ = some (.int .i64 a3e) ∧ w'.cell? ⟨w1.heap.size, 21, none⟩ = some (.bool c3n) ∧ w'.cell? ⟨w1.heap.size, 22, none⟩ = some (.string c3S) ∧ w'.cell? ⟨w1.heap.size, 23, none⟩ = some (.int .i64 c3e) ∧ w'.cell? ⟨w4.heap.size, 0, none⟩ = some (.bool gn) ∧ w'.cell? ⟨w4.heap.size, 1, none⟩ = some (.string gS) ∧ w'.cell? ⟨w4.heap.size, 2, none⟩ = some (.int .i64 ge) ∧ w'.cell? ⟨w4.heap.size, 3, none⟩ = some (.bool hn) ∧ w'.cell? ⟨w4.heap.size, 4, none⟩ = some (.string hS) ∧ w'.cell? ⟨w4.heap.size, 5, none⟩ = some (.int .i64 he)) (v3).drew := ⟨yF47_18, yF47_19, yF47_20, yF47_21, yF47_22, yF47_23, xF97_0, xF97_1, xF97_2, xF97_3, xF97_4, xF97_5⟩
        refine wpAny_of_held (S := fun w' : World => w'.cell? ⟨w1.heap.size, 18, none⟩ = some (.bool a3n) ∧ w'.cell? ⟨w1.heap.size, 19, none⟩ = some (.string a3S) ∧ w'.cell? ⟨w1.heap.size, 20, none⟩ = some (.int .i64 a3e) ∧ w'.cell? ⟨w1.heap.size, 21, none⟩ = some (.bool c3n) ∧ w'.cell? ⟨w1.heap.size, 22, none⟩ = some (.string c3S) ∧ w'.cell? ⟨w1.heap.size, 23, none⟩ = some (.int .i64 c3e) ∧ w'.cell? ⟨w4.heap.size, 0, none⟩ = some (.bool gn) ∧ w'.cell? ⟨w4.heap.size, 1, none⟩ = some (.string gS) ∧ w'.cell? ⟨w4.heap.size, 2, none⟩ = some (.int .i64 ge) ∧ w'.cell? ⟨w4.heap.size, 3, none⟩ = some (.bool hn) ∧ w'.cell? ⟨w4.heap.size, 4, none⟩ = some (.string hS) ∧ w'.cell? ⟨w4.heap.size, 5, none⟩ = some (.int .i64 he)) _ _ _ _ ?_
        replace F2 := F2.drew
        replace F4 := F4.drew
        replace F9 := F9.drew
        replace F10 := F10.drew
        replace B0 := B0.drew
        refine tkA 0 ?_
        (try dsimp only [Act.put]); (try go_frame)
        refine tkA 1 ?_
        (try dsimp only [Act.put]); (try go_frame)
        refine tkA 2 ?_
        (try dsimp only [Act.put]); (try go_frame)
        refine tkA 3 ?_
        (try dsimp only [Act.put]); (try go_frame)
        refine wpAnyH_ready (rs := [4, 8]) (by kernel_rfl) (by simp) ?_
        refine AllReadyH.cons rfl (fun K hK => ?_) (AllReadyH.cons rfl (fun K hK => ?_) AllReadyH.nil)
        ·go_simp
         (with_reducible refine (qS1 _).mono ?_)
         rintro r w5 ⟨rfl, hb5⟩
         clear yF47_18 yF47_19 yF47_20 yF47_21 yF47_22 yF47_23 xF97_0 xF97_1 xF97_2 xF97_3 xF97_4 xF97_5
         replace F2 := F2.keep hb5
         replace F4 := F4.keep hb5
         replace F9 := F9.keep hb5
         replace F10 := F10.keep hb5
         replace B0 := B0.trans (hb5.mono B0.size)
         clear hb5
         have yF49_18 : (w5).cell? ⟨w1.heap.size, 18, none⟩ = some (.bool a3n) := F4.at 18 (by simp)
         have yF49_19 : (w5).cell? ⟨w1.heap.size, 19, none⟩ = some (.string a3S) := F4.at 19 (by simp)
         have yF49_20 : (w5).cell? ⟨w1.heap.size, 20, none⟩ = some (.int .i64 a3e) := F4.at 20 (by simp)
         have yF49_21 : (w5).cell? ⟨w1.heap.size, 21, none⟩ = some (.bool c3n) := F4.at 21 (by simp)
         have yF49_22 : (w5).cell? ⟨w1.heap.size, 22, none⟩ = some (.string c3S) := F4.at 22 (by simp)
         have yF49_23 : (w5).cell? ⟨w1.heap.size, 23, none⟩ = some (.int .i64 c3e) := F4.at 23 (by simp)
         obtain ⟨xF99_0, xF99_1, xF99_2, xF99_3, xF99_4, xF99_5⟩ := F9.ce6
         refine hK.out _ _ ?_ (fun hHeld => ?_)
         ·exact ⟨yF49_18, yF49_19, yF49_20, yF49_21, yF49_22, yF49_23, xF99_0, xF99_1, xF99_2, xF99_3, xF99_4, xF99_5⟩
         clear hK K
         (try dsimp only [Act.put]); (try go_frame)
         refine tkA 5 ?_
         (try dsimp only [Act.put]); (try go_frame)
         refine tkA 6 ?_
         (try dsimp only [Act.put]); (try go_frame)
         refine tkA 7 ?_
         (try dsimp only [Act.put]); (try go_frame)
         refine wpAnyH_ready (rs := [8]) (by kernel_rfl) (by simp) ?_
         refine AllReadyH.cons rfl (fun K hK => ?_) AllReadyH.nil
         go_simp
         have zF418 := (F4.allocd (.cells #[.bool false, .string { data := #[] }, .int .i64 0, .bool false, .string { data := #[] }, .int .i64 0] 28)).at 18 (by simp)
         have zF419 := (F4.allocd (.cells #[.bool false, .string { data := #[] }, .int .i64 0, .bool false, .string { data := #[] }, .int .i64 0] 28)).at 19 (by simp)
         have zF420 := (F4.allocd (.cells #[.bool false, .string { data := #[] }, .int .i64 0, .bool false, .string { data := #[] }, .int .i64 0] 28)).at 20 (by simp)
         have zF421 := (F4.allocd (.cells #[.bool false, .string { data := #[] }, .int .i64 0, .bool false, .string { data := #[] }, .int .i64 0] 28)).at 21 (by simp)
         have zF422 := (F4.allocd (.cells #[.bool false, .string { data := #[] }, .int .i64 0, .bool false, .string { data := #[] }, .int .i64 0] 28)).at 22 (by simp)
         have zF423 := (F4.allocd (.cells #[.bool false, .string { data := #[] }, .int .i64 0, .bool false, .string { data := #[] }, .int .i64 0] 28)).at 23 (by simp)
         obtain ⟨zF90, zF91, zF92, zF93, zF94, zF95⟩ := (F9.allocd (.cells #[.bool false, .string { data := #[] }, .int .i64 0, .bool false, .string { data := #[] }, .int .i64 0] 28)).ce6
         clear yF49_18 yF49_19 yF49_20 yF49_21 yF49_22 yF49_23 xF99_0 xF99_1 xF99_2 xF99_3 xF99_4 xF99_5
         refine hK.out _ _ ?_ (fun hHeld => ?_)
         ·exact ⟨zF418, zF419, zF420, zF421, zF422, zF423, zF90, zF91, zF92, zF93, zF94, zF95⟩
         clear hK K
         (try dsimp only [Act.put]); (try go_frame)
         clear zF418 zF419 zF420 zF421 zF422 zF423 zF90 zF91 zF92 zF93 zF94 zF95
         refine wpAnyH_ready (rs := [9]) (by kernel_rfl) (by simp) ?_
         refine AllReadyH.cons rfl (fun K hK => ?_) AllReadyH.nil
         go_simp
         have q_w_F12r3 : Hid (w.heap.size ≤ w5.heap.size) := Lib.hid (by have := B0.size; first | exact this | omega | (simp; done) | simpa using this)
         replace F2 := F2.allocd (.cells #[.bool s3n, .string s3S, .int .i64 s3e, .bool t3n, .string t3S, .int .i64 t3e] 28)
         replace F4 := F4.allocd (.cells #[.bool s3n, .string s3S, .int .i64 s3e, .bool t3n, .string t3S, .int .i64 t3e] 28)
         replace F9 := F9.allocd (.cells #[.bool s3n, .string s3S, .int .i64 s3e, .bool t3n, .string t3S, .int .i64 t3e] 28)
         replace F10 := F10.allocd (.cells #[.bool s3n, .string s3S, .int .i64 s3e, .bool t3n, .string t3S, .int .i64 t3e] 28)
         have F12r3 := Blk.put (w5) #[.bool s3n, .string s3S, .int .i64 s3e, .bool t3n, .string t3S, .int .i64 t3e] 28
         replace B0 := B0.alloc B0.size (.cells #[.bool s3n, .string s3S, .int .i64 s3e, .bool t3n, .string t3S, .int .i64 t3e] 28)
         have yF410_18 : ((w5).alloc (.cells #[.bool s3n, .string s3S, .int .i64 s3e, .bool t3n, .string t3S, .int .i64 t3e] 28)).cell? ⟨w1.heap.size, 18, none⟩ = some (.bool a3n) := F4.at 18 (by simp)
         have yF410_19 : ((w5).alloc (.cells #[.bool s3n, .string s3S, .int .i64 s3e, .bool t3n, .string t3S, .int .i64 t3e] 28)).cell? ⟨w1.heap.size, 19, none⟩ = some (.string a3S) := F4.at 19 (by simp)
         have yF410_20 : ((w5).alloc (.cells #[.bool s3n, .string s3S, .int .i64 s3e, .bool t3n, .string t3S, .int .i64 t3e] 28)).cell? ⟨w1.heap.size, 20, none⟩ = some (.int .i64 a3e) := F4.at 20 (by simp)
         have yF410_21 : ((w5).alloc (.cells #[.bool s3n, .string s3S, .int .i64 s3e, .bool t3n, .string t3S, .int .i64 t3e] 28)).cell? ⟨w1.heap.size, 21, none⟩ = some (.bool c3n) := F4.at 21 (by simp)
         have yF410_22 : ((w5).alloc (.cells #[.bool s3n, .string s3S, .int .i64 s3e, .bool t3n, .string t3S, .int .i64 t3e] 28)).cell? ⟨w1.heap.size, 22, none⟩ = some (.string c3S) := F4.at 22 (by simp)
         have yF410_23 : ((w5).alloc (.cells #[.bool s3n, .string s3S, .int .i64 s3e, .bool t3n, .string t3S, .int .i64 t3e] 28)).cell? ⟨w1.heap.size, 23, none⟩ = some (.int .i64 c3e) := F4.at 23 (by simp)
         obtain ⟨xF910_0, xF910_1, xF910_2, xF910_3, xF910_4, xF910_5⟩ := F9.ce6
         refine hK.out _ _ ?_ (fun hHeld => ?_)
         ·exact ⟨yF410_18, yF410_19, yF410_20, yF410_21, yF410_22, yF410_23, xF910_0, xF910_1, xF910_2, xF910_3, xF910_4, xF910_5⟩
         clear hK K
         (try dsimp only [Act.put]); (try go_frame)
         refine tkA 10 ?_
         (try dsimp only [Act.put]); (try go_frame)
         refine wpAnyH_done (by kernel_rfl) ?_ _
         try simp only [QCut]
         clear hHeld
         clear yF410_18 yF410_19 yF410_20 yF410_21 yF410_22 yF410_23 xF910_0 xF910_1 xF910_2 xF910_3 xF910_4 xF910_5
         go_wp2_with fail
         go_meet
         exact ⟨_, by first | rfl | simp, by first | rfl | simp, F2, F4, F9, F10, F12r3, B0⟩
        ·go_simp
         clear yF47_18 yF47_19 yF47_20 yF47_21 yF47_22 yF47_23 xF97_0 xF97_1 xF97_2 xF97_3 xF97_4 xF97_5
         have q_F2_F12r3 : Hid (w.heap.size + 1 < v3.heap.size) := Lib.hid (by have := F2.lt; first | exact this | omega | (simp; done) | simpa using this)
         have q_F4_F12r3 : Hid (w1.heap.size < v3.heap.size) := Lib.hid (by have := F4.lt; first | exact this | omega | (simp; done) | simpa using this)
         have q_F9_F12r3 : Hid (w4.heap.size < v3.heap.size) := Lib.hid (by have := F9.lt; first | exact this | omega | (simp; done) | simpa using this)
         have q_F10_F12r3 : Hid (w4.heap.size + 1 < v3.heap.size) := Lib.hid (by have := F10.lt; first | exact this | omega | (simp; done) | simpa using this)
         have q_w_F12r3 : Hid (w.heap.size ≤ v3.heap.size) := Lib.hid (by have := B0.size; first | exact this | omega | (simp; done) | simpa using this)
         replace F2 := F2.allocd (.cells #[.bool false, .string { data := #[] }, .int .i64 0, .bool false, .string { data := #[] }, .int .i64 0] 28)
         replace F4 := F4.allocd (.cells #[.bool false, .string { data := #[] }, .int .i64 0, .bool false, .string { data := #[] }, .int .i64 0] 28)
         replace F9 := F9.allocd (.cells #[.bool false, .string { data := #[] }, .int .i64 0, .bool false, .string { data := #[] }, .int .i64 0] 28)
         replace F10 := F10.allocd (.cells #[.bool false, .string { data := #[] }, .int .i64 0, .bool false, .string { data := #[] }, .int .i64 0] 28)
         have F12r3 := Blk.put ((v3).drew) #[.bool false, .string { data := #[] }, .int .i64 0, .bool false, .string { data := #[] }, .int .i64 0] 28
         rw [show ((v3).drew).heap.size = v3.heap.size by simp] at F12r3
         replace B0 := B0.alloc B0.size (.cells #[.bool false, .string { data := #[] }, .int .i64 0, .bool false, .string { data := #[] }, .int .i64 0] 28)
         have yF49_18 : (((v3).drew).alloc (.cells #[.bool false, .string { data := #[] }, .int .i64 0, .bool false, .string { data := #[] }, .int .i64 0] 28)).cell? ⟨w1.heap.size, 18, none⟩ = some (.bool a3n) := F4.at 18 (by simp)
         have yF49_19 : (((v3).drew).alloc (.cells #[.bool false, .string { data := #[] }, .int .i64 0, .bool false, .string { data := #[] }, .int .i64 0] 28)).cell? ⟨w1.heap.size, 19, none⟩ = some (.string a3S) := F4.at 19 (by simp)
         have yF49_20 : (((v3).drew).alloc (.cells #[.bool false, .string { data := #[] }, .int .i64 0, .bool false, .string { data := #[] }, .int .i64 0] 28)).cell? ⟨w1.heap.size, 20, none⟩ = some (.int .i64 a3e) := F4.at 20 (by simp)
         have yF49_21 : (((v3).drew).alloc (.cells #[.bool false, .string { data := #[] }, .int .i64 0, .bool false, .string { data := #[] }, .int .i64 0] 28)).cell? ⟨w1.heap.size, 21, none⟩ = some (.bool c3n) := F4.at 21 (by simp)
         have yF49_22 : (((v3).drew).alloc (.cells #[.bool false, .string { data := #[] }, .int .i64 0, .bool false, .string { data := #[] }, .int .i64 0] 28)).cell? ⟨w1.heap.size, 22, none⟩ = some (.string c3S) := F4.at 22 (by simp)
         have yF49_23 : (((v3).drew).alloc (.cells #[.bool false, .string { data := #[] }, .int .i64 0, .bool false, .string { data := #[] }, .int .i64 0] 28)).cell? ⟨w1.heap.size, 23, none⟩ = some (.int .i64 c3e) := F4.at 23 (by simp)
         obtain ⟨xF99_0, xF99_1, xF99_2, xF99_3, xF99_4, xF99_5⟩ := F9.ce6
         refine hK.out _ _ ?_ (fun hHeld => ?_)
         ·exact ⟨yF49_18, yF49_19, yF49_20, yF49_21, yF49_22, yF49_23, xF99_0, xF99_1, xF99_2, xF99_3, xF99_4, xF99_5⟩
         clear hK K
         (try dsimp only [Act.put]); (try go_frame)
         refine wpAnyH_ready (rs := [4]) (by kernel_rfl) (by simp) ?_
         refine AllReadyH.cons rfl (fun K hK => ?_) AllReadyH.nil
         go_simp
         (with_reducible refine (qS1 _).mono ?_)
         rintro r w5 ⟨rfl, hb5⟩
         clear yF49_18 yF49_19 yF49_20 yF49_21 yF49_22 yF49_23 xF99_0 xF99_1 xF99_2 xF99_3 xF99_4 xF99_5
         replace F2 := F2.keep hb5
         replace F4 := F4.keep hb5
         replace F9 := F9.keep hb5
         replace F10 := F10.keep hb5
         replace F12r3 := F12r3.keep hb5
         replace B0 := B0.trans (hb5.mono B0.size)
         clear hb5
         have yF410_18 : (w5).cell? ⟨w1.heap.size, 18, none⟩ = some (.bool a3n) := F4.at 18 (by simp)
         have yF410_19 : (w5).cell? ⟨w1.heap.size, 19, none⟩ = some (.string a3S) := F4.at 19 (by simp)
         have yF410_20 : (w5).cell? ⟨w1.heap.size, 20, none⟩ = some (.int .i64 a3e) := F4.at 20 (by simp)
         have yF410_21 : (w5).cell? ⟨w1.heap.size, 21, none⟩ = some (.bool c3n) := F4.at 21 (by simp)
         have yF410_22 : (w5).cell? ⟨w1.heap.size, 22, none⟩ = some (.string c3S) := F4.at 22 (by simp)
         have yF410_23 : (w5).cell? ⟨w1.heap.size, 23, none⟩ = some (.int .i64 c3e) := F4.at 23 (by simp)
         obtain ⟨xF910_0, xF910_1, xF910_2, xF910_3, xF910_4, xF910_5⟩ := F9.ce6
         refine hK.out _ _ ?_ (fun hHeld => ?_)
         ·exact ⟨yF410_18, yF410_19, yF410_20, yF410_21, yF410_22, yF410_23, xF910_0, xF910_1, xF910_2, xF910_3, xF910_4, xF910_5⟩
         clear hK K
         (try dsimp only [Act.put]); (try go_frame)
         refine tkA 5 ?_
         (try dsimp only [Act.put]); (try go_frame)
         refine tkA 6 ?_
         (try dsimp only [Act.put]); (try go_frame)
         refine tkA 7 ?_
         (try dsimp only [Act.put]); (try go_frame)
         obtain ⟨xF12r310_0, xF12r310_1, xF12r310_2, xF12r310_3, xF12r310_4, xF12r310_5⟩ := F12r3.ce6
         obtain ⟨xF12r310_0f, xF12r310_1f, xF12r310_2f, xF12r310_3f, xF12r310_4f, xF12r310_5f⟩ := F12r3.fr6
         refine wpAnyH_ready (rs := [9]) (by kernel_rfl) (by simp) ?_
         refine AllReadyH.cons rfl (fun K hK => ?_) AllReadyH.nil
         go_simp
         replace F2 := ((((((F2.far 0 (.bool s3n) (Nat.ne_of_lt q_F2_F12r3.out)).far 1 (.string s3S) (Nat.ne_of_lt q_F2_F12r3.out)).far 2 (.int .i64 s3e) (Nat.ne_of_lt q_F2_F12r3.out)).far 3 (.bool t3n) (Nat.ne_of_lt q_F2_F12r3.out)).far 4 (.string t3S) (Nat.ne_of_lt q_F2_F12r3.out)).far 5 (.int .i64 t3e) (Nat.ne_of_lt q_F2_F12r3.out))
         replace F4 := ((((((F4.far 0 (.bool s3n) (Nat.ne_of_lt q_F4_F12r3.out)).far 1 (.string s3S) (Nat.ne_of_lt q_F4_F12r3.out)).far 2 (.int .i64 s3e) (Nat.ne_of_lt q_F4_F12r3.out)).far 3 (.bool t3n) (Nat.ne_of_lt q_F4_F12r3.out)).far 4 (.string t3S) (Nat.ne_of_lt q_F4_F12r3.out)).far 5 (.int .i64 t3e) (Nat.ne_of_lt q_F4_F12r3.out))
         replace F9 := ((((((F9.far 0 (.bool s3n) (Nat.ne_of_lt q_F9_F12r3.out)).far 1 (.string s3S) (Nat.ne_of_lt q_F9_F12r3.out)).far 2 (.int .i64 s3e) (Nat.ne_of_lt q_F9_F12r3.out)).far 3 (.bool t3n) (Nat.ne_of_lt q_F9_F12r3.out)).far 4 (.string t3S) (Nat.ne_of_lt q_F9_F12r3.out)).far 5 (.int .i64 t3e) (Nat.ne_of_lt q_F9_F12r3.out))
         replace F10 := ((((((F10.far 0 (.bool s3n) (Nat.ne_of_lt q_F10_F12r3.out)).far 1 (.string s3S) (Nat.ne_of_lt q_F10_F12r3.out)).far 2 (.int .i64 s3e) (Nat.ne_of_lt q_F10_F12r3.out)).far 3 (.bool t3n) (Nat.ne_of_lt q_F10_F12r3.out)).far 4 (.string t3S) (Nat.ne_of_lt q_F10_F12r3.out)).far 5 (.int .i64 t3e) (Nat.ne_of_lt q_F10_F12r3.out))
         replace F12r3 : Blk (((((((w5).setCell ⟨v3.heap.size, 0, none⟩ (.bool s3n)).setCell ⟨v3.heap.size, 1, none⟩ (.string s3S)).setCell ⟨v3.heap.size, 2, none⟩ (.int .i64 s3e)).setCell ⟨v3.heap.size, 3, none⟩ (.bool t3n)).setCell ⟨v3.heap.size, 4, none⟩ (.string t3S)).setCell ⟨v3.heap.size, 5, none⟩ (.int .i64 t3e)) (v3.heap.size) #[.bool s3n, .string s3S, .int .i64 s3e, .bool t3n, .string t3S, .int .i64 t3e] 28 := ((((((F12r3.setAt 0 (.bool s3n)).setAt 1 (.string s3S)).setAt 2 (.int .i64 s3e)).setAt 3 (.bool t3n)).setAt 4 (.string t3S)).setAt 5 (.int .i64 t3e))
         replace B0 := ((((((B0.setCell (p := ⟨v3.heap.size, 0, none⟩) q_w_F12r3.out (.bool s3n)).setCell (p := ⟨v3.heap.size, 1, none⟩) q_w_F12r3.out (.string s3S)).setCell (p := ⟨v3.heap.size, 2, none⟩) q_w_F12r3.out (.int .i64 s3e)).setCell (p := ⟨v3.heap.size, 3, none⟩) q_w_F12r3.out (.bool t3n)).setCell (p := ⟨v3.heap.size, 4, none⟩) q_w_F12r3.out (.string t3S)).setCell (p := ⟨v3.heap.size, 5, none⟩) q_w_F12r3.out (.int .i64 t3e))
         clear yF410_18 yF410_19 yF410_20 yF410_21 yF410_22 yF410_23 xF910_0 xF910_1 xF910_2 xF910_3 xF910_4 xF910_5 xF12r310_0 xF12r310_1 xF12r310_2 xF12r310_3 xF12r310_4 xF12r310_5 xF12r310_0f xF12r310_1f xF12r310_2f xF12r310_3f xF12r310_4f xF12r310_5f
         have yF411_18 : (((((((w5).setCell ⟨v3.heap.size, 0, none⟩ (.bool s3n)).setCell ⟨v3.heap.size, 1, none⟩ (.string s3S)).setCell ⟨v3.heap.size, 2, none⟩ (.int .i64 s3e)).setCell ⟨v3.heap.size, 3, none⟩ (.bool t3n)).setCell ⟨v3.heap.size, 4, none⟩ (.string t3S)).setCell ⟨v3.heap.size, 5, none⟩ (.int .i64 t3e)).cell? ⟨w1.heap.size, 18, none⟩ = some (.bool a3n) := F4.at 18 (by simp)
         have yF411_19 : (((((((w5).setCell ⟨v3.heap.size, 0, none⟩ (.bool s3n)).setCell ⟨v3.heap.size, 1, none⟩ (.string s3S)).setCell ⟨v3.heap.size, 2, none⟩ (.int .i64 s3e)).setCell ⟨v3.heap.size, 3, none⟩ (.bool t3n)).setCell ⟨v3.heap.size, 4, none⟩ (.string t3S)).setCell ⟨v3.heap.size, 5, none⟩ (.int .i64 t3e)).cell? ⟨w1.heap.size, 19, none⟩ = some (.string a3S) := F4.at 19 (by simp)
         have yF411_20 : (((((((w5).setCell ⟨v3.heap.size, 0, none⟩ (.bool s3n)).setCell ⟨v3.heap.size, 1, none⟩ (.string s3S)).setCell ⟨v3.heap.size, 2, none⟩ (.int .i64 s3e)).setCell ⟨v3.heap.size, 3, none⟩ (.bool t3n)).setCell ⟨v3.heap.size, 4, none⟩ (.string t3S)).setCell ⟨v3.heap.size, 5, none⟩ (.int .i64 t3e)).cell? ⟨w1.heap.size, 20, none⟩ = some (.int .i64 a3e) := F4.at 20 (by simp)
         have yF411_21 : (((((((w5).setCell ⟨v3.heap.size, 0, none⟩ (.bool s3n)).setCell ⟨v3.heap.size, 1, none⟩ (.string s3S)).setCell ⟨v3.heap.size, 2, none⟩ (.int .i64 s3e)).setCell ⟨v3.heap.size, 3, none⟩ (.bool t3n)).setCell ⟨v3.heap.size, 4, none⟩ (.string t3S)).setCell ⟨v3.heap.size, 5, none⟩ (.int .i64 t3e)).cell? ⟨w1.heap.size, 21, none⟩ = some (.bool c3n) := F4.at 21 (by simp)
         have yF411_22 : (((((((w5).setCell ⟨v3.heap.size, 0, none⟩ (.bool s3n)).setCell ⟨v3.heap.size, 1, none⟩ (.string s3S)).setCell ⟨v3.heap.size, 2, none⟩ (.int .i64 s3e)).setCell ⟨v3.heap.size, 3, none⟩ (.bool t3n)).setCell ⟨v3.heap.size, 4, none⟩ (.string t3S)).setCell ⟨v3.heap.size, 5, none⟩ (.int .i64 t3e)).cell? ⟨w1.heap.size, 22, none⟩ = some (.string c3S) := F4.at 22 (by simp)
         have yF411_23 : (((((((w5).setCell ⟨v3.heap.size, 0, none⟩ (.bool s3n)).setCell ⟨v3.heap.size, 1, none⟩ (.string s3S)).setCell ⟨v3.heap.size, 2, none⟩ (.int .i64 s3e)).setCell ⟨v3.heap.size, 3, none⟩ (.bool t3n)).setCell ⟨v3.heap.size, 4, none⟩ (.string t3S)).setCell ⟨v3.heap.size, 5, none⟩ (.int .i64 t3e)).cell? ⟨w1.heap.size, 23, none⟩ = some (.int .i64 c3e) := F4.at 23 (by simp)
         obtain ⟨xF911_0, xF911_1, xF911_2, xF911_3, xF911_4, xF911_5⟩ := F9.ce6
         refine hK.out _ _ ?_ (fun hHeld => ?_)
         ·exact ⟨yF411_18, yF411_19, yF411_20, yF411_21, yF411_22, yF411_23, xF911_0, xF911_1, xF911_2, xF911_3, xF911_4, xF911_5⟩
         clear hK K
         (try dsimp only [Act.put]); (try go_frame)
         refine tkA 10 ?_
         (try dsimp only [Act.put]); (try go_frame)
         refine wpAnyH_done (by kernel_rfl) ?_ _
         try simp only [QCut]
         clear hHeld
         clear yF411_18 yF411_19 yF411_20 yF411_21 yF411_22 yF411_23 xF911_0 xF911_1 xF911_2 xF911_3 xF911_4 xF911_5
         go_wp2_with fail
         go_meet
         exact ⟨_, by first | rfl | simp, by first | rfl | simp, F2, F4, F9, F10, F12r3, B0⟩
       case rest =>
        clear B0
        clear F2
        clear F4
        clear F9
        clear F10
        obtain ⟨S12, rfl, rfl, F2, F4, F9, F10, F12, B0⟩ := hcut
        generalize wc = v4 at *
        clear qS1
        obtain ⟨xF128_0, xF128_1, xF128_2, xF128_3, xF128_4, xF128_5⟩ := F12.ce6
        go_wp2_with fail
        (with_reducible refine (qN1 _).mono ?_)
        rintro r w5 ⟨rfl, hb5⟩
        clear xF128_0 xF128_1 xF128_2 xF128_3 xF128_4 xF128_5
        replace F2 := F2.keep hb5
        replace F4 := F4.keep hb5
        replace F9 := F9.keep hb5
        replace F10 := F10.keep hb5
        replace F12 := F12.keep hb5
        replace B0 := B0.trans (hb5.mono B0.size)
        clear hb5
        have q_F10_F14r3 : Hid (w4.heap.size + 1 < w5.heap.size) := Lib.hid (by have := F10.lt; first | exact this | omega | (simp; done) | simpa using this)
        replace F2 := F2.allocd (.cells #[.bool n3n, .string n3S, .int .i64 n3e] 24)
        replace F4 := F4.allocd (.cells #[.bool n3n, .string n3S, .int .i64 n3e] 24)
        replace F9 := F9.allocd (.cells #[.bool n3n, .string n3S, .int .i64 n3e] 24)
        replace F10 := F10.allocd (.cells #[.bool n3n, .string n3S, .int .i64 n3e] 24)
        clear F12
        have F14r3 := Blk.put (w5) #[.bool n3n, .string n3S, .int .i64 n3e] 24
        replace B0 := B0.alloc B0.size (.cells #[.bool n3n, .string n3S, .int .i64 n3e] 24)
        rcases hh.out with ⟨kd, rfl, rfl, rfl, rfl⟩ | ⟨rfl, kf, rfl, rfl, rfl, rfl⟩ | ⟨rfl, rfl, qK1, qm1, p4⟩
        ·clear hh
         have kd2 : (d3 != 0) = true := by simpa using kd
         clear kd
         obtain ⟨xF29_0, xF29_1⟩ := F2.ce2
         obtain ⟨xF29_0f, xF29_1f⟩ := F2.fr2
         clear F4
         clear F9
         clear F10
         clear F14r3
         replace F2 : Blk ((((w5).alloc (.cells #[.bool n3n, .string n3S, .int .i64 n3e] 24)).setCell ⟨w.heap.size + 1, 0, none⟩ (.complex .f64 0 0)).setCell ⟨w.heap.size + 1, 1, none⟩ (.float .f64 0)) (w.heap.size + 1) #[.complex .f64 0 0, .float .f64 0] 59 := ((F2.setAt 0 (.complex .f64 0 0)).setAt 1 (.float .f64 0))
         replace B0 := ((B0.setCell (p := ⟨w.heap.size + 1, 0, none⟩) q_w_F2.out (.complex .f64 0 0)).setCell (p := ⟨w.heap.size + 1, 1, none⟩) q_w_F2.out (.float .f64 0))
         obtain ⟨xF210_0, xF210_1⟩ := F2.ce2
         go_wp2
         exact bodyPost_ret (v := .tuple #[.agg #[.complex .f64 0 0, .float .f64 0], .int .i64 4]) (by simp [results, Tryz.results21, go_sem, xF210_0, xF210_1]) rfl ⟨rfl, B0⟩
        ·clear hh
         have kd2 : (f3 != 0) = true := by simpa using kf
         clear kf
         obtain ⟨xF29_0, xF29_1⟩ := F2.ce2
         obtain ⟨xF29_0f, xF29_1f⟩ := F2.fr2
         clear F4
         clear F9
         clear F10
         clear F14r3
         replace F2 : Blk ((((w5).alloc (.cells #[.bool n3n, .string n3S, .int .i64 n3e] 24)).setCell ⟨w.heap.size + 1, 0, none⟩ (.complex .f64 0 0)).setCell ⟨w.heap.size + 1, 1, none⟩ (.float .f64 0)) (w.heap.size + 1) #[.complex .f64 0 0, .float .f64 0] 59 := ((F2.setAt 0 (.complex .f64 0 0)).setAt 1 (.float .f64 0))
         replace B0 := ((B0.setCell (p := ⟨w.heap.size + 1, 0, none⟩) q_w_F2.out (.complex .f64 0 0)).setCell (p := ⟨w.heap.size + 1, 1, none⟩) q_w_F2.out (.float .f64 0))
         obtain ⟨xF210_0, xF210_1⟩ := F2.ce2
         go_wp2
         exact bodyPost_ret (v := .tuple #[.agg #[.complex .f64 0 0, .float .f64 0], .int .i64 4]) (by simp [results, Tryz.results21, go_sem, xF210_0, xF210_1]) rfl ⟨rfl, B0⟩
        ·clear hh
         obtain ⟨xF109_0, xF109_1, xF109_2⟩ := F10.ce3
         obtain ⟨xF14r39_0, xF14r39_1, xF14r39_2⟩ := F14r3.ce3
         go_wp2_with fail
         (with_reducible refine (qK1 _).mono ?_)
         rintro r w6 ⟨rfl, hb6⟩
         clear xF109_0 xF109_1 xF109_2 xF14r39_0 xF14r39_1 xF14r39_2
         replace F2 := F2.keep hb6
         replace F4 := F4.keep hb6
         replace F9 := F9.keep hb6
         replace F10 := F10.keep hb6
         replace F14r3 := F14r3.keep hb6
         replace B0 := B0.trans (hb6.mono B0.size)
         clear hb6
         clear qK1
         rcases qm1 with ⟨hk, rfl, rfl, rfl⟩ | ⟨hk, rfl, rfl, rfl⟩
         ·have hk2 : decide (K3 < 0) = true := decide_eq_true (by omega)
          clear hk
          obtain ⟨xF14r310_0, xF14r310_1, xF14r310_2⟩ := F14r3.ce3
          obtain ⟨xF1010_0, xF1010_1, xF1010_2⟩ := F10.ce3
          obtain ⟨xF1010_0f, xF1010_1f, xF1010_2f⟩ := F10.fr3
          replace F2 := (((F2.far 0 (.bool n3n) (Nat.ne_of_lt q_F2_F10.out)).far 1 (.string n3S) (Nat.ne_of_lt q_F2_F10.out)).far 2 (.int .i64 n3e) (Nat.ne_of_lt q_F2_F10.out))
          replace F4 := (((F4.far 0 (.bool n3n) (Nat.ne_of_lt q_F4_F10.out)).far 1 (.string n3S) (Nat.ne_of_lt q_F4_F10.out)).far 2 (.int .i64 n3e) (Nat.ne_of_lt q_F4_F10.out))
          replace F9 := (((F9.far 0 (.bool n3n) (Nat.ne_of_lt q_F9_F10.out)).far 1 (.string n3S) (Nat.ne_of_lt q_F9_F10.out)).far 2 (.int .i64 n3e) (Nat.ne_of_lt q_F9_F10.out))
          replace F14r3 := (((F14r3.far 0 (.bool n3n) (Nat.ne_of_gt q_F10_F14r3.out)).far 1 (.string n3S) (Nat.ne_of_gt q_F10_F14r3.out)).far 2 (.int .i64 n3e) (Nat.ne_of_gt q_F10_F14r3.out))
          replace F10 : Blk ((((w6).setCell ⟨w4.heap.size + 1, 0, none⟩ (.bool n3n)).setCell ⟨w4.heap.size + 1, 1, none⟩ (.string n3S)).setCell ⟨w4.heap.size + 1, 2, none⟩ (.int .i64 n3e)) (w4.heap.size + 1) #[.bool n3n, .string n3S, .int .i64 n3e] 24 := (((F10.setAt 0 (.bool n3n)).setAt 1 (.string n3S)).setAt 2 (.int .i64 n3e))
          replace B0 := (((B0.setCell (p := ⟨w4.heap.size + 1, 0, none⟩) q_w_F10.out (.bool n3n)).setCell (p := ⟨w4.heap.size + 1, 1, none⟩) q_w_F10.out (.string n3S)).setCell (p := ⟨w4.heap.size + 1, 2, none⟩) q_w_F10.out (.int .i64 n3e))
          go_wp2_with fail
          go_meet
          exact ⟨F2, F4, F9, F10, p4, B0⟩
         ·have hk2 : decide (K3 < 0) = false := decide_eq_false (by omega)
          clear hk
          go_wp2_with fail
          go_meet
          exact ⟨F2, F4, F9, F10, p4, B0⟩
      case rest =>
       clear B0
       clear F2
       clear F4
       clear F9
       clear F10
       obtain ⟨F2, F4, F9, F10, p4, B0⟩ := hcut
       generalize wc = v4 at *
       go_wp2_with fail
       rw [rounds_succ]
       obtain ⟨hE, hh⟩ := kr.out p4
       clear kr
       have hem : ∀ W : World, Calls Tryz.prog 48 #[.agg #[.bool u3n, .string u3S, .int .i64 u3e], .int .u64 9218868437227405311] W fun r w' => r = .returned (.bool (Pb 9218868437227405311)) ∧ Below W.heap.size W w' := fun W => hE W 9218868437227405311 (by omega)
       have hbm : ∀ W : World, (callFunc 47 #[.float .f64 9218868437227405311]).run Tryz.prog W = .ok (.value (.int .u64 9218868437227405311)) W := fun W => run_f64bits 9218868437227405311 W
       replace hE := Lib.hid hE
       obtain ⟨xF108_0, xF108_1, xF108_2⟩ := F10.ce3
       go_wp2_with fail
       (with_reducible refine (hem _).mono ?_)
       rintro r w5 ⟨rfl, hb5⟩
       clear xF108_0 xF108_1 xF108_2
       replace F2 := F2.keep hb5
       replace F4 := F4.keep hb5
       replace F9 := F9.keep hb5
       replace F10 := F10.keep hb5
       replace B0 := B0.trans (hb5.mono B0.size)
       clear hb5
       rcases hh with ⟨hp0, rfl, rfl, rfl, rfl⟩ | ⟨hp0, rfl, rfl, rfl, hnr2, hsq, hg1, hL⟩
       ·rw [hp0]
        obtain ⟨xF29_0, xF29_1⟩ := F2.ce2
        obtain ⟨xF29_0f, xF29_1f⟩ := F2.fr2
        clear F4
        clear F9
        clear F10
        replace F2 : Blk (((w5).setCell ⟨w.heap.size + 1, 0, none⟩ (.complex .f64 0 0)).setCell ⟨w.heap.size + 1, 1, none⟩ (.float .f64 0)) (w.heap.size + 1) #[.complex .f64 0 0, .float .f64 0] 59 := ((F2.setAt 0 (.complex .f64 0 0)).setAt 1 (.float .f64 0))
        replace B0 := ((B0.setCell (p := ⟨w.heap.size + 1, 0, none⟩) q_w_F2.out (.complex .f64 0 0)).setCell (p := ⟨w.heap.size + 1, 1, none⟩) q_w_F2.out (.float .f64 0))
        obtain ⟨xF210_0, xF210_1⟩ := F2.ce2
        go_wp2
        exact bodyPost_ret (v := .tuple #[.agg #[.complex .f64 0 0, .float .f64 0], .int .i64 5]) (by simp [results, Tryz.results21, go_sem, xF210_0, xF210_1]) rfl ⟨rfl, B0⟩
       ·rw [hp0]
        have hL2 := Lib.hid hL
        clear hL
        have hbg := run_f64bits G1
        obtain ⟨xF109_0, xF109_1, xF109_2⟩ := F10.ce3
        go_wp2_with fail
        (with_reducible refine (hnr2 _).mono ?_)
        rintro r w6 ⟨rfl, hb6⟩
        clear xF109_0 xF109_1 xF109_2
        replace F2 := F2.keep hb6
        clear F4
        clear F9
        replace F10 := F10.keep hb6
        replace B0 := B0.trans (hb6.mono B0.size)
        clear hb6
        go_wp2_with fail
        (with_reducible refine (hsq _).mono ?_)
        rintro r w7 ⟨rfl, hb7⟩
        replace F2 := F2.keep hb7
        replace F10 := F10.keep hb7
        replace B0 := B0.trans (hb7.mono B0.size)
        clear hb7
        obtain ⟨lo, hi, hlo⟩ : ∃ lo hi : Nat, ((8 < G1 ∧ G1 < 9218868437227405303 ∧ Pb (G1 - 8) = false ∧ Pb (G1 + 8) = true) ∧ lo = G1 - 8 ∧ hi = G1 + 8) ∨ (¬ (8 < G1 ∧ G1 < 9218868437227405303 ∧ Pb (G1 - 8) = false ∧ Pb (G1 + 8) = true) ∧ lo = 0 ∧ hi = 9218868437227405311) := by
         by_cases h : 8 < G1 ∧ G1 < 9218868437227405303 ∧ Pb (G1 - 8) = false ∧ Pb (G1 + 8) = true
         ·exact ⟨_, _, .inl ⟨h, rfl, rfl⟩⟩
         ·exact ⟨_, _, .inr ⟨h, rfl, rfl⟩⟩
        have HL := Lib.hid hlo
        clear hlo
        obtain ⟨GG, hGG⟩ : ∃ GG : Bool, GG = (decide (8 < G1) && (decide (G1 < 9218868437227405303) && (!Pb (G1 - 8) && Pb (G1 + 8)))) := ⟨_, rfl⟩
        have HG := Lib.hid hGG
        clear hGG
        go_upto_region 24 with fail
        go_cut [108] (fun s108 wx => s108 = .bool GG ∧ Blk wx (w.heap.size + 1) #[.complex .f64 0 0, .float .f64 0] 59 ∧ Blk wx (w4.heap.size + 1) #[.bool u3n, .string u3S, .int .i64 u3e] 24 ∧ Below w.heap.size w wx)
        case first =>
         have W0 : IntKind.u64.wrap (9218868437227405311 - 8) = 9218868437227405303 := rfl
         by_cases k1 : 8 < G1
         ·have T1 : decide ((8 : Int) < (G1 : Int)) = true := decide_eq_true (by omega)
          by_cases k2 : G1 < 9218868437227405303
          ·have T2 : decide ((G1 : Int) < 9218868437227405303) = true := decide_eq_true (by omega)
           have W1 : IntKind.u64.wrap ((G1 : Int) - 8) = ((G1 - 8 : Nat) : Int) := by rw [IntWalk.u64_in _ ⟨by omega, by omega⟩]; omega
           have W2 : IntKind.u64.wrap ((G1 : Int) + 8) = (G1 : Int) + 8 := IntWalk.u64_in _ ⟨by omega, by omega⟩
           have hea := fun W => hE.out W (G1 - 8) (by omega)
           have heb : ∀ W : World, Calls Tryz.prog 48 #[.agg #[.bool u3n, .string u3S, .int .i64 u3e], .int .u64 ((G1 : Int) + 8)] W fun r w' => r = .returned (.bool (Pb (G1 + 8))) ∧ Below W.heap.size W w' := fun W => hE.out W (G1 + 8) (by omega)
           cases k3 : Pb (G1 - 8)
           ·rw [k3] at hea
            cases k4 : Pb (G1 + 8)
            ·rw [k4] at heb
             obtain rfl : GG = false := by rw [HG.out]; simp [k4]
             obtain ⟨xF1011_0, xF1011_1, xF1011_2⟩ := F10.ce3
             go_wp2_with fail
             (with_reducible refine (hea _).mono ?_)
             rintro r w8 ⟨rfl, hb8⟩
             clear xF1011_0 xF1011_1 xF1011_2
             replace F2 := F2.keep hb8
             replace F10 := F10.keep hb8
             replace B0 := B0.trans (hb8.mono B0.size)
             clear hb8
             obtain ⟨xF1012_0, xF1012_1, xF1012_2⟩ := F10.ce3
             go_wp2_with fail
             (with_reducible refine (heb _).mono ?_)
             rintro r w9 ⟨rfl, hb9⟩
             clear xF1012_0 xF1012_1 xF1012_2
             replace F2 := F2.keep hb9
             replace F10 := F10.keep hb9
             replace B0 := B0.trans (hb9.mono B0.size)
             clear hb9
             go_wp2_with fail
             go_meet
             exact ⟨by first | rfl | simp, F2, F10, B0⟩
            ·rw [k4] at heb
             obtain rfl : GG = true := by rw [HG.out]; simp [k1, k2, k3, k4]
             obtain ⟨xF1011_0, xF1011_1, xF1011_2⟩ := F10.ce3
             go_wp2_with fail
             (with_reducible refine (hea _).mono ?_)
             rintro r w8 ⟨rfl, hb8⟩
             clear xF1011_0 xF1011_1 xF1011_2
             replace F2 := F2.keep hb8
             replace F10 := F10.keep hb8
             replace B0 := B0.trans (hb8.mono B0.size)
             clear hb8
             obtain ⟨xF1012_0, xF1012_1, xF1012_2⟩ := F10.ce3
             go_wp2_with fail
             (with_reducible refine (heb _).mono ?_)
             rintro r w9 ⟨rfl, hb9⟩
             clear xF1012_0 xF1012_1 xF1012_2
             replace F2 := F2.keep hb9
             replace F10 := F10.keep hb9
             replace B0 := B0.trans (hb9.mono B0.size)
             clear hb9
             go_wp2_with fail
             go_meet
             exact ⟨by first | rfl | simp, F2, F10, B0⟩
           ·rw [k3] at hea
            obtain rfl : GG = false := by rw [HG.out]; simp [k3]
            obtain ⟨xF1011_0, xF1011_1, xF1011_2⟩ := F10.ce3
            go_wp2_with fail
            (with_reducible refine (hea _).mono ?_)
            rintro r w8 ⟨rfl, hb8⟩
            clear xF1011_0 xF1011_1 xF1011_2
            replace F2 := F2.keep hb8
            replace F10 := F10.keep hb8
            replace B0 := B0.trans (hb8.mono B0.size)
            clear hb8
            go_wp2_with fail
            go_meet
            exact ⟨by first | rfl | simp, F2, F10, B0⟩
          ·have T2 : decide ((G1 : Int) < 9218868437227405303) = false := decide_eq_false (by omega)
           obtain rfl : GG = false := by rw [HG.out]; simp [k2]
           go_wp2_with fail
           go_meet
           exact ⟨by first | rfl | simp, F2, F10, B0⟩
         ·have T1 : decide ((8 : Int) < (G1 : Int)) = false := decide_eq_false (by omega)
          obtain rfl : GG = false := by rw [HG.out]; simp [k1]
          go_wp2_with fail
          go_meet
          exact ⟨by first | rfl | simp, F2, F10, B0⟩
        case rest =>
         clear B0
         clear F2
         clear F10
         obtain ⟨rfl, F2, F10, B0⟩ := hcut
         generalize wc = v5 at *
         go_upto_if 108 with fail
         go_cut [17, 18] (fun s17 s18 wx => s17 = .int .u64 (lo : Nat) ∧ s18 = .int .u64 (hi : Nat) ∧ Blk wx (w.heap.size + 1) #[.complex .f64 0 0, .float .f64 0] 59 ∧ Blk wx (w4.heap.size + 1) #[.bool u3n, .string u3S, .int .i64 u3e] 24 ∧ Below w.heap.size w wx)
         case first =>
          cases GG
          ·obtain ⟨kk, rfl, rfl⟩ := HL.out.resolve_left (fun h => by have k := HG.out; simp [h.1.1, h.1.2.1, h.1.2.2.1, h.1.2.2.2] at k)
           go_wp2_with fail
           go_meet
           exact ⟨by first | rfl | simp, by first | rfl | simp, F2, F10, B0⟩
          ·have kG := HG.out
           simp only [Bool.true_eq, Bool.and_eq_true, decide_eq_true_eq, Bool.not_eq_true'] at kG
           obtain ⟨kk, rfl, rfl⟩ := HL.out.resolve_right (fun h => h.1 kG)
           have W1 : IntKind.u64.wrap ((G1 : Int) - 8) = ((G1 - 8 : Nat) : Int) := by rw [IntWalk.u64_in _ ⟨by omega, by omega⟩]; omega
           have W2 : IntKind.u64.wrap ((G1 : Int) + 8) = (G1 : Int) + 8 := IntWalk.u64_in _ ⟨by omega, by omega⟩
           clear kG kk
           go_wp2_with fail
           go_meet
           exact ⟨by first | rfl | simp, by first | rfl | simp, F2, F10, B0⟩
         case rest =>
          clear B0
          clear F2
          clear F10
          obtain ⟨rfl, rfl, F2, F10, B0⟩ := hcut
          generalize wc = v6 at *
          go_wp2_with fail
          have HI : lo < hi ∧ hi ≤ 9218868437227405311 ∧ Pb hi = true ∧ (lo = 0 ∨ Pb lo = false) := by
           rcases HL.out with ⟨⟨k1, k2, k3, k4⟩, rfl, rfl⟩ | ⟨_, rfl, rfl⟩
           ·exact ⟨by omega, by omega, k4, .inr k3⟩
           ·exact ⟨by omega, by omega, hp0, .inl rfl⟩
          clear HL HG
          obtain ⟨i1, i2, i3, i4⟩ := HI
          go_loopg [17, 18, 20] (hi - lo) (fun g s17 s18 s20 wr => ∃ a b : Nat, g = b - a ∧ s17 = .int .u64 (a : Nat) ∧ s18 = .int .u64 (b : Nat) ∧ a < b ∧ b ≤ 9218868437227405311 ∧ Pb b = true ∧ (a = 0 ∨ Pb a = false) ∧ Blk wr (w.heap.size + 1) #[.complex .f64 0 0, .float .f64 0] 59 ∧ Blk wr (w4.heap.size + 1) #[.bool u3n, .string u3S, .int .i64 u3e] 24 ∧ Below w.heap.size w wr)
          case atStart => exact ⟨lo, hi, rfl, rfl, rfl, i1, i2, i3, i4, F2, F10, B0⟩
          case round =>
           clear F2 F10 B0 i1 i2 i3 i4
           obtain ⟨a, b, hg, rfl, rfl, h1, h2, h3, h4, F2, F10, B0⟩ := hrel
           have W5 : IntKind.u64.wrap ((b : Int) - (a : Int)) = ((b - a : Nat) : Int) := by rw [IntWalk.u64_in _ ⟨by omega, by omega⟩]; omega
           by_cases hd : 1 < b - a
           ·obtain ⟨m, hm⟩ : ∃ m, m = a + (b - a) / 2 := ⟨_, rfl⟩
            obtain ⟨D, hD⟩ : ∃ D, D = b - a := ⟨_, rfl⟩
            have hem2 := fun W => hE.out W m (by omega)
            have T5 : decide ((1 : Int) < (D : Int)) = true := decide_eq_true (by omega)
            obtain ⟨Q, hQ⟩ : ∃ Q, Q = D / 2 := ⟨_, rfl⟩
            have W6 : (D : Int).tdiv 2 = (Q : Int) := by rw [Int.tdiv_eq_ediv_of_nonneg (by omega)]; omega
            have W7 : IntKind.u64.wrap (Q : Int) = (Q : Int) := IntWalk.u64_in _ ⟨by omega, by omega⟩
            have W8 : IntKind.u64.wrap ((a : Int) + (Q : Int)) = (m : Int) := by rw [IntWalk.u64_in _ ⟨by omega, by omega⟩]; omega
            rw [← hD] at W5
            have HM := Lib.hid (And.intro (show a < m by omega) (And.intro (show m < b by omega) hg))
            clear hm hD hg hd hQ
            obtain ⟨xF10200_0, xF10200_1, xF10200_2⟩ := F10.ce3
            go_wp2_with fail
            (with_reducible refine (hem2 _).mono ?_)
            rintro r w71 ⟨rfl, hb71⟩
            clear xF10200_0 xF10200_1 xF10200_2
            replace F2 := F2.keep hb71
            replace F10 := F10.keep hb71
            replace B0 := B0.trans (hb71.mono B0.size)
            clear hb71
            cases hpm : Pb m
            ·go_wp2
             go_roundg (b - m)
             case measure => have := HM.out; omega
             case rel => exact ⟨m, b, rfl, by first | rfl | go_num, by first | rfl | go_num, by have := HM.out; omega, h2, h3, .inr hpm, F2, F10, B0⟩
            ·go_wp2
             go_roundg (m - a)
             case measure => have := HM.out; omega
             case rel => exact ⟨a, m, rfl, by first | rfl | go_num, by first | rfl | go_num, by have := HM.out; omega, by have := HM.out; omega, hpm, h4, F2, F10, B0⟩
           ·have hab : a + 1 = b := by omega
            obtain rfl := hL2.out a b hab h2 h3 h4
            obtain ⟨D, hD⟩ : ∃ D, D = b - a := ⟨_, rfl⟩
            have T5 : decide ((1 : Int) < (D : Int)) = false := decide_eq_false (by omega)
            rw [← hD] at W5
            have hfb := run_from_nat b
            clear hab hD hg hd
            have q_w_F2 : Hid (w.heap.size ≤ w.heap.size + 1) := Lib.hid (by omega)
            obtain ⟨xF2300_0, xF2300_1⟩ := F2.ce2
            obtain ⟨xF2300_0f, xF2300_1f⟩ := F2.fr2
            replace F2 : Blk (((wr).setCell ⟨w.heap.size + 1, 0, none⟩ (.complex .f64 x y)).setCell ⟨w.heap.size + 1, 1, none⟩ (.float .f64 b)) (w.heap.size + 1) #[.complex .f64 x y, .float .f64 b] 59 := ((F2.setAt 0 (.complex .f64 x y)).setAt 1 (.float .f64 b))
            replace B0 := ((B0.setCell (p := ⟨w.heap.size + 1, 0, none⟩) q_w_F2.out (.complex .f64 x y)).setCell (p := ⟨w.heap.size + 1, 1, none⟩) q_w_F2.out (.float .f64 b))
            obtain ⟨xF2301_0, xF2301_1⟩ := F2.ce2
            go_wp2
            exact bodyPost_ret (v := .tuple #[.agg #[.complex .f64 x y, .float .f64 b], .int .i64 0]) (by simp [results, Tryz.results21, go_sem, xF2301_0, xF2301_1]) rfl ⟨rfl, B0⟩

end Go.Proofs.YtfbkopepkklkjaaGreatDoor
