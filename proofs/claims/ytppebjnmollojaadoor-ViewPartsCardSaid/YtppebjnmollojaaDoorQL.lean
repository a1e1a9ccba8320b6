/- filigreelaw24.ViewParts: the walks, over letters. -/
import Derived.Test.YtppebjnmollojaaDoorQ7
import Derived.Test.YtppebjnmollojaaDoorQA
import Derived.Deep.CutBlock
namespace Go.Proofs.YtppebjnmollojaaDoor
open Go Go.RowKit Go.PlainAid Fil


set_option maxRecDepth 1000000 in
set_option maxHeartbeats 16000000 in
theorem parts_out (e ep ef eh ei pE0 pE1 pE2 pE3 : Int) (ln : Bool) (lS : ByteArray) (le : Int) (bn : Bool) (bS : ByteArray) (be : Int) (jn : Bool) (jS : ByteArray) (je : Int) (kn : Bool) (kS : ByteArray) (ke : Int) (p0n : Bool) (p0S : ByteArray) (p0e : Int) (p1n : Bool) (p1S : ByteArray) (p1e : Int) (p2n : Bool) (p2S : ByteArray) (p2e : Int) (p3n : Bool) (p3S : ByteArray) (p3e : Int) (p4n : Bool) (p4S : ByteArray) (p4e : Int) (p5n : Bool) (p5S : ByteArray) (p5e : Int) (p6n : Bool) (p6S : ByteArray) (p6e : Int) (p7n : Bool) (p7S : ByteArray) (p7e : Int) (c0n : Bool) (c0S : ByteArray) (c0e : Int) (c1n : Bool) (c1S : ByteArray) (c1e : Int) (c2n : Bool) (c2S : ByteArray) (c2e : Int) (c3n : Bool) (c3S : ByteArray) (c3e : Int) (c4n : Bool) (c4S : ByteArray) (c4e : Int) (c5n : Bool) (c5S : ByteArray) (c5e : Int) (c6n : Bool) (c6S : ByteArray) (c6e : Int) (c7n : Bool) (c7S : ByteArray) (c7e : Int) (mn : Bool) (mS : ByteArray) (me : Int) (nn : Bool) (nS : ByteArray) (ne : Int) (an : Bool) (aS : ByteArray) (ae : Int) (w : World) (hP : ∀ W : World, Tab W → Calls Tryd.prog 14 #[.agg #[.bool ln, .string lS, .int .i64 le, .bool bn, .string bS, .int .i64 be, .int .i64 e]] W fun r w' => r = .returned (.tuple #[.agg #[.bool p0n, .string p0S, .int .i64 p0e, .bool p1n, .string p1S, .int .i64 p1e, .int .i64 pE0, .bool p2n, .string p2S, .int .i64 p2e, .bool p3n, .string p3S, .int .i64 p3e, .int .i64 pE1, .bool p4n, .string p4S, .int .i64 p4e, .bool p5n, .string p5S, .int .i64 p5e, .int .i64 pE2, .bool p6n, .string p6S, .int .i64 p6e, .bool p7n, .string p7S, .int .i64 p7e, .int .i64 pE3], .int .i64 ep]) ∧ Below W.heap.size W w') (hC : ∀ W : World, Tab W → Calls Tryd.prog 10 #[.agg #[.bool ln, .string lS, .int .i64 le, .bool bn, .string bS, .int .i64 be, .int .i64 e]] W fun r w' => r = .returned (.tuple #[.agg #[.bool c0n, .string c0S, .int .i64 c0e, .bool c1n, .string c1S, .int .i64 c1e, .bool c2n, .string c2S, .int .i64 c2e, .bool c3n, .string c3S, .int .i64 c3e, .bool c4n, .string c4S, .int .i64 c4e, .bool c5n, .string c5S, .int .i64 c5e, .bool c6n, .string c6S, .int .i64 c6e, .bool c7n, .string c7S, .int .i64 c7e], .int .i64 ef]) ∧ Below W.heap.size W w') (hM : ∀ W : World, Tab W → Calls Tryd.prog 15 #[.agg #[.bool ln, .string lS, .int .i64 le, .bool bn, .string bS, .int .i64 be, .int .i64 e]] W fun r w' => r = .returned (.tuple #[.agg #[.bool mn, .string mS, .int .i64 me, .bool nn, .string nS, .int .i64 ne], .int .i64 eh]) ∧ Below W.heap.size W w') (hA : ∀ W : World, Tab W → Calls Tryd.prog 16 #[.agg #[.bool ln, .string lS, .int .i64 le, .bool bn, .string bS, .int .i64 be, .int .i64 e]] W fun r w' => r = .returned (.tuple #[.agg #[.bool an, .string aS, .int .i64 ae], .int .i64 ei]) ∧ Below W.heap.size W w') (hx : ep ≠ 0 ∨ (ep = 0 ∧ ef ≠ 0)) (hT : Tab w) :
    Calls Tryd.prog 5 #[.agg #[.bool ln, .string lS, .int .i64 le, .bool bn, .string bS, .int .i64 be, .int .i64 e], .agg #[.bool jn, .string jS, .int .i64 je, .bool kn, .string kS, .int .i64 ke]] w fun r' w' => r' = .returned (.bool true) ∧ Below w.heap.size w w' := by
  have aw := fun W hW => awake24 W hW
  have hw0 : IntKind.i64.wrap 0 = 0 := rfl
  have hw1 : IntKind.i64.wrap 1 = 1 := rfl
  have hw2 : IntKind.i64.wrap 2 = 2 := rfl
  have hw3 : IntKind.i64.wrap 3 = 3 := rfl
  replace hx := Lib.hid hx
  go_enter Tryd.func5, Tryd.ntmps5
  have B0 := Below.refl w.heap.size w
  as_aux_lemma =>
  have F2 := Blk.put (w) #[.bool ln, .string lS, .int .i64 le, .bool bn, .string bS, .int .i64 be, .int .i64 e] 31
  replace B0 := B0.alloc B0.size (.cells #[.bool ln, .string lS, .int .i64 le, .bool bn, .string bS, .int .i64 be, .int .i64 e] 31)
  replace F2 := F2.allocd (.cells #[.bool jn, .string jS, .int .i64 je, .bool kn, .string kS, .int .i64 ke] 27)
  replace B0 := B0.alloc B0.size (.cells #[.bool jn, .string jS, .int .i64 je, .bool kn, .string kS, .int .i64 ke] 27)
  go_wp2_with fail
  (with_reducible refine (aw _ (hT.below B0)).mono ?_)
  rintro r w1 ⟨rfl, hb1⟩
  replace F2 := F2.keep hb1
  replace B0 := B0.trans (hb1.mono B0.size)
  clear hb1
  obtain ⟨xF21_0, xF21_1, xF21_2, xF21_3, xF21_4, xF21_5, xF21_6⟩ := F2.ce7
  go_wp2_with fail
  (with_reducible refine (hP _ (hT.below B0)).mono ?_)
  rintro r w2 ⟨rfl, hb2⟩
  clear xF21_0 xF21_1 xF21_2 xF21_3 xF21_4 xF21_5 xF21_6
  replace F2 := F2.keep hb2
  replace B0 := B0.trans (hb2.mono B0.size)
  clear hb2
  dsimp only
  go_step
  refine wpList_move rfl _ (.inl rfl) (.tuple #[.agg #[.bool p0n, .string p0S, .int .i64 p0e, .bool p1n, .string p1S, .int .i64 p1e, .int .i64 pE0, .bool p2n, .string p2S, .int .i64 p2e, .bool p3n, .string p3S, .int .i64 p3e, .int .i64 pE1, .bool p4n, .string p4S, .int .i64 p4e, .bool p5n, .string p5S, .int .i64 p5e, .int .i64 pE2, .bool p6n, .string p6S, .int .i64 p6e, .bool p7n, .string p7S, .int .i64 p7e, .int .i64 pE3], .int .i64 ep]) rfl ?_
  (try dsimp only [Act.put]); (try go_frame)
  refine wpList_extract rfl _ 0 rfl _ (.agg #[.bool p0n, .string p0S, .int .i64 p0e, .bool p1n, .string p1S, .int .i64 p1e, .int .i64 pE0, .bool p2n, .string p2S, .int .i64 p2e, .bool p3n, .string p3S, .int .i64 p3e, .int .i64 pE1, .bool p4n, .string p4S, .int .i64 p4e, .bool p5n, .string p5S, .int .i64 p5e, .int .i64 pE2, .bool p6n, .string p6S, .int .i64 p6e, .bool p7n, .string p7S, .int .i64 p7e, .int .i64 pE3]) rfl rfl ?_
  (try dsimp only [Act.put]); (try go_frame)
  refine wpList_extract rfl _ 1 rfl _ (.int .i64 ep) rfl rfl ?_
  (try dsimp only [Act.put]); (try go_frame)
  refine wpList_new rfl _ rfl _ Tryd.zeroValue45 ?_
  (try dsimp only [Act.put]); (try go_frame)
  refine wpList_store_new rfl _ _ _ rfl _ #[.bool p0n, .string p0S, .int .i64 p0e, .bool p1n, .string p1S, .int .i64 p1e, .int .i64 pE0, .bool p2n, .string p2S, .int .i64 p2e, .bool p3n, .string p3S, .int .i64 p3e, .int .i64 pE1, .bool p4n, .string p4S, .int .i64 p4e, .bool p5n, .string p5S, .int .i64 p5e, .int .i64 pE2, .bool p6n, .string p6S, .int .i64 p6e, .bool p7n, .string p7S, .int .i64 p7e, .int .i64 pE3] rfl rfl (by kernel_rfl) rfl (by simp [Value.oneCell']) ?_
  (try dsimp only [Act.put]); (try go_frame)
  replace F2 := F2.allocd (.cells #[.bool p0n, .string p0S, .int .i64 p0e, .bool p1n, .string p1S, .int .i64 p1e, .int .i64 pE0, .bool p2n, .string p2S, .int .i64 p2e, .bool p3n, .string p3S, .int .i64 p3e, .int .i64 pE1, .bool p4n, .string p4S, .int .i64 p4e, .bool p5n, .string p5S, .int .i64 p5e, .int .i64 pE2, .bool p6n, .string p6S, .int .i64 p6e, .bool p7n, .string p7S, .int .i64 p7e, .int .i64 pE3] 45)
  replace B0 := B0.alloc B0.size (.cells #[.bool p0n, .string p0S, .int .i64 p0e, .bool p1n, .string p1S, .int .i64 p1e, .int .i64 pE0, .bool p2n, .string p2S, .int .i64 p2e, .bool p3n, .string p3S, .int .i64 p3e, .int .i64 pE1, .bool p4n, .string p4S, .int .i64 p4e, .bool p5n, .string p5S, .int .i64 p5e, .int .i64 pE2, .bool p6n, .string p6S, .int .i64 p6e, .bool p7n, .string p7S, .int .i64 p7e, .int .i64 pE3] 45)
  refine wpList_move rfl _ (.inr rfl) (.int .i64 ep) rfl ?_
  (try dsimp only [Act.put]); (try go_frame)
  obtain ⟨xF22_0, xF22_1, xF22_2, xF22_3, xF22_4, xF22_5, xF22_6⟩ := F2.ce7
  go_wp2_with fail
  (with_reducible refine (hC _ (hT.below B0)).mono ?_)
  rintro r w3 ⟨rfl, hb3⟩
  clear xF22_0 xF22_1 xF22_2 xF22_3 xF22_4 xF22_5 xF22_6
  replace F2 := F2.keep hb3
  replace B0 := B0.trans (hb3.mono B0.size)
  clear hb3
  dsimp only
  go_step
  refine wpList_move rfl _ (.inl rfl) (.tuple #[.agg #[.bool c0n, .string c0S, .int .i64 c0e, .bool c1n, .string c1S, .int .i64 c1e, .bool c2n, .string c2S, .int .i64 c2e, .bool c3n, .string c3S, .int .i64 c3e, .bool c4n, .string c4S, .int .i64 c4e, .bool c5n, .string c5S, .int .i64 c5e, .bool c6n, .string c6S, .int .i64 c6e, .bool c7n, .string c7S, .int .i64 c7e], .int .i64 ef]) rfl ?_
  (try dsimp only [Act.put]); (try go_frame)
  refine wpList_extract rfl _ 0 rfl _ (.agg #[.bool c0n, .string c0S, .int .i64 c0e, .bool c1n, .string c1S, .int .i64 c1e, .bool c2n, .string c2S, .int .i64 c2e, .bool c3n, .string c3S, .int .i64 c3e, .bool c4n, .string c4S, .int .i64 c4e, .bool c5n, .string c5S, .int .i64 c5e, .bool c6n, .string c6S, .int .i64 c6e, .bool c7n, .string c7S, .int .i64 c7e]) rfl rfl ?_
  (try dsimp only [Act.put]); (try go_frame)
  refine wpList_extract rfl _ 1 rfl _ (.int .i64 ef) rfl rfl ?_
  (try dsimp only [Act.put]); (try go_frame)
  refine wpList_new rfl _ rfl _ Tryd.zeroValue35 ?_
  (try dsimp only [Act.put]); (try go_frame)
  refine wpList_store_new rfl _ _ _ rfl _ #[.bool c0n, .string c0S, .int .i64 c0e, .bool c1n, .string c1S, .int .i64 c1e, .bool c2n, .string c2S, .int .i64 c2e, .bool c3n, .string c3S, .int .i64 c3e, .bool c4n, .string c4S, .int .i64 c4e, .bool c5n, .string c5S, .int .i64 c5e, .bool c6n, .string c6S, .int .i64 c6e, .bool c7n, .string c7S, .int .i64 c7e] rfl rfl (by kernel_rfl) rfl (by simp [Value.oneCell']) ?_
  (try dsimp only [Act.put]); (try go_frame)
  replace F2 := F2.allocd (.cells #[.bool c0n, .string c0S, .int .i64 c0e, .bool c1n, .string c1S, .int .i64 c1e, .bool c2n, .string c2S, .int .i64 c2e, .bool c3n, .string c3S, .int .i64 c3e, .bool c4n, .string c4S, .int .i64 c4e, .bool c5n, .string c5S, .int .i64 c5e, .bool c6n, .string c6S, .int .i64 c6e, .bool c7n, .string c7S, .int .i64 c7e] 35)
  replace B0 := B0.alloc B0.size (.cells #[.bool c0n, .string c0S, .int .i64 c0e, .bool c1n, .string c1S, .int .i64 c1e, .bool c2n, .string c2S, .int .i64 c2e, .bool c3n, .string c3S, .int .i64 c3e, .bool c4n, .string c4S, .int .i64 c4e, .bool c5n, .string c5S, .int .i64 c5e, .bool c6n, .string c6S, .int .i64 c6e, .bool c7n, .string c7S, .int .i64 c7e] 35)
  refine wpList_move rfl _ (.inr rfl) (.int .i64 ef) rfl ?_
  (try dsimp only [Act.put]); (try go_frame)
  obtain ⟨xF23_0, xF23_1, xF23_2, xF23_3, xF23_4, xF23_5, xF23_6⟩ := F2.ce7
  go_wp2_with fail
  (with_reducible refine (hM _ (hT.below B0)).mono ?_)
  rintro r w4 ⟨rfl, hb4⟩
  clear xF23_0 xF23_1 xF23_2 xF23_3 xF23_4 xF23_5 xF23_6
  replace F2 := F2.keep hb4
  replace B0 := B0.trans (hb4.mono B0.size)
  clear hb4
  replace F2 := F2.allocd (.cells #[.bool mn, .string mS, .int .i64 me, .bool nn, .string nS, .int .i64 ne] 27)
  replace B0 := B0.alloc B0.size (.cells #[.bool mn, .string mS, .int .i64 me, .bool nn, .string nS, .int .i64 ne] 27)
  obtain ⟨xF24_0, xF24_1, xF24_2, xF24_3, xF24_4, xF24_5, xF24_6⟩ := F2.ce7
  go_wp2_with fail
  (with_reducible refine (hA _ (hT.below B0)).mono ?_)
  rintro r w5 ⟨rfl, hb5⟩
  clear xF24_0 xF24_1 xF24_2 xF24_3 xF24_4 xF24_5 xF24_6
  replace F2 := F2.keep hb5
  replace B0 := B0.trans (hb5.mono B0.size)
  clear hb5
  clear F2
  replace B0 := B0.alloc B0.size (.cells #[.bool an, .string aS, .int .i64 ae] 25)
  rcases hx.out with h | ⟨rfl, h⟩
  · have h2 : (ep != 0) = true := by simpa using h
    clear h hx
    go_wp2
    go_ret
    exact ⟨rfl, B0⟩
  · have h2 : (ef != 0) = true := by simpa using h
    clear h hx
    go_wp2
    go_ret
    exact ⟨rfl, B0⟩

set_option maxRecDepth 1000000 in
set_option maxHeartbeats 16000000 in
theorem parts_good (e E eh : Int) (f0 f1 f2 f3 y1 y2 y3 hb : Bool) (ln : Bool) (lS : ByteArray) (le : Int) (bn : Bool) (bS : ByteArray) (be : Int) (jn : Bool) (jS : ByteArray) (je : Int) (kn : Bool) (kS : ByteArray) (ke : Int) (mn : Bool) (mS : ByteArray) (me : Int) (nn : Bool) (nS : ByteArray) (ne : Int) (pn : Bool) (pS : ByteArray) (pe : Int) (qn : Bool) (qS : ByteArray) (qe : Int) (an : Bool) (aS : ByteArray) (ae : Int) (tn : Bool) (tS : ByteArray) (te : Int) (un : Bool) (uS : ByteArray) (ue : Int) (vn : Bool) (vS : ByteArray) (ve : Int) (w : World) (hP : ∀ W : World, Tab W → Calls Tryd.prog 14 #[.agg #[.bool ln, .string lS, .int .i64 le, .bool bn, .string bS, .int .i64 be, .int .i64 e]] W fun r w' => r = .returned (.tuple #[.agg #[.bool ln, .string lS, .int .i64 le, .bool bn, .string bS, .int .i64 be, .int .i64 E, .bool mn, .string mS, .int .i64 me, .bool bn, .string bS, .int .i64 be, .int .i64 E, .bool ln, .string lS, .int .i64 le, .bool nn, .string nS, .int .i64 ne, .int .i64 E, .bool mn, .string mS, .int .i64 me, .bool nn, .string nS, .int .i64 ne, .int .i64 E], .int .i64 0]) ∧ Below W.heap.size W w') (hC : ∀ W : World, Tab W → Calls Tryd.prog 10 #[.agg #[.bool ln, .string lS, .int .i64 le, .bool bn, .string bS, .int .i64 be, .int .i64 e]] W fun r w' => r = .returned (.tuple #[.agg #[.bool ln, .string lS, .int .i64 le, .bool bn, .string bS, .int .i64 be, .bool pn, .string pS, .int .i64 pe, .bool bn, .string bS, .int .i64 be, .bool ln, .string lS, .int .i64 le, .bool qn, .string qS, .int .i64 qe, .bool pn, .string pS, .int .i64 pe, .bool qn, .string qS, .int .i64 qe], .int .i64 0]) ∧ Below W.heap.size W w') (hM : ∀ W : World, Tab W → Calls Tryd.prog 15 #[.agg #[.bool ln, .string lS, .int .i64 le, .bool bn, .string bS, .int .i64 be, .int .i64 e]] W fun r w' => r = .returned (.tuple #[.agg #[.bool mn, .string mS, .int .i64 me, .bool nn, .string nS, .int .i64 ne], .int .i64 0]) ∧ Below W.heap.size W w') (hA : ∀ W : World, Tab W → Calls Tryd.prog 16 #[.agg #[.bool ln, .string lS, .int .i64 le, .bool bn, .string bS, .int .i64 be, .int .i64 e]] W fun r w' => r = .returned (.tuple #[.agg #[.bool an, .string aS, .int .i64 ae], .int .i64 0]) ∧ Below W.heap.size W w') (c0 : ∀ W : World, Tab W → Calls Tryd.prog 10 #[.agg #[.bool ln, .string lS, .int .i64 le, .bool bn, .string bS, .int .i64 be, .int .i64 E]] W fun r w' => r = .returned (.tuple #[.agg #[.bool ln, .string lS, .int .i64 le, .bool bn, .string bS, .int .i64 be, .bool mn, .string mS, .int .i64 me, .bool bn, .string bS, .int .i64 be, .bool ln, .string lS, .int .i64 le, .bool nn, .string nS, .int .i64 ne, .bool mn, .string mS, .int .i64 me, .bool nn, .string nS, .int .i64 ne], .int .i64 0]) ∧ Below W.heap.size W w') (a0 : ∀ W : World, Tab W → Calls Tryd.prog 16 #[.agg #[.bool ln, .string lS, .int .i64 le, .bool bn, .string bS, .int .i64 be, .int .i64 E]] W fun r w' => r = .returned (.tuple #[.agg #[.bool tn, .string tS, .int .i64 te], .int .i64 0]) ∧ Below W.heap.size W w') (s0 : ∀ W : World, Tab W → Calls Tryd.prog 17 #[.agg #[.bool false, .string { data := #[] }, .int .i64 0], .agg #[.bool tn, .string tS, .int .i64 te]] W fun r w' => r = .returned (.tuple #[.agg #[.bool tn, .string tS, .int .i64 te], .int .i64 0]) ∧ Below W.heap.size W w') (h0 : ∀ W : World, Tab W → Calls Tryd.prog 11 #[.agg #[.bool ln, .string lS, .int .i64 le, .bool bn, .string bS, .int .i64 be, .int .i64 E], .agg #[.bool jn, .string jS, .int .i64 je, .bool kn, .string kS, .int .i64 ke]] W fun r w' => r = .returned (.tuple #[.bool f0, .int .i64 eh]) ∧ Below W.heap.size W w') (c1 : ∀ W : World, Tab W → Calls Tryd.prog 10 #[.agg #[.bool mn, .string mS, .int .i64 me, .bool bn, .string bS, .int .i64 be, .int .i64 E]] W fun r w' => r = .returned (.tuple #[.agg #[.bool mn, .string mS, .int .i64 me, .bool bn, .string bS, .int .i64 be, .bool pn, .string pS, .int .i64 pe, .bool bn, .string bS, .int .i64 be, .bool mn, .string mS, .int .i64 me, .bool nn, .string nS, .int .i64 ne, .bool pn, .string pS, .int .i64 pe, .bool nn, .string nS, .int .i64 ne], .int .i64 0]) ∧ Below W.heap.size W w') (a1 : ∀ W : World, Tab W → Calls Tryd.prog 16 #[.agg #[.bool mn, .string mS, .int .i64 me, .bool bn, .string bS, .int .i64 be, .int .i64 E]] W fun r w' => r = .returned (.tuple #[.agg #[.bool tn, .string tS, .int .i64 te], .int .i64 0]) ∧ Below W.heap.size W w') (s1 : ∀ W : World, Tab W → Calls Tryd.prog 17 #[.agg #[.bool tn, .string tS, .int .i64 te], .agg #[.bool tn, .string tS, .int .i64 te]] W fun r w' => r = .returned (.tuple #[.agg #[.bool un, .string uS, .int .i64 ue], .int .i64 0]) ∧ Below W.heap.size W w') (h1 : ∀ W : World, Tab W → Calls Tryd.prog 11 #[.agg #[.bool mn, .string mS, .int .i64 me, .bool bn, .string bS, .int .i64 be, .int .i64 E], .agg #[.bool jn, .string jS, .int .i64 je, .bool kn, .string kS, .int .i64 ke]] W fun r w' => r = .returned (.tuple #[.bool f1, .int .i64 eh]) ∧ Below W.heap.size W w') (c2 : ∀ W : World, Tab W → Calls Tryd.prog 10 #[.agg #[.bool ln, .string lS, .int .i64 le, .bool nn, .string nS, .int .i64 ne, .int .i64 E]] W fun r w' => r = .returned (.tuple #[.agg #[.bool ln, .string lS, .int .i64 le, .bool nn, .string nS, .int .i64 ne, .bool mn, .string mS, .int .i64 me, .bool nn, .string nS, .int .i64 ne, .bool ln, .string lS, .int .i64 le, .bool qn, .string qS, .int .i64 qe, .bool mn, .string mS, .int .i64 me, .bool qn, .string qS, .int .i64 qe], .int .i64 0]) ∧ Below W.heap.size W w') (a2 : ∀ W : World, Tab W → Calls Tryd.prog 16 #[.agg #[.bool ln, .string lS, .int .i64 le, .bool nn, .string nS, .int .i64 ne, .int .i64 E]] W fun r w' => r = .returned (.tuple #[.agg #[.bool tn, .string tS, .int .i64 te], .int .i64 0]) ∧ Below W.heap.size W w') (s2 : ∀ W : World, Tab W → Calls Tryd.prog 17 #[.agg #[.bool un, .string uS, .int .i64 ue], .agg #[.bool tn, .string tS, .int .i64 te]] W fun r w' => r = .returned (.tuple #[.agg #[.bool vn, .string vS, .int .i64 ve], .int .i64 0]) ∧ Below W.heap.size W w') (h2 : ∀ W : World, Tab W → Calls Tryd.prog 11 #[.agg #[.bool ln, .string lS, .int .i64 le, .bool nn, .string nS, .int .i64 ne, .int .i64 E], .agg #[.bool jn, .string jS, .int .i64 je, .bool kn, .string kS, .int .i64 ke]] W fun r w' => r = .returned (.tuple #[.bool f2, .int .i64 eh]) ∧ Below W.heap.size W w') (c3 : ∀ W : World, Tab W → Calls Tryd.prog 10 #[.agg #[.bool mn, .string mS, .int .i64 me, .bool nn, .string nS, .int .i64 ne, .int .i64 E]] W fun r w' => r = .returned (.tuple #[.agg #[.bool mn, .string mS, .int .i64 me, .bool nn, .string nS, .int .i64 ne, .bool pn, .string pS, .int .i64 pe, .bool nn, .string nS, .int .i64 ne, .bool mn, .string mS, .int .i64 me, .bool qn, .string qS, .int .i64 qe, .bool pn, .string pS, .int .i64 pe, .bool qn, .string qS, .int .i64 qe], .int .i64 0]) ∧ Below W.heap.size W w') (a3 : ∀ W : World, Tab W → Calls Tryd.prog 16 #[.agg #[.bool mn, .string mS, .int .i64 me, .bool nn, .string nS, .int .i64 ne, .int .i64 E]] W fun r w' => r = .returned (.tuple #[.agg #[.bool tn, .string tS, .int .i64 te], .int .i64 0]) ∧ Below W.heap.size W w') (s3 : ∀ W : World, Tab W → Calls Tryd.prog 17 #[.agg #[.bool vn, .string vS, .int .i64 ve], .agg #[.bool tn, .string tS, .int .i64 te]] W fun r w' => r = .returned (.tuple #[.agg #[.bool an, .string aS, .int .i64 ae], .int .i64 0]) ∧ Below W.heap.size W w') (h3 : ∀ W : World, Tab W → Calls Tryd.prog 11 #[.agg #[.bool mn, .string mS, .int .i64 me, .bool nn, .string nS, .int .i64 ne, .int .i64 E], .agg #[.bool jn, .string jS, .int .i64 je, .bool kn, .string kS, .int .i64 ke]] W fun r w' => r = .returned (.tuple #[.bool f3, .int .i64 eh]) ∧ Below W.heap.size W w') (hs : ∀ W : World, Tab W → Calls Tryd.prog 11 #[.agg #[.bool ln, .string lS, .int .i64 le, .bool bn, .string bS, .int .i64 be, .int .i64 e], .agg #[.bool jn, .string jS, .int .i64 je, .bool kn, .string kS, .int .i64 ke]] W fun r w' => r = .returned (.tuple #[.bool hb, .int .i64 eh]) ∧ Below W.heap.size W w') (z0 : f0 = false ∨ (f0 = true ∧ eh = 0)) (z1 : (f0 = true ∧ y1 = true) ∨ (f0 = false ∧ f1 = false ∧ y1 = false) ∨ (f0 = false ∧ f1 = true ∧ y1 = true ∧ eh = 0)) (z2 : (y1 = true ∧ y2 = true) ∨ (y1 = false ∧ f2 = false ∧ y2 = false) ∨ (y1 = false ∧ f2 = true ∧ y2 = true ∧ eh = 0)) (z3 : (y2 = true ∧ y3 = true) ∨ (y2 = false ∧ f3 = false ∧ y3 = false) ∨ (y2 = false ∧ f3 = true ∧ y3 = true ∧ eh = 0)) (zs : eh ≠ 0 ∨ (eh = 0 ∧ y3 = hb)) (hT : Tab w) :
    Calls Tryd.prog 5 #[.agg #[.bool ln, .string lS, .int .i64 le, .bool bn, .string bS, .int .i64 be, .int .i64 e], .agg #[.bool jn, .string jS, .int .i64 je, .bool kn, .string kS, .int .i64 ke]] w fun r' w' => r' = .returned (.bool true) ∧ Below w.heap.size w w' := by
  have aw := fun W hW => awake24 W hW
  have hw0 : IntKind.i64.wrap 0 = 0 := rfl
  have hw1 : IntKind.i64.wrap 1 = 1 := rfl
  have hw2 : IntKind.i64.wrap 2 = 2 := rfl
  have hw3 : IntKind.i64.wrap 3 = 3 := rfl
  replace z0 := Lib.hid z0
  replace z1 := Lib.hid z1
  replace z2 := Lib.hid z2
  replace z3 := Lib.hid z3
  replace zs := Lib.hid zs
  go_enter Tryd.func5, Tryd.ntmps5
  have B0 := Below.refl w.heap.size w
  as_aux_lemma =>
  have F2 := Blk.put (w) #[.bool ln, .string lS, .int .i64 le, .bool bn, .string bS, .int .i64 be, .int .i64 e] 31
  replace B0 := B0.alloc B0.size (.cells #[.bool ln, .string lS, .int .i64 le, .bool bn, .string bS, .int .i64 be, .int .i64 e] 31)
  replace F2 := F2.allocd (.cells #[.bool jn, .string jS, .int .i64 je, .bool kn, .string kS, .int .i64 ke] 27)
  have F3 := Blk.put ((w).alloc (.cells #[.bool ln, .string lS, .int .i64 le, .bool bn, .string bS, .int .i64 be, .int .i64 e] 31)) #[.bool jn, .string jS, .int .i64 je, .bool kn, .string kS, .int .i64 ke] 27
  rw [show ((w).alloc (.cells #[.bool ln, .string lS, .int .i64 le, .bool bn, .string bS, .int .i64 be, .int .i64 e] 31)).heap.size = w.heap.size + 1 by simp] at F3
  replace B0 := B0.alloc B0.size (.cells #[.bool jn, .string jS, .int .i64 je, .bool kn, .string kS, .int .i64 ke] 27)
  go_wp2_with fail
  (with_reducible refine (aw _ (hT.below B0)).mono ?_)
  rintro r w1 ⟨rfl, hb1⟩
  replace F2 := F2.keep hb1
  replace F3 := F3.keep hb1
  replace B0 := B0.trans (hb1.mono B0.size)
  clear hb1
  obtain ⟨xF21_0, xF21_1, xF21_2, xF21_3, xF21_4, xF21_5, xF21_6⟩ := F2.ce7
  go_wp2_with fail
  (with_reducible refine (hP _ (hT.below B0)).mono ?_)
  rintro r w2 ⟨rfl, hb2⟩
  clear xF21_0 xF21_1 xF21_2 xF21_3 xF21_4 xF21_5 xF21_6
  replace F2 := F2.keep hb2
  replace F3 := F3.keep hb2
  replace B0 := B0.trans (hb2.mono B0.size)
  clear hb2
  dsimp only
  go_step
  refine wpList_move rfl _ (.inl rfl) (.tuple #[.agg #[.bool ln, .string lS, .int .i64 le, .bool bn, .string bS, .int .i64 be, .int .i64 E, .bool mn, .string mS, .int .i64 me, .bool bn, .string bS, .int .i64 be, .int .i64 E, .bool ln, .string lS, .int .i64 le, .bool nn, .string nS, .int .i64 ne, .int .i64 E, .bool mn, .string mS, .int .i64 me, .bool nn, .string nS, .int .i64 ne, .int .i64 E], .int .i64 0]) rfl ?_
  (try dsimp only [Act.put]); (try go_frame)
  refine wpList_extract rfl _ 0 rfl _ (.agg #[.bool ln, .string lS, .int .i64 le, .bool bn, .string bS, .int .i64 be, .int .i64 E, .bool mn, .string mS, .int .i64 me, .bool bn, .string bS, .int .i64 be, .int .i64 E, .bool ln, .string lS, .int .i64 le, .bool nn, .string nS, .int .i64 ne, .int .i64 E, .bool mn, .string mS, .int .i64 me, .bool nn, .string nS, .int .i64 ne, .int .i64 E]) rfl rfl ?_
  (try dsimp only [Act.put]); (try go_frame)
  refine wpList_extract rfl _ 1 rfl _ (.int .i64 0) rfl rfl ?_
  (try dsimp only [Act.put]); (try go_frame)
  refine wpList_new rfl _ rfl _ Tryd.zeroValue45 ?_
  (try dsimp only [Act.put]); (try go_frame)
  refine wpList_store_new rfl _ _ _ rfl _ #[.bool ln, .string lS, .int .i64 le, .bool bn, .string bS, .int .i64 be, .int .i64 E, .bool mn, .string mS, .int .i64 me, .bool bn, .string bS, .int .i64 be, .int .i64 E, .bool ln, .string lS, .int .i64 le, .bool nn, .string nS, .int .i64 ne, .int .i64 E, .bool mn, .string mS, .int .i64 me, .bool nn, .string nS, .int .i64 ne, .int .i64 E] rfl rfl (by kernel_rfl) rfl (by simp [Value.oneCell']) ?_
  (try dsimp only [Act.put]); (try go_frame)
  replace F2 := F2.allocd (.cells #[.bool ln, .string lS, .int .i64 le, .bool bn, .string bS, .int .i64 be, .int .i64 E, .bool mn, .string mS, .int .i64 me, .bool bn, .string bS, .int .i64 be, .int .i64 E, .bool ln, .string lS, .int .i64 le, .bool nn, .string nS, .int .i64 ne, .int .i64 E, .bool mn, .string mS, .int .i64 me, .bool nn, .string nS, .int .i64 ne, .int .i64 E] 45)
  replace F3 := F3.allocd (.cells #[.bool ln, .string lS, .int .i64 le, .bool bn, .string bS, .int .i64 be, .int .i64 E, .bool mn, .string mS, .int .i64 me, .bool bn, .string bS, .int .i64 be, .int .i64 E, .bool ln, .string lS, .int .i64 le, .bool nn, .string nS, .int .i64 ne, .int .i64 E, .bool mn, .string mS, .int .i64 me, .bool nn, .string nS, .int .i64 ne, .int .i64 E] 45)
  have F5 := Blk.put (w2) #[.bool ln, .string lS, .int .i64 le, .bool bn, .string bS, .int .i64 be, .int .i64 E, .bool mn, .string mS, .int .i64 me, .bool bn, .string bS, .int .i64 be, .int .i64 E, .bool ln, .string lS, .int .i64 le, .bool nn, .string nS, .int .i64 ne, .int .i64 E, .bool mn, .string mS, .int .i64 me, .bool nn, .string nS, .int .i64 ne, .int .i64 E] 45
  replace B0 := B0.alloc B0.size (.cells #[.bool ln, .string lS, .int .i64 le, .bool bn, .string bS, .int .i64 be, .int .i64 E, .bool mn, .string mS, .int .i64 me, .bool bn, .string bS, .int .i64 be, .int .i64 E, .bool ln, .string lS, .int .i64 le, .bool nn, .string nS, .int .i64 ne, .int .i64 E, .bool mn, .string mS, .int .i64 me, .bool nn, .string nS, .int .i64 ne, .int .i64 E] 45)
  refine wpList_move rfl _ (.inr rfl) (.int .i64 0) rfl ?_
  (try dsimp only [Act.put]); (try go_frame)
  obtain ⟨xF22_0, xF22_1, xF22_2, xF22_3, xF22_4, xF22_5, xF22_6⟩ := F2.ce7
  go_wp2_with fail
  (with_reducible refine (hC _ (hT.below B0)).mono ?_)
  rintro r w3 ⟨rfl, hb3⟩
  clear xF22_0 xF22_1 xF22_2 xF22_3 xF22_4 xF22_5 xF22_6
  replace F2 := F2.keep hb3
  replace F3 := F3.keep hb3
  replace F5 := F5.keep hb3
  replace B0 := B0.trans (hb3.mono B0.size)
  clear hb3
  dsimp only
  go_step
  refine wpList_move rfl _ (.inl rfl) (.tuple #[.agg #[.bool ln, .string lS, .int .i64 le, .bool bn, .string bS, .int .i64 be, .bool pn, .string pS, .int .i64 pe, .bool bn, .string bS, .int .i64 be, .bool ln, .string lS, .int .i64 le, .bool qn, .string qS, .int .i64 qe, .bool pn, .string pS, .int .i64 pe, .bool qn, .string qS, .int .i64 qe], .int .i64 0]) rfl ?_
  (try dsimp only [Act.put]); (try go_frame)
  refine wpList_extract rfl _ 0 rfl _ (.agg #[.bool ln, .string lS, .int .i64 le, .bool bn, .string bS, .int .i64 be, .bool pn, .string pS, .int .i64 pe, .bool bn, .string bS, .int .i64 be, .bool ln, .string lS, .int .i64 le, .bool qn, .string qS, .int .i64 qe, .bool pn, .string pS, .int .i64 pe, .bool qn, .string qS, .int .i64 qe]) rfl rfl ?_
  (try dsimp only [Act.put]); (try go_frame)
  refine wpList_extract rfl _ 1 rfl _ (.int .i64 0) rfl rfl ?_
  (try dsimp only [Act.put]); (try go_frame)
  refine wpList_new rfl _ rfl _ Tryd.zeroValue35 ?_
  (try dsimp only [Act.put]); (try go_frame)
  refine wpList_store_new rfl _ _ _ rfl _ #[.bool ln, .string lS, .int .i64 le, .bool bn, .string bS, .int .i64 be, .bool pn, .string pS, .int .i64 pe, .bool bn, .string bS, .int .i64 be, .bool ln, .string lS, .int .i64 le, .bool qn, .string qS, .int .i64 qe, .bool pn, .string pS, .int .i64 pe, .bool qn, .string qS, .int .i64 qe] rfl rfl (by kernel_rfl) rfl (by simp [Value.oneCell']) ?_
  (try dsimp only [Act.put]); (try go_frame)
  replace F2 := F2.allocd (.cells #[.bool ln, .string lS, .int .i64 le, .bool bn, .string bS, .int .i64 be, .bool pn, .string pS, .int .i64 pe, .bool bn, .string bS, .int .i64 be, .bool ln, .string lS, .int .i64 le, .bool qn, .string qS, .int .i64 qe, .bool pn, .string pS, .int .i64 pe, .bool qn, .string qS, .int .i64 qe] 35)
  replace F3 := F3.allocd (.cells #[.bool ln, .string lS, .int .i64 le, .bool bn, .string bS, .int .i64 be, .bool pn, .string pS, .int .i64 pe, .bool bn, .string bS, .int .i64 be, .bool ln, .string lS, .int .i64 le, .bool qn, .string qS, .int .i64 qe, .bool pn, .string pS, .int .i64 pe, .bool qn, .string qS, .int .i64 qe] 35)
  replace F5 := F5.allocd (.cells #[.bool ln, .string lS, .int .i64 le, .bool bn, .string bS, .int .i64 be, .bool pn, .string pS, .int .i64 pe, .bool bn, .string bS, .int .i64 be, .bool ln, .string lS, .int .i64 le, .bool qn, .string qS, .int .i64 qe, .bool pn, .string pS, .int .i64 pe, .bool qn, .string qS, .int .i64 qe] 35)
  have F7 := Blk.put (w3) #[.bool ln, .string lS, .int .i64 le, .bool bn, .string bS, .int .i64 be, .bool pn, .string pS, .int .i64 pe, .bool bn, .string bS, .int .i64 be, .bool ln, .string lS, .int .i64 le, .bool qn, .string qS, .int .i64 qe, .bool pn, .string pS, .int .i64 pe, .bool qn, .string qS, .int .i64 qe] 35
  replace B0 := B0.alloc B0.size (.cells #[.bool ln, .string lS, .int .i64 le, .bool bn, .string bS, .int .i64 be, .bool pn, .string pS, .int .i64 pe, .bool bn, .string bS, .int .i64 be, .bool ln, .string lS, .int .i64 le, .bool qn, .string qS, .int .i64 qe, .bool pn, .string pS, .int .i64 pe, .bool qn, .string qS, .int .i64 qe] 35)
  refine wpList_move rfl _ (.inr rfl) (.int .i64 0) rfl ?_
  (try dsimp only [Act.put]); (try go_frame)
  obtain ⟨xF23_0, xF23_1, xF23_2, xF23_3, xF23_4, xF23_5, xF23_6⟩ := F2.ce7
  go_wp2_with fail
  (with_reducible refine (hM _ (hT.below B0)).mono ?_)
  rintro r w4 ⟨rfl, hb4⟩
  clear xF23_0 xF23_1 xF23_2 xF23_3 xF23_4 xF23_5 xF23_6
  replace F2 := F2.keep hb4
  replace F3 := F3.keep hb4
  replace F5 := F5.keep hb4
  replace F7 := F7.keep hb4
  replace B0 := B0.trans (hb4.mono B0.size)
  clear hb4
  replace F2 := F2.allocd (.cells #[.bool mn, .string mS, .int .i64 me, .bool nn, .string nS, .int .i64 ne] 27)
  replace F3 := F3.allocd (.cells #[.bool mn, .string mS, .int .i64 me, .bool nn, .string nS, .int .i64 ne] 27)
  replace F5 := F5.allocd (.cells #[.bool mn, .string mS, .int .i64 me, .bool nn, .string nS, .int .i64 ne] 27)
  replace F7 := F7.allocd (.cells #[.bool mn, .string mS, .int .i64 me, .bool nn, .string nS, .int .i64 ne] 27)
  have F9 := Blk.put (w4) #[.bool mn, .string mS, .int .i64 me, .bool nn, .string nS, .int .i64 ne] 27
  replace B0 := B0.alloc B0.size (.cells #[.bool mn, .string mS, .int .i64 me, .bool nn, .string nS, .int .i64 ne] 27)
  obtain ⟨xF24_0, xF24_1, xF24_2, xF24_3, xF24_4, xF24_5, xF24_6⟩ := F2.ce7
  go_wp2_with fail
  (with_reducible refine (hA _ (hT.below B0)).mono ?_)
  rintro r w5 ⟨rfl, hb5⟩
  clear xF24_0 xF24_1 xF24_2 xF24_3 xF24_4 xF24_5 xF24_6
  replace F2 := F2.keep hb5
  replace F3 := F3.keep hb5
  replace F5 := F5.keep hb5
  replace F7 := F7.keep hb5
  replace F9 := F9.keep hb5
  replace B0 := B0.trans (hb5.mono B0.size)
  clear hb5
  replace F2 := F2.allocd (.cells #[.bool an, .string aS, .int .i64 ae] 25)
  replace F3 := F3.allocd (.cells #[.bool an, .string aS, .int .i64 ae] 25)
  replace F5 := F5.allocd (.cells #[.bool an, .string aS, .int .i64 ae] 25)
  replace F7 := F7.allocd (.cells #[.bool an, .string aS, .int .i64 ae] 25)
  replace F9 := F9.allocd (.cells #[.bool an, .string aS, .int .i64 ae] 25)
  have F11 := Blk.put (w5) #[.bool an, .string aS, .int .i64 ae] 25
  replace B0 := B0.alloc B0.size (.cells #[.bool an, .string aS, .int .i64 ae] 25)
  have q_F2_F13 : Hid (w.heap.size < w5.heap.size + 1) := Lib.hid (by have := F2.lt; first | exact this | omega | (simp; done) | simpa using this)
  have q_F3_F13 : Hid (w.heap.size + 1 < w5.heap.size + 1) := Lib.hid (by have := F3.lt; first | exact this | omega | (simp; done) | simpa using this)
  have q_F5_F13 : Hid (w2.heap.size < w5.heap.size + 1) := Lib.hid (by have := F5.lt; first | exact this | omega | (simp; done) | simpa using this)
  have q_F7_F13 : Hid (w3.heap.size < w5.heap.size + 1) := Lib.hid (by have := F7.lt; first | exact this | omega | (simp; done) | simpa using this)
  have q_F9_F13 : Hid (w4.heap.size < w5.heap.size + 1) := Lib.hid (by have := F9.lt; first | exact this | omega | (simp; done) | simpa using this)
  have q_F11_F13 : Hid (w5.heap.size < w5.heap.size + 1) := Lib.hid (by have := F11.lt; first | exact this | omega | (simp; done) | simpa using this)
  have q_w_F13 : Hid (w.heap.size ≤ w5.heap.size + 1) := Lib.hid (by have := B0.size; first | exact this | omega | (simp; done) | simpa using this)
  replace F2 := F2.allocd (.cells #[.bool false, .string { data := #[] }, .int .i64 0] 25)
  replace F3 := F3.allocd (.cells #[.bool false, .string { data := #[] }, .int .i64 0] 25)
  replace F5 := F5.allocd (.cells #[.bool false, .string { data := #[] }, .int .i64 0] 25)
  replace F7 := F7.allocd (.cells #[.bool false, .string { data := #[] }, .int .i64 0] 25)
  replace F9 := F9.allocd (.cells #[.bool false, .string { data := #[] }, .int .i64 0] 25)
  replace F11 := F11.allocd (.cells #[.bool false, .string { data := #[] }, .int .i64 0] 25)
  have F13 := Blk.put ((w5).alloc (.cells #[.bool an, .string aS, .int .i64 ae] 25)) #[.bool false, .string { data := #[] }, .int .i64 0] 25
  rw [show ((w5).alloc (.cells #[.bool an, .string aS, .int .i64 ae] 25)).heap.size = w5.heap.size + 1 by simp] at F13
  replace B0 := B0.alloc B0.size (.cells #[.bool false, .string { data := #[] }, .int .i64 0] 25)
  go_wp2_with fail
  refine wp_loop_rounds 5 ?_
  rw [rounds_succ]
  go_upto_block 1 with fail
  go_cut [14] (fun s14 wx => s14 = .bool f0 ∧ Blk wx (w.heap.size) #[.bool ln, .string lS, .int .i64 le, .bool bn, .string bS, .int .i64 be, .int .i64 e] 31 ∧ Blk wx (w.heap.size + 1) #[.bool jn, .string jS, .int .i64 je, .bool kn, .string kS, .int .i64 ke] 27 ∧ Blk wx (w2.heap.size) #[.bool ln, .string lS, .int .i64 le, .bool bn, .string bS, .int .i64 be, .int .i64 E, .bool mn, .string mS, .int .i64 me, .bool bn, .string bS, .int .i64 be, .int .i64 E, .bool ln, .string lS, .int .i64 le, .bool nn, .string nS, .int .i64 ne, .int .i64 E, .bool mn, .string mS, .int .i64 me, .bool nn, .string nS, .int .i64 ne, .int .i64 E] 45 ∧ Blk wx (w3.heap.size) #[.bool ln, .string lS, .int .i64 le, .bool bn, .string bS, .int .i64 be, .bool pn, .string pS, .int .i64 pe, .bool bn, .string bS, .int .i64 be, .bool ln, .string lS, .int .i64 le, .bool qn, .string qS, .int .i64 qe, .bool pn, .string pS, .int .i64 pe, .bool qn, .string qS, .int .i64 qe] 35 ∧ Blk wx (w4.heap.size) #[.bool mn, .string mS, .int .i64 me, .bool nn, .string nS, .int .i64 ne] 27 ∧ Blk wx (w5.heap.size) #[.bool an, .string aS, .int .i64 ae] 25 ∧ Blk wx (w5.heap.size + 1) #[.bool tn, .string tS, .int .i64 te] 25 ∧ Below w.heap.size w wx)
  case first =>
    as_aux_lemma =>
    have yF55_0 : (((w5).alloc (.cells #[.bool an, .string aS, .int .i64 ae] 25)).alloc (.cells #[.bool false, .string { data := #[] }, .int .i64 0] 25)).cell? ⟨w2.heap.size, 0, none⟩ = some (.bool ln) := F5.at 0 (by simp)
    have yF55_1 : (((w5).alloc (.cells #[.bool an, .string aS, .int .i64 ae] 25)).alloc (.cells #[.bool false, .string { data := #[] }, .int .i64 0] 25)).cell? ⟨w2.heap.size, 1, none⟩ = some (.string lS) := F5.at 1 (by simp)
    have yF55_2 : (((w5).alloc (.cells #[.bool an, .string aS, .int .i64 ae] 25)).alloc (.cells #[.bool false, .string { data := #[] }, .int .i64 0] 25)).cell? ⟨w2.heap.size, 2, none⟩ = some (.int .i64 le) := F5.at 2 (by simp)
    have yF55_3 : (((w5).alloc (.cells #[.bool an, .string aS, .int .i64 ae] 25)).alloc (.cells #[.bool false, .string { data := #[] }, .int .i64 0] 25)).cell? ⟨w2.heap.size, 3, none⟩ = some (.bool bn) := F5.at 3 (by simp)
    have yF55_4 : (((w5).alloc (.cells #[.bool an, .string aS, .int .i64 ae] 25)).alloc (.cells #[.bool false, .string { data := #[] }, .int .i64 0] 25)).cell? ⟨w2.heap.size, 4, none⟩ = some (.string bS) := F5.at 4 (by simp)
    have yF55_5 : (((w5).alloc (.cells #[.bool an, .string aS, .int .i64 ae] 25)).alloc (.cells #[.bool false, .string { data := #[] }, .int .i64 0] 25)).cell? ⟨w2.heap.size, 5, none⟩ = some (.int .i64 be) := F5.at 5 (by simp)
    have yF55_6 : (((w5).alloc (.cells #[.bool an, .string aS, .int .i64 ae] 25)).alloc (.cells #[.bool false, .string { data := #[] }, .int .i64 0] 25)).cell? ⟨w2.heap.size, 6, none⟩ = some (.int .i64 E) := F5.at 6 (by simp)
    go_wp2_with fail
    (with_reducible refine (c0 _ (hT.below B0)).mono ?_)
    rintro r w6 ⟨rfl, hb6⟩
    clear yF55_0 yF55_1 yF55_2 yF55_3 yF55_4 yF55_5 yF55_6
    replace F2 := F2.keep hb6
    replace F3 := F3.keep hb6
    replace F5 := F5.keep hb6
    replace F7 := F7.keep hb6
    replace F9 := F9.keep hb6
    replace F11 := F11.keep hb6
    replace F13 := F13.keep hb6
    replace B0 := B0.trans (hb6.mono B0.size)
    clear hb6
    dsimp only
    go_step
    refine wpList_move rfl _ (.inl rfl) (.tuple #[.agg #[.bool ln, .string lS, .int .i64 le, .bool bn, .string bS, .int .i64 be, .bool mn, .string mS, .int .i64 me, .bool bn, .string bS, .int .i64 be, .bool ln, .string lS, .int .i64 le, .bool nn, .string nS, .int .i64 ne, .bool mn, .string mS, .int .i64 me, .bool nn, .string nS, .int .i64 ne], .int .i64 0]) rfl ?_
    (try dsimp only [Act.put]); (try go_frame)
    refine wpList_extract rfl _ 0 rfl _ (.agg #[.bool ln, .string lS, .int .i64 le, .bool bn, .string bS, .int .i64 be, .bool mn, .string mS, .int .i64 me, .bool bn, .string bS, .int .i64 be, .bool ln, .string lS, .int .i64 le, .bool nn, .string nS, .int .i64 ne, .bool mn, .string mS, .int .i64 me, .bool nn, .string nS, .int .i64 ne]) rfl rfl ?_
    (try dsimp only [Act.put]); (try go_frame)
    refine wpList_extract rfl _ 1 rfl _ (.int .i64 0) rfl rfl ?_
    (try dsimp only [Act.put]); (try go_frame)
    refine wpList_new rfl _ rfl _ Tryd.zeroValue35 ?_
    (try dsimp only [Act.put]); (try go_frame)
    refine wpList_store_new rfl _ _ _ rfl _ #[.bool ln, .string lS, .int .i64 le, .bool bn, .string bS, .int .i64 be, .bool mn, .string mS, .int .i64 me, .bool bn, .string bS, .int .i64 be, .bool ln, .string lS, .int .i64 le, .bool nn, .string nS, .int .i64 ne, .bool mn, .string mS, .int .i64 me, .bool nn, .string nS, .int .i64 ne] rfl rfl (by kernel_rfl) rfl (by simp [Value.oneCell']) ?_
    (try dsimp only [Act.put]); (try go_frame)
    replace F2 := F2.allocd (.cells #[.bool ln, .string lS, .int .i64 le, .bool bn, .string bS, .int .i64 be, .bool mn, .string mS, .int .i64 me, .bool bn, .string bS, .int .i64 be, .bool ln, .string lS, .int .i64 le, .bool nn, .string nS, .int .i64 ne, .bool mn, .string mS, .int .i64 me, .bool nn, .string nS, .int .i64 ne] 35)
    replace F3 := F3.allocd (.cells #[.bool ln, .string lS, .int .i64 le, .bool bn, .string bS, .int .i64 be, .bool mn, .string mS, .int .i64 me, .bool bn, .string bS, .int .i64 be, .bool ln, .string lS, .int .i64 le, .bool nn, .string nS, .int .i64 ne, .bool mn, .string mS, .int .i64 me, .bool nn, .string nS, .int .i64 ne] 35)
    replace F5 := F5.allocd (.cells #[.bool ln, .string lS, .int .i64 le, .bool bn, .string bS, .int .i64 be, .bool mn, .string mS, .int .i64 me, .bool bn, .string bS, .int .i64 be, .bool ln, .string lS, .int .i64 le, .bool nn, .string nS, .int .i64 ne, .bool mn, .string mS, .int .i64 me, .bool nn, .string nS, .int .i64 ne] 35)
    replace F7 := F7.allocd (.cells #[.bool ln, .string lS, .int .i64 le, .bool bn, .string bS, .int .i64 be, .bool mn, .string mS, .int .i64 me, .bool bn, .string bS, .int .i64 be, .bool ln, .string lS, .int .i64 le, .bool nn, .string nS, .int .i64 ne, .bool mn, .string mS, .int .i64 me, .bool nn, .string nS, .int .i64 ne] 35)
    replace F9 := F9.allocd (.cells #[.bool ln, .string lS, .int .i64 le, .bool bn, .string bS, .int .i64 be, .bool mn, .string mS, .int .i64 me, .bool bn, .string bS, .int .i64 be, .bool ln, .string lS, .int .i64 le, .bool nn, .string nS, .int .i64 ne, .bool mn, .string mS, .int .i64 me, .bool nn, .string nS, .int .i64 ne] 35)
    replace F11 := F11.allocd (.cells #[.bool ln, .string lS, .int .i64 le, .bool bn, .string bS, .int .i64 be, .bool mn, .string mS, .int .i64 me, .bool bn, .string bS, .int .i64 be, .bool ln, .string lS, .int .i64 le, .bool nn, .string nS, .int .i64 ne, .bool mn, .string mS, .int .i64 me, .bool nn, .string nS, .int .i64 ne] 35)
    replace F13 := F13.allocd (.cells #[.bool ln, .string lS, .int .i64 le, .bool bn, .string bS, .int .i64 be, .bool mn, .string mS, .int .i64 me, .bool bn, .string bS, .int .i64 be, .bool ln, .string lS, .int .i64 le, .bool nn, .string nS, .int .i64 ne, .bool mn, .string mS, .int .i64 me, .bool nn, .string nS, .int .i64 ne] 35)
    have F16r0 := Blk.put (w6) #[.bool ln, .string lS, .int .i64 le, .bool bn, .string bS, .int .i64 be, .bool mn, .string mS, .int .i64 me, .bool bn, .string bS, .int .i64 be, .bool ln, .string lS, .int .i64 le, .bool nn, .string nS, .int .i64 ne, .bool mn, .string mS, .int .i64 me, .bool nn, .string nS, .int .i64 ne] 35
    replace B0 := B0.alloc B0.size (.cells #[.bool ln, .string lS, .int .i64 le, .bool bn, .string bS, .int .i64 be, .bool mn, .string mS, .int .i64 me, .bool bn, .string bS, .int .i64 be, .bool ln, .string lS, .int .i64 le, .bool nn, .string nS, .int .i64 ne, .bool mn, .string mS, .int .i64 me, .bool nn, .string nS, .int .i64 ne] 35)
    refine wpList_move rfl _ (.inr rfl) (.int .i64 0) rfl ?_
    (try dsimp only [Act.put]); (try go_frame)
    have yF56_0 : ((w6).alloc (.cells #[.bool ln, .string lS, .int .i64 le, .bool bn, .string bS, .int .i64 be, .bool mn, .string mS, .int .i64 me, .bool bn, .string bS, .int .i64 be, .bool ln, .string lS, .int .i64 le, .bool nn, .string nS, .int .i64 ne, .bool mn, .string mS, .int .i64 me, .bool nn, .string nS, .int .i64 ne] 35)).cell? ⟨w2.heap.size, 0, none⟩ = some (.bool ln) := F5.at 0 (by simp)
    have yF56_1 : ((w6).alloc (.cells #[.bool ln, .string lS, .int .i64 le, .bool bn, .string bS, .int .i64 be, .bool mn, .string mS, .int .i64 me, .bool bn, .string bS, .int .i64 be, .bool ln, .string lS, .int .i64 le, .bool nn, .string nS, .int .i64 ne, .bool mn, .string mS, .int .i64 me, .bool nn, .string nS, .int .i64 ne] 35)).cell? ⟨w2.heap.size, 1, none⟩ = some (.string lS) := F5.at 1 (by simp)
    have yF56_2 : ((w6).alloc (.cells #[.bool ln, .string lS, .int .i64 le, .bool bn, .string bS, .int .i64 be, .bool mn, .string mS, .int .i64 me, .bool bn, .string bS, .int .i64 be, .bool ln, .string lS, .int .i64 le, .bool nn, .string nS, .int .i64 ne, .bool mn, .string mS, .int .i64 me, .bool nn, .string nS, .int .i64 ne] 35)).cell? ⟨w2.heap.size, 2, none⟩ = some (.int .i64 le) := F5.at 2 (by simp)
    have yF56_3 : ((w6).alloc (.cells #[.bool ln, .string lS, .int .i64 le, .bool bn, .string bS, .int .i64 be, .bool mn, .string mS, .int .i64 me, .bool bn, .string bS, .int .i64 be, .bool ln, .string lS, .int .i64 le, .bool nn, .string nS, .int .i64 ne, .bool mn, .string mS, .int .i64 me, .bool nn, .string nS, .int .i64 ne] 35)).cell? ⟨w2.heap.size, 3, none⟩ = some (.bool bn) := F5.at 3 (by simp)
    have yF56_4 : ((w6).alloc (.cells #[.bool ln, .string lS, .int .i64 le, .bool bn, .string bS, .int .i64 be, .bool mn, .string mS, .int .i64 me, .bool bn, .string bS, .int .i64 be, .bool ln, .string lS, .int .i64 le, .bool nn, .string nS, .int .i64 ne, .bool mn, .string mS, .int .i64 me, .bool nn, .string nS, .int .i64 ne] 35)).cell? ⟨w2.heap.size, 4, none⟩ = some (.string bS) := F5.at 4 (by simp)
    have yF56_5 : ((w6).alloc (.cells #[.bool ln, .string lS, .int .i64 le, .bool bn, .string bS, .int .i64 be, .bool mn, .string mS, .int .i64 me, .bool bn, .string bS, .int .i64 be, .bool ln, .string lS, .int .i64 le, .bool nn, .string nS, .int .i64 ne, .bool mn, .string mS, .int .i64 me, .bool nn, .string nS, .int .i64 ne] 35)).cell? ⟨w2.heap.size, 5, none⟩ = some (.int .i64 be) := F5.at 5 (by simp)
    have yF56_6 : ((w6).alloc (.cells #[.bool ln, .string lS, .int .i64 le, .bool bn, .string bS, .int .i64 be, .bool mn, .string mS, .int .i64 me, .bool bn, .string bS, .int .i64 be, .bool ln, .string lS, .int .i64 le, .bool nn, .string nS, .int .i64 ne, .bool mn, .string mS, .int .i64 me, .bool nn, .string nS, .int .i64 ne] 35)).cell? ⟨w2.heap.size, 6, none⟩ = some (.int .i64 E) := F5.at 6 (by simp)
    go_wp2_with fail
    (with_reducible refine (a0 _ (hT.below B0)).mono ?_)
    rintro r w7 ⟨rfl, hb7⟩
    clear yF56_0 yF56_1 yF56_2 yF56_3 yF56_4 yF56_5 yF56_6
    replace F2 := F2.keep hb7
    replace F3 := F3.keep hb7
    replace F5 := F5.keep hb7
    replace F7 := F7.keep hb7
    replace F9 := F9.keep hb7
    replace F11 := F11.keep hb7
    replace F13 := F13.keep hb7
    replace F16r0 := F16r0.keep hb7
    replace B0 := B0.trans (hb7.mono B0.size)
    clear hb7
    replace F2 := F2.allocd (.cells #[.bool tn, .string tS, .int .i64 te] 25)
    replace F3 := F3.allocd (.cells #[.bool tn, .string tS, .int .i64 te] 25)
    replace F5 := F5.allocd (.cells #[.bool tn, .string tS, .int .i64 te] 25)
    replace F7 := F7.allocd (.cells #[.bool tn, .string tS, .int .i64 te] 25)
    replace F9 := F9.allocd (.cells #[.bool tn, .string tS, .int .i64 te] 25)
    replace F11 := F11.allocd (.cells #[.bool tn, .string tS, .int .i64 te] 25)
    replace F13 := F13.allocd (.cells #[.bool tn, .string tS, .int .i64 te] 25)
    replace F16r0 := F16r0.allocd (.cells #[.bool tn, .string tS, .int .i64 te] 25)
    have F18r0 := Blk.put (w7) #[.bool tn, .string tS, .int .i64 te] 25
    replace B0 := B0.alloc B0.size (.cells #[.bool tn, .string tS, .int .i64 te] 25)
    go_wp2_with fail
    refine wp_region_any (by kernel_rfl) ?_
    have yF16r07_0 : ((w7).alloc (.cells #[.bool tn, .string tS, .int .i64 te] 25)).cell? ⟨w6.heap.size, 0, none⟩ = some (.bool ln) := F16r0.at 0 (by simp)
    have yF16r07_1 : ((w7).alloc (.cells #[.bool tn, .string tS, .int .i64 te] 25)).cell? ⟨w6.heap.size, 1, none⟩ = some (.string lS) := F16r0.at 1 (by simp)
    have yF16r07_2 : ((w7).alloc (.cells #[.bool tn, .string tS, .int .i64 te] 25)).cell? ⟨w6.heap.size, 2, none⟩ = some (.int .i64 le) := F16r0.at 2 (by simp)
    have yF16r07_3 : ((w7).alloc (.cells #[.bool tn, .string tS, .int .i64 te] 25)).cell? ⟨w6.heap.size, 3, none⟩ = some (.bool bn) := F16r0.at 3 (by simp)
    have yF16r07_4 : ((w7).alloc (.cells #[.bool tn, .string tS, .int .i64 te] 25)).cell? ⟨w6.heap.size, 4, none⟩ = some (.string bS) := F16r0.at 4 (by simp)
    have yF16r07_5 : ((w7).alloc (.cells #[.bool tn, .string tS, .int .i64 te] 25)).cell? ⟨w6.heap.size, 5, none⟩ = some (.int .i64 be) := F16r0.at 5 (by simp)
    have yF16r07_18 : ((w7).alloc (.cells #[.bool tn, .string tS, .int .i64 te] 25)).cell? ⟨w6.heap.size, 18, none⟩ = some (.bool mn) := F16r0.at 18 (by simp)
    have yF16r07_19 : ((w7).alloc (.cells #[.bool tn, .string tS, .int .i64 te] 25)).cell? ⟨w6.heap.size, 19, none⟩ = some (.string mS) := F16r0.at 19 (by simp)
    have yF16r07_20 : ((w7).alloc (.cells #[.bool tn, .string tS, .int .i64 te] 25)).cell? ⟨w6.heap.size, 20, none⟩ = some (.int .i64 me) := F16r0.at 20 (by simp)
    have yF16r07_21 : ((w7).alloc (.cells #[.bool tn, .string tS, .int .i64 te] 25)).cell? ⟨w6.heap.size, 21, none⟩ = some (.bool nn) := F16r0.at 21 (by simp)
    have yF16r07_22 : ((w7).alloc (.cells #[.bool tn, .string tS, .int .i64 te] 25)).cell? ⟨w6.heap.size, 22, none⟩ = some (.string nS) := F16r0.at 22 (by simp)
    have yF16r07_23 : ((w7).alloc (.cells #[.bool tn, .string tS, .int .i64 te] 25)).cell? ⟨w6.heap.size, 23, none⟩ = some (.int .i64 ne) := F16r0.at 23 (by simp)
    have yF77_0 : ((w7).alloc (.cells #[.bool tn, .string tS, .int .i64 te] 25)).cell? ⟨w3.heap.size, 0, none⟩ = some (.bool ln) := F7.at 0 (by simp)
    have yF77_1 : ((w7).alloc (.cells #[.bool tn, .string tS, .int .i64 te] 25)).cell? ⟨w3.heap.size, 1, none⟩ = some (.string lS) := F7.at 1 (by simp)
    have yF77_2 : ((w7).alloc (.cells #[.bool tn, .string tS, .int .i64 te] 25)).cell? ⟨w3.heap.size, 2, none⟩ = some (.int .i64 le) := F7.at 2 (by simp)
    have yF77_3 : ((w7).alloc (.cells #[.bool tn, .string tS, .int .i64 te] 25)).cell? ⟨w3.heap.size, 3, none⟩ = some (.bool bn) := F7.at 3 (by simp)
    have yF77_4 : ((w7).alloc (.cells #[.bool tn, .string tS, .int .i64 te] 25)).cell? ⟨w3.heap.size, 4, none⟩ = some (.string bS) := F7.at 4 (by simp)
    have yF77_5 : ((w7).alloc (.cells #[.bool tn, .string tS, .int .i64 te] 25)).cell? ⟨w3.heap.size, 5, none⟩ = some (.int .i64 be) := F7.at 5 (by simp)
    obtain ⟨xF97_0, xF97_1, xF97_2, xF97_3, xF97_4, xF97_5⟩ := F9.ce6
    have hHeld : (fun w' : World => w'.cell? ⟨w6.heap.size, 0, none⟩ = some (.bool ln) ∧ w'.cell? ⟨w6.heap.size, 1, none⟩ = some (.string lS) ∧ w'.cell? ⟨w6.heap.size, 2, none⟩ = some (.int .i64 le) ∧ w'.cell? ⟨w6.heap.size, 3, none⟩ = some (.bool bn) ∧ w'.cell? ⟨w6.heap.size, 4, none⟩ = some (.string bS) ∧ w'.cell? ⟨w6.heap.size, 5, none⟩ = some (.int .i64 be) ∧ w'.cell? ⟨w6.heap.size, 18, none⟩ = some (.bool mn) ∧ w'.cell? ⟨w6.heap.size, 19, none⟩ = some (.string mS) ∧ w'.cell? ⟨w6.heap.size, 20, none⟩ = some (.int .i64 me) ∧ w'.cell? ⟨w6.heap.size, 21, none⟩ = some (.bool nn) ∧ w'.cell? ⟨w6.heap.size, 22, none⟩ = some (.string nS) ∧ w'.cell? ⟨w6.heap.size, 23, none⟩ = some (.int .i64 ne) ∧ w'.cell? ⟨w3.heap.size, 0, none⟩ = some (.bool ln) ∧ w'.cell? ⟨w3.heap.size, 1, none⟩ = some (.string lS) ∧ w'.cell? ⟨w3.heap.size, 2, none⟩ = some (.int .i64 le) ∧ w'.cell? ⟨w3.heap.size, 3, none⟩ = some (.bool bn) ∧ w'.cell? ⟨w3.heap.size, 4, none⟩ = some (.string bS) ∧ w'.cell? ⟨w3.heap.size, 5, none⟩ = some (.int .i64 be) ∧ w'.cell? ⟨w4.heap.size, 0, none⟩ = some (.bool mn) ∧ w'.cell? ⟨w4.heap.size, 1, none⟩ = some (.string mS) ∧ w'.cell? ⟨w4.heap.size, 2, none⟩ = some (.int .i64 me) ∧ w'.cell? ⟨w4.heap.size, 3, none⟩ = some (.bool nn) ∧ w'.cell? ⟨w4.heap.size, 4, none⟩ = some (.string nS) ∧ w'.cell? ⟨w4.heap.size, 5, none⟩ = some (.int .i64 ne)) ((w7).alloc (.cells #[.bool tn, .string tS, .int .i64 te] 25)).drew := ⟨yF16r07_0, yF16r07_1, yF16r07_2, yF16r07_3, yF16r07_4, yF16r07_5, yF16r07_18, yF16r07_19, yF16r07_20, yF16r07_21, yF16r07_22, yF16r07_23, yF77_0, yF77_1, yF77_2, yF77_3, yF77_4, yF77_5, xF97_0, xF97_1, xF97_2, xF97_3, xF97_4, xF97_5⟩
    refine wpAny_of_held (S := fun w' : World => w'.cell? ⟨w6.heap.size, 0, none⟩ = some (.bool ln) ∧ w'.cell? ⟨w6.heap.size, 1, none⟩ = some (.string lS) ∧ w'.cell? ⟨w6.heap.size, 2, none⟩ = some (.int .i64 le) ∧ w'.cell? ⟨w6.heap.size, 3, none⟩ = some (.bool bn) ∧ w'.cell? ⟨w6.heap.size, 4, none⟩ = some (.string bS) ∧ w'.cell? ⟨w6.heap.size, 5, none⟩ = some (.int .i64 be) ∧ w'.cell? ⟨w6.heap.size, 18, none⟩ = some (.bool mn) ∧ w'.cell? ⟨w6.heap.size, 19, none⟩ = some (.string mS) ∧ w'.cell? ⟨w6.heap.size, 20, none⟩ = some (.int .i64 me) ∧ w'.cell? ⟨w6.heap.size, 21, none⟩ = some (.bool nn) ∧ w'.cell? ⟨w6.heap.size, 22, none⟩ = some (.string nS) ∧ w'.cell? ⟨w6.heap.size, 23, none⟩ = some (.int .i64 ne) ∧ w'.cell? ⟨w3.heap.size, 0, none⟩ = some (.bool ln) ∧ w'.cell? ⟨w3.heap.size, 1, none⟩ = some (.string lS) ∧ w'.cell? ⟨w3.heap.size, 2, none⟩ = some (.int .i64 le) ∧ w'.cell? ⟨w3.heap.size, 3, none⟩ = some (.bool bn) ∧ w'.cell? ⟨w3.heap.size, 4, none⟩ = some (.string bS) ∧ w'.cell? ⟨w3.heap.size, 5, none⟩ = some (.int .i64 be) ∧ w'.cell? ⟨w4.heap.size, 0, none⟩ = some (.bool mn) ∧ w'.cell? ⟨w4.heap.size, 1, none⟩ = some (.string mS) ∧ w'.cell? ⟨w4.heap.size, 2, none⟩ = some (.int .i64 me) ∧ w'.cell? ⟨w4.heap.size, 3, none⟩ = some (.bool nn) ∧ w'.cell? ⟨w4.heap.size, 4, none⟩ = some (.string nS) ∧ w'.cell? ⟨w4.heap.size, 5, none⟩ = some (.int .i64 ne)) _ _ _ ((w7).alloc (.cells #[.bool tn, .string tS, .int .i64 te] 25)).drew ?_
    replace F2 := F2.drew
    replace F3 := F3.drew
    replace F5 := F5.drew
    replace F7 := F7.drew
    replace F9 := F9.drew
    replace F11 := F11.drew
    replace F13 := F13.drew
    replace F16r0 := F16r0.drew
    replace F18r0 := F18r0.drew
    replace B0 := B0.drew
    generalize ((w7).alloc (.cells #[.bool tn, .string tS, .int .i64 te] 25)).drew = v1 at *
    refine wpAnyH_take (i := 0) (v := _) (by first | (simp only [List.getElem?_toArray, List.getElem?_cons_zero]; rfl) | rfl) (by kernel_rfl) (by kernel_rfl) (by kernel_rfl) (by exact fun _ _ _ h => h) (Or.inl ⟨by rfl, by (intro w hSw; (try dsimp only at hSw); go_simp; try with_reducible rfl)⟩) (by assumption) ?_
    (try dsimp only [Act.put]); (try go_frame)
    refine wpAnyH_take (i := 1) (v := _) (by first | (simp only [List.getElem?_toArray, List.getElem?_cons_zero, List.getElem?_cons_succ]; rfl) | rfl) (by kernel_rfl) (by kernel_rfl) (by kernel_rfl) (by exact fun _ _ _ h => h) (Or.inl ⟨by rfl, by (intro w hSw; (try dsimp only at hSw); go_simp; try with_reducible rfl)⟩) (by assumption) ?_
    (try dsimp only [Act.put]); (try go_frame)
    refine wpAnyH_take (i := 2) (v := _) (by first | (simp only [List.getElem?_toArray, List.getElem?_cons_zero, List.getElem?_cons_succ]; rfl) | rfl) (by kernel_rfl) (by kernel_rfl) (by kernel_rfl) (by exact fun _ _ _ h => h) (Or.inl ⟨by rfl, by (intro w hSw; (try dsimp only at hSw); go_simp; try with_reducible rfl)⟩) (by assumption) ?_
    (try dsimp only [Act.put]); (try go_frame)
    refine wpAnyH_take (i := 3) (v := _) (by first | (simp only [List.getElem?_toArray, List.getElem?_cons_zero, List.getElem?_cons_succ]; rfl) | rfl) (by kernel_rfl) (by kernel_rfl) (by kernel_rfl) (by exact fun _ _ _ h => h) (Or.inl ⟨by rfl, by (intro w hSw; (try dsimp only at hSw); go_simp; try with_reducible rfl)⟩) (by assumption) ?_
    (try dsimp only [Act.put]); (try go_frame)
    refine wpAnyH_take (i := 4) (v := _) (by first | (simp only [List.getElem?_toArray, List.getElem?_cons_zero, List.getElem?_cons_succ]; rfl) | rfl) (by kernel_rfl) (by kernel_rfl) (by kernel_rfl) (by exact fun _ _ _ h => h) (Or.inl ⟨by rfl, by (intro w hSw; (try dsimp only at hSw); go_simp; try with_reducible rfl)⟩) (by assumption) ?_
    (try dsimp only [Act.put]); (try go_frame)
    refine wpAnyH_take (i := 5) (v := _) (by first | (simp only [List.getElem?_toArray, List.getElem?_cons_zero, List.getElem?_cons_succ]; rfl) | rfl) (by kernel_rfl) (by kernel_rfl) (by kernel_rfl) (by exact fun _ _ _ h => h) (Or.inl ⟨by rfl, by (intro w hSw; (try dsimp only at hSw); go_simp; try with_reducible rfl)⟩) (by assumption) ?_
    (try dsimp only [Act.put]); (try go_frame)
    refine wpAnyH_take (i := 6) (v := _) (by first | (simp only [List.getElem?_toArray, List.getElem?_cons_zero, List.getElem?_cons_succ]; rfl) | rfl) (by kernel_rfl) (by kernel_rfl) (by kernel_rfl) (by exact fun _ _ _ h => h) (Or.inl ⟨by rfl, by (intro w hSw; (try dsimp only at hSw); go_simp; try with_reducible rfl)⟩) (by assumption) ?_
    (try dsimp only [Act.put]); (try go_frame)
    refine wpAnyH_take (i := 7) (v := _) (by first | (simp only [List.getElem?_toArray, List.getElem?_cons_zero, List.getElem?_cons_succ]; rfl) | rfl) (by kernel_rfl) (by kernel_rfl) (by kernel_rfl) (by exact fun _ _ _ h => h) (Or.inl ⟨by rfl, by (intro w hSw; (try dsimp only at hSw); go_simp; try with_reducible rfl)⟩) (by assumption) ?_
    (try dsimp only [Act.put]); (try go_frame)
    refine wpAnyH_take (i := 8) (v := _) (by first | (simp only [List.getElem?_toArray, List.getElem?_cons_zero, List.getElem?_cons_succ]; rfl) | rfl) (by kernel_rfl) (by kernel_rfl) (by kernel_rfl) (by exact fun _ _ _ h => h) (Or.inl ⟨by rfl, by (intro w hSw; (try dsimp only at hSw); go_simp; try with_reducible rfl)⟩) (by assumption) ?_
    (try dsimp only [Act.put]); (try go_frame)
    refine wpAnyH_take (i := 9) (v := _) (by first | (simp only [List.getElem?_toArray, List.getElem?_cons_zero, List.getElem?_cons_succ]; rfl) | rfl) (by kernel_rfl) (by kernel_rfl) (by kernel_rfl) (by exact fun _ _ _ h => h) (Or.inl ⟨by rfl, by (intro w hSw; (try dsimp only at hSw); go_simp; try with_reducible rfl)⟩) (by assumption) ?_
    (try dsimp only [Act.put]); (try go_frame)
    refine wpAnyH_take (i := 10) (v := _) (by first | (simp only [List.getElem?_toArray, List.getElem?_cons_zero, List.getElem?_cons_succ]; rfl) | rfl) (by kernel_rfl) (by kernel_rfl) (by kernel_rfl) (by exact fun _ _ _ h => h) (Or.inl ⟨by rfl, by (intro w hSw; (try dsimp only at hSw); go_simp; try with_reducible rfl)⟩) (by assumption) ?_
    (try dsimp only [Act.put]); (try go_frame)
    refine wpAnyH_take (i := 11) (v := _) (by first | (simp only [List.getElem?_toArray, List.getElem?_cons_zero, List.getElem?_cons_succ]; rfl) | rfl) (by kernel_rfl) (by kernel_rfl) (by kernel_rfl) (by exact fun _ _ _ h => h) (Or.inl ⟨by rfl, by (intro w hSw; (try dsimp only at hSw); go_simp; try with_reducible rfl)⟩) (by assumption) ?_
    (try dsimp only [Act.put]); (try go_frame)
    refine wpAnyH_take (i := 12) (v := _) (by first | (simp only [List.getElem?_toArray, List.getElem?_cons_zero, List.getElem?_cons_succ]; rfl) | rfl) (by kernel_rfl) (by kernel_rfl) (by kernel_rfl) (by exact fun _ _ _ h => h) (Or.inl ⟨by rfl, by (intro w hSw; (try dsimp only at hSw); go_simp; try with_reducible rfl)⟩) (by assumption) ?_
    (try dsimp only [Act.put]); (try go_frame)
    refine wpAnyH_take (i := 13) (v := _) (by first | (simp only [List.getElem?_toArray, List.getElem?_cons_zero, List.getElem?_cons_succ]; rfl) | rfl) (by kernel_rfl) (by kernel_rfl) (by kernel_rfl) (by exact fun _ _ _ h => h) (Or.inl ⟨by rfl, by (intro w hSw; (try dsimp only at hSw); go_simp; try with_reducible rfl)⟩) (by assumption) ?_
    (try dsimp only [Act.put]); (try go_frame)
    refine wpAnyH_take (i := 14) (v := _) (by first | (simp only [List.getElem?_toArray, List.getElem?_cons_zero, List.getElem?_cons_succ]; rfl) | rfl) (by kernel_rfl) (by kernel_rfl) (by kernel_rfl) (by exact fun _ _ _ h => h) (Or.inl ⟨by rfl, by (intro w hSw; (try dsimp only at hSw); go_simp; try with_reducible rfl)⟩) (by assumption) ?_
    (try dsimp only [Act.put]); (try go_frame)
    refine wpAnyH_take (i := 15) (v := _) (by first | (simp only [List.getElem?_toArray, List.getElem?_cons_zero, List.getElem?_cons_succ]; rfl) | rfl) (by kernel_rfl) (by kernel_rfl) (by kernel_rfl) (by exact fun _ _ _ h => h) (Or.inl ⟨by rfl, by (intro w hSw; (try dsimp only at hSw); go_simp; try with_reducible rfl)⟩) (by assumption) ?_
    (try dsimp only [Act.put]); (try go_frame)
    refine wpAnyH_take (i := 16) (v := _) (by first | (simp only [List.getElem?_toArray, List.getElem?_cons_zero, List.getElem?_cons_succ]; rfl) | rfl) (by kernel_rfl) (by kernel_rfl) (by kernel_rfl) (by exact fun _ _ _ h => h) (Or.inl ⟨by rfl, by (intro w hSw; (try dsimp only at hSw); go_simp; try with_reducible rfl)⟩) (by assumption) ?_
    (try dsimp only [Act.put]); (try go_frame)
    refine wpAnyH_take (i := 17) (v := _) (by first | (simp only [List.getElem?_toArray, List.getElem?_cons_zero, List.getElem?_cons_succ]; rfl) | rfl) (by kernel_rfl) (by kernel_rfl) (by kernel_rfl) (by exact fun _ _ _ h => h) (Or.inl ⟨by rfl, by (intro w hSw; (try dsimp only at hSw); go_simp; try with_reducible rfl)⟩) (by assumption) ?_
    (try dsimp only [Act.put]); (try go_frame)
    refine wpAnyH_take (i := 18) (v := _) (by first | (simp only [List.getElem?_toArray, List.getElem?_cons_zero, List.getElem?_cons_succ]; rfl) | rfl) (by kernel_rfl) (by kernel_rfl) (by kernel_rfl) (by exact fun _ _ _ h => h) (Or.inl ⟨by rfl, by (intro w hSw; (try dsimp only at hSw); go_simp; try with_reducible rfl)⟩) (by assumption) ?_
    (try dsimp only [Act.put]); (try go_frame)
    refine wpAnyH_take (i := 19) (v := _) (by first | (simp only [List.getElem?_toArray, List.getElem?_cons_zero, List.getElem?_cons_succ]; rfl) | rfl) (by kernel_rfl) (by kernel_rfl) (by kernel_rfl) (by exact fun _ _ _ h => h) (Or.inl ⟨by rfl, by (intro w hSw; (try dsimp only at hSw); go_simp; try with_reducible rfl)⟩) (by assumption) ?_
    (try dsimp only [Act.put]); (try go_frame)
    refine wpAnyH_take (i := 20) (v := _) (by first | (simp only [List.getElem?_toArray, List.getElem?_cons_zero, List.getElem?_cons_succ]; rfl) | rfl) (by kernel_rfl) (by kernel_rfl) (by kernel_rfl) (by exact fun _ _ _ h => h) (Or.inl ⟨by rfl, by (intro w hSw; (try dsimp only at hSw); go_simp; try with_reducible rfl)⟩) (by assumption) ?_
    (try dsimp only [Act.put]); (try go_frame)
    refine wpAnyH_take (i := 21) (v := _) (by first | (simp only [List.getElem?_toArray, List.getElem?_cons_zero, List.getElem?_cons_succ]; rfl) | rfl) (by kernel_rfl) (by kernel_rfl) (by kernel_rfl) (by exact fun _ _ _ h => h) (Or.inl ⟨by rfl, by (intro w hSw; (try dsimp only at hSw); go_simp; try with_reducible rfl)⟩) (by assumption) ?_
    (try dsimp only [Act.put]); (try go_frame)
    refine wpAnyH_take (i := 22) (v := _) (by first | (simp only [List.getElem?_toArray, List.getElem?_cons_zero, List.getElem?_cons_succ]; rfl) | rfl) (by kernel_rfl) (by kernel_rfl) (by kernel_rfl) (by exact fun _ _ _ h => h) (Or.inl ⟨by rfl, by (intro w hSw; (try dsimp only at hSw); go_simp; try with_reducible rfl)⟩) (by assumption) ?_
    (try dsimp only [Act.put]); (try go_frame)
    refine wpAnyH_done (by kernel_rfl) ?_ _
    try simp only [QCut]
    clear hHeld
    clear yF16r07_0 yF16r07_1 yF16r07_2 yF16r07_3 yF16r07_4 yF16r07_5 yF16r07_18 yF16r07_19 yF16r07_20 yF16r07_21 yF16r07_22 yF16r07_23 yF77_0 yF77_1 yF77_2 yF77_3 yF77_4 yF77_5 xF97_0 xF97_1 xF97_2 xF97_3 xF97_4 xF97_5
    obtain ⟨xF139_0, xF139_1, xF139_2⟩ := F13.ce3
    obtain ⟨xF18r09_0, xF18r09_1, xF18r09_2⟩ := F18r0.ce3
    go_wp2_with fail
    (with_reducible refine (s0 _ (hT.below B0)).mono ?_)
    rintro r w8 ⟨rfl, hb8⟩
    clear xF139_0 xF139_1 xF139_2 xF18r09_0 xF18r09_1 xF18r09_2
    replace F2 := F2.keep hb8
    replace F3 := F3.keep hb8
    replace F5 := F5.keep hb8
    replace F7 := F7.keep hb8
    replace F9 := F9.keep hb8
    replace F11 := F11.keep hb8
    replace F13 := F13.keep hb8
    replace F16r0 := F16r0.keep hb8
    replace F18r0 := F18r0.keep hb8
    replace B0 := B0.trans (hb8.mono B0.size)
    clear hb8
    obtain ⟨xF1310_0, xF1310_1, xF1310_2⟩ := F13.ce3
    obtain ⟨xF1310_0f, xF1310_1f, xF1310_2f⟩ := F13.fr3
    replace F2 := (((F2.far 0 (.bool tn) (Nat.ne_of_lt q_F2_F13.out)).far 1 (.string tS) (Nat.ne_of_lt q_F2_F13.out)).far 2 (.int .i64 te) (Nat.ne_of_lt q_F2_F13.out))
    replace F3 := (((F3.far 0 (.bool tn) (Nat.ne_of_lt q_F3_F13.out)).far 1 (.string tS) (Nat.ne_of_lt q_F3_F13.out)).far 2 (.int .i64 te) (Nat.ne_of_lt q_F3_F13.out))
    replace F5 := (((F5.far 0 (.bool tn) (Nat.ne_of_lt q_F5_F13.out)).far 1 (.string tS) (Nat.ne_of_lt q_F5_F13.out)).far 2 (.int .i64 te) (Nat.ne_of_lt q_F5_F13.out))
    replace F7 := (((F7.far 0 (.bool tn) (Nat.ne_of_lt q_F7_F13.out)).far 1 (.string tS) (Nat.ne_of_lt q_F7_F13.out)).far 2 (.int .i64 te) (Nat.ne_of_lt q_F7_F13.out))
    replace F9 := (((F9.far 0 (.bool tn) (Nat.ne_of_lt q_F9_F13.out)).far 1 (.string tS) (Nat.ne_of_lt q_F9_F13.out)).far 2 (.int .i64 te) (Nat.ne_of_lt q_F9_F13.out))
    replace F11 := (((F11.far 0 (.bool tn) (Nat.ne_of_lt q_F11_F13.out)).far 1 (.string tS) (Nat.ne_of_lt q_F11_F13.out)).far 2 (.int .i64 te) (Nat.ne_of_lt q_F11_F13.out))
    clear F16r0
    clear F18r0
    replace F13 : Blk ((((w8).setCell ⟨w5.heap.size + 1, 0, none⟩ (.bool tn)).setCell ⟨w5.heap.size + 1, 1, none⟩ (.string tS)).setCell ⟨w5.heap.size + 1, 2, none⟩ (.int .i64 te)) (w5.heap.size + 1) #[.bool tn, .string tS, .int .i64 te] 25 := (((F13.setAt 0 (.bool tn)).setAt 1 (.string tS)).setAt 2 (.int .i64 te))
    replace B0 := (((B0.setCell (p := ⟨w5.heap.size + 1, 0, none⟩) q_w_F13.out (.bool tn)).setCell (p := ⟨w5.heap.size + 1, 1, none⟩) q_w_F13.out (.string tS)).setCell (p := ⟨w5.heap.size + 1, 2, none⟩) q_w_F13.out (.int .i64 te))
    go_wp2_with fail
    refine wp_region_any (by kernel_rfl) ?_
    have yF511_0 : ((((w8).setCell ⟨w5.heap.size + 1, 0, none⟩ (.bool tn)).setCell ⟨w5.heap.size + 1, 1, none⟩ (.string tS)).setCell ⟨w5.heap.size + 1, 2, none⟩ (.int .i64 te)).cell? ⟨w2.heap.size, 0, none⟩ = some (.bool ln) := F5.at 0 (by simp)
    have yF511_1 : ((((w8).setCell ⟨w5.heap.size + 1, 0, none⟩ (.bool tn)).setCell ⟨w5.heap.size + 1, 1, none⟩ (.string tS)).setCell ⟨w5.heap.size + 1, 2, none⟩ (.int .i64 te)).cell? ⟨w2.heap.size, 1, none⟩ = some (.string lS) := F5.at 1 (by simp)
    have yF511_2 : ((((w8).setCell ⟨w5.heap.size + 1, 0, none⟩ (.bool tn)).setCell ⟨w5.heap.size + 1, 1, none⟩ (.string tS)).setCell ⟨w5.heap.size + 1, 2, none⟩ (.int .i64 te)).cell? ⟨w2.heap.size, 2, none⟩ = some (.int .i64 le) := F5.at 2 (by simp)
    have yF511_3 : ((((w8).setCell ⟨w5.heap.size + 1, 0, none⟩ (.bool tn)).setCell ⟨w5.heap.size + 1, 1, none⟩ (.string tS)).setCell ⟨w5.heap.size + 1, 2, none⟩ (.int .i64 te)).cell? ⟨w2.heap.size, 3, none⟩ = some (.bool bn) := F5.at 3 (by simp)
    have yF511_4 : ((((w8).setCell ⟨w5.heap.size + 1, 0, none⟩ (.bool tn)).setCell ⟨w5.heap.size + 1, 1, none⟩ (.string tS)).setCell ⟨w5.heap.size + 1, 2, none⟩ (.int .i64 te)).cell? ⟨w2.heap.size, 4, none⟩ = some (.string bS) := F5.at 4 (by simp)
    have yF511_5 : ((((w8).setCell ⟨w5.heap.size + 1, 0, none⟩ (.bool tn)).setCell ⟨w5.heap.size + 1, 1, none⟩ (.string tS)).setCell ⟨w5.heap.size + 1, 2, none⟩ (.int .i64 te)).cell? ⟨w2.heap.size, 5, none⟩ = some (.int .i64 be) := F5.at 5 (by simp)
    have yF511_6 : ((((w8).setCell ⟨w5.heap.size + 1, 0, none⟩ (.bool tn)).setCell ⟨w5.heap.size + 1, 1, none⟩ (.string tS)).setCell ⟨w5.heap.size + 1, 2, none⟩ (.int .i64 te)).cell? ⟨w2.heap.size, 6, none⟩ = some (.int .i64 E) := F5.at 6 (by simp)
    obtain ⟨xF311_0, xF311_1, xF311_2, xF311_3, xF311_4, xF311_5⟩ := F3.ce6
    have hHeld : (fun w' : World => w'.cell? ⟨w2.heap.size, 0, none⟩ = some (.bool ln) ∧ w'.cell? ⟨w2.heap.size, 1, none⟩ = some (.string lS) ∧ w'.cell? ⟨w2.heap.size, 2, none⟩ = some (.int .i64 le) ∧ w'.cell? ⟨w2.heap.size, 3, none⟩ = some (.bool bn) ∧ w'.cell? ⟨w2.heap.size, 4, none⟩ = some (.string bS) ∧ w'.cell? ⟨w2.heap.size, 5, none⟩ = some (.int .i64 be) ∧ w'.cell? ⟨w2.heap.size, 6, none⟩ = some (.int .i64 E) ∧ w'.cell? ⟨w.heap.size + 1, 0, none⟩ = some (.bool jn) ∧ w'.cell? ⟨w.heap.size + 1, 1, none⟩ = some (.string jS) ∧ w'.cell? ⟨w.heap.size + 1, 2, none⟩ = some (.int .i64 je) ∧ w'.cell? ⟨w.heap.size + 1, 3, none⟩ = some (.bool kn) ∧ w'.cell? ⟨w.heap.size + 1, 4, none⟩ = some (.string kS) ∧ w'.cell? ⟨w.heap.size + 1, 5, none⟩ = some (.int .i64 ke)) ((((w8).setCell ⟨w5.heap.size + 1, 0, none⟩ (.bool tn)).setCell ⟨w5.heap.size + 1, 1, none⟩ (.string tS)).setCell ⟨w5.heap.size + 1, 2, none⟩ (.int .i64 te)).drew := ⟨yF511_0, yF511_1, yF511_2, yF511_3, yF511_4, yF511_5, yF511_6, xF311_0, xF311_1, xF311_2, xF311_3, xF311_4, xF311_5⟩
    refine wpAny_of_held (S := fun w' : World => w'.cell? ⟨w2.heap.size, 0, none⟩ = some (.bool ln) ∧ w'.cell? ⟨w2.heap.size, 1, none⟩ = some (.string lS) ∧ w'.cell? ⟨w2.heap.size, 2, none⟩ = some (.int .i64 le) ∧ w'.cell? ⟨w2.heap.size, 3, none⟩ = some (.bool bn) ∧ w'.cell? ⟨w2.heap.size, 4, none⟩ = some (.string bS) ∧ w'.cell? ⟨w2.heap.size, 5, none⟩ = some (.int .i64 be) ∧ w'.cell? ⟨w2.heap.size, 6, none⟩ = some (.int .i64 E) ∧ w'.cell? ⟨w.heap.size + 1, 0, none⟩ = some (.bool jn) ∧ w'.cell? ⟨w.heap.size + 1, 1, none⟩ = some (.string jS) ∧ w'.cell? ⟨w.heap.size + 1, 2, none⟩ = some (.int .i64 je) ∧ w'.cell? ⟨w.heap.size + 1, 3, none⟩ = some (.bool kn) ∧ w'.cell? ⟨w.heap.size + 1, 4, none⟩ = some (.string kS) ∧ w'.cell? ⟨w.heap.size + 1, 5, none⟩ = some (.int .i64 ke)) _ _ _ ((((w8).setCell ⟨w5.heap.size + 1, 0, none⟩ (.bool tn)).setCell ⟨w5.heap.size + 1, 1, none⟩ (.string tS)).setCell ⟨w5.heap.size + 1, 2, none⟩ (.int .i64 te)).drew ?_
    replace F2 := F2.drew
    replace F3 := F3.drew
    replace F5 := F5.drew
    replace F7 := F7.drew
    replace F9 := F9.drew
    replace F11 := F11.drew
    replace F13 := F13.drew
    replace B0 := B0.drew
    generalize ((((w8).setCell ⟨w5.heap.size + 1, 0, none⟩ (.bool tn)).setCell ⟨w5.heap.size + 1, 1, none⟩ (.string tS)).setCell ⟨w5.heap.size + 1, 2, none⟩ (.int .i64 te)).drew = v2 at *
    refine wpAnyH_take (i := 0) (v := _) (by first | (simp only [List.getElem?_toArray, List.getElem?_cons_zero]; rfl) | rfl) (by kernel_rfl) (by kernel_rfl) (by kernel_rfl) (by exact fun _ _ _ h => h) (Or.inl ⟨by rfl, by (intro w hSw; (try dsimp only at hSw); go_simp; try with_reducible rfl)⟩) (by assumption) ?_
    (try dsimp only [Act.put]); (try go_frame)
    refine wpAnyH_take (i := 1) (v := _) (by first | (simp only [List.getElem?_toArray, List.getElem?_cons_zero, List.getElem?_cons_succ]; rfl) | rfl) (by kernel_rfl) (by kernel_rfl) (by kernel_rfl) (by exact fun _ _ _ h => h) (Or.inl ⟨by rfl, by (intro w hSw; (try dsimp only at hSw); go_simp; try with_reducible rfl)⟩) (by assumption) ?_
    (try dsimp only [Act.put]); (try go_frame)
    refine wpAnyH_take (i := 2) (v := _) (by first | (simp only [List.getElem?_toArray, List.getElem?_cons_zero, List.getElem?_cons_succ]; rfl) | rfl) (by kernel_rfl) (by kernel_rfl) (by kernel_rfl) (by exact fun _ _ _ h => h) (Or.inl ⟨by rfl, by (intro w hSw; (try dsimp only at hSw); go_simp; try with_reducible rfl)⟩) (by assumption) ?_
    (try dsimp only [Act.put]); (try go_frame)
    refine wpAnyH_take (i := 3) (v := _) (by first | (simp only [List.getElem?_toArray, List.getElem?_cons_zero, List.getElem?_cons_succ]; rfl) | rfl) (by kernel_rfl) (by kernel_rfl) (by kernel_rfl) (by exact fun _ _ _ h => h) (Or.inl ⟨by rfl, by (intro w hSw; (try dsimp only at hSw); go_simp; try with_reducible rfl)⟩) (by assumption) ?_
    (try dsimp only [Act.put]); (try go_frame)
    refine wpAnyH_ready (rs := [4]) (by kernel_rfl) (by simp) ?_
    refine AllReadyH.cons rfl (fun K hK => ?_) AllReadyH.nil
    go_simp
    (with_reducible refine (h0 _ (hT.below B0)).mono ?_)
    rintro r w9 ⟨rfl, hb9⟩
    clear xF1310_0 xF1310_1 xF1310_2 xF1310_0f xF1310_1f xF1310_2f yF511_0 yF511_1 yF511_2 yF511_3 yF511_4 yF511_5 yF511_6 xF311_0 xF311_1 xF311_2 xF311_3 xF311_4 xF311_5
    replace F2 := F2.keep hb9
    replace F3 := F3.keep hb9
    replace F5 := F5.keep hb9
    replace F7 := F7.keep hb9
    replace F9 := F9.keep hb9
    replace F11 := F11.keep hb9
    replace F13 := F13.keep hb9
    replace B0 := B0.trans (hb9.mono B0.size)
    clear hb9
    have yF514_0 : (w9).cell? ⟨w2.heap.size, 0, none⟩ = some (.bool ln) := F5.at 0 (by simp)
    have yF514_1 : (w9).cell? ⟨w2.heap.size, 1, none⟩ = some (.string lS) := F5.at 1 (by simp)
    have yF514_2 : (w9).cell? ⟨w2.heap.size, 2, none⟩ = some (.int .i64 le) := F5.at 2 (by simp)
    have yF514_3 : (w9).cell? ⟨w2.heap.size, 3, none⟩ = some (.bool bn) := F5.at 3 (by simp)
    have yF514_4 : (w9).cell? ⟨w2.heap.size, 4, none⟩ = some (.string bS) := F5.at 4 (by simp)
    have yF514_5 : (w9).cell? ⟨w2.heap.size, 5, none⟩ = some (.int .i64 be) := F5.at 5 (by simp)
    have yF514_6 : (w9).cell? ⟨w2.heap.size, 6, none⟩ = some (.int .i64 E) := F5.at 6 (by simp)
    obtain ⟨xF314_0, xF314_1, xF314_2, xF314_3, xF314_4, xF314_5⟩ := F3.ce6
    refine hK.out _ _ ?_ (fun hHeld => ?_)
    · exact ⟨yF514_0, yF514_1, yF514_2, yF514_3, yF514_4, yF514_5, yF514_6, xF314_0, xF314_1, xF314_2, xF314_3, xF314_4, xF314_5⟩
    clear hK K
    (try dsimp only [Act.put]); (try go_frame)
    refine wpAnyH_take (i := 5) (v := _) (by first | (simp only [List.getElem?_toArray, List.getElem?_cons_zero, List.getElem?_cons_succ]; rfl) | rfl) (by kernel_rfl) (by kernel_rfl) (by kernel_rfl) (by exact fun _ _ _ h => h) (Or.inl ⟨by rfl, by (intro w hSw; (try dsimp only at hSw); go_simp; try with_reducible rfl)⟩) (by assumption) ?_
    (try dsimp only [Act.put]); (try go_frame)
    refine wpAnyH_take (i := 6) (v := _) (by first | (simp only [List.getElem?_toArray, List.getElem?_cons_zero, List.getElem?_cons_succ]; rfl) | rfl) (by kernel_rfl) (by kernel_rfl) (by kernel_rfl) (by exact fun _ _ _ h => h) (Or.inl ⟨by rfl, by (intro w hSw; (try dsimp only at hSw); go_simp; try with_reducible rfl)⟩) (by assumption) ?_
    (try dsimp only [Act.put]); (try go_frame)
    refine wpAnyH_take (i := 7) (v := _) (by first | (simp only [List.getElem?_toArray, List.getElem?_cons_zero, List.getElem?_cons_succ]; rfl) | rfl) (by kernel_rfl) (by kernel_rfl) (by kernel_rfl) (by exact fun _ _ _ h => h) (Or.inl ⟨by rfl, by (intro w hSw; (try dsimp only at hSw); go_simp; try with_reducible rfl)⟩) (by assumption) ?_
    (try dsimp only [Act.put]); (try go_frame)
    refine wpAnyH_take (i := 8) (v := _) (by first | (simp only [List.getElem?_toArray, List.getElem?_cons_zero, List.getElem?_cons_succ]; rfl) | rfl) (by kernel_rfl) (by kernel_rfl) (by kernel_rfl) (by exact fun _ _ _ h => h) (Or.inl ⟨by rfl, by (intro w hSw; (try dsimp only at hSw); go_simp; try with_reducible rfl)⟩) (by assumption) ?_
    (try dsimp only [Act.put]); (try go_frame)
    refine wpAnyH_take (i := 9) (v := _) (by first | (simp only [List.getElem?_toArray, List.getElem?_cons_zero, List.getElem?_cons_succ]; rfl) | rfl) (by kernel_rfl) (by kernel_rfl) (by kernel_rfl) (by exact fun _ _ _ h => h) (Or.inl ⟨by rfl, by (intro w hSw; (try dsimp only at hSw); go_simp; try with_reducible rfl)⟩) (by assumption) ?_
    (try dsimp only [Act.put]); (try go_frame)
    refine wpAnyH_done (by kernel_rfl) ?_ _
    try simp only [QCut]
    clear hHeld
    clear yF514_0 yF514_1 yF514_2 yF514_3 yF514_4 yF514_5 yF514_6 xF314_0 xF314_1 xF314_2 xF314_3 xF314_4 xF314_5
    rcases z0.out with rfl | ⟨rfl, rfl⟩
    · clear z0
      go_wp2_with fail
      go_meet
      exact ⟨by first | rfl | simp, F2, F3, F5, F7, F9, F11, F13, B0⟩
    · clear z0
      go_wp2_with fail
      go_meet
      exact ⟨by first | rfl | simp, F2, F3, F5, F7, F9, F11, F13, B0⟩
  case rest =>
    clear B0
    clear F2
    clear F3
    clear F5
    clear F7
    clear F9
    clear F11
    clear F13
    obtain ⟨rfl, F2, F3, F5, F7, F9, F11, F13, B0⟩ := hcut
    generalize wc = v1 at *
    go_wp2_with fail
    rw [rounds_succ]
    go_upto_block 1 with fail
    go_cut [14] (fun s14 wx => s14 = .bool y1 ∧ Blk wx (w.heap.size) #[.bool ln, .string lS, .int .i64 le, .bool bn, .string bS, .int .i64 be, .int .i64 e] 31 ∧ Blk wx (w.heap.size + 1) #[.bool jn, .string jS, .int .i64 je, .bool kn, .string kS, .int .i64 ke] 27 ∧ Blk wx (w2.heap.size) #[.bool ln, .string lS, .int .i64 le, .bool bn, .string bS, .int .i64 be, .int .i64 E, .bool mn, .string mS, .int .i64 me, .bool bn, .string bS, .int .i64 be, .int .i64 E, .bool ln, .string lS, .int .i64 le, .bool nn, .string nS, .int .i64 ne, .int .i64 E, .bool mn, .string mS, .int .i64 me, .bool nn, .string nS, .int .i64 ne, .int .i64 E] 45 ∧ Blk wx (w3.heap.size) #[.bool ln, .string lS, .int .i64 le, .bool bn, .string bS, .int .i64 be, .bool pn, .string pS, .int .i64 pe, .bool bn, .string bS, .int .i64 be, .bool ln, .string lS, .int .i64 le, .bool qn, .string qS, .int .i64 qe, .bool pn, .string pS, .int .i64 pe, .bool qn, .string qS, .int .i64 qe] 35 ∧ Blk wx (w4.heap.size) #[.bool mn, .string mS, .int .i64 me, .bool nn, .string nS, .int .i64 ne] 27 ∧ Blk wx (w5.heap.size) #[.bool an, .string aS, .int .i64 ae] 25 ∧ Blk wx (w5.heap.size + 1) #[.bool un, .string uS, .int .i64 ue] 25 ∧ Below w.heap.size w wx)
    case first =>
      as_aux_lemma =>
      have yF56_7 : (v1).cell? ⟨w2.heap.size, 7, none⟩ = some (.bool mn) := F5.at 7 (by simp)
      have yF56_8 : (v1).cell? ⟨w2.heap.size, 8, none⟩ = some (.string mS) := F5.at 8 (by simp)
      have yF56_9 : (v1).cell? ⟨w2.heap.size, 9, none⟩ = some (.int .i64 me) := F5.at 9 (by simp)
      have yF56_10 : (v1).cell? ⟨w2.heap.size, 10, none⟩ = some (.bool bn) := F5.at 10 (by simp)
      have yF56_11 : (v1).cell? ⟨w2.heap.size, 11, none⟩ = some (.string bS) := F5.at 11 (by simp)
      have yF56_12 : (v1).cell? ⟨w2.heap.size, 12, none⟩ = some (.int .i64 be) := F5.at 12 (by simp)
      have yF56_13 : (v1).cell? ⟨w2.heap.size, 13, none⟩ = some (.int .i64 E) := F5.at 13 (by simp)
      go_wp2_with fail
      (with_reducible refine (c1 _ (hT.below B0)).mono ?_)
      rintro r w6 ⟨rfl, hb6⟩
      clear yF56_7 yF56_8 yF56_9 yF56_10 yF56_11 yF56_12 yF56_13
      replace F2 := F2.keep hb6
      replace F3 := F3.keep hb6
      replace F5 := F5.keep hb6
      replace F7 := F7.keep hb6
      replace F9 := F9.keep hb6
      replace F11 := F11.keep hb6
      replace F13 := F13.keep hb6
      replace B0 := B0.trans (hb6.mono B0.size)
      clear hb6
      dsimp only
      go_step
      refine wpList_move rfl _ (.inl rfl) (.tuple #[.agg #[.bool mn, .string mS, .int .i64 me, .bool bn, .string bS, .int .i64 be, .bool pn, .string pS, .int .i64 pe, .bool bn, .string bS, .int .i64 be, .bool mn, .string mS, .int .i64 me, .bool nn, .string nS, .int .i64 ne, .bool pn, .string pS, .int .i64 pe, .bool nn, .string nS, .int .i64 ne], .int .i64 0]) rfl ?_
      (try dsimp only [Act.put]); (try go_frame)
      refine wpList_extract rfl _ 0 rfl _ (.agg #[.bool mn, .string mS, .int .i64 me, .bool bn, .string bS, .int .i64 be, .bool pn, .string pS, .int .i64 pe, .bool bn, .string bS, .int .i64 be, .bool mn, .string mS, .int .i64 me, .bool nn, .string nS, .int .i64 ne, .bool pn, .string pS, .int .i64 pe, .bool nn, .string nS, .int .i64 ne]) rfl rfl ?_
      (try dsimp only [Act.put]); (try go_frame)
      refine wpList_extract rfl _ 1 rfl _ (.int .i64 0) rfl rfl ?_
      (try dsimp only [Act.put]); (try go_frame)
      refine wpList_new rfl _ rfl _ Tryd.zeroValue35 ?_
      (try dsimp only [Act.put]); (try go_frame)
      refine wpList_store_new rfl _ _ _ rfl _ #[.bool mn, .string mS, .int .i64 me, .bool bn, .string bS, .int .i64 be, .bool pn, .string pS, .int .i64 pe, .bool bn, .string bS, .int .i64 be, .bool mn, .string mS, .int .i64 me, .bool nn, .string nS, .int .i64 ne, .bool pn, .string pS, .int .i64 pe, .bool nn, .string nS, .int .i64 ne] rfl rfl (by kernel_rfl) rfl (by simp [Value.oneCell']) ?_
      (try dsimp only [Act.put]); (try go_frame)
      replace F2 := F2.allocd (.cells #[.bool mn, .string mS, .int .i64 me, .bool bn, .string bS, .int .i64 be, .bool pn, .string pS, .int .i64 pe, .bool bn, .string bS, .int .i64 be, .bool mn, .string mS, .int .i64 me, .bool nn, .string nS, .int .i64 ne, .bool pn, .string pS, .int .i64 pe, .bool nn, .string nS, .int .i64 ne] 35)
      replace F3 := F3.allocd (.cells #[.bool mn, .string mS, .int .i64 me, .bool bn, .string bS, .int .i64 be, .bool pn, .string pS, .int .i64 pe, .bool bn, .string bS, .int .i64 be, .bool mn, .string mS, .int .i64 me, .bool nn, .string nS, .int .i64 ne, .bool pn, .string pS, .int .i64 pe, .bool nn, .string nS, .int .i64 ne] 35)
      replace F5 := F5.allocd (.cells #[.bool mn, .string mS, .int .i64 me, .bool bn, .string bS, .int .i64 be, .bool pn, .string pS, .int .i64 pe, .bool bn, .string bS, .int .i64 be, .bool mn, .string mS, .int .i64 me, .bool nn, .string nS, .int .i64 ne, .bool pn, .string pS, .int .i64 pe, .bool nn, .string nS, .int .i64 ne] 35)
      replace F7 := F7.allocd (.cells #[.bool mn, .string mS, .int .i64 me, .bool bn, .string bS, .int .i64 be, .bool pn, .string pS, .int .i64 pe, .bool bn, .string bS, .int .i64 be, .bool mn, .string mS, .int .i64 me, .bool nn, .string nS, .int .i64 ne, .bool pn, .string pS, .int .i64 pe, .bool nn, .string nS, .int .i64 ne] 35)
      replace F9 := F9.allocd (.cells #[.bool mn, .string mS, .int .i64 me, .bool bn, .string bS, .int .i64 be, .bool pn, .string pS, .int .i64 pe, .bool bn, .string bS, .int .i64 be, .bool mn, .string mS, .int .i64 me, .bool nn, .string nS, .int .i64 ne, .bool pn, .string pS, .int .i64 pe, .bool nn, .string nS, .int .i64 ne] 35)
      replace F11 := F11.allocd (.cells #[.bool mn, .string mS, .int .i64 me, .bool bn, .string bS, .int .i64 be, .bool pn, .string pS, .int .i64 pe, .bool bn, .string bS, .int .i64 be, .bool mn, .string mS, .int .i64 me, .bool nn, .string nS, .int .i64 ne, .bool pn, .string pS, .int .i64 pe, .bool nn, .string nS, .int .i64 ne] 35)
      replace F13 := F13.allocd (.cells #[.bool mn, .string mS, .int .i64 me, .bool bn, .string bS, .int .i64 be, .bool pn, .string pS, .int .i64 pe, .bool bn, .string bS, .int .i64 be, .bool mn, .string mS, .int .i64 me, .bool nn, .string nS, .int .i64 ne, .bool pn, .string pS, .int .i64 pe, .bool nn, .string nS, .int .i64 ne] 35)
      have F16r1 := Blk.put (w6) #[.bool mn, .string mS, .int .i64 me, .bool bn, .string bS, .int .i64 be, .bool pn, .string pS, .int .i64 pe, .bool bn, .string bS, .int .i64 be, .bool mn, .string mS, .int .i64 me, .bool nn, .string nS, .int .i64 ne, .bool pn, .string pS, .int .i64 pe, .bool nn, .string nS, .int .i64 ne] 35
      replace B0 := B0.alloc B0.size (.cells #[.bool mn, .string mS, .int .i64 me, .bool bn, .string bS, .int .i64 be, .bool pn, .string pS, .int .i64 pe, .bool bn, .string bS, .int .i64 be, .bool mn, .string mS, .int .i64 me, .bool nn, .string nS, .int .i64 ne, .bool pn, .string pS, .int .i64 pe, .bool nn, .string nS, .int .i64 ne] 35)
      refine wpList_move rfl _ (.inr rfl) (.int .i64 0) rfl ?_
      (try dsimp only [Act.put]); (try go_frame)
      have yF57_7 : ((w6).alloc (.cells #[.bool mn, .string mS, .int .i64 me, .bool bn, .string bS, .int .i64 be, .bool pn, .string pS, .int .i64 pe, .bool bn, .string bS, .int .i64 be, .bool mn, .string mS, .int .i64 me, .bool nn, .string nS, .int .i64 ne, .bool pn, .string pS, .int .i64 pe, .bool nn, .string nS, .int .i64 ne] 35)).cell? ⟨w2.heap.size, 7, none⟩ = some (.bool mn) := F5.at 7 (by simp)
      have yF57_8 : ((w6).alloc (.cells #[.bool mn, .string mS, .int .i64 me, .bool bn, .string bS, .int .i64 be, .bool pn, .string pS, .int .i64 pe, .bool bn, .string bS, .int .i64 be, .bool mn, .string mS, .int .i64 me, .bool nn, .string nS, .int .i64 ne, .bool pn, .string pS, .int .i64 pe, .bool nn, .string nS, .int .i64 ne] 35)).cell? ⟨w2.heap.size, 8, none⟩ = some (.string mS) := F5.at 8 (by simp)
      have yF57_9 : ((w6).alloc (.cells #[.bool mn, .string mS, .int .i64 me, .bool bn, .string bS, .int .i64 be, .bool pn, .string pS, .int .i64 pe, .bool bn, .string bS, .int .i64 be, .bool mn, .string mS, .int .i64 me, .bool nn, .string nS, .int .i64 ne, .bool pn, .string pS, .int .i64 pe, .bool nn, .string nS, .int .i64 ne] 35)).cell? ⟨w2.heap.size, 9, none⟩ = some (.int .i64 me) := F5.at 9 (by simp)
      have yF57_10 : ((w6).alloc (.cells #[.bool mn, .string mS, .int .i64 me, .bool bn, .string bS, .int .i64 be, .bool pn, .string pS, .int .i64 pe, .bool bn, .string bS, .int .i64 be, .bool mn, .string mS, .int .i64 me, .bool nn, .string nS, .int .i64 ne, .bool pn, .string pS, .int .i64 pe, .bool nn, .string nS, .int .i64 ne] 35)).cell? ⟨w2.heap.size, 10, none⟩ = some (.bool bn) := F5.at 10 (by simp)
      have yF57_11 : ((w6).alloc (.cells #[.bool mn, .string mS, .int .i64 me, .bool bn, .string bS, .int .i64 be, .bool pn, .string pS, .int .i64 pe, .bool bn, .string bS, .int .i64 be, .bool mn, .string mS, .int .i64 me, .bool nn, .string nS, .int .i64 ne, .bool pn, .string pS, .int .i64 pe, .bool nn, .string nS, .int .i64 ne] 35)).cell? ⟨w2.heap.size, 11, none⟩ = some (.string bS) := F5.at 11 (by simp)
      have yF57_12 : ((w6).alloc (.cells #[.bool mn, .string mS, .int .i64 me, .bool bn, .string bS, .int .i64 be, .bool pn, .string pS, .int .i64 pe, .bool bn, .string bS, .int .i64 be, .bool mn, .string mS, .int .i64 me, .bool nn, .string nS, .int .i64 ne, .bool pn, .string pS, .int .i64 pe, .bool nn, .string nS, .int .i64 ne] 35)).cell? ⟨w2.heap.size, 12, none⟩ = some (.int .i64 be) := F5.at 12 (by simp)
      have yF57_13 : ((w6).alloc (.cells #[.bool mn, .string mS, .int .i64 me, .bool bn, .string bS, .int .i64 be, .bool pn, .string pS, .int .i64 pe, .bool bn, .string bS, .int .i64 be, .bool mn, .string mS, .int .i64 me, .bool nn, .string nS, .int .i64 ne, .bool pn, .string pS, .int .i64 pe, .bool nn, .string nS, .int .i64 ne] 35)).cell? ⟨w2.heap.size, 13, none⟩ = some (.int .i64 E) := F5.at 13 (by simp)
      go_wp2_with fail
      (with_reducible refine (a1 _ (hT.below B0)).mono ?_)
      rintro r w7 ⟨rfl, hb7⟩
      clear yF57_7 yF57_8 yF57_9 yF57_10 yF57_11 yF57_12 yF57_13
      replace F2 := F2.keep hb7
      replace F3 := F3.keep hb7
      replace F5 := F5.keep hb7
      replace F7 := F7.keep hb7
      replace F9 := F9.keep hb7
      replace F11 := F11.keep hb7
      replace F13 := F13.keep hb7
      replace F16r1 := F16r1.keep hb7
      replace B0 := B0.trans (hb7.mono B0.size)
      clear hb7
      replace F2 := F2.allocd (.cells #[.bool tn, .string tS, .int .i64 te] 25)
      replace F3 := F3.allocd (.cells #[.bool tn, .string tS, .int .i64 te] 25)
      replace F5 := F5.allocd (.cells #[.bool tn, .string tS, .int .i64 te] 25)
      replace F7 := F7.allocd (.cells #[.bool tn, .string tS, .int .i64 te] 25)
      replace F9 := F9.allocd (.cells #[.bool tn, .string tS, .int .i64 te] 25)
      replace F11 := F11.allocd (.cells #[.bool tn, .string tS, .int .i64 te] 25)
      replace F13 := F13.allocd (.cells #[.bool tn, .string tS, .int .i64 te] 25)
      replace F16r1 := F16r1.allocd (.cells #[.bool tn, .string tS, .int .i64 te] 25)
      have F18r1 := Blk.put (w7) #[.bool tn, .string tS, .int .i64 te] 25
      replace B0 := B0.alloc B0.size (.cells #[.bool tn, .string tS, .int .i64 te] 25)
      go_wp2_with fail
      refine wp_region_any (by kernel_rfl) ?_
      have yF16r18_6 : ((w7).alloc (.cells #[.bool tn, .string tS, .int .i64 te] 25)).cell? ⟨w6.heap.size, 6, none⟩ = some (.bool pn) := F16r1.at 6 (by simp)
      have yF16r18_7 : ((w7).alloc (.cells #[.bool tn, .string tS, .int .i64 te] 25)).cell? ⟨w6.heap.size, 7, none⟩ = some (.string pS) := F16r1.at 7 (by simp)
      have yF16r18_8 : ((w7).alloc (.cells #[.bool tn, .string tS, .int .i64 te] 25)).cell? ⟨w6.heap.size, 8, none⟩ = some (.int .i64 pe) := F16r1.at 8 (by simp)
      have yF16r18_9 : ((w7).alloc (.cells #[.bool tn, .string tS, .int .i64 te] 25)).cell? ⟨w6.heap.size, 9, none⟩ = some (.bool bn) := F16r1.at 9 (by simp)
      have yF16r18_10 : ((w7).alloc (.cells #[.bool tn, .string tS, .int .i64 te] 25)).cell? ⟨w6.heap.size, 10, none⟩ = some (.string bS) := F16r1.at 10 (by simp)
      have yF16r18_11 : ((w7).alloc (.cells #[.bool tn, .string tS, .int .i64 te] 25)).cell? ⟨w6.heap.size, 11, none⟩ = some (.int .i64 be) := F16r1.at 11 (by simp)
      have yF16r18_12 : ((w7).alloc (.cells #[.bool tn, .string tS, .int .i64 te] 25)).cell? ⟨w6.heap.size, 12, none⟩ = some (.bool mn) := F16r1.at 12 (by simp)
      have yF16r18_13 : ((w7).alloc (.cells #[.bool tn, .string tS, .int .i64 te] 25)).cell? ⟨w6.heap.size, 13, none⟩ = some (.string mS) := F16r1.at 13 (by simp)
      have yF16r18_14 : ((w7).alloc (.cells #[.bool tn, .string tS, .int .i64 te] 25)).cell? ⟨w6.heap.size, 14, none⟩ = some (.int .i64 me) := F16r1.at 14 (by simp)
      have yF16r18_15 : ((w7).alloc (.cells #[.bool tn, .string tS, .int .i64 te] 25)).cell? ⟨w6.heap.size, 15, none⟩ = some (.bool nn) := F16r1.at 15 (by simp)
      have yF16r18_16 : ((w7).alloc (.cells #[.bool tn, .string tS, .int .i64 te] 25)).cell? ⟨w6.heap.size, 16, none⟩ = some (.string nS) := F16r1.at 16 (by simp)
      have yF16r18_17 : ((w7).alloc (.cells #[.bool tn, .string tS, .int .i64 te] 25)).cell? ⟨w6.heap.size, 17, none⟩ = some (.int .i64 ne) := F16r1.at 17 (by simp)
      have yF78_6 : ((w7).alloc (.cells #[.bool tn, .string tS, .int .i64 te] 25)).cell? ⟨w3.heap.size, 6, none⟩ = some (.bool pn) := F7.at 6 (by simp)
      have yF78_7 : ((w7).alloc (.cells #[.bool tn, .string tS, .int .i64 te] 25)).cell? ⟨w3.heap.size, 7, none⟩ = some (.string pS) := F7.at 7 (by simp)
      have yF78_8 : ((w7).alloc (.cells #[.bool tn, .string tS, .int .i64 te] 25)).cell? ⟨w3.heap.size, 8, none⟩ = some (.int .i64 pe) := F7.at 8 (by simp)
      have yF78_9 : ((w7).alloc (.cells #[.bool tn, .string tS, .int .i64 te] 25)).cell? ⟨w3.heap.size, 9, none⟩ = some (.bool bn) := F7.at 9 (by simp)
      have yF78_10 : ((w7).alloc (.cells #[.bool tn, .string tS, .int .i64 te] 25)).cell? ⟨w3.heap.size, 10, none⟩ = some (.string bS) := F7.at 10 (by simp)
      have yF78_11 : ((w7).alloc (.cells #[.bool tn, .string tS, .int .i64 te] 25)).cell? ⟨w3.heap.size, 11, none⟩ = some (.int .i64 be) := F7.at 11 (by simp)
      obtain ⟨xF98_0, xF98_1, xF98_2, xF98_3, xF98_4, xF98_5⟩ := F9.ce6
      have hHeld : (fun w' : World => w'.cell? ⟨w6.heap.size, 6, none⟩ = some (.bool pn) ∧ w'.cell? ⟨w6.heap.size, 7, none⟩ = some (.string pS) ∧ w'.cell? ⟨w6.heap.size, 8, none⟩ = some (.int .i64 pe) ∧ w'.cell? ⟨w6.heap.size, 9, none⟩ = some (.bool bn) ∧ w'.cell? ⟨w6.heap.size, 10, none⟩ = some (.string bS) ∧ w'.cell? ⟨w6.heap.size, 11, none⟩ = some (.int .i64 be) ∧ w'.cell? ⟨w6.heap.size, 12, none⟩ = some (.bool mn) ∧ w'.cell? ⟨w6.heap.size, 13, none⟩ = some (.string mS) ∧ w'.cell? ⟨w6.heap.size, 14, none⟩ = some (.int .i64 me) ∧ w'.cell? ⟨w6.heap.size, 15, none⟩ = some (.bool nn) ∧ w'.cell? ⟨w6.heap.size, 16, none⟩ = some (.string nS) ∧ w'.cell? ⟨w6.heap.size, 17, none⟩ = some (.int .i64 ne) ∧ w'.cell? ⟨w3.heap.size, 6, none⟩ = some (.bool pn) ∧ w'.cell? ⟨w3.heap.size, 7, none⟩ = some (.string pS) ∧ w'.cell? ⟨w3.heap.size, 8, none⟩ = some (.int .i64 pe) ∧ w'.cell? ⟨w3.heap.size, 9, none⟩ = some (.bool bn) ∧ w'.cell? ⟨w3.heap.size, 10, none⟩ = some (.string bS) ∧ w'.cell? ⟨w3.heap.size, 11, none⟩ = some (.int .i64 be) ∧ w'.cell? ⟨w4.heap.size, 0, none⟩ = some (.bool mn) ∧ w'.cell? ⟨w4.heap.size, 1, none⟩ = some (.string mS) ∧ w'.cell? ⟨w4.heap.size, 2, none⟩ = some (.int .i64 me) ∧ w'.cell? ⟨w4.heap.size, 3, none⟩ = some (.bool nn) ∧ w'.cell? ⟨w4.heap.size, 4, none⟩ = some (.string nS) ∧ w'.cell? ⟨w4.heap.size, 5, none⟩ = some (.int .i64 ne)) ((w7).alloc (.cells #[.bool tn, .string tS, .int .i64 te] 25)).drew := ⟨yF16r18_6, yF16r18_7, yF16r18_8, yF16r18_9, yF16r18_10, yF16r18_11, yF16r18_12, yF16r18_13, yF16r18_14, yF16r18_15, yF16r18_16, yF16r18_17, yF78_6, yF78_7, yF78_8, yF78_9, yF78_10, yF78_11, xF98_0, xF98_1, xF98_2, xF98_3, xF98_4, xF98_5⟩
      refine wpAny_of_held (S := fun w' : World => w'.cell? ⟨w6.heap.size, 6, none⟩ = some (.bool pn) ∧ w'.cell? ⟨w6.heap.size, 7, none⟩ = some (.string pS) ∧ w'.cell? ⟨w6.heap.size, 8, none⟩ = some (.int .i64 pe) ∧ w'.cell? ⟨w6.heap.size, 9, none⟩ = some (.bool bn) ∧ w'.cell? ⟨w6.heap.size, 10, none⟩ = some (.string bS) ∧ w'.cell? ⟨w6.heap.size, 11, none⟩ = some (.int .i64 be) ∧ w'.cell? ⟨w6.heap.size, 12, none⟩ = some (.bool mn) ∧ w'.cell? ⟨w6.heap.size, 13, none⟩ = some (.string mS) ∧ w'.cell? ⟨w6.heap.size, 14, none⟩ = some (.int .i64 me) ∧ w'.cell? ⟨w6.heap.size, 15, none⟩ = some (.bool nn) ∧ w'.cell? ⟨w6.heap.size, 16, none⟩ = some (.string nS) ∧ w'.cell? ⟨w6.heap.size, 17, none⟩ = some (.int .i64 ne) ∧ w'.cell? ⟨w3.heap.size, 6, none⟩ = some (.bool pn) ∧ w'.cell? ⟨w3.heap.size, 7, none⟩ = some (.string pS) ∧ w'.cell? ⟨w3.heap.size, 8, none⟩ = some (.int .i64 pe) ∧ w'.cell? ⟨w3.heap.size, 9, none⟩ = some (.bool bn) ∧ w'.cell? ⟨w3.heap.size, 10, none⟩ = some (.string bS) ∧ w'.cell? ⟨w3.heap.size, 11, none⟩ = some (.int .i64 be) ∧ w'.cell? ⟨w4.heap.size, 0, none⟩ = some (.bool mn) ∧ w'.cell? ⟨w4.heap.size, 1, none⟩ = some (.string mS) ∧ w'.cell? ⟨w4.heap.size, 2, none⟩ = some (.int .i64 me) ∧ w'.cell? ⟨w4.heap.size, 3, none⟩ = some (.bool nn) ∧ w'.cell? ⟨w4.heap.size, 4, none⟩ = some (.string nS) ∧ w'.cell? ⟨w4.heap.size, 5, none⟩ = some (.int .i64 ne)) _ _ _ ((w7).alloc (.cells #[.bool tn, .string tS, .int .i64 te] 25)).drew ?_
      replace F2 := F2.drew
      replace F3 := F3.drew
      replace F5 := F5.drew
      replace F7 := F7.drew
      replace F9 := F9.drew
      replace F11 := F11.drew
      replace F13 := F13.drew
      replace F16r1 := F16r1.drew
      replace F18r1 := F18r1.drew
      replace B0 := B0.drew
      generalize ((w7).alloc (.cells #[.bool tn, .string tS, .int .i64 te] 25)).drew = v2 at *
      refine wpAnyH_take (i := 0) (v := _) (by first | (simp only [List.getElem?_toArray, List.getElem?_cons_zero]; rfl) | rfl) (by kernel_rfl) (by kernel_rfl) (by kernel_rfl) (by exact fun _ _ _ h => h) (Or.inl ⟨by rfl, by (intro w hSw; (try dsimp only at hSw); go_simp; try with_reducible rfl)⟩) (by assumption) ?_
      (try dsimp only [Act.put]); (try go_frame)
      refine wpAnyH_take (i := 1) (v := _) (by first | (simp only [List.getElem?_toArray, List.getElem?_cons_zero, List.getElem?_cons_succ]; rfl) | rfl) (by kernel_rfl) (by kernel_rfl) (by kernel_rfl) (by exact fun _ _ _ h => h) (Or.inl ⟨by rfl, by (intro w hSw; (try dsimp only at hSw); go_simp; try with_reducible rfl)⟩) (by assumption) ?_
      (try dsimp only [Act.put]); (try go_frame)
      refine wpAnyH_take (i := 2) (v := _) (by first | (simp only [List.getElem?_toArray, List.getElem?_cons_zero, List.getElem?_cons_succ]; rfl) | rfl) (by kernel_rfl) (by kernel_rfl) (by kernel_rfl) (by exact fun _ _ _ h => h) (Or.inl ⟨by rfl, by (intro w hSw; (try dsimp only at hSw); go_simp; try with_reducible rfl)⟩) (by assumption) ?_
      (try dsimp only [Act.put]); (try go_frame)
      refine wpAnyH_take (i := 3) (v := _) (by first | (simp only [List.getElem?_toArray, List.getElem?_cons_zero, List.getElem?_cons_succ]; rfl) | rfl) (by kernel_rfl) (by kernel_rfl) (by kernel_rfl) (by exact fun _ _ _ h => h) (Or.inl ⟨by rfl, by (intro w hSw; (try dsimp only at hSw); go_simp; try with_reducible rfl)⟩) (by assumption) ?_
      (try dsimp only [Act.put]); (try go_frame)
      refine wpAnyH_take (i := 4) (v := _) (by first | (simp only [List.getElem?_toArray, List.getElem?_cons_zero, List.getElem?_cons_succ]; rfl) | rfl) (by kernel_rfl) (by kernel_rfl) (by kernel_rfl) (by exact fun _ _ _ h => h) (Or.inl ⟨by rfl, by (intro w hSw; (try dsimp only at hSw); go_simp; try with_reducible rfl)⟩) (by assumption) ?_
      (try dsimp only [Act.put]); (try go_frame)
      refine wpAnyH_take (i := 5) (v := _) (by first | (simp only [List.getElem?_toArray, List.getElem?_cons_zero, List.getElem?_cons_succ]; rfl) | rfl) (by kernel_rfl) (by kernel_rfl) (by kernel_rfl) (by exact fun _ _ _ h => h) (Or.inl ⟨by rfl, by (intro w hSw; (try dsimp only at hSw); go_simp; try with_reducible rfl)⟩) (by assumption) ?_
      (try dsimp only [Act.put]); (try go_frame)
      refine wpAnyH_take (i := 6) (v := _) (by first | (simp only [List.getElem?_toArray, List.getElem?_cons_zero, List.getElem?_cons_succ]; rfl) | rfl) (by kernel_rfl) (by kernel_rfl) (by kernel_rfl) (by exact fun _ _ _ h => h) (Or.inl ⟨by rfl, by (intro w hSw; (try dsimp only at hSw); go_simp; try with_reducible rfl)⟩) (by assumption) ?_
      (try dsimp only [Act.put]); (try go_frame)
      refine wpAnyH_take (i := 7) (v := _) (by first | (simp only [List.getElem?_toArray, List.getElem?_cons_zero, List.getElem?_cons_succ]; rfl) | rfl) (by kernel_rfl) (by kernel_rfl) (by kernel_rfl) (by exact fun _ _ _ h => h) (Or.inl ⟨by rfl, by (intro w hSw; (try dsimp only at hSw); go_simp; try with_reducible rfl)⟩) (by assumption) ?_
      (try dsimp only [Act.put]); (try go_frame)
      refine wpAnyH_take (i := 8) (v := _) (by first | (simp only [List.getElem?_toArray, List.getElem?_cons_zero, List.getElem?_cons_succ]; rfl) | rfl) (by kernel_rfl) (by kernel_rfl) (by kernel_rfl) (by exact fun _ _ _ h => h) (Or.inl ⟨by rfl, by (intro w hSw; (try dsimp only at hSw); go_simp; try with_reducible rfl)⟩) (by assumption) ?_
      (try dsimp only [Act.put]); (try go_frame)
      refine wpAnyH_take (i := 9) (v := _) (by first | (simp only [List.getElem?_toArray, List.getElem?_cons_zero, List.getElem?_cons_succ]; rfl) | rfl) (by kernel_rfl) (by kernel_rfl) (by kernel_rfl) (by exact fun _ _ _ h => h) (Or.inl ⟨by rfl, by (intro w hSw; (try dsimp only at hSw); go_simp; try with_reducible rfl)⟩) (by assumption) ?_
      (try dsimp only [Act.put]); (try go_frame)
      refine wpAnyH_take (i := 10) (v := _) (by first | (simp only [List.getElem?_toArray, List.getElem?_cons_zero, List.getElem?_cons_succ]; rfl) | rfl) (by kernel_rfl) (by kernel_rfl) (by kernel_rfl) (by exact fun _ _ _ h => h) (Or.inl ⟨by rfl, by (intro w hSw; (try dsimp only at hSw); go_simp; try with_reducible rfl)⟩) (by assumption) ?_
      (try dsimp only [Act.put]); (try go_frame)
      refine wpAnyH_take (i := 11) (v := _) (by first | (simp only [List.getElem?_toArray, List.getElem?_cons_zero, List.getElem?_cons_succ]; rfl) | rfl) (by kernel_rfl) (by kernel_rfl) (by kernel_rfl) (by exact fun _ _ _ h => h) (Or.inl ⟨by rfl, by (intro w hSw; (try dsimp only at hSw); go_simp; try with_reducible rfl)⟩) (by assumption) ?_
      (try dsimp only [Act.put]); (try go_frame)
      refine wpAnyH_take (i := 12) (v := _) (by first | (simp only [List.getElem?_toArray, List.getElem?_cons_zero, List.getElem?_cons_succ]; rfl) | rfl) (by kernel_rfl) (by kernel_rfl) (by kernel_rfl) (by exact fun _ _ _ h => h) (Or.inl ⟨by rfl, by (intro w hSw; (try dsimp only at hSw); go_simp; try with_reducible rfl)⟩) (by assumption) ?_
      (try dsimp only [Act.put]); (try go_frame)
      refine wpAnyH_take (i := 13) (v := _) (by first | (simp only [List.getElem?_toArray, List.getElem?_cons_zero, List.getElem?_cons_succ]; rfl) | rfl) (by kernel_rfl) (by kernel_rfl) (by kernel_rfl) (by exact fun _ _ _ h => h) (Or.inl ⟨by rfl, by (intro w hSw; (try dsimp only at hSw); go_simp; try with_reducible rfl)⟩) (by assumption) ?_
      (try dsimp only [Act.put]); (try go_frame)
      refine wpAnyH_take (i := 14) (v := _) (by first | (simp only [List.getElem?_toArray, List.getElem?_cons_zero, List.getElem?_cons_succ]; rfl) | rfl) (by kernel_rfl) (by kernel_rfl) (by kernel_rfl) (by exact fun _ _ _ h => h) (Or.inl ⟨by rfl, by (intro w hSw; (try dsimp only at hSw); go_simp; try with_reducible rfl)⟩) (by assumption) ?_
      (try dsimp only [Act.put]); (try go_frame)
      refine wpAnyH_take (i := 15) (v := _) (by first | (simp only [List.getElem?_toArray, List.getElem?_cons_zero, List.getElem?_cons_succ]; rfl) | rfl) (by kernel_rfl) (by kernel_rfl) (by kernel_rfl) (by exact fun _ _ _ h => h) (Or.inl ⟨by rfl, by (intro w hSw; (try dsimp only at hSw); go_simp; try with_reducible rfl)⟩) (by assumption) ?_
      (try dsimp only [Act.put]); (try go_frame)
      refine wpAnyH_take (i := 16) (v := _) (by first | (simp only [List.getElem?_toArray, List.getElem?_cons_zero, List.getElem?_cons_succ]; rfl) | rfl) (by kernel_rfl) (by kernel_rfl) (by kernel_rfl) (by exact fun _ _ _ h => h) (Or.inl ⟨by rfl, by (intro w hSw; (try dsimp only at hSw); go_simp; try with_reducible rfl)⟩) (by assumption) ?_
      (try dsimp only [Act.put]); (try go_frame)
      refine wpAnyH_take (i := 17) (v := _) (by first | (simp only [List.getElem?_toArray, List.getElem?_cons_zero, List.getElem?_cons_succ]; rfl) | rfl) (by kernel_rfl) (by kernel_rfl) (by kernel_rfl) (by exact fun _ _ _ h => h) (Or.inl ⟨by rfl, by (intro w hSw; (try dsimp only at hSw); go_simp; try with_reducible rfl)⟩) (by assumption) ?_
      (try dsimp only [Act.put]); (try go_frame)
      refine wpAnyH_take (i := 18) (v := _) (by first | (simp only [List.getElem?_toArray, List.getElem?_cons_zero, List.getElem?_cons_succ]; rfl) | rfl) (by kernel_rfl) (by kernel_rfl) (by kernel_rfl) (by exact fun _ _ _ h => h) (Or.inl ⟨by rfl, by (intro w hSw; (try dsimp only at hSw); go_simp; try with_reducible rfl)⟩) (by assumption) ?_
      (try dsimp only [Act.put]); (try go_frame)
      refine wpAnyH_take (i := 19) (v := _) (by first | (simp only [List.getElem?_toArray, List.getElem?_cons_zero, List.getElem?_cons_succ]; rfl) | rfl) (by kernel_rfl) (by kernel_rfl) (by kernel_rfl) (by exact fun _ _ _ h => h) (Or.inl ⟨by rfl, by (intro w hSw; (try dsimp only at hSw); go_simp; try with_reducible rfl)⟩) (by assumption) ?_
      (try dsimp only [Act.put]); (try go_frame)
      refine wpAnyH_take (i := 20) (v := _) (by first | (simp only [List.getElem?_toArray, List.getElem?_cons_zero, List.getElem?_cons_succ]; rfl) | rfl) (by kernel_rfl) (by kernel_rfl) (by kernel_rfl) (by exact fun _ _ _ h => h) (Or.inl ⟨by rfl, by (intro w hSw; (try dsimp only at hSw); go_simp; try with_reducible rfl)⟩) (by assumption) ?_
      (try dsimp only [Act.put]); (try go_frame)
      refine wpAnyH_take (i := 21) (v := _) (by first | (simp only [List.getElem?_toArray, List.getElem?_cons_zero, List.getElem?_cons_succ]; rfl) | rfl) (by kernel_rfl) (by kernel_rfl) (by kernel_rfl) (by exact fun _ _ _ h => h) (Or.inl ⟨by rfl, by (intro w hSw; (try dsimp only at hSw); go_simp; try with_reducible rfl)⟩) (by assumption) ?_
      (try dsimp only [Act.put]); (try go_frame)
      refine wpAnyH_take (i := 22) (v := _) (by first | (simp only [List.getElem?_toArray, List.getElem?_cons_zero, List.getElem?_cons_succ]; rfl) | rfl) (by kernel_rfl) (by kernel_rfl) (by kernel_rfl) (by exact fun _ _ _ h => h) (Or.inl ⟨by rfl, by (intro w hSw; (try dsimp only at hSw); go_simp; try with_reducible rfl)⟩) (by assumption) ?_
      (try dsimp only [Act.put]); (try go_frame)
      refine wpAnyH_done (by kernel_rfl) ?_ _
      try simp only [QCut]
      clear hHeld
      clear yF16r18_6 yF16r18_7 yF16r18_8 yF16r18_9 yF16r18_10 yF16r18_11 yF16r18_12 yF16r18_13 yF16r18_14 yF16r18_15 yF16r18_16 yF16r18_17 yF78_6 yF78_7 yF78_8 yF78_9 yF78_10 yF78_11 xF98_0 xF98_1 xF98_2 xF98_3 xF98_4 xF98_5
      obtain ⟨xF1310_0, xF1310_1, xF1310_2⟩ := F13.ce3
      obtain ⟨xF18r110_0, xF18r110_1, xF18r110_2⟩ := F18r1.ce3
      go_wp2_with fail
      (with_reducible refine (s1 _ (hT.below B0)).mono ?_)
      rintro r w8 ⟨rfl, hb8⟩
      clear xF1310_0 xF1310_1 xF1310_2 xF18r110_0 xF18r110_1 xF18r110_2
      replace F2 := F2.keep hb8
      replace F3 := F3.keep hb8
      replace F5 := F5.keep hb8
      replace F7 := F7.keep hb8
      replace F9 := F9.keep hb8
      replace F11 := F11.keep hb8
      replace F13 := F13.keep hb8
      replace F16r1 := F16r1.keep hb8
      replace F18r1 := F18r1.keep hb8
      replace B0 := B0.trans (hb8.mono B0.size)
      clear hb8
      obtain ⟨xF1311_0, xF1311_1, xF1311_2⟩ := F13.ce3
      obtain ⟨xF1311_0f, xF1311_1f, xF1311_2f⟩ := F13.fr3
      replace F2 := (((F2.far 0 (.bool un) (Nat.ne_of_lt q_F2_F13.out)).far 1 (.string uS) (Nat.ne_of_lt q_F2_F13.out)).far 2 (.int .i64 ue) (Nat.ne_of_lt q_F2_F13.out))
      replace F3 := (((F3.far 0 (.bool un) (Nat.ne_of_lt q_F3_F13.out)).far 1 (.string uS) (Nat.ne_of_lt q_F3_F13.out)).far 2 (.int .i64 ue) (Nat.ne_of_lt q_F3_F13.out))
      replace F5 := (((F5.far 0 (.bool un) (Nat.ne_of_lt q_F5_F13.out)).far 1 (.string uS) (Nat.ne_of_lt q_F5_F13.out)).far 2 (.int .i64 ue) (Nat.ne_of_lt q_F5_F13.out))
      replace F7 := (((F7.far 0 (.bool un) (Nat.ne_of_lt q_F7_F13.out)).far 1 (.string uS) (Nat.ne_of_lt q_F7_F13.out)).far 2 (.int .i64 ue) (Nat.ne_of_lt q_F7_F13.out))
      replace F9 := (((F9.far 0 (.bool un) (Nat.ne_of_lt q_F9_F13.out)).far 1 (.string uS) (Nat.ne_of_lt q_F9_F13.out)).far 2 (.int .i64 ue) (Nat.ne_of_lt q_F9_F13.out))
      replace F11 := (((F11.far 0 (.bool un) (Nat.ne_of_lt q_F11_F13.out)).far 1 (.string uS) (Nat.ne_of_lt q_F11_F13.out)).far 2 (.int .i64 ue) (Nat.ne_of_lt q_F11_F13.out))
      clear F16r1
      clear F18r1
      replace F13 : Blk ((((w8).setCell ⟨w5.heap.size + 1, 0, none⟩ (.bool un)).setCell ⟨w5.heap.size + 1, 1, none⟩ (.string uS)).setCell ⟨w5.heap.size + 1, 2, none⟩ (.int .i64 ue)) (w5.heap.size + 1) #[.bool un, .string uS, .int .i64 ue] 25 := (((F13.setAt 0 (.bool un)).setAt 1 (.string uS)).setAt 2 (.int .i64 ue))
      replace B0 := (((B0.setCell (p := ⟨w5.heap.size + 1, 0, none⟩) q_w_F13.out (.bool un)).setCell (p := ⟨w5.heap.size + 1, 1, none⟩) q_w_F13.out (.string uS)).setCell (p := ⟨w5.heap.size + 1, 2, none⟩) q_w_F13.out (.int .i64 ue))
      go_wp2_with fail
      refine wp_region_any (by kernel_rfl) ?_
      have yF512_7 : ((((w8).setCell ⟨w5.heap.size + 1, 0, none⟩ (.bool un)).setCell ⟨w5.heap.size + 1, 1, none⟩ (.string uS)).setCell ⟨w5.heap.size + 1, 2, none⟩ (.int .i64 ue)).cell? ⟨w2.heap.size, 7, none⟩ = some (.bool mn) := F5.at 7 (by simp)
      have yF512_8 : ((((w8).setCell ⟨w5.heap.size + 1, 0, none⟩ (.bool un)).setCell ⟨w5.heap.size + 1, 1, none⟩ (.string uS)).setCell ⟨w5.heap.size + 1, 2, none⟩ (.int .i64 ue)).cell? ⟨w2.heap.size, 8, none⟩ = some (.string mS) := F5.at 8 (by simp)
      have yF512_9 : ((((w8).setCell ⟨w5.heap.size + 1, 0, none⟩ (.bool un)).setCell ⟨w5.heap.size + 1, 1, none⟩ (.string uS)).setCell ⟨w5.heap.size + 1, 2, none⟩ (.int .i64 ue)).cell? ⟨w2.heap.size, 9, none⟩ = some (.int .i64 me) := F5.at 9 (by simp)
      have yF512_10 : ((((w8).setCell ⟨w5.heap.size + 1, 0, none⟩ (.bool un)).setCell ⟨w5.heap.size + 1, 1, none⟩ (.string uS)).setCell ⟨w5.heap.size + 1, 2, none⟩ (.int .i64 ue)).cell? ⟨w2.heap.size, 10, none⟩ = some (.bool bn) := F5.at 10 (by simp)
      have yF512_11 : ((((w8).setCell ⟨w5.heap.size + 1, 0, none⟩ (.bool un)).setCell ⟨w5.heap.size + 1, 1, none⟩ (.string uS)).setCell ⟨w5.heap.size + 1, 2, none⟩ (.int .i64 ue)).cell? ⟨w2.heap.size, 11, none⟩ = some (.string bS) := F5.at 11 (by simp)
      have yF512_12 : ((((w8).setCell ⟨w5.heap.size + 1, 0, none⟩ (.bool un)).setCell ⟨w5.heap.size + 1, 1, none⟩ (.string uS)).setCell ⟨w5.heap.size + 1, 2, none⟩ (.int .i64 ue)).cell? ⟨w2.heap.size, 12, none⟩ = some (.int .i64 be) := F5.at 12 (by simp)
      have yF512_13 : ((((w8).setCell ⟨w5.heap.size + 1, 0, none⟩ (.bool un)).setCell ⟨w5.heap.size + 1, 1, none⟩ (.string uS)).setCell ⟨w5.heap.size + 1, 2, none⟩ (.int .i64 ue)).cell? ⟨w2.heap.size, 13, none⟩ = some (.int .i64 E) := F5.at 13 (by simp)
      obtain ⟨xF312_0, xF312_1, xF312_2, xF312_3, xF312_4, xF312_5⟩ := F3.ce6
      have hHeld : (fun w' : World => w'.cell? ⟨w2.heap.size, 7, none⟩ = some (.bool mn) ∧ w'.cell? ⟨w2.heap.size, 8, none⟩ = some (.string mS) ∧ w'.cell? ⟨w2.heap.size, 9, none⟩ = some (.int .i64 me) ∧ w'.cell? ⟨w2.heap.size, 10, none⟩ = some (.bool bn) ∧ w'.cell? ⟨w2.heap.size, 11, none⟩ = some (.string bS) ∧ w'.cell? ⟨w2.heap.size, 12, none⟩ = some (.int .i64 be) ∧ w'.cell? ⟨w2.heap.size, 13, none⟩ = some (.int .i64 E) ∧ w'.cell? ⟨w.heap.size + 1, 0, none⟩ = some (.bool jn) ∧ w'.cell? ⟨w.heap.size + 1, 1, none⟩ = some (.string jS) ∧ w'.cell? ⟨w.heap.size + 1, 2, none⟩ = some (.int .i64 je) ∧ w'.cell? ⟨w.heap.size + 1, 3, none⟩ = some (.bool kn) ∧ w'.cell? ⟨w.heap.size + 1, 4, none⟩ = some (.string kS) ∧ w'.cell? ⟨w.heap.size + 1, 5, none⟩ = some (.int .i64 ke)) ((((w8).setCell ⟨w5.heap.size + 1, 0, none⟩ (.bool un)).setCell ⟨w5.heap.size + 1, 1, none⟩ (.string uS)).setCell ⟨w5.heap.size + 1, 2, none⟩ (.int .i64 ue)).drew := ⟨yF512_7, yF512_8, yF512_9, yF512_10, yF512_11, yF512_12, yF512_13, xF312_0, xF312_1, xF312_2, xF312_3, xF312_4, xF312_5⟩
      refine wpAny_of_held (S := fun w' : World => w'.cell? ⟨w2.heap.size, 7, none⟩ = some (.bool mn) ∧ w'.cell? ⟨w2.heap.size, 8, none⟩ = some (.string mS) ∧ w'.cell? ⟨w2.heap.size, 9, none⟩ = some (.int .i64 me) ∧ w'.cell? ⟨w2.heap.size, 10, none⟩ = some (.bool bn) ∧ w'.cell? ⟨w2.heap.size, 11, none⟩ = some (.string bS) ∧ w'.cell? ⟨w2.heap.size, 12, none⟩ = some (.int .i64 be) ∧ w'.cell? ⟨w2.heap.size, 13, none⟩ = some (.int .i64 E) ∧ w'.cell? ⟨w.heap.size + 1, 0, none⟩ = some (.bool jn) ∧ w'.cell? ⟨w.heap.size + 1, 1, none⟩ = some (.string jS) ∧ w'.cell? ⟨w.heap.size + 1, 2, none⟩ = some (.int .i64 je) ∧ w'.cell? ⟨w.heap.size + 1, 3, none⟩ = some (.bool kn) ∧ w'.cell? ⟨w.heap.size + 1, 4, none⟩ = some (.string kS) ∧ w'.cell? ⟨w.heap.size + 1, 5, none⟩ = some (.int .i64 ke)) _ _ _ ((((w8).setCell ⟨w5.heap.size + 1, 0, none⟩ (.bool un)).setCell ⟨w5.heap.size + 1, 1, none⟩ (.string uS)).setCell ⟨w5.heap.size + 1, 2, none⟩ (.int .i64 ue)).drew ?_
      replace F2 := F2.drew
      replace F3 := F3.drew
      replace F5 := F5.drew
      replace F7 := F7.drew
      replace F9 := F9.drew
      replace F11 := F11.drew
      replace F13 := F13.drew
      replace B0 := B0.drew
      generalize ((((w8).setCell ⟨w5.heap.size + 1, 0, none⟩ (.bool un)).setCell ⟨w5.heap.size + 1, 1, none⟩ (.string uS)).setCell ⟨w5.heap.size + 1, 2, none⟩ (.int .i64 ue)).drew = v3 at *
      refine wpAnyH_take (i := 0) (v := _) (by first | (simp only [List.getElem?_toArray, List.getElem?_cons_zero]; rfl) | rfl) (by kernel_rfl) (by kernel_rfl) (by kernel_rfl) (by exact fun _ _ _ h => h) (Or.inl ⟨by rfl, by (intro w hSw; (try dsimp only at hSw); go_simp; try with_reducible rfl)⟩) (by assumption) ?_
      (try dsimp only [Act.put]); (try go_frame)
      refine wpAnyH_take (i := 1) (v := _) (by first | (simp only [List.getElem?_toArray, List.getElem?_cons_zero, List.getElem?_cons_succ]; rfl) | rfl) (by kernel_rfl) (by kernel_rfl) (by kernel_rfl) (by exact fun _ _ _ h => h) (Or.inl ⟨by rfl, by (intro w hSw; (try dsimp only at hSw); go_simp; try with_reducible rfl)⟩) (by assumption) ?_
      (try dsimp only [Act.put]); (try go_frame)
      refine wpAnyH_take (i := 2) (v := _) (by first | (simp only [List.getElem?_toArray, List.getElem?_cons_zero, List.getElem?_cons_succ]; rfl) | rfl) (by kernel_rfl) (by kernel_rfl) (by kernel_rfl) (by exact fun _ _ _ h => h) (Or.inl ⟨by rfl, by (intro w hSw; (try dsimp only at hSw); go_simp; try with_reducible rfl)⟩) (by assumption) ?_
      (try dsimp only [Act.put]); (try go_frame)
      refine wpAnyH_take (i := 3) (v := _) (by first | (simp only [List.getElem?_toArray, List.getElem?_cons_zero, List.getElem?_cons_succ]; rfl) | rfl) (by kernel_rfl) (by kernel_rfl) (by kernel_rfl) (by exact fun _ _ _ h => h) (Or.inl ⟨by rfl, by (intro w hSw; (try dsimp only at hSw); go_simp; try with_reducible rfl)⟩) (by assumption) ?_
      (try dsimp only [Act.put]); (try go_frame)
      refine wpAnyH_ready (rs := [4]) (by kernel_rfl) (by simp) ?_
      refine AllReadyH.cons rfl (fun K hK => ?_) AllReadyH.nil
      go_simp
      (with_reducible refine (h1 _ (hT.below B0)).mono ?_)
      rintro r w9 ⟨rfl, hb9⟩
      clear xF1311_0 xF1311_1 xF1311_2 xF1311_0f xF1311_1f xF1311_2f yF512_7 yF512_8 yF512_9 yF512_10 yF512_11 yF512_12 yF512_13 xF312_0 xF312_1 xF312_2 xF312_3 xF312_4 xF312_5
      replace F2 := F2.keep hb9
      replace F3 := F3.keep hb9
      replace F5 := F5.keep hb9
      replace F7 := F7.keep hb9
      replace F9 := F9.keep hb9
      replace F11 := F11.keep hb9
      replace F13 := F13.keep hb9
      replace B0 := B0.trans (hb9.mono B0.size)
      clear hb9
      have yF515_7 : (w9).cell? ⟨w2.heap.size, 7, none⟩ = some (.bool mn) := F5.at 7 (by simp)
      have yF515_8 : (w9).cell? ⟨w2.heap.size, 8, none⟩ = some (.string mS) := F5.at 8 (by simp)
      have yF515_9 : (w9).cell? ⟨w2.heap.size, 9, none⟩ = some (.int .i64 me) := F5.at 9 (by simp)
      have yF515_10 : (w9).cell? ⟨w2.heap.size, 10, none⟩ = some (.bool bn) := F5.at 10 (by simp)
      have yF515_11 : (w9).cell? ⟨w2.heap.size, 11, none⟩ = some (.string bS) := F5.at 11 (by simp)
      have yF515_12 : (w9).cell? ⟨w2.heap.size, 12, none⟩ = some (.int .i64 be) := F5.at 12 (by simp)
      have yF515_13 : (w9).cell? ⟨w2.heap.size, 13, none⟩ = some (.int .i64 E) := F5.at 13 (by simp)
      obtain ⟨xF315_0, xF315_1, xF315_2, xF315_3, xF315_4, xF315_5⟩ := F3.ce6
      refine hK.out _ _ ?_ (fun hHeld => ?_)
      · exact ⟨yF515_7, yF515_8, yF515_9, yF515_10, yF515_11, yF515_12, yF515_13, xF315_0, xF315_1, xF315_2, xF315_3, xF315_4, xF315_5⟩
      clear hK K
      (try dsimp only [Act.put]); (try go_frame)
      refine wpAnyH_take (i := 5) (v := _) (by first | (simp only [List.getElem?_toArray, List.getElem?_cons_zero, List.getElem?_cons_succ]; rfl) | rfl) (by kernel_rfl) (by kernel_rfl) (by kernel_rfl) (by exact fun _ _ _ h => h) (Or.inl ⟨by rfl, by (intro w hSw; (try dsimp only at hSw); go_simp; try with_reducible rfl)⟩) (by assumption) ?_
      (try dsimp only [Act.put]); (try go_frame)
      refine wpAnyH_take (i := 6) (v := _) (by first | (simp only [List.getElem?_toArray, List.getElem?_cons_zero, List.getElem?_cons_succ]; rfl) | rfl) (by kernel_rfl) (by kernel_rfl) (by kernel_rfl) (by exact fun _ _ _ h => h) (Or.inl ⟨by rfl, by (intro w hSw; (try dsimp only at hSw); go_simp; try with_reducible rfl)⟩) (by assumption) ?_
      (try dsimp only [Act.put]); (try go_frame)
      refine wpAnyH_take (i := 7) (v := _) (by first | (simp only [List.getElem?_toArray, List.getElem?_cons_zero, List.getElem?_cons_succ]; rfl) | rfl) (by kernel_rfl) (by kernel_rfl) (by kernel_rfl) (by exact fun _ _ _ h => h) (Or.inl ⟨by rfl, by (intro w hSw; (try dsimp only at hSw); go_simp; try with_reducible rfl)⟩) (by assumption) ?_
      (try dsimp only [Act.put]); (try go_frame)
      refine wpAnyH_take (i := 8) (v := _) (by first | (simp only [List.getElem?_toArray, List.getElem?_cons_zero, List.getElem?_cons_succ]; rfl) | rfl) (by kernel_rfl) (by kernel_rfl) (by kernel_rfl) (by exact fun _ _ _ h => h) (Or.inl ⟨by rfl, by (intro w hSw; (try dsimp only at hSw); go_simp; try with_reducible rfl)⟩) (by assumption) ?_
      (try dsimp only [Act.put]); (try go_frame)
      refine wpAnyH_take (i := 9) (v := _) (by first | (simp only [List.getElem?_toArray, List.getElem?_cons_zero, List.getElem?_cons_succ]; rfl) | rfl) (by kernel_rfl) (by kernel_rfl) (by kernel_rfl) (by exact fun _ _ _ h => h) (Or.inl ⟨by rfl, by (intro w hSw; (try dsimp only at hSw); go_simp; try with_reducible rfl)⟩) (by assumption) ?_
      (try dsimp only [Act.put]); (try go_frame)
      refine wpAnyH_done (by kernel_rfl) ?_ _
      try simp only [QCut]
      clear hHeld
      clear yF515_7 yF515_8 yF515_9 yF515_10 yF515_11 yF515_12 yF515_13 xF315_0 xF315_1 xF315_2 xF315_3 xF315_4 xF315_5
      rcases z1.out with ⟨rfl, rfl⟩ | ⟨rfl, rfl, rfl⟩ | ⟨rfl, rfl, rfl, rfl⟩
      · clear z1
        go_wp2_with fail
        go_meet
        exact ⟨by first | rfl | simp, F2, F3, F5, F7, F9, F11, F13, B0⟩
      · clear z1
        go_wp2_with fail
        go_meet
        exact ⟨by first | rfl | simp, F2, F3, F5, F7, F9, F11, F13, B0⟩
      · clear z1
        go_wp2_with fail
        go_meet
        exact ⟨by first | rfl | simp, F2, F3, F5, F7, F9, F11, F13, B0⟩
    case rest =>
      clear B0
      clear F2
      clear F3
      clear F5
      clear F7
      clear F9
      clear F11
      clear F13
      obtain ⟨rfl, F2, F3, F5, F7, F9, F11, F13, B0⟩ := hcut
      generalize wc = v2 at *
      go_wp2_with fail
      rw [rounds_succ]
      go_upto_block 1 with fail
      go_cut [14] (fun s14 wx => s14 = .bool y2 ∧ Blk wx (w.heap.size) #[.bool ln, .string lS, .int .i64 le, .bool bn, .string bS, .int .i64 be, .int .i64 e] 31 ∧ Blk wx (w.heap.size + 1) #[.bool jn, .string jS, .int .i64 je, .bool kn, .string kS, .int .i64 ke] 27 ∧ Blk wx (w2.heap.size) #[.bool ln, .string lS, .int .i64 le, .bool bn, .string bS, .int .i64 be, .int .i64 E, .bool mn, .string mS, .int .i64 me, .bool bn, .string bS, .int .i64 be, .int .i64 E, .bool ln, .string lS, .int .i64 le, .bool nn, .string nS, .int .i64 ne, .int .i64 E, .bool mn, .string mS, .int .i64 me, .bool nn, .string nS, .int .i64 ne, .int .i64 E] 45 ∧ Blk wx (w3.heap.size) #[.bool ln, .string lS, .int .i64 le, .bool bn, .string bS, .int .i64 be, .bool pn, .string pS, .int .i64 pe, .bool bn, .string bS, .int .i64 be, .bool ln, .string lS, .int .i64 le, .bool qn, .string qS, .int .i64 qe, .bool pn, .string pS, .int .i64 pe, .bool qn, .string qS, .int .i64 qe] 35 ∧ Blk wx (w4.heap.size) #[.bool mn, .string mS, .int .i64 me, .bool nn, .string nS, .int .i64 ne] 27 ∧ Blk wx (w5.heap.size) #[.bool an, .string aS, .int .i64 ae] 25 ∧ Blk wx (w5.heap.size + 1) #[.bool vn, .string vS, .int .i64 ve] 25 ∧ Below w.heap.size w wx)
      case first =>
        as_aux_lemma =>
        have yF57_14 : (v2).cell? ⟨w2.heap.size, 14, none⟩ = some (.bool ln) := F5.at 14 (by simp)
        have yF57_15 : (v2).cell? ⟨w2.heap.size, 15, none⟩ = some (.string lS) := F5.at 15 (by simp)
        have yF57_16 : (v2).cell? ⟨w2.heap.size, 16, none⟩ = some (.int .i64 le) := F5.at 16 (by simp)
        have yF57_17 : (v2).cell? ⟨w2.heap.size, 17, none⟩ = some (.bool nn) := F5.at 17 (by simp)
        have yF57_18 : (v2).cell? ⟨w2.heap.size, 18, none⟩ = some (.string nS) := F5.at 18 (by simp)
        have yF57_19 : (v2).cell? ⟨w2.heap.size, 19, none⟩ = some (.int .i64 ne) := F5.at 19 (by simp)
        have yF57_20 : (v2).cell? ⟨w2.heap.size, 20, none⟩ = some (.int .i64 E) := F5.at 20 (by simp)
        go_wp2_with fail
        (with_reducible refine (c2 _ (hT.below B0)).mono ?_)
        rintro r w6 ⟨rfl, hb6⟩
        clear yF57_14 yF57_15 yF57_16 yF57_17 yF57_18 yF57_19 yF57_20
        replace F2 := F2.keep hb6
        replace F3 := F3.keep hb6
        replace F5 := F5.keep hb6
        replace F7 := F7.keep hb6
        replace F9 := F9.keep hb6
        replace F11 := F11.keep hb6
        replace F13 := F13.keep hb6
        replace B0 := B0.trans (hb6.mono B0.size)
        clear hb6
        dsimp only
        go_step
        refine wpList_move rfl _ (.inl rfl) (.tuple #[.agg #[.bool ln, .string lS, .int .i64 le, .bool nn, .string nS, .int .i64 ne, .bool mn, .string mS, .int .i64 me, .bool nn, .string nS, .int .i64 ne, .bool ln, .string lS, .int .i64 le, .bool qn, .string qS, .int .i64 qe, .bool mn, .string mS, .int .i64 me, .bool qn, .string qS, .int .i64 qe], .int .i64 0]) rfl ?_
        (try dsimp only [Act.put]); (try go_frame)
        refine wpList_extract rfl _ 0 rfl _ (.agg #[.bool ln, .string lS, .int .i64 le, .bool nn, .string nS, .int .i64 ne, .bool mn, .string mS, .int .i64 me, .bool nn, .string nS, .int .i64 ne, .bool ln, .string lS, .int .i64 le, .bool qn, .string qS, .int .i64 qe, .bool mn, .string mS, .int .i64 me, .bool qn, .string qS, .int .i64 qe]) rfl rfl ?_
        (try dsimp only [Act.put]); (try go_frame)
        refine wpList_extract rfl _ 1 rfl _ (.int .i64 0) rfl rfl ?_
        (try dsimp only [Act.put]); (try go_frame)
        refine wpList_new rfl _ rfl _ Tryd.zeroValue35 ?_
        (try dsimp only [Act.put]); (try go_frame)
        refine wpList_store_new rfl _ _ _ rfl _ #[.bool ln, .string lS, .int .i64 le, .bool nn, .string nS, .int .i64 ne, .bool mn, .string mS, .int .i64 me, .bool nn, .string nS, .int .i64 ne, .bool ln, .string lS, .int .i64 le, .bool qn, .string qS, .int .i64 qe, .bool mn, .string mS, .int .i64 me, .bool qn, .string qS, .int .i64 qe] rfl rfl (by kernel_rfl) rfl (by simp [Value.oneCell']) ?_
        (try dsimp only [Act.put]); (try go_frame)
        replace F2 := F2.allocd (.cells #[.bool ln, .string lS, .int .i64 le, .bool nn, .string nS, .int .i64 ne, .bool mn, .string mS, .int .i64 me, .bool nn, .string nS, .int .i64 ne, .bool ln, .string lS, .int .i64 le, .bool qn, .string qS, .int .i64 qe, .bool mn, .string mS, .int .i64 me, .bool qn, .string qS, .int .i64 qe] 35)
        replace F3 := F3.allocd (.cells #[.bool ln, .string lS, .int .i64 le, .bool nn, .string nS, .int .i64 ne, .bool mn, .string mS, .int .i64 me, .bool nn, .string nS, .int .i64 ne, .bool ln, .string lS, .int .i64 le, .bool qn, .string qS, .int .i64 qe, .bool mn, .string mS, .int .i64 me, .bool qn, .string qS, .int .i64 qe] 35)
        replace F5 := F5.allocd (.cells #[.bool ln, .string lS, .int .i64 le, .bool nn, .string nS, .int .i64 ne, .bool mn, .string mS, .int .i64 me, .bool nn, .string nS, .int .i64 ne, .bool ln, .string lS, .int .i64 le, .bool qn, .string qS, .int .i64 qe, .bool mn, .string mS, .int .i64 me, .bool qn, .string qS, .int .i64 qe] 35)
        replace F7 := F7.allocd (.cells #[.bool ln, .string lS, .int .i64 le, .bool nn, .string nS, .int .i64 ne, .bool mn, .string mS, .int .i64 me, .bool nn, .string nS, .int .i64 ne, .bool ln, .string lS, .int .i64 le, .bool qn, .string qS, .int .i64 qe, .bool mn, .string mS, .int .i64 me, .bool qn, .string qS, .int .i64 qe] 35)
        replace F9 := F9.allocd (.cells #[.bool ln, .string lS, .int .i64 le, .bool nn, .string nS, .int .i64 ne, .bool mn, .string mS, .int .i64 me, .bool nn, .string nS, .int .i64 ne, .bool ln, .string lS, .int .i64 le, .bool qn, .string qS, .int .i64 qe, .bool mn, .string mS, .int .i64 me, .bool qn, .string qS, .int .i64 qe] 35)
        replace F11 := F11.allocd (.cells #[.bool ln, .string lS, .int .i64 le, .bool nn, .string nS, .int .i64 ne, .bool mn, .string mS, .int .i64 me, .bool nn, .string nS, .int .i64 ne, .bool ln, .string lS, .int .i64 le, .bool qn, .string qS, .int .i64 qe, .bool mn, .string mS, .int .i64 me, .bool qn, .string qS, .int .i64 qe] 35)
        replace F13 := F13.allocd (.cells #[.bool ln, .string lS, .int .i64 le, .bool nn, .string nS, .int .i64 ne, .bool mn, .string mS, .int .i64 me, .bool nn, .string nS, .int .i64 ne, .bool ln, .string lS, .int .i64 le, .bool qn, .string qS, .int .i64 qe, .bool mn, .string mS, .int .i64 me, .bool qn, .string qS, .int .i64 qe] 35)
        have F16r2 := Blk.put (w6) #[.bool ln, .string lS, .int .i64 le, .bool nn, .string nS, .int .i64 ne, .bool mn, .string mS, .int .i64 me, .bool nn, .string nS, .int .i64 ne, .bool ln, .string lS, .int .i64 le, .bool qn, .string qS, .int .i64 qe, .bool mn, .string mS, .int .i64 me, .bool qn, .string qS, .int .i64 qe] 35
        replace B0 := B0.alloc B0.size (.cells #[.bool ln, .string lS, .int .i64 le, .bool nn, .string nS, .int .i64 ne, .bool mn, .string mS, .int .i64 me, .bool nn, .string nS, .int .i64 ne, .bool ln, .string lS, .int .i64 le, .bool qn, .string qS, .int .i64 qe, .bool mn, .string mS, .int .i64 me, .bool qn, .string qS, .int .i64 qe] 35)
        refine wpList_move rfl _ (.inr rfl) (.int .i64 0) rfl ?_
        (try dsimp only [Act.put]); (try go_frame)
        have yF58_14 : ((w6).alloc (.cells #[.bool ln, .string lS, .int .i64 le, .bool nn, .string nS, .int .i64 ne, .bool mn, .string mS, .int .i64 me, .bool nn, .string nS, .int .i64 ne, .bool ln, .string lS, .int .i64 le, .bool qn, .string qS, .int .i64 qe, .bool mn, .string mS, .int .i64 me, .bool qn, .string qS, .int .i64 qe] 35)).cell? ⟨w2.heap.size, 14, none⟩ = some (.bool ln) := F5.at 14 (by simp)
        have yF58_15 : ((w6).alloc (.cells #[.bool ln, .string lS, .int .i64 le, .bool nn, .string nS, .int .i64 ne, .bool mn, .string mS, .int .i64 me, .bool nn, .string nS, .int .i64 ne, .bool ln, .string lS, .int .i64 le, .bool qn, .string qS, .int .i64 qe, .bool mn, .string mS, .int .i64 me, .bool qn, .string qS, .int .i64 qe] 35)).cell? ⟨w2.heap.size, 15, none⟩ = some (.string lS) := F5.at 15 (by simp)
        have yF58_16 : ((w6).alloc (.cells #[.bool ln, .string lS, .int .i64 le, .bool nn, .string nS, .int .i64 ne, .bool mn, .string mS, .int .i64 me, .bool nn, .string nS, .int .i64 ne, .bool ln, .string lS, .int .i64 le, .bool qn, .string qS, .int .i64 qe, .bool mn, .string mS, .int .i64 me, .bool qn, .string qS, .int .i64 qe] 35)).cell? ⟨w2.heap.size, 16, none⟩ = some (.int .i64 le) := F5.at 16 (by simp)
        have yF58_17 : ((w6).alloc (.cells #[.bool ln, .string lS, .int .i64 le, .bool nn, .string nS, .int .i64 ne, .bool mn, .string mS, .int .i64 me, .bool nn, .string nS, .int .i64 ne, .bool ln, .string lS, .int .i64 le, .bool qn, .string qS, .int .i64 qe, .bool mn, .string mS, .int .i64 me, .bool qn, .string qS, .int .i64 qe] 35)).cell? ⟨w2.heap.size, 17, none⟩ = some (.bool nn) := F5.at 17 (by simp)
        have yF58_18 : ((w6).alloc (.cells #[.bool ln, .string lS, .int .i64 le, .bool nn, .string nS, .int .i64 ne, .bool mn, .string mS, .int .i64 me, .bool nn, .string nS, .int .i64 ne, .bool ln, .string lS, .int .i64 le, .bool qn, .string qS, .int .i64 qe, .bool mn, .string mS, .int .i64 me, .bool qn, .string qS, .int .i64 qe] 35)).cell? ⟨w2.heap.size, 18, none⟩ = some (.string nS) := F5.at 18 (by simp)
        have yF58_19 : ((w6).alloc (.cells #[.bool ln, .string lS, .int .i64 le, .bool nn, .string nS, .int .i64 ne, .bool mn, .string mS, .int .i64 me, .bool nn, .string nS, .int .i64 ne, .bool ln, .string lS, .int .i64 le, .bool qn, .string qS, .int .i64 qe, .bool mn, .string mS, .int .i64 me, .bool qn, .string qS, .int .i64 qe] 35)).cell? ⟨w2.heap.size, 19, none⟩ = some (.int .i64 ne) := F5.at 19 (by simp)
        have yF58_20 : ((w6).alloc (.cells #[.bool ln, .string lS, .int .i64 le, .bool nn, .string nS, .int .i64 ne, .bool mn, .string mS, .int .i64 me, .bool nn, .string nS, .int .i64 ne, .bool ln, .string lS, .int .i64 le, .bool qn, .string qS, .int .i64 qe, .bool mn, .string mS, .int .i64 me, .bool qn, .string qS, .int .i64 qe] 35)).cell? ⟨w2.heap.size, 20, none⟩ = some (.int .i64 E) := F5.at 20 (by simp)
        go_wp2_with fail
        (with_reducible refine (a2 _ (hT.below B0)).mono ?_)
        rintro r w7 ⟨rfl, hb7⟩
        clear yF58_14 yF58_15 yF58_16 yF58_17 yF58_18 yF58_19 yF58_20
        replace F2 := F2.keep hb7
        replace F3 := F3.keep hb7
        replace F5 := F5.keep hb7
        replace F7 := F7.keep hb7
        replace F9 := F9.keep hb7
        replace F11 := F11.keep hb7
        replace F13 := F13.keep hb7
        replace F16r2 := F16r2.keep hb7
        replace B0 := B0.trans (hb7.mono B0.size)
        clear hb7
        replace F2 := F2.allocd (.cells #[.bool tn, .string tS, .int .i64 te] 25)
        replace F3 := F3.allocd (.cells #[.bool tn, .string tS, .int .i64 te] 25)
        replace F5 := F5.allocd (.cells #[.bool tn, .string tS, .int .i64 te] 25)
        replace F7 := F7.allocd (.cells #[.bool tn, .string tS, .int .i64 te] 25)
        replace F9 := F9.allocd (.cells #[.bool tn, .string tS, .int .i64 te] 25)
        replace F11 := F11.allocd (.cells #[.bool tn, .string tS, .int .i64 te] 25)
        replace F13 := F13.allocd (.cells #[.bool tn, .string tS, .int .i64 te] 25)
        replace F16r2 := F16r2.allocd (.cells #[.bool tn, .string tS, .int .i64 te] 25)
        have F18r2 := Blk.put (w7) #[.bool tn, .string tS, .int .i64 te] 25
        replace B0 := B0.alloc B0.size (.cells #[.bool tn, .string tS, .int .i64 te] 25)
        go_wp2_with fail
        refine wp_region_any (by kernel_rfl) ?_
        have yF16r29_6 : ((w7).alloc (.cells #[.bool tn, .string tS, .int .i64 te] 25)).cell? ⟨w6.heap.size, 6, none⟩ = some (.bool mn) := F16r2.at 6 (by simp)
        have yF16r29_7 : ((w7).alloc (.cells #[.bool tn, .string tS, .int .i64 te] 25)).cell? ⟨w6.heap.size, 7, none⟩ = some (.string mS) := F16r2.at 7 (by simp)
        have yF16r29_8 : ((w7).alloc (.cells #[.bool tn, .string tS, .int .i64 te] 25)).cell? ⟨w6.heap.size, 8, none⟩ = some (.int .i64 me) := F16r2.at 8 (by simp)
        have yF16r29_9 : ((w7).alloc (.cells #[.bool tn, .string tS, .int .i64 te] 25)).cell? ⟨w6.heap.size, 9, none⟩ = some (.bool nn) := F16r2.at 9 (by simp)
        have yF16r29_10 : ((w7).alloc (.cells #[.bool tn, .string tS, .int .i64 te] 25)).cell? ⟨w6.heap.size, 10, none⟩ = some (.string nS) := F16r2.at 10 (by simp)
        have yF16r29_11 : ((w7).alloc (.cells #[.bool tn, .string tS, .int .i64 te] 25)).cell? ⟨w6.heap.size, 11, none⟩ = some (.int .i64 ne) := F16r2.at 11 (by simp)
        have yF16r29_12 : ((w7).alloc (.cells #[.bool tn, .string tS, .int .i64 te] 25)).cell? ⟨w6.heap.size, 12, none⟩ = some (.bool ln) := F16r2.at 12 (by simp)
        have yF16r29_13 : ((w7).alloc (.cells #[.bool tn, .string tS, .int .i64 te] 25)).cell? ⟨w6.heap.size, 13, none⟩ = some (.string lS) := F16r2.at 13 (by simp)
        have yF16r29_14 : ((w7).alloc (.cells #[.bool tn, .string tS, .int .i64 te] 25)).cell? ⟨w6.heap.size, 14, none⟩ = some (.int .i64 le) := F16r2.at 14 (by simp)
        have yF16r29_15 : ((w7).alloc (.cells #[.bool tn, .string tS, .int .i64 te] 25)).cell? ⟨w6.heap.size, 15, none⟩ = some (.bool qn) := F16r2.at 15 (by simp)
        have yF16r29_16 : ((w7).alloc (.cells #[.bool tn, .string tS, .int .i64 te] 25)).cell? ⟨w6.heap.size, 16, none⟩ = some (.string qS) := F16r2.at 16 (by simp)
        have yF16r29_17 : ((w7).alloc (.cells #[.bool tn, .string tS, .int .i64 te] 25)).cell? ⟨w6.heap.size, 17, none⟩ = some (.int .i64 qe) := F16r2.at 17 (by simp)
        have yF79_12 : ((w7).alloc (.cells #[.bool tn, .string tS, .int .i64 te] 25)).cell? ⟨w3.heap.size, 12, none⟩ = some (.bool ln) := F7.at 12 (by simp)
        have yF79_13 : ((w7).alloc (.cells #[.bool tn, .string tS, .int .i64 te] 25)).cell? ⟨w3.heap.size, 13, none⟩ = some (.string lS) := F7.at 13 (by simp)
        have yF79_14 : ((w7).alloc (.cells #[.bool tn, .string tS, .int .i64 te] 25)).cell? ⟨w3.heap.size, 14, none⟩ = some (.int .i64 le) := F7.at 14 (by simp)
        have yF79_15 : ((w7).alloc (.cells #[.bool tn, .string tS, .int .i64 te] 25)).cell? ⟨w3.heap.size, 15, none⟩ = some (.bool qn) := F7.at 15 (by simp)
        have yF79_16 : ((w7).alloc (.cells #[.bool tn, .string tS, .int .i64 te] 25)).cell? ⟨w3.heap.size, 16, none⟩ = some (.string qS) := F7.at 16 (by simp)
        have yF79_17 : ((w7).alloc (.cells #[.bool tn, .string tS, .int .i64 te] 25)).cell? ⟨w3.heap.size, 17, none⟩ = some (.int .i64 qe) := F7.at 17 (by simp)
        obtain ⟨xF99_0, xF99_1, xF99_2, xF99_3, xF99_4, xF99_5⟩ := F9.ce6
        have hHeld : (fun w' : World => w'.cell? ⟨w6.heap.size, 6, none⟩ = some (.bool mn) ∧ w'.cell? ⟨w6.heap.size, 7, none⟩ = some (.string mS) ∧ w'.cell? ⟨w6.heap.size, 8, none⟩ = some (.int .i64 me) ∧ w'.cell? ⟨w6.heap.size, 9, none⟩ = some (.bool nn) ∧ w'.cell? ⟨w6.heap.size, 10, none⟩ = some (.string nS) ∧ w'.cell? ⟨w6.heap.size, 11, none⟩ = some (.int .i64 ne) ∧ w'.cell? ⟨w6.heap.size, 12, none⟩ = some (.bool ln) ∧ w'.cell? ⟨w6.heap.size, 13, none⟩ = some (.string lS) ∧ w'.cell? ⟨w6.heap.size, 14, none⟩ = some (.int .i64 le) ∧ w'.cell? ⟨w6.heap.size, 15, none⟩ = some (.bool qn) ∧ w'.cell? ⟨w6.heap.size, 16, none⟩ = some (.string qS) ∧ w'.cell? ⟨w6.heap.size, 17, none⟩ = some (.int .i64 qe) ∧ w'.cell? ⟨w3.heap.size, 12, none⟩ = some (.bool ln) ∧ w'.cell? ⟨w3.heap.size, 13, none⟩ = some (.string lS) ∧ w'.cell? ⟨w3.heap.size, 14, none⟩ = some (.int .i64 le) ∧ w'.cell? ⟨w3.heap.size, 15, none⟩ = some (.bool qn) ∧ w'.cell? ⟨w3.heap.size, 16, none⟩ = some (.string qS) ∧ w'.cell? ⟨w3.heap.size, 17, none⟩ = some (.int .i64 qe) ∧ w'.cell? ⟨w4.heap.size, 0, none⟩ = some (.bool mn) ∧ w'.cell? ⟨w4.heap.size, 1, none⟩ = some (.string mS) ∧ w'.cell? ⟨w4.heap.size, 2, none⟩ = some (.int .i64 me) ∧ w'.cell? ⟨w4.heap.size, 3, none⟩ = some (.bool nn) ∧ w'.cell? ⟨w4.heap.size, 4, none⟩ = some (.string nS) ∧ w'.cell? ⟨w4.heap.size, 5, none⟩ = some (.int .i64 ne)) ((w7).alloc (.cells #[.bool tn, .string tS, .int .i64 te] 25)).drew := ⟨yF16r29_6, yF16r29_7, yF16r29_8, yF16r29_9, yF16r29_10, yF16r29_11, yF16r29_12, yF16r29_13, yF16r29_14, yF16r29_15, yF16r29_16, yF16r29_17, yF79_12, yF79_13, yF79_14, yF79_15, yF79_16, yF79_17, xF99_0, xF99_1, xF99_2, xF99_3, xF99_4, xF99_5⟩
        refine wpAny_of_held (S := fun w' : World => w'.cell? ⟨w6.heap.size, 6, none⟩ = some (.bool mn) ∧ w'.cell? ⟨w6.heap.size, 7, none⟩ = some (.string mS) ∧ w'.cell? ⟨w6.heap.size, 8, none⟩ = some (.int .i64 me) ∧ w'.cell? ⟨w6.heap.size, 9, none⟩ = some (.bool nn) ∧ w'.cell? ⟨w6.heap.size, 10, none⟩ = some (.string nS) ∧ w'.cell? ⟨w6.heap.size, 11, none⟩ = some (.int .i64 ne) ∧ w'.cell? ⟨w6.heap.size, 12, none⟩ = some (.bool ln) ∧ w'.cell? ⟨w6.heap.size, 13, none⟩ = some (.string lS) ∧ w'.cell? ⟨w6.heap.size, 14, none⟩ = some (.int .i64 le) ∧ w'.cell? ⟨w6.heap.size, 15, none⟩ = some (.bool qn) ∧ w'.cell? ⟨w6.heap.size, 16, none⟩ = some (.string qS) ∧ w'.cell? ⟨w6.heap.size, 17, none⟩ = some (.int .i64 qe) ∧ w'.cell? ⟨w3.heap.size, 12, none⟩ = some (.bool ln) ∧ w'.cell? ⟨w3.heap.size, 13, none⟩ = some (.string lS) ∧ w'.cell? ⟨w3.heap.size, 14, none⟩ = some (.int .i64 le) ∧ w'.cell? ⟨w3.heap.size, 15, none⟩ = some (.bool qn) ∧ w'.cell? ⟨w3.heap.size, 16, none⟩ = some (.string qS) ∧ w'.cell? ⟨w3.heap.size, 17, none⟩ = some (.int .i64 qe) ∧ w'.cell? ⟨w4.heap.size, 0, none⟩ = some (.bool mn) ∧ w'.cell? ⟨w4.heap.size, 1, none⟩ = some (.string mS) ∧ w'.cell? ⟨w4.heap.size, 2, none⟩ = some (.int .i64 me) ∧ w'.cell? ⟨w4.heap.size, 3, none⟩ = some (.bool nn) ∧ w'.cell? ⟨w4.heap.size, 4, none⟩ = some (.string nS) ∧ w'.cell? ⟨w4.heap.size, 5, none⟩ = some (.int .i64 ne)) _ _ _ ((w7).alloc (.cells #[.bool tn, .string tS, .int .i64 te] 25)).drew ?_
        replace F2 := F2.drew
        replace F3 := F3.drew
        replace F5 := F5.drew
        replace F7 := F7.drew
        replace F9 := F9.drew
        replace F11 := F11.drew
        replace F13 := F13.drew
        replace F16r2 := F16r2.drew
        replace F18r2 := F18r2.drew
        replace B0 := B0.drew
        generalize ((w7).alloc (.cells #[.bool tn, .string tS, .int .i64 te] 25)).drew = v3 at *
        refine wpAnyH_take (i := 0) (v := _) (by first | (simp only [List.getElem?_toArray, List.getElem?_cons_zero]; rfl) | rfl) (by kernel_rfl) (by kernel_rfl) (by kernel_rfl) (by exact fun _ _ _ h => h) (Or.inl ⟨by rfl, by (intro w hSw; (try dsimp only at hSw); go_simp; try with_reducible rfl)⟩) (by assumption) ?_
        (try dsimp only [Act.put]); (try go_frame)
        refine wpAnyH_take (i := 1) (v := _) (by first | (simp only [List.getElem?_toArray, List.getElem?_cons_zero, List.getElem?_cons_succ]; rfl) | rfl) (by kernel_rfl) (by kernel_rfl) (by kernel_rfl) (by exact fun _ _ _ h => h) (Or.inl ⟨by rfl, by (intro w hSw; (try dsimp only at hSw); go_simp; try with_reducible rfl)⟩) (by assumption) ?_
        (try dsimp only [Act.put]); (try go_frame)
        refine wpAnyH_take (i := 2) (v := _) (by first | (simp only [List.getElem?_toArray, List.getElem?_cons_zero, List.getElem?_cons_succ]; rfl) | rfl) (by kernel_rfl) (by kernel_rfl) (by kernel_rfl) (by exact fun _ _ _ h => h) (Or.inl ⟨by rfl, by (intro w hSw; (try dsimp only at hSw); go_simp; try with_reducible rfl)⟩) (by assumption) ?_
        (try dsimp only [Act.put]); (try go_frame)
        refine wpAnyH_take (i := 3) (v := _) (by first | (simp only [List.getElem?_toArray, List.getElem?_cons_zero, List.getElem?_cons_succ]; rfl) | rfl) (by kernel_rfl) (by kernel_rfl) (by kernel_rfl) (by exact fun _ _ _ h => h) (Or.inl ⟨by rfl, by (intro w hSw; (try dsimp only at hSw); go_simp; try with_reducible rfl)⟩) (by assumption) ?_
        (try dsimp only [Act.put]); (try go_frame)
        refine wpAnyH_take (i := 4) (v := _) (by first | (simp only [List.getElem?_toArray, List.getElem?_cons_zero, List.getElem?_cons_succ]; rfl) | rfl) (by kernel_rfl) (by kernel_rfl) (by kernel_rfl) (by exact fun _ _ _ h => h) (Or.inl ⟨by rfl, by (intro w hSw; (try dsimp only at hSw); go_simp; try with_reducible rfl)⟩) (by assumption) ?_
        (try dsimp only [Act.put]); (try go_frame)
        refine wpAnyH_take (i := 5) (v := _) (by first | (simp only [List.getElem?_toArray, List.getElem?_cons_zero, List.getElem?_cons_succ]; rfl) | rfl) (by kernel_rfl) (by kernel_rfl) (by kernel_rfl) (by exact fun _ _ _ h => h) (Or.inl ⟨by rfl, by (intro w hSw; (try dsimp only at hSw); go_simp; try with_reducible rfl)⟩) (by assumption) ?_
        (try dsimp only [Act.put]); (try go_frame)
        refine wpAnyH_take (i := 6) (v := _) (by first | (simp only [List.getElem?_toArray, List.getElem?_cons_zero, List.getElem?_cons_succ]; rfl) | rfl) (by kernel_rfl) (by kernel_rfl) (by kernel_rfl) (by exact fun _ _ _ h => h) (Or.inl ⟨by rfl, by (intro w hSw; (try dsimp only at hSw); go_simp; try with_reducible rfl)⟩) (by assumption) ?_
        (try dsimp only [Act.put]); (try go_frame)
        refine wpAnyH_take (i := 7) (v := _) (by first | (simp only [List.getElem?_toArray, List.getElem?_cons_zero, List.getElem?_cons_succ]; rfl) | rfl) (by kernel_rfl) (by kernel_rfl) (by kernel_rfl) (by exact fun _ _ _ h => h) (Or.inl ⟨by rfl, by (intro w hSw; (try dsimp only at hSw); go_simp; try with_reducible rfl)⟩) (by assumption) ?_
        (try dsimp only [Act.put]); (try go_frame)
        refine wpAnyH_take (i := 8) (v := _) (by first | (simp only [List.getElem?_toArray, List.getElem?_cons_zero, List.getElem?_cons_succ]; rfl) | rfl) (by kernel_rfl) (by kernel_rfl) (by kernel_rfl) (by exact fun _ _ _ h => h) (Or.inl ⟨by rfl, by (intro w hSw; (try dsimp only at hSw); go_simp; try with_reducible rfl)⟩) (by assumption) ?_
        (try dsimp only [Act.put]); (try go_frame)
        refine wpAnyH_take (i := 9) (v := _) (by first | (simp only [List.getElem?_toArray, List.getElem?_cons_zero, List.getElem?_cons_succ]; rfl) | rfl) (by kernel_rfl) (by kernel_rfl) (by kernel_rfl) (by exact fun _ _ _ h => h) (Or.inl ⟨by rfl, by (intro w hSw; (try dsimp only at hSw); go_simp; try with_reducible rfl)⟩) (by assumption) ?_
        (try dsimp only [Act.put]); (try go_frame)
        refine wpAnyH_take (i := 10) (v := _) (by first | (simp only [List.getElem?_toArray, List.getElem?_cons_zero, List.getElem?_cons_succ]; rfl) | rfl) (by kernel_rfl) (by kernel_rfl) (by kernel_rfl) (by exact fun _ _ _ h => h) (Or.inl ⟨by rfl, by (intro w hSw; (try dsimp only at hSw); go_simp; try with_reducible rfl)⟩) (by assumption) ?_
        (try dsimp only [Act.put]); (try go_frame)
        refine wpAnyH_take (i := 11) (v := _) (by first | (simp only [List.getElem?_toArray, List.getElem?_cons_zero, List.getElem?_cons_succ]; rfl) | rfl) (by kernel_rfl) (by kernel_rfl) (by kernel_rfl) (by exact fun _ _ _ h => h) (Or.inl ⟨by rfl, by (intro w hSw; (try dsimp only at hSw); go_simp; try with_reducible rfl)⟩) (by assumption) ?_
        (try dsimp only [Act.put]); (try go_frame)
        refine wpAnyH_take (i := 12) (v := _) (by first | (simp only [List.getElem?_toArray, List.getElem?_cons_zero, List.getElem?_cons_succ]; rfl) | rfl) (by kernel_rfl) (by kernel_rfl) (by kernel_rfl) (by exact fun _ _ _ h => h) (Or.inl ⟨by rfl, by (intro w hSw; (try dsimp only at hSw); go_simp; try with_reducible rfl)⟩) (by assumption) ?_
        (try dsimp only [Act.put]); (try go_frame)
        refine wpAnyH_take (i := 13) (v := _) (by first | (simp only [List.getElem?_toArray, List.getElem?_cons_zero, List.getElem?_cons_succ]; rfl) | rfl) (by kernel_rfl) (by kernel_rfl) (by kernel_rfl) (by exact fun _ _ _ h => h) (Or.inl ⟨by rfl, by (intro w hSw; (try dsimp only at hSw); go_simp; try with_reducible rfl)⟩) (by assumption) ?_
        (try dsimp only [Act.put]); (try go_frame)
        refine wpAnyH_take (i := 14) (v := _) (by first | (simp only [List.getElem?_toArray, List.getElem?_cons_zero, List.getElem?_cons_succ]; rfl) | rfl) (by kernel_rfl) (by kernel_rfl) (by kernel_rfl) (by exact fun _ _ _ h => h) (Or.inl ⟨by rfl, by (intro w hSw; (try dsimp only at hSw); go_simp; try with_reducible rfl)⟩) (by assumption) ?_
        (try dsimp only [Act.put]); (try go_frame)
        refine wpAnyH_take (i := 15) (v := _) (by first | (simp only [List.getElem?_toArray, List.getElem?_cons_zero, List.getElem?_cons_succ]; rfl) | rfl) (by kernel_rfl) (by kernel_rfl) (by kernel_rfl) (by exact fun _ _ _ h => h) (Or.inl ⟨by rfl, by (intro w hSw; (try dsimp only at hSw); go_simp; try with_reducible rfl)⟩) (by assumption) ?_
        (try dsimp only [Act.put]); (try go_frame)
        refine wpAnyH_take (i := 16) (v := _) (by first | (simp only [List.getElem?_toArray, List.getElem?_cons_zero, List.getElem?_cons_succ]; rfl) | rfl) (by kernel_rfl) (by kernel_rfl) (by kernel_rfl) (by exact fun _ _ _ h => h) (Or.inl ⟨by rfl, by (intro w hSw; (try dsimp only at hSw); go_simp; try with_reducible rfl)⟩) (by assumption) ?_
        (try dsimp only [Act.put]); (try go_frame)
        refine wpAnyH_take (i := 17) (v := _) (by first | (simp only [List.getElem?_toArray, List.getElem?_cons_zero, List.getElem?_cons_succ]; rfl) | rfl) (by kernel_rfl) (by kernel_rfl) (by kernel_rfl) (by exact fun _ _ _ h => h) (Or.inl ⟨by rfl, by (intro w hSw; (try dsimp only at hSw); go_simp; try with_reducible rfl)⟩) (by assumption) ?_
        (try dsimp only [Act.put]); (try go_frame)
        refine wpAnyH_take (i := 18) (v := _) (by first | (simp only [List.getElem?_toArray, List.getElem?_cons_zero, List.getElem?_cons_succ]; rfl) | rfl) (by kernel_rfl) (by kernel_rfl) (by kernel_rfl) (by exact fun _ _ _ h => h) (Or.inl ⟨by rfl, by (intro w hSw; (try dsimp only at hSw); go_simp; try with_reducible rfl)⟩) (by assumption) ?_
        (try dsimp only [Act.put]); (try go_frame)
        refine wpAnyH_take (i := 19) (v := _) (by first | (simp only [List.getElem?_toArray, List.getElem?_cons_zero, List.getElem?_cons_succ]; rfl) | rfl) (by kernel_rfl) (by kernel_rfl) (by kernel_rfl) (by exact fun _ _ _ h => h) (Or.inl ⟨by rfl, by (intro w hSw; (try dsimp only at hSw); go_simp; try with_reducible rfl)⟩) (by assumption) ?_
        (try dsimp only [Act.put]); (try go_frame)
        refine wpAnyH_take (i := 20) (v := _) (by first | (simp only [List.getElem?_toArray, List.getElem?_cons_zero, List.getElem?_cons_succ]; rfl) | rfl) (by kernel_rfl) (by kernel_rfl) (by kernel_rfl) (by exact fun _ _ _ h => h) (Or.inl ⟨by rfl, by (intro w hSw; (try dsimp only at hSw); go_simp; try with_reducible rfl)⟩) (by assumption) ?_
        (try dsimp only [Act.put]); (try go_frame)
        refine wpAnyH_take (i := 21) (v := _) (by first | (simp only [List.getElem?_toArray, List.getElem?_cons_zero, List.getElem?_cons_succ]; rfl) | rfl) (by kernel_rfl) (by kernel_rfl) (by kernel_rfl) (by exact fun _ _ _ h => h) (Or.inl ⟨by rfl, by (intro w hSw; (try dsimp only at hSw); go_simp; try with_reducible rfl)⟩) (by assumption) ?_
        (try dsimp only [Act.put]); (try go_frame)
        refine wpAnyH_take (i := 22) (v := _) (by first | (simp only [List.getElem?_toArray, List.getElem?_cons_zero, List.getElem?_cons_succ]; rfl) | rfl) (by kernel_rfl) (by kernel_rfl) (by kernel_rfl) (by exact fun _ _ _ h => h) (Or.inl ⟨by rfl, by (intro w hSw; (try dsimp only at hSw); go_simp; try with_reducible rfl)⟩) (by assumption) ?_
        (try dsimp only [Act.put]); (try go_frame)
        refine wpAnyH_done (by kernel_rfl) ?_ _
        try simp only [QCut]
        clear hHeld
        clear yF16r29_6 yF16r29_7 yF16r29_8 yF16r29_9 yF16r29_10 yF16r29_11 yF16r29_12 yF16r29_13 yF16r29_14 yF16r29_15 yF16r29_16 yF16r29_17 yF79_12 yF79_13 yF79_14 yF79_15 yF79_16 yF79_17 xF99_0 xF99_1 xF99_2 xF99_3 xF99_4 xF99_5
        obtain ⟨xF1311_0, xF1311_1, xF1311_2⟩ := F13.ce3
        obtain ⟨xF18r211_0, xF18r211_1, xF18r211_2⟩ := F18r2.ce3
        go_wp2_with fail
        (with_reducible refine (s2 _ (hT.below B0)).mono ?_)
        rintro r w8 ⟨rfl, hb8⟩
        clear xF1311_0 xF1311_1 xF1311_2 xF18r211_0 xF18r211_1 xF18r211_2
        replace F2 := F2.keep hb8
        replace F3 := F3.keep hb8
        replace F5 := F5.keep hb8
        replace F7 := F7.keep hb8
        replace F9 := F9.keep hb8
        replace F11 := F11.keep hb8
        replace F13 := F13.keep hb8
        replace F16r2 := F16r2.keep hb8
        replace F18r2 := F18r2.keep hb8
        replace B0 := B0.trans (hb8.mono B0.size)
        clear hb8
        obtain ⟨xF1312_0, xF1312_1, xF1312_2⟩ := F13.ce3
        obtain ⟨xF1312_0f, xF1312_1f, xF1312_2f⟩ := F13.fr3
        replace F2 := (((F2.far 0 (.bool vn) (Nat.ne_of_lt q_F2_F13.out)).far 1 (.string vS) (Nat.ne_of_lt q_F2_F13.out)).far 2 (.int .i64 ve) (Nat.ne_of_lt q_F2_F13.out))
        replace F3 := (((F3.far 0 (.bool vn) (Nat.ne_of_lt q_F3_F13.out)).far 1 (.string vS) (Nat.ne_of_lt q_F3_F13.out)).far 2 (.int .i64 ve) (Nat.ne_of_lt q_F3_F13.out))
        replace F5 := (((F5.far 0 (.bool vn) (Nat.ne_of_lt q_F5_F13.out)).far 1 (.string vS) (Nat.ne_of_lt q_F5_F13.out)).far 2 (.int .i64 ve) (Nat.ne_of_lt q_F5_F13.out))
        replace F7 := (((F7.far 0 (.bool vn) (Nat.ne_of_lt q_F7_F13.out)).far 1 (.string vS) (Nat.ne_of_lt q_F7_F13.out)).far 2 (.int .i64 ve) (Nat.ne_of_lt q_F7_F13.out))
        replace F9 := (((F9.far 0 (.bool vn) (Nat.ne_of_lt q_F9_F13.out)).far 1 (.string vS) (Nat.ne_of_lt q_F9_F13.out)).far 2 (.int .i64 ve) (Nat.ne_of_lt q_F9_F13.out))
        replace F11 := (((F11.far 0 (.bool vn) (Nat.ne_of_lt q_F11_F13.out)).far 1 (.string vS) (Nat.ne_of_lt q_F11_F13.out)).far 2 (.int .i64 ve) (Nat.ne_of_lt q_F11_F13.out))
        clear F16r2
        clear F18r2
        replace F13 : Blk ((((w8).setCell ⟨w5.heap.size + 1, 0, none⟩ (.bool vn)).setCell ⟨w5.heap.size + 1, 1, none⟩ (.string vS)).setCell ⟨w5.heap.size + 1, 2, none⟩ (.int .i64 ve)) (w5.heap.size + 1) #[.bool vn, .string vS, .int .i64 ve] 25 := (((F13.setAt 0 (.bool vn)).setAt 1 (.string vS)).setAt 2 (.int .i64 ve))
        replace B0 := (((B0.setCell (p := ⟨w5.heap.size + 1, 0, none⟩) q_w_F13.out (.bool vn)).setCell (p := ⟨w5.heap.size + 1, 1, none⟩) q_w_F13.out (.string vS)).setCell (p := ⟨w5.heap.size + 1, 2, none⟩) q_w_F13.out (.int .i64 ve))
        go_wp2_with fail
        refine wp_region_any (by kernel_rfl) ?_
        have yF513_14 : ((((w8).setCell ⟨w5.heap.size + 1, 0, none⟩ (.bool vn)).setCell ⟨w5.heap.size + 1, 1, none⟩ (.string vS)).setCell ⟨w5.heap.size + 1, 2, none⟩ (.int .i64 ve)).cell? ⟨w2.heap.size, 14, none⟩ = some (.bool ln) := F5.at 14 (by simp)
        have yF513_15 : ((((w8).setCell ⟨w5.heap.size + 1, 0, none⟩ (.bool vn)).setCell ⟨w5.heap.size + 1, 1, none⟩ (.string vS)).setCell ⟨w5.heap.size + 1, 2, none⟩ (.int .i64 ve)).cell? ⟨w2.heap.size, 15, none⟩ = some (.string lS) := F5.at 15 (by simp)
        have yF513_16 : ((((w8).setCell ⟨w5.heap.size + 1, 0, none⟩ (.bool vn)).setCell ⟨w5.heap.size + 1, 1, none⟩ (.string vS)).setCell ⟨w5.heap.size + 1, 2, none⟩ (.int .i64 ve)).cell? ⟨w2.heap.size, 16, none⟩ = some (.int .i64 le) := F5.at 16 (by simp)
        have yF513_17 : ((((w8).setCell ⟨w5.heap.size + 1, 0, none⟩ (.bool vn)).setCell ⟨w5.heap.size + 1, 1, none⟩ (.string vS)).setCell ⟨w5.heap.size + 1, 2, none⟩ (.int .i64 ve)).cell? ⟨w2.heap.size, 17, none⟩ = some (.bool nn) := F5.at 17 (by simp)
        have yF513_18 : ((((w8).setCell ⟨w5.heap.size + 1, 0, none⟩ (.bool vn)).setCell ⟨w5.heap.size + 1, 1, none⟩ (.string vS)).setCell ⟨w5.heap.size + 1, 2, none⟩ (.int .i64 ve)).cell? ⟨w2.heap.size, 18, none⟩ = some (.string nS) := F5.at 18 (by simp)
        have yF513_19 : ((((w8).setCell ⟨w5.heap.size + 1, 0, none⟩ (.bool vn)).setCell ⟨w5.heap.size + 1, 1, none⟩ (.string vS)).setCell ⟨w5.heap.size + 1, 2, none⟩ (.int .i64 ve)).cell? ⟨w2.heap.size, 19, none⟩ = some (.int .i64 ne) := F5.at 19 (by simp)
        have yF513_20 : ((((w8).setCell ⟨w5.heap.size + 1, 0, none⟩ (.bool vn)).setCell ⟨w5.heap.size + 1, 1, none⟩ (.string vS)).setCell ⟨w5.heap.size + 1, 2, none⟩ (.int .i64 ve)).cell? ⟨w2.heap.size, 20, none⟩ = some (.int .i64 E) := F5.at 20 (by simp)
        obtain ⟨xF313_0, xF313_1, xF313_2, xF313_3, xF313_4, xF313_5⟩ := F3.ce6
        have hHeld : (fun w' : World => w'.cell? ⟨w2.heap.size, 14, none⟩ = some (.bool ln) ∧ w'.cell? ⟨w2.heap.size, 15, none⟩ = some (.string lS) ∧ w'.cell? ⟨w2.heap.size, 16, none⟩ = some (.int .i64 le) ∧ w'.cell? ⟨w2.heap.size, 17, none⟩ = some (.bool nn) ∧ w'.cell? ⟨w2.heap.size, 18, none⟩ = some (.string nS) ∧ w'.cell? ⟨w2.heap.size, 19, none⟩ = some (.int .i64 ne) ∧ w'.cell? ⟨w2.heap.size, 20, none⟩ = some (.int .i64 E) ∧ w'.cell? ⟨w.heap.size + 1, 0, none⟩ = some (.bool jn) ∧ w'.cell? ⟨w.heap.size + 1, 1, none⟩ = some (.string jS) ∧ w'.cell? ⟨w.heap.size + 1, 2, none⟩ = some (.int .i64 je) ∧ w'.cell? ⟨w.heap.size + 1, 3, none⟩ = some (.bool kn) ∧ w'.cell? ⟨w.heap.size + 1, 4, none⟩ = some (.string kS) ∧ w'.cell? ⟨w.heap.size + 1, 5, none⟩ = some (.int .i64 ke)) ((((w8).setCell ⟨w5.heap.size + 1, 0, none⟩ (.bool vn)).setCell ⟨w5.heap.size + 1, 1, none⟩ (.string vS)).setCell ⟨w5.heap.size + 1, 2, none⟩ (.int .i64 ve)).drew := ⟨yF513_14, yF513_15, yF513_16, yF513_17, yF513_18, yF513_19, yF513_20, xF313_0, xF313_1, xF313_2, xF313_3, xF313_4, xF313_5⟩
        refine wpAny_of_held (S := fun w' : World => w'.cell? ⟨w2.heap.size, 14, none⟩ = some (.bool ln) ∧ w'.cell? ⟨w2.heap.size, 15, none⟩ = some (.string lS) ∧ w'.cell? ⟨w2.heap.size, 16, none⟩ = some (.int .i64 le) ∧ w'.cell? ⟨w2.heap.size, 17, none⟩ = some (.bool nn) ∧ w'.cell? ⟨w2.heap.size, 18, none⟩ = some (.string nS) ∧ w'.cell? ⟨w2.heap.size, 19, none⟩ = some (.int .i64 ne) ∧ w'.cell? ⟨w2.heap.size, 20, none⟩ = some (.int .i64 E) ∧ w'.cell? ⟨w.heap.size + 1, 0, none⟩ = some (.bool jn) ∧ w'.cell? ⟨w.heap.size + 1, 1, none⟩ = some (.string jS) ∧ w'.cell? ⟨w.heap.size + 1, 2, none⟩ = some (.int .i64 je) ∧ w'.cell? ⟨w.heap.size + 1, 3, none⟩ = some (.bool kn) ∧ w'.cell? ⟨w.heap.size + 1, 4, none⟩ = some (.string kS) ∧ w'.cell? ⟨w.heap.size + 1, 5, none⟩ = some (.int .i64 ke)) _ _ _ ((((w8).setCell ⟨w5.heap.size + 1, 0, none⟩ (.bool vn)).setCell ⟨w5.heap.size + 1, 1, none⟩ (.string vS)).setCell ⟨w5.heap.size + 1, 2, none⟩ (.int .i64 ve)).drew ?_
        replace F2 := F2.drew
        replace F3 := F3.drew
        replace F5 := F5.drew
        replace F7 := F7.drew
        replace F9 := F9.drew
        replace F11 := F11.drew
        replace F13 := F13.drew
        replace B0 := B0.drew
        generalize ((((w8).setCell ⟨w5.heap.size + 1, 0, none⟩ (.bool vn)).setCell ⟨w5.heap.size + 1, 1, none⟩ (.string vS)).setCell ⟨w5.heap.size + 1, 2, none⟩ (.int .i64 ve)).drew = v4 at *
        refine wpAnyH_take (i := 0) (v := _) (by first | (simp only [List.getElem?_toArray, List.getElem?_cons_zero]; rfl) | rfl) (by kernel_rfl) (by kernel_rfl) (by kernel_rfl) (by exact fun _ _ _ h => h) (Or.inl ⟨by rfl, by (intro w hSw; (try dsimp only at hSw); go_simp; try with_reducible rfl)⟩) (by assumption) ?_
        (try dsimp only [Act.put]); (try go_frame)
        refine wpAnyH_take (i := 1) (v := _) (by first | (simp only [List.getElem?_toArray, List.getElem?_cons_zero, List.getElem?_cons_succ]; rfl) | rfl) (by kernel_rfl) (by kernel_rfl) (by kernel_rfl) (by exact fun _ _ _ h => h) (Or.inl ⟨by rfl, by (intro w hSw; (try dsimp only at hSw); go_simp; try with_reducible rfl)⟩) (by assumption) ?_
        (try dsimp only [Act.put]); (try go_frame)
        refine wpAnyH_take (i := 2) (v := _) (by first | (simp only [List.getElem?_toArray, List.getElem?_cons_zero, List.getElem?_cons_succ]; rfl) | rfl) (by kernel_rfl) (by kernel_rfl) (by kernel_rfl) (by exact fun _ _ _ h => h) (Or.inl ⟨by rfl, by (intro w hSw; (try dsimp only at hSw); go_simp; try with_reducible rfl)⟩) (by assumption) ?_
        (try dsimp only [Act.put]); (try go_frame)
        refine wpAnyH_take (i := 3) (v := _) (by first | (simp only [List.getElem?_toArray, List.getElem?_cons_zero, List.getElem?_cons_succ]; rfl) | rfl) (by kernel_rfl) (by kernel_rfl) (by kernel_rfl) (by exact fun _ _ _ h => h) (Or.inl ⟨by rfl, by (intro w hSw; (try dsimp only at hSw); go_simp; try with_reducible rfl)⟩) (by assumption) ?_
        (try dsimp only [Act.put]); (try go_frame)
        refine wpAnyH_ready (rs := [4]) (by kernel_rfl) (by simp) ?_
        refine AllReadyH.cons rfl (fun K hK => ?_) AllReadyH.nil
        go_simp
        (with_reducible refine (h2 _ (hT.below B0)).mono ?_)
        rintro r w9 ⟨rfl, hb9⟩
        clear xF1312_0 xF1312_1 xF1312_2 xF1312_0f xF1312_1f xF1312_2f yF513_14 yF513_15 yF513_16 yF513_17 yF513_18 yF513_19 yF513_20 xF313_0 xF313_1 xF313_2 xF313_3 xF313_4 xF313_5
        replace F2 := F2.keep hb9
        replace F3 := F3.keep hb9
        replace F5 := F5.keep hb9
        replace F7 := F7.keep hb9
        replace F9 := F9.keep hb9
        replace F11 := F11.keep hb9
        replace F13 := F13.keep hb9
        replace B0 := B0.trans (hb9.mono B0.size)
        clear hb9
        have yF516_14 : (w9).cell? ⟨w2.heap.size, 14, none⟩ = some (.bool ln) := F5.at 14 (by simp)
        have yF516_15 : (w9).cell? ⟨w2.heap.size, 15, none⟩ = some (.string lS) := F5.at 15 (by simp)
        have yF516_16 : (w9).cell? ⟨w2.heap.size, 16, none⟩ = some (.int .i64 le) := F5.at 16 (by simp)
        have yF516_17 : (w9).cell? ⟨w2.heap.size, 17, none⟩ = some (.bool nn) := F5.at 17 (by simp)
        have yF516_18 : (w9).cell? ⟨w2.heap.size, 18, none⟩ = some (.string nS) := F5.at 18 (by simp)
        have yF516_19 : (w9).cell? ⟨w2.heap.size, 19, none⟩ = some (.int .i64 ne) := F5.at 19 (by simp)
        have yF516_20 : (w9).cell? ⟨w2.heap.size, 20, none⟩ = some (.int .i64 E) := F5.at 20 (by simp)
        obtain ⟨xF316_0, xF316_1, xF316_2, xF316_3, xF316_4, xF316_5⟩ := F3.ce6
        refine hK.out _ _ ?_ (fun hHeld => ?_)
        · exact ⟨yF516_14, yF516_15, yF516_16, yF516_17, yF516_18, yF516_19, yF516_20, xF316_0, xF316_1, xF316_2, xF316_3, xF316_4, xF316_5⟩
        clear hK K
        (try dsimp only [Act.put]); (try go_frame)
        refine wpAnyH_take (i := 5) (v := _) (by first | (simp only [List.getElem?_toArray, List.getElem?_cons_zero, List.getElem?_cons_succ]; rfl) | rfl) (by kernel_rfl) (by kernel_rfl) (by kernel_rfl) (by exact fun _ _ _ h => h) (Or.inl ⟨by rfl, by (intro w hSw; (try dsimp only at hSw); go_simp; try with_reducible rfl)⟩) (by assumption) ?_
        (try dsimp only [Act.put]); (try go_frame)
        refine wpAnyH_take (i := 6) (v := _) (by first | (simp only [List.getElem?_toArray, List.getElem?_cons_zero, List.getElem?_cons_succ]; rfl) | rfl) (by kernel_rfl) (by kernel_rfl) (by kernel_rfl) (by exact fun _ _ _ h => h) (Or.inl ⟨by rfl, by (intro w hSw; (try dsimp only at hSw); go_simp; try with_reducible rfl)⟩) (by assumption) ?_
        (try dsimp only [Act.put]); (try go_frame)
        refine wpAnyH_take (i := 7) (v := _) (by first | (simp only [List.getElem?_toArray, List.getElem?_cons_zero, List.getElem?_cons_succ]; rfl) | rfl) (by kernel_rfl) (by kernel_rfl) (by kernel_rfl) (by exact fun _ _ _ h => h) (Or.inl ⟨by rfl, by (intro w hSw; (try dsimp only at hSw); go_simp; try with_reducible rfl)⟩) (by assumption) ?_
        (try dsimp only [Act.put]); (try go_frame)
        refine wpAnyH_take (i := 8) (v := _) (by first | (simp only [List.getElem?_toArray, List.getElem?_cons_zero, List.getElem?_cons_succ]; rfl) | rfl) (by kernel_rfl) (by kernel_rfl) (by kernel_rfl) (by exact fun _ _ _ h => h) (Or.inl ⟨by rfl, by (intro w hSw; (try dsimp only at hSw); go_simp; try with_reducible rfl)⟩) (by assumption) ?_
        (try dsimp only [Act.put]); (try go_frame)
        refine wpAnyH_take (i := 9) (v := _) (by first | (simp only [List.getElem?_toArray, List.getElem?_cons_zero, List.getElem?_cons_succ]; rfl) | rfl) (by kernel_rfl) (by kernel_rfl) (by kernel_rfl) (by exact fun _ _ _ h => h) (Or.inl ⟨by rfl, by (intro w hSw; (try dsimp only at hSw); go_simp; try with_reducible rfl)⟩) (by assumption) ?_
        (try dsimp only [Act.put]); (try go_frame)
        refine wpAnyH_done (by kernel_rfl) ?_ _
        try simp only [QCut]
        clear hHeld
        clear yF516_14 yF516_15 yF516_16 yF516_17 yF516_18 yF516_19 yF516_20 xF316_0 xF316_1 xF316_2 xF316_3 xF316_4 xF316_5
        rcases z2.out with ⟨rfl, rfl⟩ | ⟨rfl, rfl, rfl⟩ | ⟨rfl, rfl, rfl, rfl⟩
        · clear z2
          go_wp2_with fail
          go_meet
          exact ⟨by first | rfl | simp, F2, F3, F5, F7, F9, F11, F13, B0⟩
        · clear z2
          go_wp2_with fail
          go_meet
          exact ⟨by first | rfl | simp, F2, F3, F5, F7, F9, F11, F13, B0⟩
        · clear z2
          go_wp2_with fail
          go_meet
          exact ⟨by first | rfl | simp, F2, F3, F5, F7, F9, F11, F13, B0⟩
      case rest =>
        clear B0
        clear F2
        clear F3
        clear F5
        clear F7
        clear F9
        clear F11
        clear F13
        obtain ⟨rfl, F2, F3, F5, F7, F9, F11, F13, B0⟩ := hcut
        generalize wc = v3 at *
        go_wp2_with fail
        rw [rounds_succ]
        go_upto_block 1 with fail
        go_cut [14] (fun s14 wx => s14 = .bool y3 ∧ Blk wx (w.heap.size) #[.bool ln, .string lS, .int .i64 le, .bool bn, .string bS, .int .i64 be, .int .i64 e] 31 ∧ Blk wx (w.heap.size + 1) #[.bool jn, .string jS, .int .i64 je, .bool kn, .string kS, .int .i64 ke] 27 ∧ Blk wx (w2.heap.size) #[.bool ln, .string lS, .int .i64 le, .bool bn, .string bS, .int .i64 be, .int .i64 E, .bool mn, .string mS, .int .i64 me, .bool bn, .string bS, .int .i64 be, .int .i64 E, .bool ln, .string lS, .int .i64 le, .bool nn, .string nS, .int .i64 ne, .int .i64 E, .bool mn, .string mS, .int .i64 me, .bool nn, .string nS, .int .i64 ne, .int .i64 E] 45 ∧ Blk wx (w3.heap.size) #[.bool ln, .string lS, .int .i64 le, .bool bn, .string bS, .int .i64 be, .bool pn, .string pS, .int .i64 pe, .bool bn, .string bS, .int .i64 be, .bool ln, .string lS, .int .i64 le, .bool qn, .string qS, .int .i64 qe, .bool pn, .string pS, .int .i64 pe, .bool qn, .string qS, .int .i64 qe] 35 ∧ Blk wx (w4.heap.size) #[.bool mn, .string mS, .int .i64 me, .bool nn, .string nS, .int .i64 ne] 27 ∧ Blk wx (w5.heap.size) #[.bool an, .string aS, .int .i64 ae] 25 ∧ Blk wx (w5.heap.size + 1) #[.bool an, .string aS, .int .i64 ae] 25 ∧ Below w.heap.size w wx)
        case first =>
          as_aux_lemma =>
          have yF58_21 : (v3).cell? ⟨w2.heap.size, 21, none⟩ = some (.bool mn) := F5.at 21 (by simp)
          have yF58_22 : (v3).cell? ⟨w2.heap.size, 22, none⟩ = some (.string mS) := F5.at 22 (by simp)
          have yF58_23 : (v3).cell? ⟨w2.heap.size, 23, none⟩ = some (.int .i64 me) := F5.at 23 (by simp)
          have yF58_24 : (v3).cell? ⟨w2.heap.size, 24, none⟩ = some (.bool nn) := F5.at 24 (by simp)
          have yF58_25 : (v3).cell? ⟨w2.heap.size, 25, none⟩ = some (.string nS) := F5.at 25 (by simp)
          have yF58_26 : (v3).cell? ⟨w2.heap.size, 26, none⟩ = some (.int .i64 ne) := F5.at 26 (by simp)
          have yF58_27 : (v3).cell? ⟨w2.heap.size, 27, none⟩ = some (.int .i64 E) := F5.at 27 (by simp)
          go_wp2_with fail
          (with_reducible refine (c3 _ (hT.below B0)).mono ?_)
          rintro r w6 ⟨rfl, hb6⟩
          clear yF58_21 yF58_22 yF58_23 yF58_24 yF58_25 yF58_26 yF58_27
          replace F2 := F2.keep hb6
          replace F3 := F3.keep hb6
          replace F5 := F5.keep hb6
          replace F7 := F7.keep hb6
          replace F9 := F9.keep hb6
          replace F11 := F11.keep hb6
          replace F13 := F13.keep hb6
          replace B0 := B0.trans (hb6.mono B0.size)
          clear hb6
          dsimp only
          go_step
          refine wpList_move rfl _ (.inl rfl) (.tuple #[.agg #[.bool mn, .string mS, .int .i64 me, .bool nn, .string nS, .int .i64 ne, .bool pn, .string pS, .int .i64 pe, .bool nn, .string nS, .int .i64 ne, .bool mn, .string mS, .int .i64 me, .bool qn, .string qS, .int .i64 qe, .bool pn, .string pS, .int .i64 pe, .bool qn, .string qS, .int .i64 qe], .int .i64 0]) rfl ?_
          (try dsimp only [Act.put]); (try go_frame)
          refine wpList_extract rfl _ 0 rfl _ (.agg #[.bool mn, .string mS, .int .i64 me, .bool nn, .string nS, .int .i64 ne, .bool pn, .string pS, .int .i64 pe, .bool nn, .string nS, .int .i64 ne, .bool mn, .string mS, .int .i64 me, .bool qn, .string qS, .int .i64 qe, .bool pn, .string pS, .int .i64 pe, .bool qn, .string qS, .int .i64 qe]) rfl rfl ?_
          (try dsimp only [Act.put]); (try go_frame)
          refine wpList_extract rfl _ 1 rfl _ (.int .i64 0) rfl rfl ?_
          (try dsimp only [Act.put]); (try go_frame)
          refine wpList_new rfl _ rfl _ Tryd.zeroValue35 ?_
          (try dsimp only [Act.put]); (try go_frame)
          refine wpList_store_new rfl _ _ _ rfl _ #[.bool mn, .string mS, .int .i64 me, .bool nn, .string nS, .int .i64 ne, .bool pn, .string pS, .int .i64 pe, .bool nn, .string nS, .int .i64 ne, .bool mn, .string mS, .int .i64 me, .bool qn, .string qS, .int .i64 qe, .bool pn, .string pS, .int .i64 pe, .bool qn, .string qS, .int .i64 qe] rfl rfl (by kernel_rfl) rfl (by simp [Value.oneCell']) ?_
          (try dsimp only [Act.put]); (try go_frame)
          replace F2 := F2.allocd (.cells #[.bool mn, .string mS, .int .i64 me, .bool nn, .string nS, .int .i64 ne, .bool pn, .string pS, .int .i64 pe, .bool nn, .string nS, .int .i64 ne, .bool mn, .string mS, .int .i64 me, .bool qn, .string qS, .int .i64 qe, .bool pn, .string pS, .int .i64 pe, .bool qn, .string qS, .int .i64 qe] 35)
          replace F3 := F3.allocd (.cells #[.bool mn, .string mS, .int .i64 me, .bool nn, .string nS, .int .i64 ne, .bool pn, .string pS, .int .i64 pe, .bool nn, .string nS, .int .i64 ne, .bool mn, .string mS, .int .i64 me, .bool qn, .string qS, .int .i64 qe, .bool pn, .string pS, .int .i64 pe, .bool qn, .string qS, .int .i64 qe] 35)
          replace F5 := F5.allocd (.cells #[.bool mn, .string mS, .int .i64 me, .bool nn, .string nS, .int .i64 ne, .bool pn, .string pS, .int .i64 pe, .bool nn, .string nS, .int .i64 ne, .bool mn, .string mS, .int .i64 me, .bool qn, .string qS, .int .i64 qe, .bool pn, .string pS, .int .i64 pe, .bool qn, .string qS, .int .i64 qe] 35)
          replace F7 := F7.allocd (.cells #[.bool mn, .string mS, .int .i64 me, .bool nn, .string nS, .int .i64 ne, .bool pn, .string pS, .int .i64 pe, .bool nn, .string nS, .int .i64 ne, .bool mn, .string mS, .int .i64 me, .bool qn, .string qS, .int .i64 qe, .bool pn, .string pS, .int .i64 pe, .bool qn, .string qS, .int .i64 qe] 35)
          replace F9 := F9.allocd (.cells #[.bool mn, .string mS, .int .i64 me, .bool nn, .string nS, .int .i64 ne, .bool pn, .string pS, .int .i64 pe, .bool nn, .string nS, .int .i64 ne, .bool mn, .string mS, .int .i64 me, .bool qn, .string qS, .int .i64 qe, .bool pn, .string pS, .int .i64 pe, .bool qn, .string qS, .int .i64 qe] 35)
          replace F11 := F11.allocd (.cells #[.bool mn, .string mS, .int .i64 me, .bool nn, .string nS, .int .i64 ne, .bool pn, .string pS, .int .i64 pe, .bool nn, .string nS, .int .i64 ne, .bool mn, .string mS, .int .i64 me, .bool qn, .string qS, .int .i64 qe, .bool pn, .string pS, .int .i64 pe, .bool qn, .string qS, .int .i64 qe] 35)
          replace F13 := F13.allocd (.cells #[.bool mn, .string mS, .int .i64 me, .bool nn, .string nS, .int .i64 ne, .bool pn, .string pS, .int .i64 pe, .bool nn, .string nS, .int .i64 ne, .bool mn, .string mS, .int .i64 me, .bool qn, .string qS, .int .i64 qe, .bool pn, .string pS, .int .i64 pe, .bool qn, .string qS, .int .i64 qe] 35)
          have F16r3 := Blk.put (w6) #[.bool mn, .string mS, .int .i64 me, .bool nn, .string nS, .int .i64 ne, .bool pn, .string pS, .int .i64 pe, .bool nn, .string nS, .int .i64 ne, .bool mn, .string mS, .int .i64 me, .bool qn, .string qS, .int .i64 qe, .bool pn, .string pS, .int .i64 pe, .bool qn, .string qS, .int .i64 qe] 35
          replace B0 := B0.alloc B0.size (.cells #[.bool mn, .string mS, .int .i64 me, .bool nn, .string nS, .int .i64 ne, .bool pn, .string pS, .int .i64 pe, .bool nn, .string nS, .int .i64 ne, .bool mn, .string mS, .int .i64 me, .bool qn, .string qS, .int .i64 qe, .bool pn, .string pS, .int .i64 pe, .bool qn, .string qS, .int .i64 qe] 35)
          refine wpList_move rfl _ (.inr rfl) (.int .i64 0) rfl ?_
          (try dsimp only [Act.put]); (try go_frame)
          have yF59_21 : ((w6).alloc (.cells #[.bool mn, .string mS, .int .i64 me, .bool nn, .string nS, .int .i64 ne, .bool pn, .string pS, .int .i64 pe, .bool nn, .string nS, .int .i64 ne, .bool mn, .string mS, .int .i64 me, .bool qn, .string qS, .int .i64 qe, .bool pn, .string pS, .int .i64 pe, .bool qn, .string qS, .int .i64 qe] 35)).cell? ⟨w2.heap.size, 21, none⟩ = some (.bool mn) := F5.at 21 (by simp)
          have yF59_22 : ((w6).alloc (.cells #[.bool mn, .string mS, .int .i64 me, .bool nn, .string nS, .int .i64 ne, .bool pn, .string pS, .int .i64 pe, .bool nn, .string nS, .int .i64 ne, .bool mn, .string mS, .int .i64 me, .bool qn, .string qS, .int .i64 qe, .bool pn, .string pS, .int .i64 pe, .bool qn, .string qS, .int .i64 qe] 35)).cell? ⟨w2.heap.size, 22, none⟩ = some (.string mS) := F5.at 22 (by simp)
          have yF59_23 : ((w6).alloc (.cells #[.bool mn, .string mS, .int .i64 me, .bool nn, .string nS, .int .i64 ne, .bool pn, .string pS, .int .i64 pe, .bool nn, .string nS, .int .i64 ne, .bool mn, .string mS, .int .i64 me, .bool qn, .string qS, .int .i64 qe, .bool pn, .string pS, .int .i64 pe, .bool qn, .string qS, .int .i64 qe] 35)).cell? ⟨w2.heap.size, 23, none⟩ = some (.int .i64 me) := F5.at 23 (by simp)
          have yF59_24 : ((w6).alloc (.cells #[.bool mn, .string mS, .int .i64 me, .bool nn, .string nS, .int .i64 ne, .bool pn, .string pS, .int .i64 pe, .bool nn, .string nS, .int .i64 ne, .bool mn, .string mS, .int .i64 me, .bool qn, .string qS, .int .i64 qe, .bool pn, .string pS, .int .i64 pe, .bool qn, .string qS, .int .i64 qe] 35)).cell? ⟨w2.heap.size, 24, none⟩ = some (.bool nn) := F5.at 24 (by simp)
          have yF59_25 : ((w6).alloc (.cells #[.bool mn, .string mS, .int .i64 me, .bool nn, .string nS, .int .i64 ne, .bool pn, .string pS, .int .i64 pe, .bool nn, .string nS, .int .i64 ne, .bool mn, .string mS, .int .i64 me, .bool qn, .string qS, .int .i64 qe, .bool pn, .string pS, .int .i64 pe, .bool qn, .string qS, .int .i64 qe] 35)).cell? ⟨w2.heap.size, 25, none⟩ = some (.string nS) := F5.at 25 (by simp)
          have yF59_26 : ((w6).alloc (.cells #[.bool mn, .string mS, .int .i64 me, .bool nn, .string nS, .int .i64 ne, .bool pn, .string pS, .int .i64 pe, .bool nn, .string nS, .int .i64 ne, .bool mn, .string mS, .int .i64 me, .bool qn, .string qS, .int .i64 qe, .bool pn, .string pS, .int .i64 pe, .bool qn, .string qS, .int .i64 qe] 35)).cell? ⟨w2.heap.size, 26, none⟩ = some (.int .i64 ne) := F5.at 26 (by simp)
          have yF59_27 : ((w6).alloc (.cells #[.bool mn, .string mS, .int .i64 me, .bool nn, .string nS, .int .i64 ne, .bool pn, .string pS, .int .i64 pe, .bool nn, .string nS, .int .i64 ne, .bool mn, .string mS, .int .i64 me, .bool qn, .string qS, .int .i64 qe, .bool pn, .string pS, .int .i64 pe, .bool qn, .string qS, .int .i64 qe] 35)).cell? ⟨w2.heap.size, 27, none⟩ = some (.int .i64 E) := F5.at 27 (by simp)
          go_wp2_with fail
          (with_reducible refine (a3 _ (hT.below B0)).mono ?_)
          rintro r w7 ⟨rfl, hb7⟩
          clear yF59_21 yF59_22 yF59_23 yF59_24 yF59_25 yF59_26 yF59_27
          replace F2 := F2.keep hb7
          replace F3 := F3.keep hb7
          replace F5 := F5.keep hb7
          replace F7 := F7.keep hb7
          replace F9 := F9.keep hb7
          replace F11 := F11.keep hb7
          replace F13 := F13.keep hb7
          replace F16r3 := F16r3.keep hb7
          replace B0 := B0.trans (hb7.mono B0.size)
          clear hb7
          replace F2 := F2.allocd (.cells #[.bool tn, .string tS, .int .i64 te] 25)
          replace F3 := F3.allocd (.cells #[.bool tn, .string tS, .int .i64 te] 25)
          replace F5 := F5.allocd (.cells #[.bool tn, .string tS, .int .i64 te] 25)
          replace F7 := F7.allocd (.cells #[.bool tn, .string tS, .int .i64 te] 25)
          replace F9 := F9.allocd (.cells #[.bool tn, .string tS, .int .i64 te] 25)
          replace F11 := F11.allocd (.cells #[.bool tn, .string tS, .int .i64 te] 25)
          replace F13 := F13.allocd (.cells #[.bool tn, .string tS, .int .i64 te] 25)
          replace F16r3 := F16r3.allocd (.cells #[.bool tn, .string tS, .int .i64 te] 25)
          have F18r3 := Blk.put (w7) #[.bool tn, .string tS, .int .i64 te] 25
          replace B0 := B0.alloc B0.size (.cells #[.bool tn, .string tS, .int .i64 te] 25)
          go_wp2_with fail
          refine wp_region_any (by kernel_rfl) ?_
          have yF16r310_0 : ((w7).alloc (.cells #[.bool tn, .string tS, .int .i64 te] 25)).cell? ⟨w6.heap.size, 0, none⟩ = some (.bool mn) := F16r3.at 0 (by simp)
          have yF16r310_1 : ((w7).alloc (.cells #[.bool tn, .string tS, .int .i64 te] 25)).cell? ⟨w6.heap.size, 1, none⟩ = some (.string mS) := F16r3.at 1 (by simp)
          have yF16r310_2 : ((w7).alloc (.cells #[.bool tn, .string tS, .int .i64 te] 25)).cell? ⟨w6.heap.size, 2, none⟩ = some (.int .i64 me) := F16r3.at 2 (by simp)
          have yF16r310_3 : ((w7).alloc (.cells #[.bool tn, .string tS, .int .i64 te] 25)).cell? ⟨w6.heap.size, 3, none⟩ = some (.bool nn) := F16r3.at 3 (by simp)
          have yF16r310_4 : ((w7).alloc (.cells #[.bool tn, .string tS, .int .i64 te] 25)).cell? ⟨w6.heap.size, 4, none⟩ = some (.string nS) := F16r3.at 4 (by simp)
          have yF16r310_5 : ((w7).alloc (.cells #[.bool tn, .string tS, .int .i64 te] 25)).cell? ⟨w6.heap.size, 5, none⟩ = some (.int .i64 ne) := F16r3.at 5 (by simp)
          have yF16r310_18 : ((w7).alloc (.cells #[.bool tn, .string tS, .int .i64 te] 25)).cell? ⟨w6.heap.size, 18, none⟩ = some (.bool pn) := F16r3.at 18 (by simp)
          have yF16r310_19 : ((w7).alloc (.cells #[.bool tn, .string tS, .int .i64 te] 25)).cell? ⟨w6.heap.size, 19, none⟩ = some (.string pS) := F16r3.at 19 (by simp)
          have yF16r310_20 : ((w7).alloc (.cells #[.bool tn, .string tS, .int .i64 te] 25)).cell? ⟨w6.heap.size, 20, none⟩ = some (.int .i64 pe) := F16r3.at 20 (by simp)
          have yF16r310_21 : ((w7).alloc (.cells #[.bool tn, .string tS, .int .i64 te] 25)).cell? ⟨w6.heap.size, 21, none⟩ = some (.bool qn) := F16r3.at 21 (by simp)
          have yF16r310_22 : ((w7).alloc (.cells #[.bool tn, .string tS, .int .i64 te] 25)).cell? ⟨w6.heap.size, 22, none⟩ = some (.string qS) := F16r3.at 22 (by simp)
          have yF16r310_23 : ((w7).alloc (.cells #[.bool tn, .string tS, .int .i64 te] 25)).cell? ⟨w6.heap.size, 23, none⟩ = some (.int .i64 qe) := F16r3.at 23 (by simp)
          have yF710_18 : ((w7).alloc (.cells #[.bool tn, .string tS, .int .i64 te] 25)).cell? ⟨w3.heap.size, 18, none⟩ = some (.bool pn) := F7.at 18 (by simp)
          have yF710_19 : ((w7).alloc (.cells #[.bool tn, .string tS, .int .i64 te] 25)).cell? ⟨w3.heap.size, 19, none⟩ = some (.string pS) := F7.at 19 (by simp)
          have yF710_20 : ((w7).alloc (.cells #[.bool tn, .string tS, .int .i64 te] 25)).cell? ⟨w3.heap.size, 20, none⟩ = some (.int .i64 pe) := F7.at 20 (by simp)
          have yF710_21 : ((w7).alloc (.cells #[.bool tn, .string tS, .int .i64 te] 25)).cell? ⟨w3.heap.size, 21, none⟩ = some (.bool qn) := F7.at 21 (by simp)
          have yF710_22 : ((w7).alloc (.cells #[.bool tn, .string tS, .int .i64 te] 25)).cell? ⟨w3.heap.size, 22, none⟩ = some (.string qS) := F7.at 22 (by simp)
          have yF710_23 : ((w7).alloc (.cells #[.bool tn, .string tS, .int .i64 te] 25)).cell? ⟨w3.heap.size, 23, none⟩ = some (.int .i64 qe) := F7.at 23 (by simp)
          obtain ⟨xF910_0, xF910_1, xF910_2, xF910_3, xF910_4, xF910_5⟩ := F9.ce6
          have hHeld : (fun w' : World => w'.cell? ⟨w6.heap.size, 0, none⟩ = some (.bool mn) ∧ w'.cell? ⟨w6.heap.size, 1, none⟩ = some (.string mS) ∧ w'.cell? ⟨w6.heap.size, 2, none⟩ = some (.int .i64 me) ∧ w'.cell? ⟨w6.heap.size, 3, none⟩ = some (.bool nn) ∧ w'.cell? ⟨w6.heap.size, 4, none⟩ = some (.string nS) ∧ w'.cell? ⟨w6.heap.size, 5, none⟩ = some (.int .i64 ne) ∧ w'.cell? ⟨w6.heap.size, 18, none⟩ = some (.bool pn) ∧ w'.cell? ⟨w6.heap.size, 19, none⟩ = some (.string pS) ∧ w'.cell? ⟨w6.heap.size, 20, none⟩ = some (.int .i64 pe) ∧ w'.cell? ⟨w6.heap.size, 21, none⟩ = some (.bool qn) ∧ w'.cell? ⟨w6.heap.size, 22, none⟩ = some (.string qS) ∧ w'.cell? ⟨w6.heap.size, 23, none⟩ = some (.int .i64 qe) ∧ w'.cell? ⟨w3.heap.size, 18, none⟩ = some (.bool pn) ∧ w'.cell? ⟨w3.heap.size, 19, none⟩ = some (.string pS) ∧ w'.cell? ⟨w3.heap.size, 20, none⟩ = some (.int .i64 pe) ∧ w'.cell? ⟨w3.heap.size, 21, none⟩ = some (.bool qn) ∧ w'.cell? ⟨w3.heap.size, 22, none⟩ = some (.string qS) ∧ w'.cell? ⟨w3.heap.size, 23, none⟩ = some (.int .i64 qe) ∧ w'.cell? ⟨w4.heap.size, 0, none⟩ = some (.bool mn) ∧ w'.cell? ⟨w4.heap.size, 1, none⟩ = some (.string mS) ∧ w'.cell? ⟨w4.heap.size, 2, none⟩ = some (.int .i64 me) ∧ w'.cell? ⟨w4.heap.size, 3, none⟩ = some (.bool nn) ∧ w'.cell? ⟨w4.heap.size, 4, none⟩ = some (.string nS) ∧ w'.cell? ⟨w4.heap.size, 5, none⟩ = some (.int .i64 ne)) ((w7).alloc (.cells #[.bool tn, .string tS, .int .i64 te] 25)).drew := ⟨yF16r310_0, yF16r310_1, yF16r310_2, yF16r310_3, yF16r310_4, yF16r310_5, yF16r310_18, yF16r310_19, yF16r310_20, yF16r310_21, yF16r310_22, yF16r310_23, yF710_18, yF710_19, yF710_20, yF710_21, yF710_22, yF710_23, xF910_0, xF910_1, xF910_2, xF910_3, xF910_4, xF910_5⟩
          refine wpAny_of_held (S := fun w' : World => w'.cell? ⟨w6.heap.size, 0, none⟩ = some (.bool mn) ∧ w'.cell? ⟨w6.heap.size, 1, none⟩ = some (.string mS) ∧ w'.cell? ⟨w6.heap.size, 2, none⟩ = some (.int .i64 me) ∧ w'.cell? ⟨w6.heap.size, 3, none⟩ = some (.bool nn) ∧ w'.cell? ⟨w6.heap.size, 4, none⟩ = some (.string nS) ∧ w'.cell? ⟨w6.heap.size, 5, none⟩ = some (.int .i64 ne) ∧ w'.cell? ⟨w6.heap.size, 18, none⟩ = some (.bool pn) ∧ w'.cell? ⟨w6.heap.size, 19, none⟩ = some (.string pS) ∧ w'.cell? ⟨w6.heap.size, 20, none⟩ = some (.int .i64 pe) ∧ w'.cell? ⟨w6.heap.size, 21, none⟩ = some (.bool qn) ∧ w'.cell? ⟨w6.heap.size, 22, none⟩ = some (.string qS) ∧ w'.cell? ⟨w6.heap.size, 23, none⟩ = some (.int .i64 qe) ∧ w'.cell? ⟨w3.heap.size, 18, none⟩ = some (.bool pn) ∧ w'.cell? ⟨w3.heap.size, 19, none⟩ = some (.string pS) ∧ w'.cell? ⟨w3.heap.size, 20, none⟩ = some (.int .i64 pe) ∧ w'.cell? ⟨w3.heap.size, 21, none⟩ = some (.bool qn) ∧ w'.cell? ⟨w3.heap.size, 22, none⟩ = some (.string qS) ∧ w'.cell? ⟨w3.heap.size, 23, none⟩ = some (.int .i64 qe) ∧ w'.cell? ⟨w4.heap.size, 0, none⟩ = some (.bool mn) ∧ w'.cell? ⟨w4.heap.size, 1, none⟩ = some (.string mS) ∧ w'.cell? ⟨w4.heap.size, 2, none⟩ = some (.int .i64 me) ∧ w'.cell? ⟨w4.heap.size, 3, none⟩ = some (.bool nn) ∧ w'.cell? ⟨w4.heap.size, 4, none⟩ = some (.string nS) ∧ w'.cell? ⟨w4.heap.size, 5, none⟩ = some (.int .i64 ne)) _ _ _ ((w7).alloc (.cells #[.bool tn, .string tS, .int .i64 te] 25)).drew ?_
          replace F2 := F2.drew
          replace F3 := F3.drew
          replace F5 := F5.drew
          replace F7 := F7.drew
          replace F9 := F9.drew
          replace F11 := F11.drew
          replace F13 := F13.drew
          replace F16r3 := F16r3.drew
          replace F18r3 := F18r3.drew
          replace B0 := B0.drew
          generalize ((w7).alloc (.cells #[.bool tn, .string tS, .int .i64 te] 25)).drew = v4 at *
          refine wpAnyH_take (i := 0) (v := _) (by first | (simp only [List.getElem?_toArray, List.getElem?_cons_zero]; rfl) | rfl) (by kernel_rfl) (by kernel_rfl) (by kernel_rfl) (by exact fun _ _ _ h => h) (Or.inl ⟨by rfl, by (intro w hSw; (try dsimp only at hSw); go_simp; try with_reducible rfl)⟩) (by assumption) ?_
          (try dsimp only [Act.put]); (try go_frame)
          refine wpAnyH_take (i := 1) (v := _) (by first | (simp only [List.getElem?_toArray, List.getElem?_cons_zero, List.getElem?_cons_succ]; rfl) | rfl) (by kernel_rfl) (by kernel_rfl) (by kernel_rfl) (by exact fun _ _ _ h => h) (Or.inl ⟨by rfl, by (intro w hSw; (try dsimp only at hSw); go_simp; try with_reducible rfl)⟩) (by assumption) ?_
          (try dsimp only [Act.put]); (try go_frame)
          refine wpAnyH_take (i := 2) (v := _) (by first | (simp only [List.getElem?_toArray, List.getElem?_cons_zero, List.getElem?_cons_succ]; rfl) | rfl) (by kernel_rfl) (by kernel_rfl) (by kernel_rfl) (by exact fun _ _ _ h => h) (Or.inl ⟨by rfl, by (intro w hSw; (try dsimp only at hSw); go_simp; try with_reducible rfl)⟩) (by assumption) ?_
          (try dsimp only [Act.put]); (try go_frame)
          refine wpAnyH_take (i := 3) (v := _) (by first | (simp only [List.getElem?_toArray, List.getElem?_cons_zero, List.getElem?_cons_succ]; rfl) | rfl) (by kernel_rfl) (by kernel_rfl) (by kernel_rfl) (by exact fun _ _ _ h => h) (Or.inl ⟨by rfl, by (intro w hSw; (try dsimp only at hSw); go_simp; try with_reducible rfl)⟩) (by assumption) ?_
          (try dsimp only [Act.put]); (try go_frame)
          refine wpAnyH_take (i := 4) (v := _) (by first | (simp only [List.getElem?_toArray, List.getElem?_cons_zero, List.getElem?_cons_succ]; rfl) | rfl) (by kernel_rfl) (by kernel_rfl) (by kernel_rfl) (by exact fun _ _ _ h => h) (Or.inl ⟨by rfl, by (intro w hSw; (try dsimp only at hSw); go_simp; try with_reducible rfl)⟩) (by assumption) ?_
          (try dsimp only [Act.put]); (try go_frame)
          refine wpAnyH_take (i := 5) (v := _) (by first | (simp only [List.getElem?_toArray, List.getElem?_cons_zero, List.getElem?_cons_succ]; rfl) | rfl) (by kernel_rfl) (by kernel_rfl) (by kernel_rfl) (by exact fun _ _ _ h => h) (Or.inl ⟨by rfl, by (intro w hSw; (try dsimp only at hSw); go_simp; try with_reducible rfl)⟩) (by assumption) ?_
          (try dsimp only [Act.put]); (try go_frame)
          refine wpAnyH_take (i := 6) (v := _) (by first | (simp only [List.getElem?_toArray, List.getElem?_cons_zero, List.getElem?_cons_succ]; rfl) | rfl) (by kernel_rfl) (by kernel_rfl) (by kernel_rfl) (by exact fun _ _ _ h => h) (Or.inl ⟨by rfl, by (intro w hSw; (try dsimp only at hSw); go_simp; try with_reducible rfl)⟩) (by assumption) ?_
          (try dsimp only [Act.put]); (try go_frame)
          refine wpAnyH_take (i := 7) (v := _) (by first | (simp only [List.getElem?_toArray, List.getElem?_cons_zero, List.getElem?_cons_succ]; rfl) | rfl) (by kernel_rfl) (by kernel_rfl) (by kernel_rfl) (by exact fun _ _ _ h => h) (Or.inl ⟨by rfl, by (intro w hSw; (try dsimp only at hSw); go_simp; try with_reducible rfl)⟩) (by assumption) ?_
          (try dsimp only [Act.put]); (try go_frame)
          refine wpAnyH_take (i := 8) (v := _) (by first | (simp only [List.getElem?_toArray, List.getElem?_cons_zero, List.getElem?_cons_succ]; rfl) | rfl) (by kernel_rfl) (by kernel_rfl) (by kernel_rfl) (by exact fun _ _ _ h => h) (Or.inl ⟨by rfl, by (intro w hSw; (try dsimp only at hSw); go_simp; try with_reducible rfl)⟩) (by assumption) ?_
          (try dsimp only [Act.put]); (try go_frame)
          refine wpAnyH_take (i := 9) (v := _) (by first | (simp only [List.getElem?_toArray, List.getElem?_cons_zero, List.getElem?_cons_succ]; rfl) | rfl) (by kernel_rfl) (by kernel_rfl) (by kernel_rfl) (by exact fun _ _ _ h => h) (Or.inl ⟨by rfl, by (intro w hSw; (try dsimp only at hSw); go_simp; try with_reducible rfl)⟩) (by assumption) ?_
          (try dsimp only [Act.put]); (try go_frame)
          refine wpAnyH_take (i := 10) (v := _) (by first | (simp only [List.getElem?_toArray, List.getElem?_cons_zero, List.getElem?_cons_succ]; rfl) | rfl) (by kernel_rfl) (by kernel_rfl) (by kernel_rfl) (by exact fun _ _ _ h => h) (Or.inl ⟨by rfl, by (intro w hSw; (try dsimp only at hSw); go_simp; try with_reducible rfl)⟩) (by assumption) ?_
          (try dsimp only [Act.put]); (try go_frame)
          refine wpAnyH_take (i := 11) (v := _) (by first | (simp only [List.getElem?_toArray, List.getElem?_cons_zero, List.getElem?_cons_succ]; rfl) | rfl) (by kernel_rfl) (by kernel_rfl) (by kernel_rfl) (by exact fun _ _ _ h => h) (Or.inl ⟨by rfl, by (intro w hSw; (try dsimp only at hSw); go_simp; try with_reducible rfl)⟩) (by assumption) ?_
          (try dsimp only [Act.put]); (try go_frame)
          refine wpAnyH_take (i := 12) (v := _) (by first | (simp only [List.getElem?_toArray, List.getElem?_cons_zero, List.getElem?_cons_succ]; rfl) | rfl) (by kernel_rfl) (by kernel_rfl) (by kernel_rfl) (by exact fun _ _ _ h => h) (Or.inl ⟨by rfl, by (intro w hSw; (try dsimp only at hSw); go_simp; try with_reducible rfl)⟩) (by assumption) ?_
          (try dsimp only [Act.put]); (try go_frame)
          refine wpAnyH_take (i := 13) (v := _) (by first | (simp only [List.getElem?_toArray, List.getElem?_cons_zero, List.getElem?_cons_succ]; rfl) | rfl) (by kernel_rfl) (by kernel_rfl) (by kernel_rfl) (by exact fun _ _ _ h => h) (Or.inl ⟨by rfl, by (intro w hSw; (try dsimp only at hSw); go_simp; try with_reducible rfl)⟩) (by assumption) ?_
          (try dsimp only [Act.put]); (try go_frame)
          refine wpAnyH_take (i := 14) (v := _) (by first | (simp only [List.getElem?_toArray, List.getElem?_cons_zero, List.getElem?_cons_succ]; rfl) | rfl) (by kernel_rfl) (by kernel_rfl) (by kernel_rfl) (by exact fun _ _ _ h => h) (Or.inl ⟨by rfl, by (intro w hSw; (try dsimp only at hSw); go_simp; try with_reducible rfl)⟩) (by assumption) ?_
          (try dsimp only [Act.put]); (try go_frame)
          refine wpAnyH_take (i := 15) (v := _) (by first | (simp only [List.getElem?_toArray, List.getElem?_cons_zero, List.getElem?_cons_succ]; rfl) | rfl) (by kernel_rfl) (by kernel_rfl) (by kernel_rfl) (by exact fun _ _ _ h => h) (Or.inl ⟨by rfl, by (intro w hSw; (try dsimp only at hSw); go_simp; try with_reducible rfl)⟩) (by assumption) ?_
          (try dsimp only [Act.put]); (try go_frame)
          refine wpAnyH_take (i := 16) (v := _) (by first | (simp only [List.getElem?_toArray, List.getElem?_cons_zero, List.getElem?_cons_succ]; rfl) | rfl) (by kernel_rfl) (by kernel_rfl) (by kernel_rfl) (by exact fun _ _ _ h => h) (Or.inl ⟨by rfl, by (intro w hSw; (try dsimp only at hSw); go_simp; try with_reducible rfl)⟩) (by assumption) ?_
          (try dsimp only [Act.put]); (try go_frame)
          refine wpAnyH_take (i := 17) (v := _) (by first | (simp only [List.getElem?_toArray, List.getElem?_cons_zero, List.getElem?_cons_succ]; rfl) | rfl) (by kernel_rfl) (by kernel_rfl) (by kernel_rfl) (by exact fun _ _ _ h => h) (Or.inl ⟨by rfl, by (intro w hSw; (try dsimp only at hSw); go_simp; try with_reducible rfl)⟩) (by assumption) ?_
          (try dsimp only [Act.put]); (try go_frame)
          refine wpAnyH_take (i := 18) (v := _) (by first | (simp only [List.getElem?_toArray, List.getElem?_cons_zero, List.getElem?_cons_succ]; rfl) | rfl) (by kernel_rfl) (by kernel_rfl) (by kernel_rfl) (by exact fun _ _ _ h => h) (Or.inl ⟨by rfl, by (intro w hSw; (try dsimp only at hSw); go_simp; try with_reducible rfl)⟩) (by assumption) ?_
          (try dsimp only [Act.put]); (try go_frame)
          refine wpAnyH_take (i := 19) (v := _) (by first | (simp only [List.getElem?_toArray, List.getElem?_cons_zero, List.getElem?_cons_succ]; rfl) | rfl) (by kernel_rfl) (by kernel_rfl) (by kernel_rfl) (by exact fun _ _ _ h => h) (Or.inl ⟨by rfl, by (intro w hSw; (try dsimp only at hSw); go_simp; try with_reducible rfl)⟩) (by assumption) ?_
          (try dsimp only [Act.put]); (try go_frame)
          refine wpAnyH_take (i := 20) (v := _) (by first | (simp only [List.getElem?_toArray, List.getElem?_cons_zero, List.getElem?_cons_succ]; rfl) | rfl) (by kernel_rfl) (by kernel_rfl) (by kernel_rfl) (by exact fun _ _ _ h => h) (Or.inl ⟨by rfl, by (intro w hSw; (try dsimp only at hSw); go_simp; try with_reducible rfl)⟩) (by assumption) ?_
          (try dsimp only [Act.put]); (try go_frame)
          refine wpAnyH_take (i := 21) (v := _) (by first | (simp only [List.getElem?_toArray, List.getElem?_cons_zero, List.getElem?_cons_succ]; rfl) | rfl) (by kernel_rfl) (by kernel_rfl) (by kernel_rfl) (by exact fun _ _ _ h => h) (Or.inl ⟨by rfl, by (intro w hSw; (try dsimp only at hSw); go_simp; try with_reducible rfl)⟩) (by assumption) ?_
          (try dsimp only [Act.put]); (try go_frame)
          refine wpAnyH_take (i := 22) (v := _) (by first | (simp only [List.getElem?_toArray, List.getElem?_cons_zero, List.getElem?_cons_succ]; rfl) | rfl) (by kernel_rfl) (by kernel_rfl) (by kernel_rfl) (by exact fun _ _ _ h => h) (Or.inl ⟨by rfl, by (intro w hSw; (try dsimp only at hSw); go_simp; try with_reducible rfl)⟩) (by assumption) ?_
          (try dsimp only [Act.put]); (try go_frame)
          refine wpAnyH_done (by kernel_rfl) ?_ _
          try simp only [QCut]
          clear hHeld
          clear yF16r310_0 yF16r310_1 yF16r310_2 yF16r310_3 yF16r310_4 yF16r310_5 yF16r310_18 yF16r310_19 yF16r310_20 yF16r310_21 yF16r310_22 yF16r310_23 yF710_18 yF710_19 yF710_20 yF710_21 yF710_22 yF710_23 xF910_0 xF910_1 xF910_2 xF910_3 xF910_4 xF910_5
          obtain ⟨xF1312_0, xF1312_1, xF1312_2⟩ := F13.ce3
          obtain ⟨xF18r312_0, xF18r312_1, xF18r312_2⟩ := F18r3.ce3
          go_wp2_with fail
          (with_reducible refine (s3 _ (hT.below B0)).mono ?_)
          rintro r w8 ⟨rfl, hb8⟩
          clear xF1312_0 xF1312_1 xF1312_2 xF18r312_0 xF18r312_1 xF18r312_2
          replace F2 := F2.keep hb8
          replace F3 := F3.keep hb8
          replace F5 := F5.keep hb8
          replace F7 := F7.keep hb8
          replace F9 := F9.keep hb8
          replace F11 := F11.keep hb8
          replace F13 := F13.keep hb8
          replace F16r3 := F16r3.keep hb8
          replace F18r3 := F18r3.keep hb8
          replace B0 := B0.trans (hb8.mono B0.size)
          clear hb8
          obtain ⟨xF1313_0, xF1313_1, xF1313_2⟩ := F13.ce3
          obtain ⟨xF1313_0f, xF1313_1f, xF1313_2f⟩ := F13.fr3
          replace F2 := (((F2.far 0 (.bool an) (Nat.ne_of_lt q_F2_F13.out)).far 1 (.string aS) (Nat.ne_of_lt q_F2_F13.out)).far 2 (.int .i64 ae) (Nat.ne_of_lt q_F2_F13.out))
          replace F3 := (((F3.far 0 (.bool an) (Nat.ne_of_lt q_F3_F13.out)).far 1 (.string aS) (Nat.ne_of_lt q_F3_F13.out)).far 2 (.int .i64 ae) (Nat.ne_of_lt q_F3_F13.out))
          replace F5 := (((F5.far 0 (.bool an) (Nat.ne_of_lt q_F5_F13.out)).far 1 (.string aS) (Nat.ne_of_lt q_F5_F13.out)).far 2 (.int .i64 ae) (Nat.ne_of_lt q_F5_F13.out))
          replace F7 := (((F7.far 0 (.bool an) (Nat.ne_of_lt q_F7_F13.out)).far 1 (.string aS) (Nat.ne_of_lt q_F7_F13.out)).far 2 (.int .i64 ae) (Nat.ne_of_lt q_F7_F13.out))
          replace F9 := (((F9.far 0 (.bool an) (Nat.ne_of_lt q_F9_F13.out)).far 1 (.string aS) (Nat.ne_of_lt q_F9_F13.out)).far 2 (.int .i64 ae) (Nat.ne_of_lt q_F9_F13.out))
          replace F11 := (((F11.far 0 (.bool an) (Nat.ne_of_lt q_F11_F13.out)).far 1 (.string aS) (Nat.ne_of_lt q_F11_F13.out)).far 2 (.int .i64 ae) (Nat.ne_of_lt q_F11_F13.out))
          clear F16r3
          clear F18r3
          replace F13 : Blk ((((w8).setCell ⟨w5.heap.size + 1, 0, none⟩ (.bool an)).setCell ⟨w5.heap.size + 1, 1, none⟩ (.string aS)).setCell ⟨w5.heap.size + 1, 2, none⟩ (.int .i64 ae)) (w5.heap.size + 1) #[.bool an, .string aS, .int .i64 ae] 25 := (((F13.setAt 0 (.bool an)).setAt 1 (.string aS)).setAt 2 (.int .i64 ae))
          replace B0 := (((B0.setCell (p := ⟨w5.heap.size + 1, 0, none⟩) q_w_F13.out (.bool an)).setCell (p := ⟨w5.heap.size + 1, 1, none⟩) q_w_F13.out (.string aS)).setCell (p := ⟨w5.heap.size + 1, 2, none⟩) q_w_F13.out (.int .i64 ae))
          go_wp2_with fail
          refine wp_region_any (by kernel_rfl) ?_
          have yF514_21 : ((((w8).setCell ⟨w5.heap.size + 1, 0, none⟩ (.bool an)).setCell ⟨w5.heap.size + 1, 1, none⟩ (.string aS)).setCell ⟨w5.heap.size + 1, 2, none⟩ (.int .i64 ae)).cell? ⟨w2.heap.size, 21, none⟩ = some (.bool mn) := F5.at 21 (by simp)
          have yF514_22 : ((((w8).setCell ⟨w5.heap.size + 1, 0, none⟩ (.bool an)).setCell ⟨w5.heap.size + 1, 1, none⟩ (.string aS)).setCell ⟨w5.heap.size + 1, 2, none⟩ (.int .i64 ae)).cell? ⟨w2.heap.size, 22, none⟩ = some (.string mS) := F5.at 22 (by simp)
          have yF514_23 : ((((w8).setCell ⟨w5.heap.size + 1, 0, none⟩ (.bool an)).setCell ⟨w5.heap.size + 1, 1, none⟩ (.string aS)).setCell ⟨w5.heap.size + 1, 2, none⟩ (.int .i64 ae)).cell? ⟨w2.heap.size, 23, none⟩ = some (.int .i64 me) := F5.at 23 (by simp)
          have yF514_24 : ((((w8).setCell ⟨w5.heap.size + 1, 0, none⟩ (.bool an)).setCell ⟨w5.heap.size + 1, 1, none⟩ (.string aS)).setCell ⟨w5.heap.size + 1, 2, none⟩ (.int .i64 ae)).cell? ⟨w2.heap.size, 24, none⟩ = some (.bool nn) := F5.at 24 (by simp)
          have yF514_25 : ((((w8).setCell ⟨w5.heap.size + 1, 0, none⟩ (.bool an)).setCell ⟨w5.heap.size + 1, 1, none⟩ (.string aS)).setCell ⟨w5.heap.size + 1, 2, none⟩ (.int .i64 ae)).cell? ⟨w2.heap.size, 25, none⟩ = some (.string nS) := F5.at 25 (by simp)
          have yF514_26 : ((((w8).setCell ⟨w5.heap.size + 1, 0, none⟩ (.bool an)).setCell ⟨w5.heap.size + 1, 1, none⟩ (.string aS)).setCell ⟨w5.heap.size + 1, 2, none⟩ (.int .i64 ae)).cell? ⟨w2.heap.size, 26, none⟩ = some (.int .i64 ne) := F5.at 26 (by simp)
          have yF514_27 : ((((w8).setCell ⟨w5.heap.size + 1, 0, none⟩ (.bool an)).setCell ⟨w5.heap.size + 1, 1, none⟩ (.string aS)).setCell ⟨w5.heap.size + 1, 2, none⟩ (.int .i64 ae)).cell? ⟨w2.heap.size, 27, none⟩ = some (.int .i64 E) := F5.at 27 (by simp)
          obtain ⟨xF314_0, xF314_1, xF314_2, xF314_3, xF314_4, xF314_5⟩ := F3.ce6
          have hHeld : (fun w' : World => w'.cell? ⟨w2.heap.size, 21, none⟩ = some (.bool mn) ∧ w'.cell? ⟨w2.heap.size, 22, none⟩ = some (.string mS) ∧ w'.cell? ⟨w2.heap.size, 23, none⟩ = some (.int .i64 me) ∧ w'.cell? ⟨w2.heap.size, 24, none⟩ = some (.bool nn) ∧ w'.cell? ⟨w2.heap.size, 25, none⟩ = some (.string nS) ∧ w'.cell? ⟨w2.heap.size, 26, none⟩ = some (.int .i64 ne) ∧ w'.cell? ⟨w2.heap.size, 27, none⟩ = some (.int .i64 E) ∧ w'.cell? ⟨w.heap.size + 1, 0, none⟩ = some (.bool jn) ∧ w'.cell? ⟨w.heap.size + 1, 1, none⟩ = some (.string jS) ∧ w'.cell? ⟨w.heap.size + 1, 2, none⟩ = some (.int .i64 je) ∧ w'.cell? ⟨w.heap.size + 1, 3, none⟩ = some (.bool kn) ∧ w'.cell? ⟨w.heap.size + 1, 4, none⟩ = some (.string kS) ∧ w'.cell? ⟨w.heap.size + 1, 5, none⟩ = some (.int .i64 ke)) ((((w8).setCell ⟨w5.heap.size + 1, 0, none⟩ (.bool an)).setCell ⟨w5.heap.size + 1, 1, none⟩ (.string aS)).setCell ⟨w5.heap.size + 1, 2, none⟩ (.int .i64 ae)).drew := ⟨yF514_21, yF514_22, yF514_23, yF514_24, yF514_25, yF514_26, yF514_27, xF314_0, xF314_1, xF314_2, xF314_3, xF314_4, xF314_5⟩
          refine wpAny_of_held (S := fun w' : World => w'.cell? ⟨w2.heap.size, 21, none⟩ = some (.bool mn) ∧ w'.cell? ⟨w2.heap.size, 22, none⟩ = some (.string mS) ∧ w'.cell? ⟨w2.heap.size, 23, none⟩ = some (.int .i64 me) ∧ w'.cell? ⟨w2.heap.size, 24, none⟩ = some (.bool nn) ∧ w'.cell? ⟨w2.heap.size, 25, none⟩ = some (.string nS) ∧ w'.cell? ⟨w2.heap.size, 26, none⟩ = some (.int .i64 ne) ∧ w'.cell? ⟨w2.heap.size, 27, none⟩ = some (.int .i64 E) ∧ w'.cell? ⟨w.heap.size + 1, 0, none⟩ = some (.bool jn) ∧ w'.cell? ⟨w.heap.size + 1, 1, none⟩ = some (.string jS) ∧ w'.cell? ⟨w.heap.size + 1, 2, none⟩ = some (.int .i64 je) ∧ w'.cell? ⟨w.heap.size + 1, 3, none⟩ = some (.bool kn) ∧ w'.cell? ⟨w.heap.size + 1, 4, none⟩ = some (.string kS) ∧ w'.cell? ⟨w.heap.size + 1, 5, none⟩ = some (.int .i64 ke)) _ _ _ ((((w8).setCell ⟨w5.heap.size + 1, 0, none⟩ (.bool an)).setCell ⟨w5.heap.size + 1, 1, none⟩ (.string aS)).setCell ⟨w5.heap.size + 1, 2, none⟩ (.int .i64 ae)).drew ?_
          replace F2 := F2.drew
          replace F3 := F3.drew
          replace F5 := F5.drew
          replace F7 := F7.drew
          replace F9 := F9.drew
          replace F11 := F11.drew
          replace F13 := F13.drew
          replace B0 := B0.drew
          generalize ((((w8).setCell ⟨w5.heap.size + 1, 0, none⟩ (.bool an)).setCell ⟨w5.heap.size + 1, 1, none⟩ (.string aS)).setCell ⟨w5.heap.size + 1, 2, none⟩ (.int .i64 ae)).drew = v5 at *
          refine wpAnyH_take (i := 0) (v := _) (by first | (simp only [List.getElem?_toArray, List.getElem?_cons_zero]; rfl) | rfl) (by kernel_rfl) (by kernel_rfl) (by kernel_rfl) (by exact fun _ _ _ h => h) (Or.inl ⟨by rfl, by (intro w hSw; (try dsimp only at hSw); go_simp; try with_reducible rfl)⟩) (by assumption) ?_
          (try dsimp only [Act.put]); (try go_frame)
          refine wpAnyH_take (i := 1) (v := _) (by first | (simp only [List.getElem?_toArray, List.getElem?_cons_zero, List.getElem?_cons_succ]; rfl) | rfl) (by kernel_rfl) (by kernel_rfl) (by kernel_rfl) (by exact fun _ _ _ h => h) (Or.inl ⟨by rfl, by (intro w hSw; (try dsimp only at hSw); go_simp; try with_reducible rfl)⟩) (by assumption) ?_
          (try dsimp only [Act.put]); (try go_frame)
          refine wpAnyH_take (i := 2) (v := _) (by first | (simp only [List.getElem?_toArray, List.getElem?_cons_zero, List.getElem?_cons_succ]; rfl) | rfl) (by kernel_rfl) (by kernel_rfl) (by kernel_rfl) (by exact fun _ _ _ h => h) (Or.inl ⟨by rfl, by (intro w hSw; (try dsimp only at hSw); go_simp; try with_reducible rfl)⟩) (by assumption) ?_
          (try dsimp only [Act.put]); (try go_frame)
          refine wpAnyH_take (i := 3) (v := _) (by first | (simp only [List.getElem?_toArray, List.getElem?_cons_zero, List.getElem?_cons_succ]; rfl) | rfl) (by kernel_rfl) (by kernel_rfl) (by kernel_rfl) (by exact fun _ _ _ h => h) (Or.inl ⟨by rfl, by (intro w hSw; (try dsimp only at hSw); go_simp; try with_reducible rfl)⟩) (by assumption) ?_
          (try dsimp only [Act.put]); (try go_frame)
          refine wpAnyH_ready (rs := [4]) (by kernel_rfl) (by simp) ?_
          refine AllReadyH.cons rfl (fun K hK => ?_) AllReadyH.nil
          go_simp
          (with_reducible refine (h3 _ (hT.below B0)).mono ?_)
          rintro r w9 ⟨rfl, hb9⟩
          clear xF1313_0 xF1313_1 xF1313_2 xF1313_0f xF1313_1f xF1313_2f yF514_21 yF514_22 yF514_23 yF514_24 yF514_25 yF514_26 yF514_27 xF314_0 xF314_1 xF314_2 xF314_3 xF314_4 xF314_5
          replace F2 := F2.keep hb9
          replace F3 := F3.keep hb9
          replace F5 := F5.keep hb9
          replace F7 := F7.keep hb9
          replace F9 := F9.keep hb9
          replace F11 := F11.keep hb9
          replace F13 := F13.keep hb9
          replace B0 := B0.trans (hb9.mono B0.size)
          clear hb9
          have yF517_21 : (w9).cell? ⟨w2.heap.size, 21, none⟩ = some (.bool mn) := F5.at 21 (by simp)
          have yF517_22 : (w9).cell? ⟨w2.heap.size, 22, none⟩ = some (.string mS) := F5.at 22 (by simp)
          have yF517_23 : (w9).cell? ⟨w2.heap.size, 23, none⟩ = some (.int .i64 me) := F5.at 23 (by simp)
          have yF517_24 : (w9).cell? ⟨w2.heap.size, 24, none⟩ = some (.bool nn) := F5.at 24 (by simp)
          have yF517_25 : (w9).cell? ⟨w2.heap.size, 25, none⟩ = some (.string nS) := F5.at 25 (by simp)
          have yF517_26 : (w9).cell? ⟨w2.heap.size, 26, none⟩ = some (.int .i64 ne) := F5.at 26 (by simp)
          have yF517_27 : (w9).cell? ⟨w2.heap.size, 27, none⟩ = some (.int .i64 E) := F5.at 27 (by simp)
          obtain ⟨xF317_0, xF317_1, xF317_2, xF317_3, xF317_4, xF317_5⟩ := F3.ce6
          refine hK.out _ _ ?_ (fun hHeld => ?_)
          · exact ⟨yF517_21, yF517_22, yF517_23, yF517_24, yF517_25, yF517_26, yF517_27, xF317_0, xF317_1, xF317_2, xF317_3, xF317_4, xF317_5⟩
          clear hK K
          (try dsimp only [Act.put]); (try go_frame)
          refine wpAnyH_take (i := 5) (v := _) (by first | (simp only [List.getElem?_toArray, List.getElem?_cons_zero, List.getElem?_cons_succ]; rfl) | rfl) (by kernel_rfl) (by kernel_rfl) (by kernel_rfl) (by exact fun _ _ _ h => h) (Or.inl ⟨by rfl, by (intro w hSw; (try dsimp only at hSw); go_simp; try with_reducible rfl)⟩) (by assumption) ?_
          (try dsimp only [Act.put]); (try go_frame)
          refine wpAnyH_take (i := 6) (v := _) (by first | (simp only [List.getElem?_toArray, List.getElem?_cons_zero, List.getElem?_cons_succ]; rfl) | rfl) (by kernel_rfl) (by kernel_rfl) (by kernel_rfl) (by exact fun _ _ _ h => h) (Or.inl ⟨by rfl, by (intro w hSw; (try dsimp only at hSw); go_simp; try with_reducible rfl)⟩) (by assumption) ?_
          (try dsimp only [Act.put]); (try go_frame)
          refine wpAnyH_take (i := 7) (v := _) (by first | (simp only [List.getElem?_toArray, List.getElem?_cons_zero, List.getElem?_cons_succ]; rfl) | rfl) (by kernel_rfl) (by kernel_rfl) (by kernel_rfl) (by exact fun _ _ _ h => h) (Or.inl ⟨by rfl, by (intro w hSw; (try dsimp only at hSw); go_simp; try with_reducible rfl)⟩) (by assumption) ?_
          (try dsimp only [Act.put]); (try go_frame)
          refine wpAnyH_take (i := 8) (v := _) (by first | (simp only [List.getElem?_toArray, List.getElem?_cons_zero, List.getElem?_cons_succ]; rfl) | rfl) (by kernel_rfl) (by kernel_rfl) (by kernel_rfl) (by exact fun _ _ _ h => h) (Or.inl ⟨by rfl, by (intro w hSw; (try dsimp only at hSw); go_simp; try with_reducible rfl)⟩) (by assumption) ?_
          (try dsimp only [Act.put]); (try go_frame)
          refine wpAnyH_take (i := 9) (v := _) (by first | (simp only [List.getElem?_toArray, List.getElem?_cons_zero, List.getElem?_cons_succ]; rfl) | rfl) (by kernel_rfl) (by kernel_rfl) (by kernel_rfl) (by exact fun _ _ _ h => h) (Or.inl ⟨by rfl, by (intro w hSw; (try dsimp only at hSw); go_simp; try with_reducible rfl)⟩) (by assumption) ?_
          (try dsimp only [Act.put]); (try go_frame)
          refine wpAnyH_done (by kernel_rfl) ?_ _
          try simp only [QCut]
          clear hHeld
          clear yF517_21 yF517_22 yF517_23 yF517_24 yF517_25 yF517_26 yF517_27 xF317_0 xF317_1 xF317_2 xF317_3 xF317_4 xF317_5
          rcases z3.out with ⟨rfl, rfl⟩ | ⟨rfl, rfl, rfl⟩ | ⟨rfl, rfl, rfl, rfl⟩
          · clear z3
            go_wp2_with fail
            go_meet
            exact ⟨by first | rfl | simp, F2, F3, F5, F7, F9, F11, F13, B0⟩
          · clear z3
            go_wp2_with fail
            go_meet
            exact ⟨by first | rfl | simp, F2, F3, F5, F7, F9, F11, F13, B0⟩
          · clear z3
            go_wp2_with fail
            go_meet
            exact ⟨by first | rfl | simp, F2, F3, F5, F7, F9, F11, F13, B0⟩
        case rest =>
          clear B0
          clear F2
          clear F3
          clear F5
          clear F7
          clear F9
          clear F11
          clear F13
          obtain ⟨rfl, F2, F3, F5, F7, F9, F11, F13, B0⟩ := hcut
          generalize wc = v4 at *
          go_wp2_with fail
          rw [rounds_succ]
          obtain ⟨xF29_0, xF29_1, xF29_2, xF29_3, xF29_4, xF29_5, xF29_6⟩ := F2.ce7
          obtain ⟨xF39_0, xF39_1, xF39_2, xF39_3, xF39_4, xF39_5⟩ := F3.ce6
          go_wp2_with fail
          (with_reducible refine (hs _ (hT.below B0)).mono ?_)
          rintro r w6 ⟨rfl, hb6⟩
          clear xF29_0 xF29_1 xF29_2 xF29_3 xF29_4 xF29_5 xF29_6 xF39_0 xF39_1 xF39_2 xF39_3 xF39_4 xF39_5
          replace F2 := F2.keep hb6
          replace F3 := F3.keep hb6
          replace F5 := F5.keep hb6
          replace F7 := F7.keep hb6
          replace F9 := F9.keep hb6
          replace F11 := F11.keep hb6
          replace F13 := F13.keep hb6
          replace B0 := B0.trans (hb6.mono B0.size)
          clear hb6
          rcases zs.out with h | ⟨rfl, rfl⟩
          · have h2 : (eh != 0) = true := by simpa using h
            clear h zs
            obtain ⟨xF1310_0, xF1310_1, xF1310_2⟩ := F13.ce3
            obtain ⟨xF1110_0, xF1110_1, xF1110_2⟩ := F11.ce3
            go_wp2
            go_ret
            exact ⟨rfl, B0⟩
          · clear zs
            obtain ⟨xF1310_0, xF1310_1, xF1310_2⟩ := F13.ce3
            obtain ⟨xF1110_0, xF1110_1, xF1110_2⟩ := F11.ce3
            go_wp2
            go_ret
            exact ⟨rfl, B0⟩

end Go.Proofs.YtppebjnmollojaaDoor
