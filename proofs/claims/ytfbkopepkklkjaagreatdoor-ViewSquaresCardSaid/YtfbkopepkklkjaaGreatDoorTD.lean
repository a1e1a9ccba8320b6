/- filigreelaw24.ViewSquares: the walks, over letters. -/
import Derived.Test.YtfbkopepkklkjaaGreatDoorQ0
import Derived.Test.YtfbkopepkklkjaaGreatDoorQ7
import Derived.Test.YtfbkopepkklkjaaGreatDoorQA
import Derived.Test.YtfbkopepkklkjaaGreatDoorTB
import Derived.Laws.Rows
namespace Go.Proofs.YtfbkopepkklkjaaGreatDoor
open Go Go.RowKit Go.PlainAid Fil


set_option maxRecDepth 1000000 in
set_option maxHeartbeats 16000000 in
theorem squares_bad (e : Int) (ln : Bool) (lS : ByteArray) (le : Int) (bn : Bool) (bS : ByteArray) (be : Int) (jn : Bool) (jS : ByteArray) (je : Int) (kn : Bool) (kS : ByteArray) (ke : Int) (cC : Array Value) (hcC : cC.size = 24 ∧ cC.all (·.oneCell') = true) (cP : Array Value) (hcP : cP.size = 28 ∧ cP.all (·.oneCell') = true) (w : World) (qC : ∀ W : World, (Op.equalIn 10000 29 (.agg cC) (.agg #[.bool false, .string { data := #[] }, .int .i64 0, .bool false, .string { data := #[] }, .int .i64 0, .bool false, .string { data := #[] }, .int .i64 0, .bool false, .string { data := #[] }, .int .i64 0, .bool false, .string { data := #[] }, .int .i64 0, .bool false, .string { data := #[] }, .int .i64 0, .bool false, .string { data := #[] }, .int .i64 0, .bool false, .string { data := #[] }, .int .i64 0])).run Tryz.prog W = .ok true W) (qP : ∀ W : World, (Op.equalIn 10000 37 (.agg cP) (.agg #[.bool false, .string { data := #[] }, .int .i64 0, .bool false, .string { data := #[] }, .int .i64 0, .int .i64 0, .bool false, .string { data := #[] }, .int .i64 0, .bool false, .string { data := #[] }, .int .i64 0, .int .i64 0, .bool false, .string { data := #[] }, .int .i64 0, .bool false, .string { data := #[] }, .int .i64 0, .int .i64 0, .bool false, .string { data := #[] }, .int .i64 0, .bool false, .string { data := #[] }, .int .i64 0, .int .i64 0])).run Tryz.prog W = .ok true W) (hC : ∀ W : World, Tab W → Calls Tryz.prog 5 #[.agg #[.bool ln, .string lS, .int .i64 le, .bool bn, .string bS, .int .i64 be, .int .i64 e]] W fun r w' => r = .returned (.tuple #[.agg cC, .int .i64 240]) ∧ Below W.heap.size W w') (hM : ∀ W : World, Tab W → Calls Tryz.prog 6 #[.agg #[.bool ln, .string lS, .int .i64 le, .bool bn, .string bS, .int .i64 be, .int .i64 e]] W fun r w' => r = .returned (.tuple #[.agg #[.bool false, .string { data := #[] }, .int .i64 0, .bool false, .string { data := #[] }, .int .i64 0], .int .i64 240]) ∧ Below W.heap.size W w') (hH : ∀ W : World, Tab W → Calls Tryz.prog 7 #[.agg #[.bool ln, .string lS, .int .i64 le, .bool bn, .string bS, .int .i64 be, .int .i64 e], .agg #[.bool jn, .string jS, .int .i64 je, .bool kn, .string kS, .int .i64 ke]] W fun r w' => r = .returned (.tuple #[.bool false, .int .i64 240]) ∧ Below W.heap.size W w') (hP : ∀ W : World, Tab W → Calls Tryz.prog 8 #[.agg #[.bool ln, .string lS, .int .i64 le, .bool bn, .string bS, .int .i64 be, .int .i64 e]] W fun r w' => r = .returned (.tuple #[.agg cP, .int .i64 240]) ∧ Below W.heap.size W w') (hA : ∀ W : World, Tab W → Calls Tryz.prog 9 #[.agg #[.bool ln, .string lS, .int .i64 le, .bool bn, .string bS, .int .i64 be, .int .i64 e]] W fun r w' => r = .returned (.tuple #[.agg #[.bool false, .string { data := #[] }, .int .i64 0], .int .i64 240]) ∧ Below W.heap.size W w') (hR : ∀ W : World, Calls Tryz.prog 10 #[.agg #[.bool ln, .string lS, .int .i64 le, .bool bn, .string bS, .int .i64 be, .int .i64 e]] W fun r w' => r = .returned (.bool false) ∧ Below W.heap.size W w') (hV : ∀ W : World, Calls Tryz.prog 11 #[.agg #[.bool ln, .string lS, .int .i64 le, .bool bn, .string bS, .int .i64 be, .int .i64 e]] W fun r w' => r = .returned (.int .i64 240) ∧ Below W.heap.size W w') (hT : Tab w) :
    Calls Tryz.prog 3 #[.agg #[.bool ln, .string lS, .int .i64 le, .bool bn, .string bS, .int .i64 be, .int .i64 e], .agg #[.bool jn, .string jS, .int .i64 je, .bool kn, .string kS, .int .i64 ke]] w fun r' w' => r' = .returned (.bool true) ∧ Below w.heap.size w w' := by
  have aw := fun W hW => awake24 W hW
  go_enter Tryz.func3, Tryz.ntmps3
  have B0 := Below.refl w.heap.size w
  have F2 := Blk.put (w) #[.bool ln, .string lS, .int .i64 le, .bool bn, .string bS, .int .i64 be, .int .i64 e] 26
  replace B0 := B0.alloc B0.size (.cells #[.bool ln, .string lS, .int .i64 le, .bool bn, .string bS, .int .i64 be, .int .i64 e] 26)
  replace F2 := F2.allocd (.cells #[.bool jn, .string jS, .int .i64 je, .bool kn, .string kS, .int .i64 ke] 28)
  have F3 := Blk.put ((w).alloc (.cells #[.bool ln, .string lS, .int .i64 le, .bool bn, .string bS, .int .i64 be, .int .i64 e] 26)) #[.bool jn, .string jS, .int .i64 je, .bool kn, .string kS, .int .i64 ke] 28
  rw [show ((w).alloc (.cells #[.bool ln, .string lS, .int .i64 le, .bool bn, .string bS, .int .i64 be, .int .i64 e] 26)).heap.size = w.heap.size + 1 by simp] at F3
  replace B0 := B0.alloc B0.size (.cells #[.bool jn, .string jS, .int .i64 je, .bool kn, .string kS, .int .i64 ke] 28)
  obtain ⟨xF20_0, xF20_1, xF20_2, xF20_3, xF20_4, xF20_5, xF20_6⟩ := F2.ce7
  go_wp2_with fail
  (with_reducible refine (hC _ (hT.below B0)).mono ?_)
  rintro r w1 ⟨rfl, hb1⟩
  clear xF20_0 xF20_1 xF20_2 xF20_3 xF20_4 xF20_5 xF20_6
  replace F2 := F2.keep hb1
  replace F3 := F3.keep hb1
  replace B0 := B0.trans (hb1.mono B0.size)
  clear hb1
  dsimp only
  go_step
  refine wpList_move rfl _ (.inl rfl) (.tuple #[.agg cC, .int .i64 240]) rfl ?_
  (try dsimp only [Act.put]); (try go_frame)
  refine wpList_extract rfl _ 0 rfl _ (.agg cC) rfl rfl ?_
  (try dsimp only [Act.put]); (try go_frame)
  refine wpList_extract rfl _ 1 rfl _ (.int .i64 240) rfl rfl ?_
  (try dsimp only [Act.put]); (try go_frame)
  refine wpList_new rfl _ rfl _ Tryz.zeroValue29 ?_
  (try dsimp only [Act.put]); (try go_frame)
  refine wpList_store_new rfl _ _ _ rfl _ cC rfl rfl (by rw [hcC.1]; kernel_rfl) (by rw [hcC.1]; rfl) hcC.2 ?_
  (try dsimp only [Act.put]); (try go_frame)
  replace F2 := F2.allocd (.cells cC 29)
  replace F3 := F3.allocd (.cells cC 29)
  have F5 := Blk.put (w1) cC 29
  replace B0 := B0.alloc B0.size (.cells cC 29)
  refine wpList_move rfl _ (.inr rfl) (.int .i64 240) rfl ?_
  (try dsimp only [Act.put]); (try go_frame)
  obtain ⟨xF21_0, xF21_1, xF21_2, xF21_3, xF21_4, xF21_5, xF21_6⟩ := F2.ce7
  go_wp2_with fail
  (with_reducible refine (hM _ (hT.below B0)).mono ?_)
  rintro r w2 ⟨rfl, hb2⟩
  clear xF21_0 xF21_1 xF21_2 xF21_3 xF21_4 xF21_5 xF21_6
  replace F2 := F2.keep hb2
  replace F3 := F3.keep hb2
  replace F5 := F5.keep hb2
  replace B0 := B0.trans (hb2.mono B0.size)
  clear hb2
  replace F2 := F2.allocd (.cells #[.bool false, .string { data := #[] }, .int .i64 0, .bool false, .string { data := #[] }, .int .i64 0] 28)
  replace F3 := F3.allocd (.cells #[.bool false, .string { data := #[] }, .int .i64 0, .bool false, .string { data := #[] }, .int .i64 0] 28)
  replace F5 := F5.allocd (.cells #[.bool false, .string { data := #[] }, .int .i64 0, .bool false, .string { data := #[] }, .int .i64 0] 28)
  have F7 := Blk.put (w2) #[.bool false, .string { data := #[] }, .int .i64 0, .bool false, .string { data := #[] }, .int .i64 0] 28
  replace B0 := B0.alloc B0.size (.cells #[.bool false, .string { data := #[] }, .int .i64 0, .bool false, .string { data := #[] }, .int .i64 0] 28)
  obtain ⟨xF22_0, xF22_1, xF22_2, xF22_3, xF22_4, xF22_5, xF22_6⟩ := F2.ce7
  obtain ⟨xF32_0, xF32_1, xF32_2, xF32_3, xF32_4, xF32_5⟩ := F3.ce6
  go_wp2_with fail
  (with_reducible refine (hH _ (hT.below B0)).mono ?_)
  rintro r w3 ⟨rfl, hb3⟩
  clear xF22_0 xF22_1 xF22_2 xF22_3 xF22_4 xF22_5 xF22_6 xF32_0 xF32_1 xF32_2 xF32_3 xF32_4 xF32_5
  replace F2 := F2.keep hb3
  replace F3 := F3.keep hb3
  replace F5 := F5.keep hb3
  replace F7 := F7.keep hb3
  replace B0 := B0.trans (hb3.mono B0.size)
  clear hb3
  obtain ⟨xF23_0, xF23_1, xF23_2, xF23_3, xF23_4, xF23_5, xF23_6⟩ := F2.ce7
  go_wp2_with fail
  (with_reducible refine (hP _ (hT.below B0)).mono ?_)
  rintro r w4 ⟨rfl, hb4⟩
  clear xF23_0 xF23_1 xF23_2 xF23_3 xF23_4 xF23_5 xF23_6
  replace F2 := F2.keep hb4
  clear F3
  replace F5 := F5.keep hb4
  replace F7 := F7.keep hb4
  replace B0 := B0.trans (hb4.mono B0.size)
  clear hb4
  dsimp only
  go_step
  refine wpList_move rfl _ (.inl rfl) (.tuple #[.agg cP, .int .i64 240]) rfl ?_
  (try dsimp only [Act.put]); (try go_frame)
  refine wpList_extract rfl _ 0 rfl _ (.agg cP) rfl rfl ?_
  (try dsimp only [Act.put]); (try go_frame)
  refine wpList_extract rfl _ 1 rfl _ (.int .i64 240) rfl rfl ?_
  (try dsimp only [Act.put]); (try go_frame)
  refine wpList_new rfl _ rfl _ Tryz.zeroValue37 ?_
  (try dsimp only [Act.put]); (try go_frame)
  refine wpList_store_new rfl _ _ _ rfl _ cP rfl rfl (by rw [hcP.1]; kernel_rfl) (by rw [hcP.1]; rfl) hcP.2 ?_
  (try dsimp only [Act.put]); (try go_frame)
  replace F2 := F2.allocd (.cells cP 37)
  replace F5 := F5.allocd (.cells cP 37)
  replace F7 := F7.allocd (.cells cP 37)
  have F11 := Blk.put (w4) cP 37
  replace B0 := B0.alloc B0.size (.cells cP 37)
  refine wpList_move rfl _ (.inr rfl) (.int .i64 240) rfl ?_
  (try dsimp only [Act.put]); (try go_frame)
  obtain ⟨xF24_0, xF24_1, xF24_2, xF24_3, xF24_4, xF24_5, xF24_6⟩ := F2.ce7
  go_wp2_with fail
  (with_reducible refine (hA _ (hT.below B0)).mono ?_)
  rintro r w5 ⟨rfl, hb5⟩
  clear xF24_0 xF24_1 xF24_2 xF24_3 xF24_4 xF24_5 xF24_6
  replace F2 := F2.keep hb5
  replace F5 := F5.keep hb5
  replace F7 := F7.keep hb5
  replace F11 := F11.keep hb5
  replace B0 := B0.trans (hb5.mono B0.size)
  clear hb5
  replace F2 := F2.allocd (.cells #[.bool false, .string { data := #[] }, .int .i64 0] 24)
  replace F5 := F5.allocd (.cells #[.bool false, .string { data := #[] }, .int .i64 0] 24)
  replace F7 := F7.allocd (.cells #[.bool false, .string { data := #[] }, .int .i64 0] 24)
  replace F11 := F11.allocd (.cells #[.bool false, .string { data := #[] }, .int .i64 0] 24)
  have F13 := Blk.put (w5) #[.bool false, .string { data := #[] }, .int .i64 0] 24
  replace B0 := B0.alloc B0.size (.cells #[.bool false, .string { data := #[] }, .int .i64 0] 24)
  obtain ⟨xF25_0, xF25_1, xF25_2, xF25_3, xF25_4, xF25_5, xF25_6⟩ := F2.ce7
  go_wp2_with fail
  (with_reducible refine (hR _).mono ?_)
  rintro r w6 ⟨rfl, hb6⟩
  clear xF25_0 xF25_1 xF25_2 xF25_3 xF25_4 xF25_5 xF25_6
  replace F2 := F2.keep hb6
  replace F5 := F5.keep hb6
  replace F7 := F7.keep hb6
  replace F11 := F11.keep hb6
  replace F13 := F13.keep hb6
  replace B0 := B0.trans (hb6.mono B0.size)
  clear hb6
  obtain ⟨xF26_0, xF26_1, xF26_2, xF26_3, xF26_4, xF26_5, xF26_6⟩ := F2.ce7
  go_wp2_with fail
  (with_reducible refine (hV _).mono ?_)
  rintro r w7 ⟨rfl, hb7⟩
  clear xF26_0 xF26_1 xF26_2 xF26_3 xF26_4 xF26_5 xF26_6
  replace F2 := F2.keep hb7
  replace F5 := F5.keep hb7
  replace F7 := F7.keep hb7
  replace F11 := F11.keep hb7
  replace F13 := F13.keep hb7
  replace B0 := B0.trans (hb7.mono B0.size)
  clear hb7
  obtain ⟨xF77_0, xF77_1, xF77_2, xF77_3, xF77_4, xF77_5⟩ := F7.ce6
  obtain ⟨xF137_0, xF137_1, xF137_2⟩ := F13.ce3
  go_wp2_with (first | (with_reducible refine wpList_load_row_g (op := ⟨some 56, _, _, _, _, _⟩) (by first | rfl | (go_simp; done)) 29 _ rfl (w1.heap.size) cC _ _ rfl F5 Tryz.underlying29 (by rw [hcC.1]; kernel_rfl) ?_) | (with_reducible refine wpList_load_row_g (op := ⟨some 70, _, _, _, _, _⟩) (by first | rfl | (go_simp; done)) 37 _ rfl (w4.heap.size) cP _ _ rfl F11 Tryz.underlying37 (by rw [hcP.1]; kernel_rfl) ?_))
  (with_reducible refine (aw _ (hT.below B0)).mono ?_)
  rintro r w8 ⟨rfl, hb8⟩
  clear xF77_0 xF77_1 xF77_2 xF77_3 xF77_4 xF77_5 xF137_0 xF137_1 xF137_2
  clear F2
  replace F5 := F5.keep hb8
  replace F7 := F7.keep hb8
  replace F11 := F11.keep hb8
  replace F13 := F13.keep hb8
  replace B0 := B0.trans (hb8.mono B0.size)
  clear hb8
  go_wp2
  go_ret
  exact ⟨rfl, B0⟩

set_option maxRecDepth 1000000 in
set_option maxHeartbeats 16000000 in
theorem squares_good (e ec em ep : Int) (hh : Bool) (eh : Int) (ln : Bool) (lS : ByteArray) (le : Int) (bn : Bool) (bS : ByteArray) (be : Int) (jn : Bool) (jS : ByteArray) (je : Int) (kn : Bool) (kS : ByteArray) (ke : Int) (mn : Bool) (mS : ByteArray) (me : Int) (nn : Bool) (nS : ByteArray) (ne : Int) (an : Bool) (aS : ByteArray) (ae : Int) (cC : Array Value) (hcC : cC.size = 24 ∧ cC.all (·.oneCell') = true) (cP : Array Value) (hcP : cP.size = 28 ∧ cP.all (·.oneCell') = true) (w : World) (qC : ∀ W : World, (Op.equalIn 10000 29 (.agg cC) (.agg cC)).run Tryz.prog W = .ok true W) (qP : ∀ W : World, (Op.equalIn 10000 37 (.agg cP) (.agg cP)).run Tryz.prog W = .ok true W) (hC : ∀ W : World, Tab W → Calls Tryz.prog 5 #[.agg #[.bool ln, .string lS, .int .i64 le, .bool bn, .string bS, .int .i64 be, .int .i64 e]] W fun r w' => r = .returned (.tuple #[.agg cC, .int .i64 ec]) ∧ Below W.heap.size W w') (hM : ∀ W : World, Tab W → Calls Tryz.prog 6 #[.agg #[.bool ln, .string lS, .int .i64 le, .bool bn, .string bS, .int .i64 be, .int .i64 e]] W fun r w' => r = .returned (.tuple #[.agg #[.bool mn, .string mS, .int .i64 me, .bool nn, .string nS, .int .i64 ne], .int .i64 em]) ∧ Below W.heap.size W w') (hH : ∀ W : World, Tab W → Calls Tryz.prog 7 #[.agg #[.bool ln, .string lS, .int .i64 le, .bool bn, .string bS, .int .i64 be, .int .i64 e], .agg #[.bool jn, .string jS, .int .i64 je, .bool kn, .string kS, .int .i64 ke]] W fun r w' => r = .returned (.tuple #[.bool hh, .int .i64 eh]) ∧ Below W.heap.size W w') (hP : ∀ W : World, Tab W → Calls Tryz.prog 8 #[.agg #[.bool ln, .string lS, .int .i64 le, .bool bn, .string bS, .int .i64 be, .int .i64 e]] W fun r w' => r = .returned (.tuple #[.agg cP, .int .i64 ep]) ∧ Below W.heap.size W w') (hA : ∀ W : World, Tab W → Calls Tryz.prog 9 #[.agg #[.bool ln, .string lS, .int .i64 le, .bool bn, .string bS, .int .i64 be, .int .i64 e]] W fun r w' => r = .returned (.tuple #[.agg #[.bool an, .string aS, .int .i64 ae], .int .i64 0]) ∧ Below W.heap.size W w') (hR : ∀ W : World, Calls Tryz.prog 10 #[.agg #[.bool ln, .string lS, .int .i64 le, .bool bn, .string bS, .int .i64 be, .int .i64 e]] W fun r w' => r = .returned (.bool true) ∧ Below W.heap.size W w') (hV : ∀ W : World, Calls Tryz.prog 11 #[.agg #[.bool ln, .string lS, .int .i64 le, .bool bn, .string bS, .int .i64 be, .int .i64 e]] W fun r w' => r = .returned (.int .i64 0) ∧ Below W.heap.size W w') (hRC : ∀ W : World, Tab W → Calls Tryz.prog 13 #[.agg #[.bool ln, .string lS, .int .i64 le, .bool bn, .string bS, .int .i64 be, .int .i64 e]] W fun r w' => r = .returned (.tuple #[.agg cC, .int .i64 ec]) ∧ Below W.heap.size W w') (hRM : ∀ W : World, Tab W → Calls Tryz.prog 14 #[.agg #[.bool ln, .string lS, .int .i64 le, .bool bn, .string bS, .int .i64 be, .int .i64 e]] W fun r w' => r = .returned (.tuple #[.agg #[.bool mn, .string mS, .int .i64 me, .bool nn, .string nS, .int .i64 ne], .int .i64 em]) ∧ Below W.heap.size W w') (hRP : ∀ W : World, Tab W → Calls Tryz.prog 15 #[.agg #[.bool ln, .string lS, .int .i64 le, .bool bn, .string bS, .int .i64 be, .int .i64 e]] W fun r w' => r = .returned (.tuple #[.agg cP, .int .i64 ep]) ∧ Below W.heap.size W w') (hRA : ∀ W : World, Tab W → Calls Tryz.prog 16 #[.agg #[.bool ln, .string lS, .int .i64 le, .bool bn, .string bS, .int .i64 be, .int .i64 e]] W fun r w' => r = .returned (.agg #[.bool an, .string aS, .int .i64 ae]) ∧ Below W.heap.size W w') (hG : ∀ W : World, Calls Tryz.prog 17 #[.agg #[.bool jn, .string jS, .int .i64 je, .bool kn, .string kS, .int .i64 ke]] W fun r w' => r = .returned (.bool true) ∧ Below W.heap.size W w') (hRH : ∀ W : World, Tab W → Calls Tryz.prog 18 #[.agg #[.bool ln, .string lS, .int .i64 le, .bool bn, .string bS, .int .i64 be, .int .i64 e], .agg #[.bool jn, .string jS, .int .i64 je, .bool kn, .string kS, .int .i64 ke]] W fun r w' => r = .returned (.tuple #[.bool hh, .int .i64 eh]) ∧ Below W.heap.size W w') (hT : Tab w) :
    Calls Tryz.prog 3 #[.agg #[.bool ln, .string lS, .int .i64 le, .bool bn, .string bS, .int .i64 be, .int .i64 e], .agg #[.bool jn, .string jS, .int .i64 je, .bool kn, .string kS, .int .i64 ke]] w fun r' w' => r' = .returned (.bool true) ∧ Below w.heap.size w w' := by
  have aw := fun W hW => awake24 W hW
  go_enter Tryz.func3, Tryz.ntmps3
  have B0 := Below.refl w.heap.size w
  have F2 := Blk.put (w) #[.bool ln, .string lS, .int .i64 le, .bool bn, .string bS, .int .i64 be, .int .i64 e] 26
  replace B0 := B0.alloc B0.size (.cells #[.bool ln, .string lS, .int .i64 le, .bool bn, .string bS, .int .i64 be, .int .i64 e] 26)
  replace F2 := F2.allocd (.cells #[.bool jn, .string jS, .int .i64 je, .bool kn, .string kS, .int .i64 ke] 28)
  have F3 := Blk.put ((w).alloc (.cells #[.bool ln, .string lS, .int .i64 le, .bool bn, .string bS, .int .i64 be, .int .i64 e] 26)) #[.bool jn, .string jS, .int .i64 je, .bool kn, .string kS, .int .i64 ke] 28
  rw [show ((w).alloc (.cells #[.bool ln, .string lS, .int .i64 le, .bool bn, .string bS, .int .i64 be, .int .i64 e] 26)).heap.size = w.heap.size + 1 by simp] at F3
  replace B0 := B0.alloc B0.size (.cells #[.bool jn, .string jS, .int .i64 je, .bool kn, .string kS, .int .i64 ke] 28)
  obtain ⟨xF20_0, xF20_1, xF20_2, xF20_3, xF20_4, xF20_5, xF20_6⟩ := F2.ce7
  go_wp2_with fail
  (with_reducible refine (hC _ (hT.below B0)).mono ?_)
  rintro r w1 ⟨rfl, hb1⟩
  clear xF20_0 xF20_1 xF20_2 xF20_3 xF20_4 xF20_5 xF20_6
  replace F2 := F2.keep hb1
  replace F3 := F3.keep hb1
  replace B0 := B0.trans (hb1.mono B0.size)
  clear hb1
  dsimp only
  go_step
  refine wpList_move rfl _ (.inl rfl) (.tuple #[.agg cC, .int .i64 ec]) rfl ?_
  (try dsimp only [Act.put]); (try go_frame)
  refine wpList_extract rfl _ 0 rfl _ (.agg cC) rfl rfl ?_
  (try dsimp only [Act.put]); (try go_frame)
  refine wpList_extract rfl _ 1 rfl _ (.int .i64 ec) rfl rfl ?_
  (try dsimp only [Act.put]); (try go_frame)
  refine wpList_new rfl _ rfl _ Tryz.zeroValue29 ?_
  (try dsimp only [Act.put]); (try go_frame)
  refine wpList_store_new rfl _ _ _ rfl _ cC rfl rfl (by rw [hcC.1]; kernel_rfl) (by rw [hcC.1]; rfl) hcC.2 ?_
  (try dsimp only [Act.put]); (try go_frame)
  replace F2 := F2.allocd (.cells cC 29)
  replace F3 := F3.allocd (.cells cC 29)
  have F5 := Blk.put (w1) cC 29
  replace B0 := B0.alloc B0.size (.cells cC 29)
  refine wpList_move rfl _ (.inr rfl) (.int .i64 ec) rfl ?_
  (try dsimp only [Act.put]); (try go_frame)
  obtain ⟨xF21_0, xF21_1, xF21_2, xF21_3, xF21_4, xF21_5, xF21_6⟩ := F2.ce7
  go_wp2_with fail
  (with_reducible refine (hM _ (hT.below B0)).mono ?_)
  rintro r w2 ⟨rfl, hb2⟩
  clear xF21_0 xF21_1 xF21_2 xF21_3 xF21_4 xF21_5 xF21_6
  replace F2 := F2.keep hb2
  replace F3 := F3.keep hb2
  replace F5 := F5.keep hb2
  replace B0 := B0.trans (hb2.mono B0.size)
  clear hb2
  replace F2 := F2.allocd (.cells #[.bool mn, .string mS, .int .i64 me, .bool nn, .string nS, .int .i64 ne] 28)
  replace F3 := F3.allocd (.cells #[.bool mn, .string mS, .int .i64 me, .bool nn, .string nS, .int .i64 ne] 28)
  replace F5 := F5.allocd (.cells #[.bool mn, .string mS, .int .i64 me, .bool nn, .string nS, .int .i64 ne] 28)
  have F7 := Blk.put (w2) #[.bool mn, .string mS, .int .i64 me, .bool nn, .string nS, .int .i64 ne] 28
  replace B0 := B0.alloc B0.size (.cells #[.bool mn, .string mS, .int .i64 me, .bool nn, .string nS, .int .i64 ne] 28)
  obtain ⟨xF22_0, xF22_1, xF22_2, xF22_3, xF22_4, xF22_5, xF22_6⟩ := F2.ce7
  obtain ⟨xF32_0, xF32_1, xF32_2, xF32_3, xF32_4, xF32_5⟩ := F3.ce6
  go_wp2_with fail
  (with_reducible refine (hH _ (hT.below B0)).mono ?_)
  rintro r w3 ⟨rfl, hb3⟩
  clear xF22_0 xF22_1 xF22_2 xF22_3 xF22_4 xF22_5 xF22_6 xF32_0 xF32_1 xF32_2 xF32_3 xF32_4 xF32_5
  replace F2 := F2.keep hb3
  replace F3 := F3.keep hb3
  replace F5 := F5.keep hb3
  replace F7 := F7.keep hb3
  replace B0 := B0.trans (hb3.mono B0.size)
  clear hb3
  obtain ⟨xF23_0, xF23_1, xF23_2, xF23_3, xF23_4, xF23_5, xF23_6⟩ := F2.ce7
  go_wp2_with fail
  (with_reducible refine (hP _ (hT.below B0)).mono ?_)
  rintro r w4 ⟨rfl, hb4⟩
  clear xF23_0 xF23_1 xF23_2 xF23_3 xF23_4 xF23_5 xF23_6
  replace F2 := F2.keep hb4
  replace F3 := F3.keep hb4
  replace F5 := F5.keep hb4
  replace F7 := F7.keep hb4
  replace B0 := B0.trans (hb4.mono B0.size)
  clear hb4
  dsimp only
  go_step
  refine wpList_move rfl _ (.inl rfl) (.tuple #[.agg cP, .int .i64 ep]) rfl ?_
  (try dsimp only [Act.put]); (try go_frame)
  refine wpList_extract rfl _ 0 rfl _ (.agg cP) rfl rfl ?_
  (try dsimp only [Act.put]); (try go_frame)
  refine wpList_extract rfl _ 1 rfl _ (.int .i64 ep) rfl rfl ?_
  (try dsimp only [Act.put]); (try go_frame)
  refine wpList_new rfl _ rfl _ Tryz.zeroValue37 ?_
  (try dsimp only [Act.put]); (try go_frame)
  refine wpList_store_new rfl _ _ _ rfl _ cP rfl rfl (by rw [hcP.1]; kernel_rfl) (by rw [hcP.1]; rfl) hcP.2 ?_
  (try dsimp only [Act.put]); (try go_frame)
  replace F2 := F2.allocd (.cells cP 37)
  replace F3 := F3.allocd (.cells cP 37)
  replace F5 := F5.allocd (.cells cP 37)
  replace F7 := F7.allocd (.cells cP 37)
  have F11 := Blk.put (w4) cP 37
  replace B0 := B0.alloc B0.size (.cells cP 37)
  refine wpList_move rfl _ (.inr rfl) (.int .i64 ep) rfl ?_
  (try dsimp only [Act.put]); (try go_frame)
  obtain ⟨xF24_0, xF24_1, xF24_2, xF24_3, xF24_4, xF24_5, xF24_6⟩ := F2.ce7
  go_wp2_with fail
  (with_reducible refine (hA _ (hT.below B0)).mono ?_)
  rintro r w5 ⟨rfl, hb5⟩
  clear xF24_0 xF24_1 xF24_2 xF24_3 xF24_4 xF24_5 xF24_6
  replace F2 := F2.keep hb5
  replace F3 := F3.keep hb5
  replace F5 := F5.keep hb5
  replace F7 := F7.keep hb5
  replace F11 := F11.keep hb5
  replace B0 := B0.trans (hb5.mono B0.size)
  clear hb5
  replace F2 := F2.allocd (.cells #[.bool an, .string aS, .int .i64 ae] 24)
  replace F3 := F3.allocd (.cells #[.bool an, .string aS, .int .i64 ae] 24)
  replace F5 := F5.allocd (.cells #[.bool an, .string aS, .int .i64 ae] 24)
  replace F7 := F7.allocd (.cells #[.bool an, .string aS, .int .i64 ae] 24)
  replace F11 := F11.allocd (.cells #[.bool an, .string aS, .int .i64 ae] 24)
  have F13 := Blk.put (w5) #[.bool an, .string aS, .int .i64 ae] 24
  replace B0 := B0.alloc B0.size (.cells #[.bool an, .string aS, .int .i64 ae] 24)
  obtain ⟨xF25_0, xF25_1, xF25_2, xF25_3, xF25_4, xF25_5, xF25_6⟩ := F2.ce7
  go_wp2_with fail
  (with_reducible refine (hR _).mono ?_)
  rintro r w6 ⟨rfl, hb6⟩
  clear xF25_0 xF25_1 xF25_2 xF25_3 xF25_4 xF25_5 xF25_6
  replace F2 := F2.keep hb6
  replace F3 := F3.keep hb6
  replace F5 := F5.keep hb6
  replace F7 := F7.keep hb6
  replace F11 := F11.keep hb6
  replace F13 := F13.keep hb6
  replace B0 := B0.trans (hb6.mono B0.size)
  clear hb6
  obtain ⟨xF26_0, xF26_1, xF26_2, xF26_3, xF26_4, xF26_5, xF26_6⟩ := F2.ce7
  go_wp2_with fail
  (with_reducible refine (hRC _ (hT.below B0)).mono ?_)
  rintro r w7 ⟨rfl, hb7⟩
  clear xF26_0 xF26_1 xF26_2 xF26_3 xF26_4 xF26_5 xF26_6
  replace F2 := F2.keep hb7
  replace F3 := F3.keep hb7
  replace F5 := F5.keep hb7
  replace F7 := F7.keep hb7
  replace F11 := F11.keep hb7
  replace F13 := F13.keep hb7
  replace B0 := B0.trans (hb7.mono B0.size)
  clear hb7
  dsimp only
  go_step
  refine wpList_move rfl _ (.inl rfl) (.tuple #[.agg cC, .int .i64 ec]) rfl ?_
  (try dsimp only [Act.put]); (try go_frame)
  refine wpList_extract rfl _ 0 rfl _ (.agg cC) rfl rfl ?_
  (try dsimp only [Act.put]); (try go_frame)
  refine wpList_extract rfl _ 1 rfl _ (.int .i64 ec) rfl rfl ?_
  (try dsimp only [Act.put]); (try go_frame)
  refine wpList_new rfl _ rfl _ Tryz.zeroValue29 ?_
  (try dsimp only [Act.put]); (try go_frame)
  refine wpList_store_new rfl _ _ _ rfl _ cC rfl rfl (by rw [hcC.1]; kernel_rfl) (by rw [hcC.1]; rfl) hcC.2 ?_
  (try dsimp only [Act.put]); (try go_frame)
  replace F2 := F2.allocd (.cells cC 29)
  replace F3 := F3.allocd (.cells cC 29)
  replace F5 := F5.allocd (.cells cC 29)
  replace F7 := F7.allocd (.cells cC 29)
  replace F11 := F11.allocd (.cells cC 29)
  replace F13 := F13.allocd (.cells cC 29)
  have F15 := Blk.put (w7) cC 29
  replace B0 := B0.alloc B0.size (.cells cC 29)
  refine wpList_move rfl _ (.inr rfl) (.int .i64 ec) rfl ?_
  (try dsimp only [Act.put]); (try go_frame)
  obtain ⟨xF27_0, xF27_1, xF27_2, xF27_3, xF27_4, xF27_5, xF27_6⟩ := F2.ce7
  go_wp2_with fail
  (with_reducible refine (hRM _ (hT.below B0)).mono ?_)
  rintro r w8 ⟨rfl, hb8⟩
  clear xF27_0 xF27_1 xF27_2 xF27_3 xF27_4 xF27_5 xF27_6
  replace F2 := F2.keep hb8
  replace F3 := F3.keep hb8
  replace F5 := F5.keep hb8
  replace F7 := F7.keep hb8
  replace F11 := F11.keep hb8
  replace F13 := F13.keep hb8
  replace F15 := F15.keep hb8
  replace B0 := B0.trans (hb8.mono B0.size)
  clear hb8
  replace F2 := F2.allocd (.cells #[.bool mn, .string mS, .int .i64 me, .bool nn, .string nS, .int .i64 ne] 28)
  replace F3 := F3.allocd (.cells #[.bool mn, .string mS, .int .i64 me, .bool nn, .string nS, .int .i64 ne] 28)
  replace F5 := F5.allocd (.cells #[.bool mn, .string mS, .int .i64 me, .bool nn, .string nS, .int .i64 ne] 28)
  replace F7 := F7.allocd (.cells #[.bool mn, .string mS, .int .i64 me, .bool nn, .string nS, .int .i64 ne] 28)
  replace F11 := F11.allocd (.cells #[.bool mn, .string mS, .int .i64 me, .bool nn, .string nS, .int .i64 ne] 28)
  replace F13 := F13.allocd (.cells #[.bool mn, .string mS, .int .i64 me, .bool nn, .string nS, .int .i64 ne] 28)
  replace F15 := F15.allocd (.cells #[.bool mn, .string mS, .int .i64 me, .bool nn, .string nS, .int .i64 ne] 28)
  have F17 := Blk.put (w8) #[.bool mn, .string mS, .int .i64 me, .bool nn, .string nS, .int .i64 ne] 28
  replace B0 := B0.alloc B0.size (.cells #[.bool mn, .string mS, .int .i64 me, .bool nn, .string nS, .int .i64 ne] 28)
  obtain ⟨xF28_0, xF28_1, xF28_2, xF28_3, xF28_4, xF28_5, xF28_6⟩ := F2.ce7
  go_wp2_with fail
  (with_reducible refine (hRP _ (hT.below B0)).mono ?_)
  rintro r w9 ⟨rfl, hb9⟩
  clear xF28_0 xF28_1 xF28_2 xF28_3 xF28_4 xF28_5 xF28_6
  replace F2 := F2.keep hb9
  replace F3 := F3.keep hb9
  replace F5 := F5.keep hb9
  replace F7 := F7.keep hb9
  replace F11 := F11.keep hb9
  replace F13 := F13.keep hb9
  replace F15 := F15.keep hb9
  replace F17 := F17.keep hb9
  replace B0 := B0.trans (hb9.mono B0.size)
  clear hb9
  dsimp only
  go_step
  refine wpList_move rfl _ (.inl rfl) (.tuple #[.agg cP, .int .i64 ep]) rfl ?_
  (try dsimp only [Act.put]); (try go_frame)
  refine wpList_extract rfl _ 0 rfl _ (.agg cP) rfl rfl ?_
  (try dsimp only [Act.put]); (try go_frame)
  refine wpList_extract rfl _ 1 rfl _ (.int .i64 ep) rfl rfl ?_
  (try dsimp only [Act.put]); (try go_frame)
  refine wpList_new rfl _ rfl _ Tryz.zeroValue37 ?_
  (try dsimp only [Act.put]); (try go_frame)
  refine wpList_store_new rfl _ _ _ rfl _ cP rfl rfl (by rw [hcP.1]; kernel_rfl) (by rw [hcP.1]; rfl) hcP.2 ?_
  (try dsimp only [Act.put]); (try go_frame)
  replace F2 := F2.allocd (.cells cP 37)
  replace F3 := F3.allocd (.cells cP 37)
  replace F5 := F5.allocd (.cells cP 37)
  replace F7 := F7.allocd (.cells cP 37)
  replace F11 := F11.allocd (.cells cP 37)
  replace F13 := F13.allocd (.cells cP 37)
  replace F15 := F15.allocd (.cells cP 37)
  replace F17 := F17.allocd (.cells cP 37)
  have F19 := Blk.put (w9) cP 37
  replace B0 := B0.alloc B0.size (.cells cP 37)
  refine wpList_move rfl _ (.inr rfl) (.int .i64 ep) rfl ?_
  (try dsimp only [Act.put]); (try go_frame)
  go_wp2_with fail
  refine wp_region_any (by kernel_rfl) ?_
  obtain ⟨xF29_0, xF29_1, xF29_2, xF29_3, xF29_4, xF29_5, xF29_6⟩ := F2.ce7
  obtain ⟨xF79_0, xF79_1, xF79_2, xF79_3, xF79_4, xF79_5⟩ := F7.ce6
  obtain ⟨xF179_0, xF179_1, xF179_2, xF179_3, xF179_4, xF179_5⟩ := F17.ce6
  obtain ⟨xF139_0, xF139_1, xF139_2⟩ := F13.ce3
  have hHeld : (fun w' : World => w'.cell? ⟨w.heap.size, 0, none⟩ = some (.bool ln) ∧ w'.cell? ⟨w.heap.size, 1, none⟩ = some (.string lS) ∧ w'.cell? ⟨w.heap.size, 2, none⟩ = some (.int .i64 le) ∧ w'.cell? ⟨w.heap.size, 3, none⟩ = some (.bool bn) ∧ w'.cell? ⟨w.heap.size, 4, none⟩ = some (.string bS) ∧ w'.cell? ⟨w.heap.size, 5, none⟩ = some (.int .i64 be) ∧ w'.cell? ⟨w.heap.size, 6, none⟩ = some (.int .i64 e) ∧ Blk w' (w1.heap.size) cC 29 ∧ Blk w' (w7.heap.size) cC 29 ∧ w'.cell? ⟨w2.heap.size, 0, none⟩ = some (.bool mn) ∧ w'.cell? ⟨w2.heap.size, 1, none⟩ = some (.string mS) ∧ w'.cell? ⟨w2.heap.size, 2, none⟩ = some (.int .i64 me) ∧ w'.cell? ⟨w2.heap.size, 3, none⟩ = some (.bool nn) ∧ w'.cell? ⟨w2.heap.size, 4, none⟩ = some (.string nS) ∧ w'.cell? ⟨w2.heap.size, 5, none⟩ = some (.int .i64 ne) ∧ w'.cell? ⟨w8.heap.size, 0, none⟩ = some (.bool mn) ∧ w'.cell? ⟨w8.heap.size, 1, none⟩ = some (.string mS) ∧ w'.cell? ⟨w8.heap.size, 2, none⟩ = some (.int .i64 me) ∧ w'.cell? ⟨w8.heap.size, 3, none⟩ = some (.bool nn) ∧ w'.cell? ⟨w8.heap.size, 4, none⟩ = some (.string nS) ∧ w'.cell? ⟨w8.heap.size, 5, none⟩ = some (.int .i64 ne) ∧ Blk w' (w4.heap.size) cP 37 ∧ Blk w' (w9.heap.size) cP 37 ∧ w'.cell? ⟨w5.heap.size, 0, none⟩ = some (.bool an) ∧ w'.cell? ⟨w5.heap.size, 1, none⟩ = some (.string aS) ∧ w'.cell? ⟨w5.heap.size, 2, none⟩ = some (.int .i64 ae)) ((w9).alloc (.cells cP 37)).drew := ⟨xF29_0, xF29_1, xF29_2, xF29_3, xF29_4, xF29_5, xF29_6, F5, F15, xF79_0, xF79_1, xF79_2, xF79_3, xF79_4, xF79_5, xF179_0, xF179_1, xF179_2, xF179_3, xF179_4, xF179_5, F11, F19, xF139_0, xF139_1, xF139_2⟩
  refine wpAny_of_held (S := fun w' : World => w'.cell? ⟨w.heap.size, 0, none⟩ = some (.bool ln) ∧ w'.cell? ⟨w.heap.size, 1, none⟩ = some (.string lS) ∧ w'.cell? ⟨w.heap.size, 2, none⟩ = some (.int .i64 le) ∧ w'.cell? ⟨w.heap.size, 3, none⟩ = some (.bool bn) ∧ w'.cell? ⟨w.heap.size, 4, none⟩ = some (.string bS) ∧ w'.cell? ⟨w.heap.size, 5, none⟩ = some (.int .i64 be) ∧ w'.cell? ⟨w.heap.size, 6, none⟩ = some (.int .i64 e) ∧ Blk w' (w1.heap.size) cC 29 ∧ Blk w' (w7.heap.size) cC 29 ∧ w'.cell? ⟨w2.heap.size, 0, none⟩ = some (.bool mn) ∧ w'.cell? ⟨w2.heap.size, 1, none⟩ = some (.string mS) ∧ w'.cell? ⟨w2.heap.size, 2, none⟩ = some (.int .i64 me) ∧ w'.cell? ⟨w2.heap.size, 3, none⟩ = some (.bool nn) ∧ w'.cell? ⟨w2.heap.size, 4, none⟩ = some (.string nS) ∧ w'.cell? ⟨w2.heap.size, 5, none⟩ = some (.int .i64 ne) ∧ w'.cell? ⟨w8.heap.size, 0, none⟩ = some (.bool mn) ∧ w'.cell? ⟨w8.heap.size, 1, none⟩ = some (.string mS) ∧ w'.cell? ⟨w8.heap.size, 2, none⟩ = some (.int .i64 me) ∧ w'.cell? ⟨w8.heap.size, 3, none⟩ = some (.bool nn) ∧ w'.cell? ⟨w8.heap.size, 4, none⟩ = some (.string nS) ∧ w'.cell? ⟨w8.heap.size, 5, none⟩ = some (.int .i64 ne) ∧ Blk w' (w4.heap.size) cP 37 ∧ Blk w' (w9.heap.size) cP 37 ∧ w'.cell? ⟨w5.heap.size, 0, none⟩ = some (.bool an) ∧ w'.cell? ⟨w5.heap.size, 1, none⟩ = some (.string aS) ∧ w'.cell? ⟨w5.heap.size, 2, none⟩ = some (.int .i64 ae)) _ _ _ ((w9).alloc (.cells cP 37)).drew ?_
  replace F2 := F2.drew
  replace F3 := F3.drew
  replace F5 := F5.drew
  replace F7 := F7.drew
  replace F11 := F11.drew
  replace F13 := F13.drew
  replace F15 := F15.drew
  replace F17 := F17.drew
  replace F19 := F19.drew
  replace B0 := B0.drew
  generalize ((w9).alloc (.cells cP 37)).drew = v1 at *
  refine wpAnyH_take (i := 0) (v := _) (by first | (simp only [List.getElem?_toArray, List.getElem?_cons_zero]; rfl) | rfl) (by kernel_rfl) (by kernel_rfl) (by kernel_rfl) (by exact fun _ _ _ h => h) (Or.inl ⟨by rfl, by (intro w hSw; (try dsimp only at hSw); go_simp; try with_reducible rfl)⟩) (by assumption) ?_
  (try dsimp only [Act.put]); (try go_frame)
  refine wpAnyH_ready (rs := [1]) (by kernel_rfl) (by simp) ?_
  refine AllReadyH.cons rfl (fun K hK => ?_) AllReadyH.nil
  go_simp
  (with_reducible refine (hV _).mono ?_)
  rintro r w10 ⟨rfl, hb10⟩
  clear xF29_0 xF29_1 xF29_2 xF29_3 xF29_4 xF29_5 xF29_6 xF79_0 xF79_1 xF79_2 xF79_3 xF79_4 xF79_5 xF179_0 xF179_1 xF179_2 xF179_3 xF179_4 xF179_5 xF139_0 xF139_1 xF139_2
  replace F2 := F2.keep hb10
  replace F3 := F3.keep hb10
  replace F5 := F5.keep hb10
  replace F7 := F7.keep hb10
  replace F11 := F11.keep hb10
  replace F13 := F13.keep hb10
  replace F15 := F15.keep hb10
  replace F17 := F17.keep hb10
  replace F19 := F19.keep hb10
  replace B0 := B0.trans (hb10.mono B0.size)
  clear hb10
  obtain ⟨xF212_0, xF212_1, xF212_2, xF212_3, xF212_4, xF212_5, xF212_6⟩ := F2.ce7
  obtain ⟨xF712_0, xF712_1, xF712_2, xF712_3, xF712_4, xF712_5⟩ := F7.ce6
  obtain ⟨xF1712_0, xF1712_1, xF1712_2, xF1712_3, xF1712_4, xF1712_5⟩ := F17.ce6
  obtain ⟨xF1312_0, xF1312_1, xF1312_2⟩ := F13.ce3
  refine hK.out _ _ ?_ (fun hHeld => ?_)
  · exact ⟨xF212_0, xF212_1, xF212_2, xF212_3, xF212_4, xF212_5, xF212_6, F5, F15, xF712_0, xF712_1, xF712_2, xF712_3, xF712_4, xF712_5, xF1712_0, xF1712_1, xF1712_2, xF1712_3, xF1712_4, xF1712_5, F11, F19, xF1312_0, xF1312_1, xF1312_2⟩
  clear hK K
  (try dsimp only [Act.put]); (try go_frame)
  refine wpAnyH_take (i := 2) (v := _) (by first | (simp only [List.getElem?_toArray, List.getElem?_cons_zero, List.getElem?_cons_succ]; rfl) | rfl) (by kernel_rfl) (by kernel_rfl) (by kernel_rfl) (by exact fun _ _ _ h => h) (Or.inl ⟨by rfl, by (intro w hSw; (try dsimp only at hSw); go_simp; try with_reducible rfl)⟩) (by assumption) ?_
  (try dsimp only [Act.put]); (try go_frame)
  refine wpAnyH_take (i := 3) (v := _) (by first | (simp only [List.getElem?_toArray, List.getElem?_cons_zero, List.getElem?_cons_succ]; rfl) | rfl) (by kernel_rfl) (by kernel_rfl) (by kernel_rfl) (by exact fun _ _ _ h => h) (Or.inl ⟨by rfl, by (intro w hSw; (try dsimp only at hSw); go_simp; try with_reducible rfl)⟩) (by assumption) ?_
  (try dsimp only [Act.put]); (try go_frame)
  refine wpAnyH_take (i := 4) (v := .agg cC) (by first | (simp only [List.getElem?_toArray, List.getElem?_cons_zero, List.getElem?_cons_succ]; rfl) | rfl) (by kernel_rfl) (by kernel_rfl) (by kernel_rfl) (by exact fun _ _ _ h => h) (Or.inl ⟨by rfl, by (intro w hSw; (try dsimp only at hSw); exact exec_load_row 29 _ rfl (w1.heap.size) cC _ _ rfl (hSw.2.2.2.2.2.2.2.1) Tryz.underlying29 (by rw [hcC.1]; kernel_rfl))⟩) (by assumption) ?_
  (try dsimp only [Act.put]); (try go_frame)
  refine wpAnyH_take (i := 5) (v := .agg cC) (by first | (simp only [List.getElem?_toArray, List.getElem?_cons_zero, List.getElem?_cons_succ]; rfl) | rfl) (by kernel_rfl) (by kernel_rfl) (by kernel_rfl) (by exact fun _ _ _ h => h) (Or.inl ⟨by rfl, by (intro w hSw; (try dsimp only at hSw); exact exec_load_row 29 _ rfl (w7.heap.size) cC _ _ rfl (hSw.2.2.2.2.2.2.2.2.1) Tryz.underlying29 (by rw [hcC.1]; kernel_rfl))⟩) (by assumption) ?_
  (try dsimp only [Act.put]); (try go_frame)
  refine wpAnyH_take (i := 6) (v := _) (by first | (simp only [List.getElem?_toArray, List.getElem?_cons_zero, List.getElem?_cons_succ]; rfl) | rfl) (by kernel_rfl) (by kernel_rfl) (by kernel_rfl) (by exact fun _ _ _ h => h) (Or.inl ⟨by rfl, by (intro w hSw; (try dsimp only at hSw); go_simp; try with_reducible rfl)⟩) (by assumption) ?_
  (try dsimp only [Act.put]); (try go_frame)
  refine wpAnyH_take (i := 7) (v := _) (by first | (simp only [List.getElem?_toArray, List.getElem?_cons_zero, List.getElem?_cons_succ]; rfl) | rfl) (by kernel_rfl) (by kernel_rfl) (by kernel_rfl) (by exact fun _ _ _ h => h) (Or.inl ⟨by rfl, by (intro w hSw; (try dsimp only at hSw); go_simp; try with_reducible rfl)⟩) (by assumption) ?_
  (try dsimp only [Act.put]); (try go_frame)
  refine wpAnyH_take (i := 8) (v := _) (by first | (simp only [List.getElem?_toArray, List.getElem?_cons_zero, List.getElem?_cons_succ]; rfl) | rfl) (by kernel_rfl) (by kernel_rfl) (by kernel_rfl) (by exact fun _ _ _ h => h) (Or.inl ⟨by rfl, by (intro w hSw; (try dsimp only at hSw); go_simp; try with_reducible rfl)⟩) (by assumption) ?_
  (try dsimp only [Act.put]); (try go_frame)
  refine wpAnyH_take (i := 9) (v := _) (by first | (simp only [List.getElem?_toArray, List.getElem?_cons_zero, List.getElem?_cons_succ]; rfl) | rfl) (by kernel_rfl) (by kernel_rfl) (by kernel_rfl) (by exact fun _ _ _ h => h) (Or.inl ⟨by rfl, by (intro w hSw; (try dsimp only at hSw); go_simp; try with_reducible rfl)⟩) (by assumption) ?_
  (try dsimp only [Act.put]); (try go_frame)
  refine wpAnyH_take (i := 10) (v := _) (by first | (simp only [List.getElem?_toArray, List.getElem?_cons_zero, List.getElem?_cons_succ]; rfl) | rfl) (by kernel_rfl) (by kernel_rfl) (by kernel_rfl) (by exact fun _ _ _ h => h) (Or.inl ⟨by rfl, by (intro w hSw; (try dsimp only at hSw); go_simp; try with_reducible rfl)⟩) (by assumption) ?_
  (try dsimp only [Act.put]); (try go_frame)
  refine wpAnyH_take (i := 11) (v := _) (by first | (simp only [List.getElem?_toArray, List.getElem?_cons_zero, List.getElem?_cons_succ]; rfl) | rfl) (by kernel_rfl) (by kernel_rfl) (by kernel_rfl) (by exact fun _ _ _ h => h) (Or.inl ⟨by rfl, by (intro w hSw; (try dsimp only at hSw); go_simp; try with_reducible rfl)⟩) (by assumption) ?_
  (try dsimp only [Act.put]); (try go_frame)
  refine wpAnyH_take (i := 12) (v := _) (by first | (simp only [List.getElem?_toArray, List.getElem?_cons_zero, List.getElem?_cons_succ]; rfl) | rfl) (by kernel_rfl) (by kernel_rfl) (by kernel_rfl) (by exact fun _ _ _ h => h) (Or.inl ⟨by rfl, by (intro w hSw; (try dsimp only at hSw); go_simp; try with_reducible rfl)⟩) (by assumption) ?_
  (try dsimp only [Act.put]); (try go_frame)
  refine wpAnyH_take (i := 13) (v := _) (by first | (simp only [List.getElem?_toArray, List.getElem?_cons_zero, List.getElem?_cons_succ]; rfl) | rfl) (by kernel_rfl) (by kernel_rfl) (by kernel_rfl) (by exact fun _ _ _ h => h) (Or.inl ⟨by rfl, by (intro w hSw; (try dsimp only at hSw); go_simp; try with_reducible rfl)⟩) (by assumption) ?_
  (try dsimp only [Act.put]); (try go_frame)
  refine wpAnyH_take (i := 14) (v := _) (by first | (simp only [List.getElem?_toArray, List.getElem?_cons_zero, List.getElem?_cons_succ]; rfl) | rfl) (by kernel_rfl) (by kernel_rfl) (by kernel_rfl) (by exact fun _ _ _ h => h) (Or.inl ⟨by rfl, by (intro w hSw; (try dsimp only at hSw); go_simp; try with_reducible rfl)⟩) (by assumption) ?_
  (try dsimp only [Act.put]); (try go_frame)
  refine wpAnyH_take (i := 15) (v := _) (by first | (simp only [List.getElem?_toArray, List.getElem?_cons_zero, List.getElem?_cons_succ]; rfl) | rfl) (by kernel_rfl) (by kernel_rfl) (by kernel_rfl) (by exact fun _ _ _ h => h) (Or.inl ⟨by rfl, by (intro w hSw; (try dsimp only at hSw); go_simp; try with_reducible rfl)⟩) (by assumption) ?_
  (try dsimp only [Act.put]); (try go_frame)
  refine wpAnyH_take (i := 16) (v := _) (by first | (simp only [List.getElem?_toArray, List.getElem?_cons_zero, List.getElem?_cons_succ]; rfl) | rfl) (by kernel_rfl) (by kernel_rfl) (by kernel_rfl) (by exact fun _ _ _ h => h) (Or.inl ⟨by rfl, by (intro w hSw; (try dsimp only at hSw); go_simp; try with_reducible rfl)⟩) (by assumption) ?_
  (try dsimp only [Act.put]); (try go_frame)
  refine wpAnyH_take (i := 17) (v := _) (by first | (simp only [List.getElem?_toArray, List.getElem?_cons_zero, List.getElem?_cons_succ]; rfl) | rfl) (by kernel_rfl) (by kernel_rfl) (by kernel_rfl) (by exact fun _ _ _ h => h) (Or.inl ⟨by rfl, by (intro w hSw; (try dsimp only at hSw); go_simp; try with_reducible rfl)⟩) (by assumption) ?_
  (try dsimp only [Act.put]); (try go_frame)
  refine wpAnyH_take (i := 18) (v := _) (by first | (simp only [List.getElem?_toArray, List.getElem?_cons_zero, List.getElem?_cons_succ]; rfl) | rfl) (by kernel_rfl) (by kernel_rfl) (by kernel_rfl) (by exact fun _ _ _ h => h) (Or.inl ⟨by rfl, by (intro w hSw; (try dsimp only at hSw); go_simp; try with_reducible rfl)⟩) (by assumption) ?_
  (try dsimp only [Act.put]); (try go_frame)
  refine wpAnyH_take (i := 19) (v := _) (by first | (simp only [List.getElem?_toArray, List.getElem?_cons_zero, List.getElem?_cons_succ]; rfl) | rfl) (by kernel_rfl) (by kernel_rfl) (by kernel_rfl) (by exact fun _ _ _ h => h) (Or.inl ⟨by rfl, by (intro w hSw; (try dsimp only at hSw); go_simp; try with_reducible rfl)⟩) (by assumption) ?_
  (try dsimp only [Act.put]); (try go_frame)
  refine wpAnyH_take (i := 20) (v := _) (by first | (simp only [List.getElem?_toArray, List.getElem?_cons_zero, List.getElem?_cons_succ]; rfl) | rfl) (by kernel_rfl) (by kernel_rfl) (by kernel_rfl) (by exact fun _ _ _ h => h) (Or.inl ⟨by rfl, by (intro w hSw; (try dsimp only at hSw); go_simp; try with_reducible rfl)⟩) (by assumption) ?_
  (try dsimp only [Act.put]); (try go_frame)
  refine wpAnyH_take (i := 21) (v := _) (by first | (simp only [List.getElem?_toArray, List.getElem?_cons_zero, List.getElem?_cons_succ]; rfl) | rfl) (by kernel_rfl) (by kernel_rfl) (by kernel_rfl) (by exact fun _ _ _ h => h) (Or.inl ⟨by rfl, by (intro w hSw; (try dsimp only at hSw); go_simp; try with_reducible rfl)⟩) (by assumption) ?_
  (try dsimp only [Act.put]); (try go_frame)
  refine wpAnyH_take (i := 22) (v := _) (by first | (simp only [List.getElem?_toArray, List.getElem?_cons_zero, List.getElem?_cons_succ]; rfl) | rfl) (by kernel_rfl) (by kernel_rfl) (by kernel_rfl) (by exact fun _ _ _ h => h) (Or.inl ⟨by rfl, by (intro w hSw; (try dsimp only at hSw); go_simp; try with_reducible rfl)⟩) (by assumption) ?_
  (try dsimp only [Act.put]); (try go_frame)
  refine wpAnyH_take (i := 23) (v := _) (by first | (simp only [List.getElem?_toArray, List.getElem?_cons_zero, List.getElem?_cons_succ]; rfl) | rfl) (by kernel_rfl) (by kernel_rfl) (by kernel_rfl) (by exact fun _ _ _ h => h) (Or.inl ⟨by rfl, by (intro w hSw; (try dsimp only at hSw); go_simp; try with_reducible rfl)⟩) (by assumption) ?_
  (try dsimp only [Act.put]); (try go_frame)
  refine wpAnyH_take (i := 24) (v := .agg cP) (by first | (simp only [List.getElem?_toArray, List.getElem?_cons_zero, List.getElem?_cons_succ]; rfl) | rfl) (by kernel_rfl) (by kernel_rfl) (by kernel_rfl) (by exact fun _ _ _ h => h) (Or.inl ⟨by rfl, by (intro w hSw; (try dsimp only at hSw); exact exec_load_row 37 _ rfl (w4.heap.size) cP _ _ rfl (hSw.2.2.2.2.2.2.2.2.2.2.2.2.2.2.2.2.2.2.2.2.2.1) Tryz.underlying37 (by rw [hcP.1]; kernel_rfl))⟩) (by assumption) ?_
  (try dsimp only [Act.put]); (try go_frame)
  refine wpAnyH_take (i := 25) (v := .agg cP) (by first | (simp only [List.getElem?_toArray, List.getElem?_cons_zero, List.getElem?_cons_succ]; rfl) | rfl) (by kernel_rfl) (by kernel_rfl) (by kernel_rfl) (by exact fun _ _ _ h => h) (Or.inl ⟨by rfl, by (intro w hSw; (try dsimp only at hSw); exact exec_load_row 37 _ rfl (w9.heap.size) cP _ _ rfl (hSw.2.2.2.2.2.2.2.2.2.2.2.2.2.2.2.2.2.2.2.2.2.2.1) Tryz.underlying37 (by rw [hcP.1]; kernel_rfl))⟩) (by assumption) ?_
  (try dsimp only [Act.put]); (try go_frame)
  refine wpAnyH_take (i := 26) (v := _) (by first | (simp only [List.getElem?_toArray, List.getElem?_cons_zero, List.getElem?_cons_succ]; rfl) | rfl) (by kernel_rfl) (by kernel_rfl) (by kernel_rfl) (by exact fun _ _ _ h => h) (Or.inl ⟨by rfl, by (intro w hSw; (try dsimp only at hSw); go_simp; try with_reducible rfl)⟩) (by assumption) ?_
  (try dsimp only [Act.put]); (try go_frame)
  refine wpAnyH_take (i := 27) (v := _) (by first | (simp only [List.getElem?_toArray, List.getElem?_cons_zero, List.getElem?_cons_succ]; rfl) | rfl) (by kernel_rfl) (by kernel_rfl) (by kernel_rfl) (by exact fun _ _ _ h => h) (Or.inl ⟨by rfl, by (intro w hSw; (try dsimp only at hSw); go_simp; try with_reducible rfl)⟩) (by assumption) ?_
  (try dsimp only [Act.put]); (try go_frame)
  refine wpAnyH_take (i := 28) (v := _) (by first | (simp only [List.getElem?_toArray, List.getElem?_cons_zero, List.getElem?_cons_succ]; rfl) | rfl) (by kernel_rfl) (by kernel_rfl) (by kernel_rfl) (by exact fun _ _ _ h => h) (Or.inl ⟨by rfl, by (intro w hSw; (try dsimp only at hSw); go_simp; try with_reducible rfl)⟩) (by assumption) ?_
  (try dsimp only [Act.put]); (try go_frame)
  refine wpAnyH_take (i := 29) (v := _) (by first | (simp only [List.getElem?_toArray, List.getElem?_cons_zero, List.getElem?_cons_succ]; rfl) | rfl) (by kernel_rfl) (by kernel_rfl) (by kernel_rfl) (by exact fun _ _ _ h => h) (Or.inl ⟨by rfl, by (intro w hSw; (try dsimp only at hSw); go_simp; try with_reducible rfl)⟩) (by assumption) ?_
  (try dsimp only [Act.put]); (try go_frame)
  refine wpAnyH_take (i := 30) (v := _) (by first | (simp only [List.getElem?_toArray, List.getElem?_cons_zero, List.getElem?_cons_succ]; rfl) | rfl) (by kernel_rfl) (by kernel_rfl) (by kernel_rfl) (by exact fun _ _ _ h => h) (Or.inl ⟨by rfl, by (intro w hSw; (try dsimp only at hSw); go_simp; try with_reducible rfl)⟩) (by assumption) ?_
  (try dsimp only [Act.put]); (try go_frame)
  refine wpAnyH_take (i := 31) (v := _) (by first | (simp only [List.getElem?_toArray, List.getElem?_cons_zero, List.getElem?_cons_succ]; rfl) | rfl) (by kernel_rfl) (by kernel_rfl) (by kernel_rfl) (by exact fun _ _ _ h => h) (Or.inl ⟨by rfl, by (intro w hSw; (try dsimp only at hSw); go_simp; try with_reducible rfl)⟩) (by assumption) ?_
  (try dsimp only [Act.put]); (try go_frame)
  refine wpAnyH_take (i := 32) (v := _) (by first | (simp only [List.getElem?_toArray, List.getElem?_cons_zero, List.getElem?_cons_succ]; rfl) | rfl) (by kernel_rfl) (by kernel_rfl) (by kernel_rfl) (by exact fun _ _ _ h => h) (Or.inl ⟨by rfl, by (intro w hSw; (try dsimp only at hSw); go_simp; try with_reducible rfl)⟩) (by assumption) ?_
  (try dsimp only [Act.put]); (try go_frame)
  refine wpAnyH_take (i := 33) (v := _) (by first | (simp only [List.getElem?_toArray, List.getElem?_cons_zero, List.getElem?_cons_succ]; rfl) | rfl) (by kernel_rfl) (by kernel_rfl) (by kernel_rfl) (by exact fun _ _ _ h => h) (Or.inl ⟨by rfl, by (intro w hSw; (try dsimp only at hSw); go_simp; try with_reducible rfl)⟩) (by assumption) ?_
  (try dsimp only [Act.put]); (try go_frame)
  refine wpAnyH_take (i := 34) (v := _) (by first | (simp only [List.getElem?_toArray, List.getElem?_cons_zero, List.getElem?_cons_succ]; rfl) | rfl) (by kernel_rfl) (by kernel_rfl) (by kernel_rfl) (by exact fun _ _ _ h => h) (Or.inl ⟨by rfl, by (intro w hSw; (try dsimp only at hSw); go_simp; try with_reducible rfl)⟩) (by assumption) ?_
  (try dsimp only [Act.put]); (try go_frame)
  refine wpAnyH_take (i := 35) (v := _) (by first | (simp only [List.getElem?_toArray, List.getElem?_cons_zero, List.getElem?_cons_succ]; rfl) | rfl) (by kernel_rfl) (by kernel_rfl) (by kernel_rfl) (by exact fun _ _ _ h => h) (Or.inl ⟨by rfl, by (intro w hSw; (try dsimp only at hSw); go_simp; try with_reducible rfl)⟩) (by assumption) ?_
  (try dsimp only [Act.put]); (try go_frame)
  refine wpAnyH_ready (rs := [36]) (by kernel_rfl) (by simp) ?_
  refine AllReadyH.cons rfl (fun K hK => ?_) AllReadyH.nil
  go_simp
  (with_reducible refine (hRA _ (hT.below B0)).mono ?_)
  rintro r w11 ⟨rfl, hb11⟩
  clear xF212_0 xF212_1 xF212_2 xF212_3 xF212_4 xF212_5 xF212_6 xF712_0 xF712_1 xF712_2 xF712_3 xF712_4 xF712_5 xF1712_0 xF1712_1 xF1712_2 xF1712_3 xF1712_4 xF1712_5 xF1312_0 xF1312_1 xF1312_2
  replace F2 := F2.keep hb11
  replace F3 := F3.keep hb11
  replace F5 := F5.keep hb11
  replace F7 := F7.keep hb11
  replace F11 := F11.keep hb11
  replace F13 := F13.keep hb11
  replace F15 := F15.keep hb11
  replace F17 := F17.keep hb11
  replace F19 := F19.keep hb11
  replace B0 := B0.trans (hb11.mono B0.size)
  clear hb11
  obtain ⟨xF213_0, xF213_1, xF213_2, xF213_3, xF213_4, xF213_5, xF213_6⟩ := F2.ce7
  obtain ⟨xF713_0, xF713_1, xF713_2, xF713_3, xF713_4, xF713_5⟩ := F7.ce6
  obtain ⟨xF1713_0, xF1713_1, xF1713_2, xF1713_3, xF1713_4, xF1713_5⟩ := F17.ce6
  obtain ⟨xF1313_0, xF1313_1, xF1313_2⟩ := F13.ce3
  refine hK.out _ _ ?_ (fun hHeld => ?_)
  · exact ⟨xF213_0, xF213_1, xF213_2, xF213_3, xF213_4, xF213_5, xF213_6, F5, F15, xF713_0, xF713_1, xF713_2, xF713_3, xF713_4, xF713_5, xF1713_0, xF1713_1, xF1713_2, xF1713_3, xF1713_4, xF1713_5, F11, F19, xF1313_0, xF1313_1, xF1313_2⟩
  clear hK K
  (try dsimp only [Act.put]); (try go_frame)
  refine wpAnyH_take (i := 37) (v := _) (by first | (simp only [List.getElem?_toArray, List.getElem?_cons_zero, List.getElem?_cons_succ]; rfl) | rfl) (by kernel_rfl) (by kernel_rfl) (by kernel_rfl) (by exact fun _ _ _ h => h) (Or.inl ⟨by rfl, by (intro w hSw; (try dsimp only at hSw); go_simp; try with_reducible rfl)⟩) (by assumption) ?_
  (try dsimp only [Act.put]); (try go_frame)
  refine wpAnyH_take (i := 38) (v := _) (by first | (simp only [List.getElem?_toArray, List.getElem?_cons_zero, List.getElem?_cons_succ]; rfl) | rfl) (by kernel_rfl) (by kernel_rfl) (by kernel_rfl) (by exact fun _ _ _ h => h) (Or.inl ⟨by rfl, by (intro w hSw; (try dsimp only at hSw); go_simp; try with_reducible rfl)⟩) (by assumption) ?_
  (try dsimp only [Act.put]); (try go_frame)
  refine wpAnyH_take (i := 39) (v := _) (by first | (simp only [List.getElem?_toArray, List.getElem?_cons_zero, List.getElem?_cons_succ]; rfl) | rfl) (by kernel_rfl) (by kernel_rfl) (by kernel_rfl) (by exact fun _ _ _ h => h) (Or.inl ⟨by rfl, by (intro w hSw; (try dsimp only at hSw); go_simp; try with_reducible rfl)⟩) (by assumption) ?_
  (try dsimp only [Act.put]); (try go_frame)
  refine wpAnyH_take (i := 40) (v := _) (by first | (simp only [List.getElem?_toArray, List.getElem?_cons_zero, List.getElem?_cons_succ]; rfl) | rfl) (by kernel_rfl) (by kernel_rfl) (by kernel_rfl) (by exact fun _ _ _ h => h) (Or.inl ⟨by rfl, by (intro w hSw; (try dsimp only at hSw); go_simp; try with_reducible rfl)⟩) (by assumption) ?_
  (try dsimp only [Act.put]); (try go_frame)
  refine wpAnyH_take (i := 41) (v := _) (by first | (simp only [List.getElem?_toArray, List.getElem?_cons_zero, List.getElem?_cons_succ]; rfl) | rfl) (by kernel_rfl) (by kernel_rfl) (by kernel_rfl) (by exact fun _ _ _ h => h) (Or.inl ⟨by rfl, by (intro w hSw; (try dsimp only at hSw); go_simp; try with_reducible rfl)⟩) (by assumption) ?_
  (try dsimp only [Act.put]); (try go_frame)
  refine wpAnyH_take (i := 42) (v := _) (by first | (simp only [List.getElem?_toArray, List.getElem?_cons_zero, List.getElem?_cons_succ]; rfl) | rfl) (by kernel_rfl) (by kernel_rfl) (by kernel_rfl) (by exact fun _ _ _ h => h) (Or.inl ⟨by rfl, by (intro w hSw; (try dsimp only at hSw); go_simp; try with_reducible rfl)⟩) (by assumption) ?_
  (try dsimp only [Act.put]); (try go_frame)
  refine wpAnyH_done (by kernel_rfl) ?_ _
  try simp only [QCut]
  clear hHeld
  clear xF213_0 xF213_1 xF213_2 xF213_3 xF213_4 xF213_5 xF213_6 xF713_0 xF713_1 xF713_2 xF713_3 xF713_4 xF713_5 xF1713_0 xF1713_1 xF1713_2 xF1713_3 xF1713_4 xF1713_5 xF1313_0 xF1313_1 xF1313_2
  obtain ⟨xF313_0, xF313_1, xF313_2, xF313_3, xF313_4, xF313_5⟩ := F3.ce6
  go_wp2_with fail
  (with_reducible refine (hG _).mono ?_)
  rintro r w12 ⟨rfl, hb12⟩
  clear xF313_0 xF313_1 xF313_2 xF313_3 xF313_4 xF313_5
  replace F2 := F2.keep hb12
  replace F3 := F3.keep hb12
  clear F5
  clear F7
  clear F11
  clear F13
  clear F15
  clear F17
  clear F19
  replace B0 := B0.trans (hb12.mono B0.size)
  clear hb12
  obtain ⟨xF214_0, xF214_1, xF214_2, xF214_3, xF214_4, xF214_5, xF214_6⟩ := F2.ce7
  obtain ⟨xF314_0, xF314_1, xF314_2, xF314_3, xF314_4, xF314_5⟩ := F3.ce6
  go_wp2_with fail
  (with_reducible refine (hRH _ (hT.below B0)).mono ?_)
  rintro r w13 ⟨rfl, hb13⟩
  clear xF214_0 xF214_1 xF214_2 xF214_3 xF214_4 xF214_5 xF214_6 xF314_0 xF314_1 xF314_2 xF314_3 xF314_4 xF314_5
  replace F2 := F2.keep hb13
  replace F3 := F3.keep hb13
  replace B0 := B0.trans (hb13.mono B0.size)
  clear hb13
  go_wp2_with fail
  (with_reducible refine (aw _ (hT.below B0)).mono ?_)
  rintro r w14 ⟨rfl, hb14⟩
  clear F2
  clear F3
  replace B0 := B0.trans (hb14.mono B0.size)
  clear hb14
  go_wp2
  go_ret
  exact ⟨rfl, B0⟩

set_option maxRecDepth 1000000 in
set_option maxHeartbeats 16000000 in
theorem squares_gbad (e ec em ep : Int) (ln : Bool) (lS : ByteArray) (le : Int) (bn : Bool) (bS : ByteArray) (be : Int) (jn : Bool) (jS : ByteArray) (je : Int) (kn : Bool) (kS : ByteArray) (ke : Int) (mn : Bool) (mS : ByteArray) (me : Int) (nn : Bool) (nS : ByteArray) (ne : Int) (an : Bool) (aS : ByteArray) (ae : Int) (cC : Array Value) (hcC : cC.size = 24 ∧ cC.all (·.oneCell') = true) (cP : Array Value) (hcP : cP.size = 28 ∧ cP.all (·.oneCell') = true) (w : World) (qC : ∀ W : World, (Op.equalIn 10000 29 (.agg cC) (.agg cC)).run Tryz.prog W = .ok true W) (qP : ∀ W : World, (Op.equalIn 10000 37 (.agg cP) (.agg cP)).run Tryz.prog W = .ok true W) (hC : ∀ W : World, Tab W → Calls Tryz.prog 5 #[.agg #[.bool ln, .string lS, .int .i64 le, .bool bn, .string bS, .int .i64 be, .int .i64 e]] W fun r w' => r = .returned (.tuple #[.agg cC, .int .i64 ec]) ∧ Below W.heap.size W w') (hM : ∀ W : World, Tab W → Calls Tryz.prog 6 #[.agg #[.bool ln, .string lS, .int .i64 le, .bool bn, .string bS, .int .i64 be, .int .i64 e]] W fun r w' => r = .returned (.tuple #[.agg #[.bool mn, .string mS, .int .i64 me, .bool nn, .string nS, .int .i64 ne], .int .i64 em]) ∧ Below W.heap.size W w') (hH : ∀ W : World, Tab W → Calls Tryz.prog 7 #[.agg #[.bool ln, .string lS, .int .i64 le, .bool bn, .string bS, .int .i64 be, .int .i64 e], .agg #[.bool jn, .string jS, .int .i64 je, .bool kn, .string kS, .int .i64 ke]] W fun r w' => r = .returned (.tuple #[.bool false, .int .i64 2]) ∧ Below W.heap.size W w') (hP : ∀ W : World, Tab W → Calls Tryz.prog 8 #[.agg #[.bool ln, .string lS, .int .i64 le, .bool bn, .string bS, .int .i64 be, .int .i64 e]] W fun r w' => r = .returned (.tuple #[.agg cP, .int .i64 ep]) ∧ Below W.heap.size W w') (hA : ∀ W : World, Tab W → Calls Tryz.prog 9 #[.agg #[.bool ln, .string lS, .int .i64 le, .bool bn, .string bS, .int .i64 be, .int .i64 e]] W fun r w' => r = .returned (.tuple #[.agg #[.bool an, .string aS, .int .i64 ae], .int .i64 0]) ∧ Below W.heap.size W w') (hR : ∀ W : World, Calls Tryz.prog 10 #[.agg #[.bool ln, .string lS, .int .i64 le, .bool bn, .string bS, .int .i64 be, .int .i64 e]] W fun r w' => r = .returned (.bool true) ∧ Below W.heap.size W w') (hV : ∀ W : World, Calls Tryz.prog 11 #[.agg #[.bool ln, .string lS, .int .i64 le, .bool bn, .string bS, .int .i64 be, .int .i64 e]] W fun r w' => r = .returned (.int .i64 0) ∧ Below W.heap.size W w') (hRC : ∀ W : World, Tab W → Calls Tryz.prog 13 #[.agg #[.bool ln, .string lS, .int .i64 le, .bool bn, .string bS, .int .i64 be, .int .i64 e]] W fun r w' => r = .returned (.tuple #[.agg cC, .int .i64 ec]) ∧ Below W.heap.size W w') (hRM : ∀ W : World, Tab W → Calls Tryz.prog 14 #[.agg #[.bool ln, .string lS, .int .i64 le, .bool bn, .string bS, .int .i64 be, .int .i64 e]] W fun r w' => r = .returned (.tuple #[.agg #[.bool mn, .string mS, .int .i64 me, .bool nn, .string nS, .int .i64 ne], .int .i64 em]) ∧ Below W.heap.size W w') (hRP : ∀ W : World, Tab W → Calls Tryz.prog 15 #[.agg #[.bool ln, .string lS, .int .i64 le, .bool bn, .string bS, .int .i64 be, .int .i64 e]] W fun r w' => r = .returned (.tuple #[.agg cP, .int .i64 ep]) ∧ Below W.heap.size W w') (hRA : ∀ W : World, Tab W → Calls Tryz.prog 16 #[.agg #[.bool ln, .string lS, .int .i64 le, .bool bn, .string bS, .int .i64 be, .int .i64 e]] W fun r w' => r = .returned (.agg #[.bool an, .string aS, .int .i64 ae]) ∧ Below W.heap.size W w') (hG : ∀ W : World, Calls Tryz.prog 17 #[.agg #[.bool jn, .string jS, .int .i64 je, .bool kn, .string kS, .int .i64 ke]] W fun r w' => r = .returned (.bool false) ∧ Below W.heap.size W w') (hT : Tab w) :
    Calls Tryz.prog 3 #[.agg #[.bool ln, .string lS, .int .i64 le, .bool bn, .string bS, .int .i64 be, .int .i64 e], .agg #[.bool jn, .string jS, .int .i64 je, .bool kn, .string kS, .int .i64 ke]] w fun r' w' => r' = .returned (.bool true) ∧ Below w.heap.size w w' := by
  have aw := fun W hW => awake24 W hW
  go_enter Tryz.func3, Tryz.ntmps3
  have B0 := Below.refl w.heap.size w
  have F2 := Blk.put (w) #[.bool ln, .string lS, .int .i64 le, .bool bn, .string bS, .int .i64 be, .int .i64 e] 26
  replace B0 := B0.alloc B0.size (.cells #[.bool ln, .string lS, .int .i64 le, .bool bn, .string bS, .int .i64 be, .int .i64 e] 26)
  replace F2 := F2.allocd (.cells #[.bool jn, .string jS, .int .i64 je, .bool kn, .string kS, .int .i64 ke] 28)
  have F3 := Blk.put ((w).alloc (.cells #[.bool ln, .string lS, .int .i64 le, .bool bn, .string bS, .int .i64 be, .int .i64 e] 26)) #[.bool jn, .string jS, .int .i64 je, .bool kn, .string kS, .int .i64 ke] 28
  rw [show ((w).alloc (.cells #[.bool ln, .string lS, .int .i64 le, .bool bn, .string bS, .int .i64 be, .int .i64 e] 26)).heap.size = w.heap.size + 1 by simp] at F3
  replace B0 := B0.alloc B0.size (.cells #[.bool jn, .string jS, .int .i64 je, .bool kn, .string kS, .int .i64 ke] 28)
  obtain ⟨xF20_0, xF20_1, xF20_2, xF20_3, xF20_4, xF20_5, xF20_6⟩ := F2.ce7
  go_wp2_with fail
  (with_reducible refine (hC _ (hT.below B0)).mono ?_)
  rintro r w1 ⟨rfl, hb1⟩
  clear xF20_0 xF20_1 xF20_2 xF20_3 xF20_4 xF20_5 xF20_6
  replace F2 := F2.keep hb1
  replace F3 := F3.keep hb1
  replace B0 := B0.trans (hb1.mono B0.size)
  clear hb1
  dsimp only
  go_step
  refine wpList_move rfl _ (.inl rfl) (.tuple #[.agg cC, .int .i64 ec]) rfl ?_
  (try dsimp only [Act.put]); (try go_frame)
  refine wpList_extract rfl _ 0 rfl _ (.agg cC) rfl rfl ?_
  (try dsimp only [Act.put]); (try go_frame)
  refine wpList_extract rfl _ 1 rfl _ (.int .i64 ec) rfl rfl ?_
  (try dsimp only [Act.put]); (try go_frame)
  refine wpList_new rfl _ rfl _ Tryz.zeroValue29 ?_
  (try dsimp only [Act.put]); (try go_frame)
  refine wpList_store_new rfl _ _ _ rfl _ cC rfl rfl (by rw [hcC.1]; kernel_rfl) (by rw [hcC.1]; rfl) hcC.2 ?_
  (try dsimp only [Act.put]); (try go_frame)
  replace F2 := F2.allocd (.cells cC 29)
  replace F3 := F3.allocd (.cells cC 29)
  have F5 := Blk.put (w1) cC 29
  replace B0 := B0.alloc B0.size (.cells cC 29)
  refine wpList_move rfl _ (.inr rfl) (.int .i64 ec) rfl ?_
  (try dsimp only [Act.put]); (try go_frame)
  obtain ⟨xF21_0, xF21_1, xF21_2, xF21_3, xF21_4, xF21_5, xF21_6⟩ := F2.ce7
  go_wp2_with fail
  (with_reducible refine (hM _ (hT.below B0)).mono ?_)
  rintro r w2 ⟨rfl, hb2⟩
  clear xF21_0 xF21_1 xF21_2 xF21_3 xF21_4 xF21_5 xF21_6
  replace F2 := F2.keep hb2
  replace F3 := F3.keep hb2
  replace F5 := F5.keep hb2
  replace B0 := B0.trans (hb2.mono B0.size)
  clear hb2
  replace F2 := F2.allocd (.cells #[.bool mn, .string mS, .int .i64 me, .bool nn, .string nS, .int .i64 ne] 28)
  replace F3 := F3.allocd (.cells #[.bool mn, .string mS, .int .i64 me, .bool nn, .string nS, .int .i64 ne] 28)
  replace F5 := F5.allocd (.cells #[.bool mn, .string mS, .int .i64 me, .bool nn, .string nS, .int .i64 ne] 28)
  have F7 := Blk.put (w2) #[.bool mn, .string mS, .int .i64 me, .bool nn, .string nS, .int .i64 ne] 28
  replace B0 := B0.alloc B0.size (.cells #[.bool mn, .string mS, .int .i64 me, .bool nn, .string nS, .int .i64 ne] 28)
  obtain ⟨xF22_0, xF22_1, xF22_2, xF22_3, xF22_4, xF22_5, xF22_6⟩ := F2.ce7
  obtain ⟨xF32_0, xF32_1, xF32_2, xF32_3, xF32_4, xF32_5⟩ := F3.ce6
  go_wp2_with fail
  (with_reducible refine (hH _ (hT.below B0)).mono ?_)
  rintro r w3 ⟨rfl, hb3⟩
  clear xF22_0 xF22_1 xF22_2 xF22_3 xF22_4 xF22_5 xF22_6 xF32_0 xF32_1 xF32_2 xF32_3 xF32_4 xF32_5
  replace F2 := F2.keep hb3
  replace F3 := F3.keep hb3
  replace F5 := F5.keep hb3
  replace F7 := F7.keep hb3
  replace B0 := B0.trans (hb3.mono B0.size)
  clear hb3
  obtain ⟨xF23_0, xF23_1, xF23_2, xF23_3, xF23_4, xF23_5, xF23_6⟩ := F2.ce7
  go_wp2_with fail
  (with_reducible refine (hP _ (hT.below B0)).mono ?_)
  rintro r w4 ⟨rfl, hb4⟩
  clear xF23_0 xF23_1 xF23_2 xF23_3 xF23_4 xF23_5 xF23_6
  replace F2 := F2.keep hb4
  replace F3 := F3.keep hb4
  replace F5 := F5.keep hb4
  replace F7 := F7.keep hb4
  replace B0 := B0.trans (hb4.mono B0.size)
  clear hb4
  dsimp only
  go_step
  refine wpList_move rfl _ (.inl rfl) (.tuple #[.agg cP, .int .i64 ep]) rfl ?_
  (try dsimp only [Act.put]); (try go_frame)
  refine wpList_extract rfl _ 0 rfl _ (.agg cP) rfl rfl ?_
  (try dsimp only [Act.put]); (try go_frame)
  refine wpList_extract rfl _ 1 rfl _ (.int .i64 ep) rfl rfl ?_
  (try dsimp only [Act.put]); (try go_frame)
  refine wpList_new rfl _ rfl _ Tryz.zeroValue37 ?_
  (try dsimp only [Act.put]); (try go_frame)
  refine wpList_store_new rfl _ _ _ rfl _ cP rfl rfl (by rw [hcP.1]; kernel_rfl) (by rw [hcP.1]; rfl) hcP.2 ?_
  (try dsimp only [Act.put]); (try go_frame)
  replace F2 := F2.allocd (.cells cP 37)
  replace F3 := F3.allocd (.cells cP 37)
  replace F5 := F5.allocd (.cells cP 37)
  replace F7 := F7.allocd (.cells cP 37)
  have F11 := Blk.put (w4) cP 37
  replace B0 := B0.alloc B0.size (.cells cP 37)
  refine wpList_move rfl _ (.inr rfl) (.int .i64 ep) rfl ?_
  (try dsimp only [Act.put]); (try go_frame)
  obtain ⟨xF24_0, xF24_1, xF24_2, xF24_3, xF24_4, xF24_5, xF24_6⟩ := F2.ce7
  go_wp2_with fail
  (with_reducible refine (hA _ (hT.below B0)).mono ?_)
  rintro r w5 ⟨rfl, hb5⟩
  clear xF24_0 xF24_1 xF24_2 xF24_3 xF24_4 xF24_5 xF24_6
  replace F2 := F2.keep hb5
  replace F3 := F3.keep hb5
  replace F5 := F5.keep hb5
  replace F7 := F7.keep hb5
  replace F11 := F11.keep hb5
  replace B0 := B0.trans (hb5.mono B0.size)
  clear hb5
  replace F2 := F2.allocd (.cells #[.bool an, .string aS, .int .i64 ae] 24)
  replace F3 := F3.allocd (.cells #[.bool an, .string aS, .int .i64 ae] 24)
  replace F5 := F5.allocd (.cells #[.bool an, .string aS, .int .i64 ae] 24)
  replace F7 := F7.allocd (.cells #[.bool an, .string aS, .int .i64 ae] 24)
  replace F11 := F11.allocd (.cells #[.bool an, .string aS, .int .i64 ae] 24)
  have F13 := Blk.put (w5) #[.bool an, .string aS, .int .i64 ae] 24
  replace B0 := B0.alloc B0.size (.cells #[.bool an, .string aS, .int .i64 ae] 24)
  obtain ⟨xF25_0, xF25_1, xF25_2, xF25_3, xF25_4, xF25_5, xF25_6⟩ := F2.ce7
  go_wp2_with fail
  (with_reducible refine (hR _).mono ?_)
  rintro r w6 ⟨rfl, hb6⟩
  clear xF25_0 xF25_1 xF25_2 xF25_3 xF25_4 xF25_5 xF25_6
  replace F2 := F2.keep hb6
  replace F3 := F3.keep hb6
  replace F5 := F5.keep hb6
  replace F7 := F7.keep hb6
  replace F11 := F11.keep hb6
  replace F13 := F13.keep hb6
  replace B0 := B0.trans (hb6.mono B0.size)
  clear hb6
  obtain ⟨xF26_0, xF26_1, xF26_2, xF26_3, xF26_4, xF26_5, xF26_6⟩ := F2.ce7
  go_wp2_with fail
  (with_reducible refine (hRC _ (hT.below B0)).mono ?_)
  rintro r w7 ⟨rfl, hb7⟩
  clear xF26_0 xF26_1 xF26_2 xF26_3 xF26_4 xF26_5 xF26_6
  replace F2 := F2.keep hb7
  replace F3 := F3.keep hb7
  replace F5 := F5.keep hb7
  replace F7 := F7.keep hb7
  replace F11 := F11.keep hb7
  replace F13 := F13.keep hb7
  replace B0 := B0.trans (hb7.mono B0.size)
  clear hb7
  dsimp only
  go_step
  refine wpList_move rfl _ (.inl rfl) (.tuple #[.agg cC, .int .i64 ec]) rfl ?_
  (try dsimp only [Act.put]); (try go_frame)
  refine wpList_extract rfl _ 0 rfl _ (.agg cC) rfl rfl ?_
  (try dsimp only [Act.put]); (try go_frame)
  refine wpList_extract rfl _ 1 rfl _ (.int .i64 ec) rfl rfl ?_
  (try dsimp only [Act.put]); (try go_frame)
  refine wpList_new rfl _ rfl _ Tryz.zeroValue29 ?_
  (try dsimp only [Act.put]); (try go_frame)
  refine wpList_store_new rfl _ _ _ rfl _ cC rfl rfl (by rw [hcC.1]; kernel_rfl) (by rw [hcC.1]; rfl) hcC.2 ?_
  (try dsimp only [Act.put]); (try go_frame)
  replace F2 := F2.allocd (.cells cC 29)
  replace F3 := F3.allocd (.cells cC 29)
  replace F5 := F5.allocd (.cells cC 29)
  replace F7 := F7.allocd (.cells cC 29)
  replace F11 := F11.allocd (.cells cC 29)
  replace F13 := F13.allocd (.cells cC 29)
  have F15 := Blk.put (w7) cC 29
  replace B0 := B0.alloc B0.size (.cells cC 29)
  refine wpList_move rfl _ (.inr rfl) (.int .i64 ec) rfl ?_
  (try dsimp only [Act.put]); (try go_frame)
  obtain ⟨xF27_0, xF27_1, xF27_2, xF27_3, xF27_4, xF27_5, xF27_6⟩ := F2.ce7
  go_wp2_with fail
  (with_reducible refine (hRM _ (hT.below B0)).mono ?_)
  rintro r w8 ⟨rfl, hb8⟩
  clear xF27_0 xF27_1 xF27_2 xF27_3 xF27_4 xF27_5 xF27_6
  replace F2 := F2.keep hb8
  replace F3 := F3.keep hb8
  replace F5 := F5.keep hb8
  replace F7 := F7.keep hb8
  replace F11 := F11.keep hb8
  replace F13 := F13.keep hb8
  replace F15 := F15.keep hb8
  replace B0 := B0.trans (hb8.mono B0.size)
  clear hb8
  replace F2 := F2.allocd (.cells #[.bool mn, .string mS, .int .i64 me, .bool nn, .string nS, .int .i64 ne] 28)
  replace F3 := F3.allocd (.cells #[.bool mn, .string mS, .int .i64 me, .bool nn, .string nS, .int .i64 ne] 28)
  replace F5 := F5.allocd (.cells #[.bool mn, .string mS, .int .i64 me, .bool nn, .string nS, .int .i64 ne] 28)
  replace F7 := F7.allocd (.cells #[.bool mn, .string mS, .int .i64 me, .bool nn, .string nS, .int .i64 ne] 28)
  replace F11 := F11.allocd (.cells #[.bool mn, .string mS, .int .i64 me, .bool nn, .string nS, .int .i64 ne] 28)
  replace F13 := F13.allocd (.cells #[.bool mn, .string mS, .int .i64 me, .bool nn, .string nS, .int .i64 ne] 28)
  replace F15 := F15.allocd (.cells #[.bool mn, .string mS, .int .i64 me, .bool nn, .string nS, .int .i64 ne] 28)
  have F17 := Blk.put (w8) #[.bool mn, .string mS, .int .i64 me, .bool nn, .string nS, .int .i64 ne] 28
  replace B0 := B0.alloc B0.size (.cells #[.bool mn, .string mS, .int .i64 me, .bool nn, .string nS, .int .i64 ne] 28)
  obtain ⟨xF28_0, xF28_1, xF28_2, xF28_3, xF28_4, xF28_5, xF28_6⟩ := F2.ce7
  go_wp2_with fail
  (with_reducible refine (hRP _ (hT.below B0)).mono ?_)
  rintro r w9 ⟨rfl, hb9⟩
  clear xF28_0 xF28_1 xF28_2 xF28_3 xF28_4 xF28_5 xF28_6
  replace F2 := F2.keep hb9
  replace F3 := F3.keep hb9
  replace F5 := F5.keep hb9
  replace F7 := F7.keep hb9
  replace F11 := F11.keep hb9
  replace F13 := F13.keep hb9
  replace F15 := F15.keep hb9
  replace F17 := F17.keep hb9
  replace B0 := B0.trans (hb9.mono B0.size)
  clear hb9
  dsimp only
  go_step
  refine wpList_move rfl _ (.inl rfl) (.tuple #[.agg cP, .int .i64 ep]) rfl ?_
  (try dsimp only [Act.put]); (try go_frame)
  refine wpList_extract rfl _ 0 rfl _ (.agg cP) rfl rfl ?_
  (try dsimp only [Act.put]); (try go_frame)
  refine wpList_extract rfl _ 1 rfl _ (.int .i64 ep) rfl rfl ?_
  (try dsimp only [Act.put]); (try go_frame)
  refine wpList_new rfl _ rfl _ Tryz.zeroValue37 ?_
  (try dsimp only [Act.put]); (try go_frame)
  refine wpList_store_new rfl _ _ _ rfl _ cP rfl rfl (by rw [hcP.1]; kernel_rfl) (by rw [hcP.1]; rfl) hcP.2 ?_
  (try dsimp only [Act.put]); (try go_frame)
  replace F2 := F2.allocd (.cells cP 37)
  replace F3 := F3.allocd (.cells cP 37)
  replace F5 := F5.allocd (.cells cP 37)
  replace F7 := F7.allocd (.cells cP 37)
  replace F11 := F11.allocd (.cells cP 37)
  replace F13 := F13.allocd (.cells cP 37)
  replace F15 := F15.allocd (.cells cP 37)
  replace F17 := F17.allocd (.cells cP 37)
  have F19 := Blk.put (w9) cP 37
  replace B0 := B0.alloc B0.size (.cells cP 37)
  refine wpList_move rfl _ (.inr rfl) (.int .i64 ep) rfl ?_
  (try dsimp only [Act.put]); (try go_frame)
  go_wp2_with fail
  refine wp_region_any (by kernel_rfl) ?_
  obtain ⟨xF29_0, xF29_1, xF29_2, xF29_3, xF29_4, xF29_5, xF29_6⟩ := F2.ce7
  obtain ⟨xF79_0, xF79_1, xF79_2, xF79_3, xF79_4, xF79_5⟩ := F7.ce6
  obtain ⟨xF179_0, xF179_1, xF179_2, xF179_3, xF179_4, xF179_5⟩ := F17.ce6
  obtain ⟨xF139_0, xF139_1, xF139_2⟩ := F13.ce3
  have hHeld : (fun w' : World => w'.cell? ⟨w.heap.size, 0, none⟩ = some (.bool ln) ∧ w'.cell? ⟨w.heap.size, 1, none⟩ = some (.string lS) ∧ w'.cell? ⟨w.heap.size, 2, none⟩ = some (.int .i64 le) ∧ w'.cell? ⟨w.heap.size, 3, none⟩ = some (.bool bn) ∧ w'.cell? ⟨w.heap.size, 4, none⟩ = some (.string bS) ∧ w'.cell? ⟨w.heap.size, 5, none⟩ = some (.int .i64 be) ∧ w'.cell? ⟨w.heap.size, 6, none⟩ = some (.int .i64 e) ∧ Blk w' (w1.heap.size) cC 29 ∧ Blk w' (w7.heap.size) cC 29 ∧ w'.cell? ⟨w2.heap.size, 0, none⟩ = some (.bool mn) ∧ w'.cell? ⟨w2.heap.size, 1, none⟩ = some (.string mS) ∧ w'.cell? ⟨w2.heap.size, 2, none⟩ = some (.int .i64 me) ∧ w'.cell? ⟨w2.heap.size, 3, none⟩ = some (.bool nn) ∧ w'.cell? ⟨w2.heap.size, 4, none⟩ = some (.string nS) ∧ w'.cell? ⟨w2.heap.size, 5, none⟩ = some (.int .i64 ne) ∧ w'.cell? ⟨w8.heap.size, 0, none⟩ = some (.bool mn) ∧ w'.cell? ⟨w8.heap.size, 1, none⟩ = some (.string mS) ∧ w'.cell? ⟨w8.heap.size, 2, none⟩ = some (.int .i64 me) ∧ w'.cell? ⟨w8.heap.size, 3, none⟩ = some (.bool nn) ∧ w'.cell? ⟨w8.heap.size, 4, none⟩ = some (.string nS) ∧ w'.cell? ⟨w8.heap.size, 5, none⟩ = some (.int .i64 ne) ∧ Blk w' (w4.heap.size) cP 37 ∧ Blk w' (w9.heap.size) cP 37 ∧ w'.cell? ⟨w5.heap.size, 0, none⟩ = some (.bool an) ∧ w'.cell? ⟨w5.heap.size, 1, none⟩ = some (.string aS) ∧ w'.cell? ⟨w5.heap.size, 2, none⟩ = some (.int .i64 ae)) ((w9).alloc (.cells cP 37)).drew := ⟨xF29_0, xF29_1, xF29_2, xF29_3, xF29_4, xF29_5, xF29_6, F5, F15, xF79_0, xF79_1, xF79_2, xF79_3, xF79_4, xF79_5, xF179_0, xF179_1, xF179_2, xF179_3, xF179_4, xF179_5, F11, F19, xF139_0, xF139_1, xF139_2⟩
  refine wpAny_of_held (S := fun w' : World => w'.cell? ⟨w.heap.size, 0, none⟩ = some (.bool ln) ∧ w'.cell? ⟨w.heap.size, 1, none⟩ = some (.string lS) ∧ w'.cell? ⟨w.heap.size, 2, none⟩ = some (.int .i64 le) ∧ w'.cell? ⟨w.heap.size, 3, none⟩ = some (.bool bn) ∧ w'.cell? ⟨w.heap.size, 4, none⟩ = some (.string bS) ∧ w'.cell? ⟨w.heap.size, 5, none⟩ = some (.int .i64 be) ∧ w'.cell? ⟨w.heap.size, 6, none⟩ = some (.int .i64 e) ∧ Blk w' (w1.heap.size) cC 29 ∧ Blk w' (w7.heap.size) cC 29 ∧ w'.cell? ⟨w2.heap.size, 0, none⟩ = some (.bool mn) ∧ w'.cell? ⟨w2.heap.size, 1, none⟩ = some (.string mS) ∧ w'.cell? ⟨w2.heap.size, 2, none⟩ = some (.int .i64 me) ∧ w'.cell? ⟨w2.heap.size, 3, none⟩ = some (.bool nn) ∧ w'.cell? ⟨w2.heap.size, 4, none⟩ = some (.string nS) ∧ w'.cell? ⟨w2.heap.size, 5, none⟩ = some (.int .i64 ne) ∧ w'.cell? ⟨w8.heap.size, 0, none⟩ = some (.bool mn) ∧ w'.cell? ⟨w8.heap.size, 1, none⟩ = some (.string mS) ∧ w'.cell? ⟨w8.heap.size, 2, none⟩ = some (.int .i64 me) ∧ w'.cell? ⟨w8.heap.size, 3, none⟩ = some (.bool nn) ∧ w'.cell? ⟨w8.heap.size, 4, none⟩ = some (.string nS) ∧ w'.cell? ⟨w8.heap.size, 5, none⟩ = some (.int .i64 ne) ∧ Blk w' (w4.heap.size) cP 37 ∧ Blk w' (w9.heap.size) cP 37 ∧ w'.cell? ⟨w5.heap.size, 0, none⟩ = some (.bool an) ∧ w'.cell? ⟨w5.heap.size, 1, none⟩ = some (.string aS) ∧ w'.cell? ⟨w5.heap.size, 2, none⟩ = some (.int .i64 ae)) _ _ _ ((w9).alloc (.cells cP 37)).drew ?_
  replace F2 := F2.drew
  replace F3 := F3.drew
  replace F5 := F5.drew
  replace F7 := F7.drew
  replace F11 := F11.drew
  replace F13 := F13.drew
  replace F15 := F15.drew
  replace F17 := F17.drew
  replace F19 := F19.drew
  replace B0 := B0.drew
  generalize ((w9).alloc (.cells cP 37)).drew = v1 at *
  refine wpAnyH_take (i := 0) (v := _) (by first | (simp only [List.getElem?_toArray, List.getElem?_cons_zero]; rfl) | rfl) (by kernel_rfl) (by kernel_rfl) (by kernel_rfl) (by exact fun _ _ _ h => h) (Or.inl ⟨by rfl, by (intro w hSw; (try dsimp only at hSw); go_simp; try with_reducible rfl)⟩) (by assumption) ?_
  (try dsimp only [Act.put]); (try go_frame)
  refine wpAnyH_ready (rs := [1]) (by kernel_rfl) (by simp) ?_
  refine AllReadyH.cons rfl (fun K hK => ?_) AllReadyH.nil
  go_simp
  (with_reducible refine (hV _).mono ?_)
  rintro r w10 ⟨rfl, hb10⟩
  clear xF29_0 xF29_1 xF29_2 xF29_3 xF29_4 xF29_5 xF29_6 xF79_0 xF79_1 xF79_2 xF79_3 xF79_4 xF79_5 xF179_0 xF179_1 xF179_2 xF179_3 xF179_4 xF179_5 xF139_0 xF139_1 xF139_2
  replace F2 := F2.keep hb10
  replace F3 := F3.keep hb10
  replace F5 := F5.keep hb10
  replace F7 := F7.keep hb10
  replace F11 := F11.keep hb10
  replace F13 := F13.keep hb10
  replace F15 := F15.keep hb10
  replace F17 := F17.keep hb10
  replace F19 := F19.keep hb10
  replace B0 := B0.trans (hb10.mono B0.size)
  clear hb10
  obtain ⟨xF212_0, xF212_1, xF212_2, xF212_3, xF212_4, xF212_5, xF212_6⟩ := F2.ce7
  obtain ⟨xF712_0, xF712_1, xF712_2, xF712_3, xF712_4, xF712_5⟩ := F7.ce6
  obtain ⟨xF1712_0, xF1712_1, xF1712_2, xF1712_3, xF1712_4, xF1712_5⟩ := F17.ce6
  obtain ⟨xF1312_0, xF1312_1, xF1312_2⟩ := F13.ce3
  refine hK.out _ _ ?_ (fun hHeld => ?_)
  · exact ⟨xF212_0, xF212_1, xF212_2, xF212_3, xF212_4, xF212_5, xF212_6, F5, F15, xF712_0, xF712_1, xF712_2, xF712_3, xF712_4, xF712_5, xF1712_0, xF1712_1, xF1712_2, xF1712_3, xF1712_4, xF1712_5, F11, F19, xF1312_0, xF1312_1, xF1312_2⟩
  clear hK K
  (try dsimp only [Act.put]); (try go_frame)
  refine wpAnyH_take (i := 2) (v := _) (by first | (simp only [List.getElem?_toArray, List.getElem?_cons_zero, List.getElem?_cons_succ]; rfl) | rfl) (by kernel_rfl) (by kernel_rfl) (by kernel_rfl) (by exact fun _ _ _ h => h) (Or.inl ⟨by rfl, by (intro w hSw; (try dsimp only at hSw); go_simp; try with_reducible rfl)⟩) (by assumption) ?_
  (try dsimp only [Act.put]); (try go_frame)
  refine wpAnyH_take (i := 3) (v := _) (by first | (simp only [List.getElem?_toArray, List.getElem?_cons_zero, List.getElem?_cons_succ]; rfl) | rfl) (by kernel_rfl) (by kernel_rfl) (by kernel_rfl) (by exact fun _ _ _ h => h) (Or.inl ⟨by rfl, by (intro w hSw; (try dsimp only at hSw); go_simp; try with_reducible rfl)⟩) (by assumption) ?_
  (try dsimp only [Act.put]); (try go_frame)
  refine wpAnyH_take (i := 4) (v := .agg cC) (by first | (simp only [List.getElem?_toArray, List.getElem?_cons_zero, List.getElem?_cons_succ]; rfl) | rfl) (by kernel_rfl) (by kernel_rfl) (by kernel_rfl) (by exact fun _ _ _ h => h) (Or.inl ⟨by rfl, by (intro w hSw; (try dsimp only at hSw); exact exec_load_row 29 _ rfl (w1.heap.size) cC _ _ rfl (hSw.2.2.2.2.2.2.2.1) Tryz.underlying29 (by rw [hcC.1]; kernel_rfl))⟩) (by assumption) ?_
  (try dsimp only [Act.put]); (try go_frame)
  refine wpAnyH_take (i := 5) (v := .agg cC) (by first | (simp only [List.getElem?_toArray, List.getElem?_cons_zero, List.getElem?_cons_succ]; rfl) | rfl) (by kernel_rfl) (by kernel_rfl) (by kernel_rfl) (by exact fun _ _ _ h => h) (Or.inl ⟨by rfl, by (intro w hSw; (try dsimp only at hSw); exact exec_load_row 29 _ rfl (w7.heap.size) cC _ _ rfl (hSw.2.2.2.2.2.2.2.2.1) Tryz.underlying29 (by rw [hcC.1]; kernel_rfl))⟩) (by assumption) ?_
  (try dsimp only [Act.put]); (try go_frame)
  refine wpAnyH_take (i := 6) (v := _) (by first | (simp only [List.getElem?_toArray, List.getElem?_cons_zero, List.getElem?_cons_succ]; rfl) | rfl) (by kernel_rfl) (by kernel_rfl) (by kernel_rfl) (by exact fun _ _ _ h => h) (Or.inl ⟨by rfl, by (intro w hSw; (try dsimp only at hSw); go_simp; try with_reducible rfl)⟩) (by assumption) ?_
  (try dsimp only [Act.put]); (try go_frame)
  refine wpAnyH_take (i := 7) (v := _) (by first | (simp only [List.getElem?_toArray, List.getElem?_cons_zero, List.getElem?_cons_succ]; rfl) | rfl) (by kernel_rfl) (by kernel_rfl) (by kernel_rfl) (by exact fun _ _ _ h => h) (Or.inl ⟨by rfl, by (intro w hSw; (try dsimp only at hSw); go_simp; try with_reducible rfl)⟩) (by assumption) ?_
  (try dsimp only [Act.put]); (try go_frame)
  refine wpAnyH_take (i := 8) (v := _) (by first | (simp only [List.getElem?_toArray, List.getElem?_cons_zero, List.getElem?_cons_succ]; rfl) | rfl) (by kernel_rfl) (by kernel_rfl) (by kernel_rfl) (by exact fun _ _ _ h => h) (Or.inl ⟨by rfl, by (intro w hSw; (try dsimp only at hSw); go_simp; try with_reducible rfl)⟩) (by assumption) ?_
  (try dsimp only [Act.put]); (try go_frame)
  refine wpAnyH_take (i := 9) (v := _) (by first | (simp only [List.getElem?_toArray, List.getElem?_cons_zero, List.getElem?_cons_succ]; rfl) | rfl) (by kernel_rfl) (by kernel_rfl) (by kernel_rfl) (by exact fun _ _ _ h => h) (Or.inl ⟨by rfl, by (intro w hSw; (try dsimp only at hSw); go_simp; try with_reducible rfl)⟩) (by assumption) ?_
  (try dsimp only [Act.put]); (try go_frame)
  refine wpAnyH_take (i := 10) (v := _) (by first | (simp only [List.getElem?_toArray, List.getElem?_cons_zero, List.getElem?_cons_succ]; rfl) | rfl) (by kernel_rfl) (by kernel_rfl) (by kernel_rfl) (by exact fun _ _ _ h => h) (Or.inl ⟨by rfl, by (intro w hSw; (try dsimp only at hSw); go_simp; try with_reducible rfl)⟩) (by assumption) ?_
  (try dsimp only [Act.put]); (try go_frame)
  refine wpAnyH_take (i := 11) (v := _) (by first | (simp only [List.getElem?_toArray, List.getElem?_cons_zero, List.getElem?_cons_succ]; rfl) | rfl) (by kernel_rfl) (by kernel_rfl) (by kernel_rfl) (by exact fun _ _ _ h => h) (Or.inl ⟨by rfl, by (intro w hSw; (try dsimp only at hSw); go_simp; try with_reducible rfl)⟩) (by assumption) ?_
  (try dsimp only [Act.put]); (try go_frame)
  refine wpAnyH_take (i := 12) (v := _) (by first | (simp only [List.getElem?_toArray, List.getElem?_cons_zero, List.getElem?_cons_succ]; rfl) | rfl) (by kernel_rfl) (by kernel_rfl) (by kernel_rfl) (by exact fun _ _ _ h => h) (Or.inl ⟨by rfl, by (intro w hSw; (try dsimp only at hSw); go_simp; try with_reducible rfl)⟩) (by assumption) ?_
  (try dsimp only [Act.put]); (try go_frame)
  refine wpAnyH_take (i := 13) (v := _) (by first | (simp only [List.getElem?_toArray, List.getElem?_cons_zero, List.getElem?_cons_succ]; rfl) | rfl) (by kernel_rfl) (by kernel_rfl) (by kernel_rfl) (by exact fun _ _ _ h => h) (Or.inl ⟨by rfl, by (intro w hSw; (try dsimp only at hSw); go_simp; try with_reducible rfl)⟩) (by assumption) ?_
  (try dsimp only [Act.put]); (try go_frame)
  refine wpAnyH_take (i := 14) (v := _) (by first | (simp only [List.getElem?_toArray, List.getElem?_cons_zero, List.getElem?_cons_succ]; rfl) | rfl) (by kernel_rfl) (by kernel_rfl) (by kernel_rfl) (by exact fun _ _ _ h => h) (Or.inl ⟨by rfl, by (intro w hSw; (try dsimp only at hSw); go_simp; try with_reducible rfl)⟩) (by assumption) ?_
  (try dsimp only [Act.put]); (try go_frame)
  refine wpAnyH_take (i := 15) (v := _) (by first | (simp only [List.getElem?_toArray, List.getElem?_cons_zero, List.getElem?_cons_succ]; rfl) | rfl) (by kernel_rfl) (by kernel_rfl) (by kernel_rfl) (by exact fun _ _ _ h => h) (Or.inl ⟨by rfl, by (intro w hSw; (try dsimp only at hSw); go_simp; try with_reducible rfl)⟩) (by assumption) ?_
  (try dsimp only [Act.put]); (try go_frame)
  refine wpAnyH_take (i := 16) (v := _) (by first | (simp only [List.getElem?_toArray, List.getElem?_cons_zero, List.getElem?_cons_succ]; rfl) | rfl) (by kernel_rfl) (by kernel_rfl) (by kernel_rfl) (by exact fun _ _ _ h => h) (Or.inl ⟨by rfl, by (intro w hSw; (try dsimp only at hSw); go_simp; try with_reducible rfl)⟩) (by assumption) ?_
  (try dsimp only [Act.put]); (try go_frame)
  refine wpAnyH_take (i := 17) (v := _) (by first | (simp only [List.getElem?_toArray, List.getElem?_cons_zero, List.getElem?_cons_succ]; rfl) | rfl) (by kernel_rfl) (by kernel_rfl) (by kernel_rfl) (by exact fun _ _ _ h => h) (Or.inl ⟨by rfl, by (intro w hSw; (try dsimp only at hSw); go_simp; try with_reducible rfl)⟩) (by assumption) ?_
  (try dsimp only [Act.put]); (try go_frame)
  refine wpAnyH_take (i := 18) (v := _) (by first | (simp only [List.getElem?_toArray, List.getElem?_cons_zero, List.getElem?_cons_succ]; rfl) | rfl) (by kernel_rfl) (by kernel_rfl) (by kernel_rfl) (by exact fun _ _ _ h => h) (Or.inl ⟨by rfl, by (intro w hSw; (try dsimp only at hSw); go_simp; try with_reducible rfl)⟩) (by assumption) ?_
  (try dsimp only [Act.put]); (try go_frame)
  refine wpAnyH_take (i := 19) (v := _) (by first | (simp only [List.getElem?_toArray, List.getElem?_cons_zero, List.getElem?_cons_succ]; rfl) | rfl) (by kernel_rfl) (by kernel_rfl) (by kernel_rfl) (by exact fun _ _ _ h => h) (Or.inl ⟨by rfl, by (intro w hSw; (try dsimp only at hSw); go_simp; try with_reducible rfl)⟩) (by assumption) ?_
  (try dsimp only [Act.put]); (try go_frame)
  refine wpAnyH_take (i := 20) (v := _) (by first | (simp only [List.getElem?_toArray, List.getElem?_cons_zero, List.getElem?_cons_succ]; rfl) | rfl) (by kernel_rfl) (by kernel_rfl) (by kernel_rfl) (by exact fun _ _ _ h => h) (Or.inl ⟨by rfl, by (intro w hSw; (try dsimp only at hSw); go_simp; try with_reducible rfl)⟩) (by assumption) ?_
  (try dsimp only [Act.put]); (try go_frame)
  refine wpAnyH_take (i := 21) (v := _) (by first | (simp only [List.getElem?_toArray, List.getElem?_cons_zero, List.getElem?_cons_succ]; rfl) | rfl) (by kernel_rfl) (by kernel_rfl) (by kernel_rfl) (by exact fun _ _ _ h => h) (Or.inl ⟨by rfl, by (intro w hSw; (try dsimp only at hSw); go_simp; try with_reducible rfl)⟩) (by assumption) ?_
  (try dsimp only [Act.put]); (try go_frame)
  refine wpAnyH_take (i := 22) (v := _) (by first | (simp only [List.getElem?_toArray, List.getElem?_cons_zero, List.getElem?_cons_succ]; rfl) | rfl) (by kernel_rfl) (by kernel_rfl) (by kernel_rfl) (by exact fun _ _ _ h => h) (Or.inl ⟨by rfl, by (intro w hSw; (try dsimp only at hSw); go_simp; try with_reducible rfl)⟩) (by assumption) ?_
  (try dsimp only [Act.put]); (try go_frame)
  refine wpAnyH_take (i := 23) (v := _) (by first | (simp only [List.getElem?_toArray, List.getElem?_cons_zero, List.getElem?_cons_succ]; rfl) | rfl) (by kernel_rfl) (by kernel_rfl) (by kernel_rfl) (by exact fun _ _ _ h => h) (Or.inl ⟨by rfl, by (intro w hSw; (try dsimp only at hSw); go_simp; try with_reducible rfl)⟩) (by assumption) ?_
  (try dsimp only [Act.put]); (try go_frame)
  refine wpAnyH_take (i := 24) (v := .agg cP) (by first | (simp only [List.getElem?_toArray, List.getElem?_cons_zero, List.getElem?_cons_succ]; rfl) | rfl) (by kernel_rfl) (by kernel_rfl) (by kernel_rfl) (by exact fun _ _ _ h => h) (Or.inl ⟨by rfl, by (intro w hSw; (try dsimp only at hSw); exact exec_load_row 37 _ rfl (w4.heap.size) cP _ _ rfl (hSw.2.2.2.2.2.2.2.2.2.2.2.2.2.2.2.2.2.2.2.2.2.1) Tryz.underlying37 (by rw [hcP.1]; kernel_rfl))⟩) (by assumption) ?_
  (try dsimp only [Act.put]); (try go_frame)
  refine wpAnyH_take (i := 25) (v := .agg cP) (by first | (simp only [List.getElem?_toArray, List.getElem?_cons_zero, List.getElem?_cons_succ]; rfl) | rfl) (by kernel_rfl) (by kernel_rfl) (by kernel_rfl) (by exact fun _ _ _ h => h) (Or.inl ⟨by rfl, by (intro w hSw; (try dsimp only at hSw); exact exec_load_row 37 _ rfl (w9.heap.size) cP _ _ rfl (hSw.2.2.2.2.2.2.2.2.2.2.2.2.2.2.2.2.2.2.2.2.2.2.1) Tryz.underlying37 (by rw [hcP.1]; kernel_rfl))⟩) (by assumption) ?_
  (try dsimp only [Act.put]); (try go_frame)
  refine wpAnyH_take (i := 26) (v := _) (by first | (simp only [List.getElem?_toArray, List.getElem?_cons_zero, List.getElem?_cons_succ]; rfl) | rfl) (by kernel_rfl) (by kernel_rfl) (by kernel_rfl) (by exact fun _ _ _ h => h) (Or.inl ⟨by rfl, by (intro w hSw; (try dsimp only at hSw); go_simp; try with_reducible rfl)⟩) (by assumption) ?_
  (try dsimp only [Act.put]); (try go_frame)
  refine wpAnyH_take (i := 27) (v := _) (by first | (simp only [List.getElem?_toArray, List.getElem?_cons_zero, List.getElem?_cons_succ]; rfl) | rfl) (by kernel_rfl) (by kernel_rfl) (by kernel_rfl) (by exact fun _ _ _ h => h) (Or.inl ⟨by rfl, by (intro w hSw; (try dsimp only at hSw); go_simp; try with_reducible rfl)⟩) (by assumption) ?_
  (try dsimp only [Act.put]); (try go_frame)
  refine wpAnyH_take (i := 28) (v := _) (by first | (simp only [List.getElem?_toArray, List.getElem?_cons_zero, List.getElem?_cons_succ]; rfl) | rfl) (by kernel_rfl) (by kernel_rfl) (by kernel_rfl) (by exact fun _ _ _ h => h) (Or.inl ⟨by rfl, by (intro w hSw; (try dsimp only at hSw); go_simp; try with_reducible rfl)⟩) (by assumption) ?_
  (try dsimp only [Act.put]); (try go_frame)
  refine wpAnyH_take (i := 29) (v := _) (by first | (simp only [List.getElem?_toArray, List.getElem?_cons_zero, List.getElem?_cons_succ]; rfl) | rfl) (by kernel_rfl) (by kernel_rfl) (by kernel_rfl) (by exact fun _ _ _ h => h) (Or.inl ⟨by rfl, by (intro w hSw; (try dsimp only at hSw); go_simp; try with_reducible rfl)⟩) (by assumption) ?_
  (try dsimp only [Act.put]); (try go_frame)
  refine wpAnyH_take (i := 30) (v := _) (by first | (simp only [List.getElem?_toArray, List.getElem?_cons_zero, List.getElem?_cons_succ]; rfl) | rfl) (by kernel_rfl) (by kernel_rfl) (by kernel_rfl) (by exact fun _ _ _ h => h) (Or.inl ⟨by rfl, by (intro w hSw; (try dsimp only at hSw); go_simp; try with_reducible rfl)⟩) (by assumption) ?_
  (try dsimp only [Act.put]); (try go_frame)
  refine wpAnyH_take (i := 31) (v := _) (by first | (simp only [List.getElem?_toArray, List.getElem?_cons_zero, List.getElem?_cons_succ]; rfl) | rfl) (by kernel_rfl) (by kernel_rfl) (by kernel_rfl) (by exact fun _ _ _ h => h) (Or.inl ⟨by rfl, by (intro w hSw; (try dsimp only at hSw); go_simp; try with_reducible rfl)⟩) (by assumption) ?_
  (try dsimp only [Act.put]); (try go_frame)
  refine wpAnyH_take (i := 32) (v := _) (by first | (simp only [List.getElem?_toArray, List.getElem?_cons_zero, List.getElem?_cons_succ]; rfl) | rfl) (by kernel_rfl) (by kernel_rfl) (by kernel_rfl) (by exact fun _ _ _ h => h) (Or.inl ⟨by rfl, by (intro w hSw; (try dsimp only at hSw); go_simp; try with_reducible rfl)⟩) (by assumption) ?_
  (try dsimp only [Act.put]); (try go_frame)
  refine wpAnyH_take (i := 33) (v := _) (by first | (simp only [List.getElem?_toArray, List.getElem?_cons_zero, List.getElem?_cons_succ]; rfl) | rfl) (by kernel_rfl) (by kernel_rfl) (by kernel_rfl) (by exact fun _ _ _ h => h) (Or.inl ⟨by rfl, by (intro w hSw; (try dsimp only at hSw); go_simp; try with_reducible rfl)⟩) (by assumption) ?_
  (try dsimp only [Act.put]); (try go_frame)
  refine wpAnyH_take (i := 34) (v := _) (by first | (simp only [List.getElem?_toArray, List.getElem?_cons_zero, List.getElem?_cons_succ]; rfl) | rfl) (by kernel_rfl) (by kernel_rfl) (by kernel_rfl) (by exact fun _ _ _ h => h) (Or.inl ⟨by rfl, by (intro w hSw; (try dsimp only at hSw); go_simp; try with_reducible rfl)⟩) (by assumption) ?_
  (try dsimp only [Act.put]); (try go_frame)
  refine wpAnyH_take (i := 35) (v := _) (by first | (simp only [List.getElem?_toArray, List.getElem?_cons_zero, List.getElem?_cons_succ]; rfl) | rfl) (by kernel_rfl) (by kernel_rfl) (by kernel_rfl) (by exact fun _ _ _ h => h) (Or.inl ⟨by rfl, by (intro w hSw; (try dsimp only at hSw); go_simp; try with_reducible rfl)⟩) (by assumption) ?_
  (try dsimp only [Act.put]); (try go_frame)
  refine wpAnyH_ready (rs := [36]) (by kernel_rfl) (by simp) ?_
  refine AllReadyH.cons rfl (fun K hK => ?_) AllReadyH.nil
  go_simp
  (with_reducible refine (hRA _ (hT.below B0)).mono ?_)
  rintro r w11 ⟨rfl, hb11⟩
  clear xF212_0 xF212_1 xF212_2 xF212_3 xF212_4 xF212_5 xF212_6 xF712_0 xF712_1 xF712_2 xF712_3 xF712_4 xF712_5 xF1712_0 xF1712_1 xF1712_2 xF1712_3 xF1712_4 xF1712_5 xF1312_0 xF1312_1 xF1312_2
  replace F2 := F2.keep hb11
  replace F3 := F3.keep hb11
  replace F5 := F5.keep hb11
  replace F7 := F7.keep hb11
  replace F11 := F11.keep hb11
  replace F13 := F13.keep hb11
  replace F15 := F15.keep hb11
  replace F17 := F17.keep hb11
  replace F19 := F19.keep hb11
  replace B0 := B0.trans (hb11.mono B0.size)
  clear hb11
  obtain ⟨xF213_0, xF213_1, xF213_2, xF213_3, xF213_4, xF213_5, xF213_6⟩ := F2.ce7
  obtain ⟨xF713_0, xF713_1, xF713_2, xF713_3, xF713_4, xF713_5⟩ := F7.ce6
  obtain ⟨xF1713_0, xF1713_1, xF1713_2, xF1713_3, xF1713_4, xF1713_5⟩ := F17.ce6
  obtain ⟨xF1313_0, xF1313_1, xF1313_2⟩ := F13.ce3
  refine hK.out _ _ ?_ (fun hHeld => ?_)
  · exact ⟨xF213_0, xF213_1, xF213_2, xF213_3, xF213_4, xF213_5, xF213_6, F5, F15, xF713_0, xF713_1, xF713_2, xF713_3, xF713_4, xF713_5, xF1713_0, xF1713_1, xF1713_2, xF1713_3, xF1713_4, xF1713_5, F11, F19, xF1313_0, xF1313_1, xF1313_2⟩
  clear hK K
  (try dsimp only [Act.put]); (try go_frame)
  refine wpAnyH_take (i := 37) (v := _) (by first | (simp only [List.getElem?_toArray, List.getElem?_cons_zero, List.getElem?_cons_succ]; rfl) | rfl) (by kernel_rfl) (by kernel_rfl) (by kernel_rfl) (by exact fun _ _ _ h => h) (Or.inl ⟨by rfl, by (intro w hSw; (try dsimp only at hSw); go_simp; try with_reducible rfl)⟩) (by assumption) ?_
  (try dsimp only [Act.put]); (try go_frame)
  refine wpAnyH_take (i := 38) (v := _) (by first | (simp only [List.getElem?_toArray, List.getElem?_cons_zero, List.getElem?_cons_succ]; rfl) | rfl) (by kernel_rfl) (by kernel_rfl) (by kernel_rfl) (by exact fun _ _ _ h => h) (Or.inl ⟨by rfl, by (intro w hSw; (try dsimp only at hSw); go_simp; try with_reducible rfl)⟩) (by assumption) ?_
  (try dsimp only [Act.put]); (try go_frame)
  refine wpAnyH_take (i := 39) (v := _) (by first | (simp only [List.getElem?_toArray, List.getElem?_cons_zero, List.getElem?_cons_succ]; rfl) | rfl) (by kernel_rfl) (by kernel_rfl) (by kernel_rfl) (by exact fun _ _ _ h => h) (Or.inl ⟨by rfl, by (intro w hSw; (try dsimp only at hSw); go_simp; try with_reducible rfl)⟩) (by assumption) ?_
  (try dsimp only [Act.put]); (try go_frame)
  refine wpAnyH_take (i := 40) (v := _) (by first | (simp only [List.getElem?_toArray, List.getElem?_cons_zero, List.getElem?_cons_succ]; rfl) | rfl) (by kernel_rfl) (by kernel_rfl) (by kernel_rfl) (by exact fun _ _ _ h => h) (Or.inl ⟨by rfl, by (intro w hSw; (try dsimp only at hSw); go_simp; try with_reducible rfl)⟩) (by assumption) ?_
  (try dsimp only [Act.put]); (try go_frame)
  refine wpAnyH_take (i := 41) (v := _) (by first | (simp only [List.getElem?_toArray, List.getElem?_cons_zero, List.getElem?_cons_succ]; rfl) | rfl) (by kernel_rfl) (by kernel_rfl) (by kernel_rfl) (by exact fun _ _ _ h => h) (Or.inl ⟨by rfl, by (intro w hSw; (try dsimp only at hSw); go_simp; try with_reducible rfl)⟩) (by assumption) ?_
  (try dsimp only [Act.put]); (try go_frame)
  refine wpAnyH_take (i := 42) (v := _) (by first | (simp only [List.getElem?_toArray, List.getElem?_cons_zero, List.getElem?_cons_succ]; rfl) | rfl) (by kernel_rfl) (by kernel_rfl) (by kernel_rfl) (by exact fun _ _ _ h => h) (Or.inl ⟨by rfl, by (intro w hSw; (try dsimp only at hSw); go_simp; try with_reducible rfl)⟩) (by assumption) ?_
  (try dsimp only [Act.put]); (try go_frame)
  refine wpAnyH_done (by kernel_rfl) ?_ _
  try simp only [QCut]
  clear hHeld
  clear xF213_0 xF213_1 xF213_2 xF213_3 xF213_4 xF213_5 xF213_6 xF713_0 xF713_1 xF713_2 xF713_3 xF713_4 xF713_5 xF1713_0 xF1713_1 xF1713_2 xF1713_3 xF1713_4 xF1713_5 xF1313_0 xF1313_1 xF1313_2
  obtain ⟨xF313_0, xF313_1, xF313_2, xF313_3, xF313_4, xF313_5⟩ := F3.ce6
  go_wp2_with fail
  (with_reducible refine (hG _).mono ?_)
  rintro r w12 ⟨rfl, hb12⟩
  clear xF313_0 xF313_1 xF313_2 xF313_3 xF313_4 xF313_5
  clear F2
  replace F3 := F3.keep hb12
  clear F5
  clear F7
  clear F11
  clear F13
  clear F15
  clear F17
  clear F19
  replace B0 := B0.trans (hb12.mono B0.size)
  clear hb12
  go_wp2_with fail
  (with_reducible refine (aw _ (hT.below B0)).mono ?_)
  rintro r w13 ⟨rfl, hb13⟩
  clear F3
  replace B0 := B0.trans (hb13.mono B0.size)
  clear hb13
  go_wp2
  go_ret
  exact ⟨rfl, B0⟩

end Go.Proofs.YtfbkopepkklkjaaGreatDoor
