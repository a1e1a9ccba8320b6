/- view.Cover at every square that may be. -/
import Derived.Test.YtfbkopepkklkjaaGreatDoorQR
import Derived.Test.YtfbkopepkklkjaaGreatDoorQA
import Derived.Test.YtfbkopepkklkjaaGreatDoorQ4
namespace Go.Proofs.YtfbkopepkklkjaaGreatDoor
open Go Go.RowKit Go.PlainAid Fil


set_option maxRecDepth 100000 in
set_option maxHeartbeats 8000000 in
theorem gcomplex_f (x y : Nat) (ex ey : Int) (pn : Bool) (pS : ByteArray) (pe : Int) (qn : Bool) (qS : ByteArray) (qe : Int) (w : World) (h1 : ∀ W : World, Tab W → Calls Tryz.prog 76 #[.float .f64 x] W fun r w' => r = .returned (.tuple #[.agg #[.bool pn, .string pS, .int .i64 pe], .int .i64 ex]) ∧ Below W.heap.size W w') (h2 : ∀ W : World, Tab W → Calls Tryz.prog 76 #[.float .f64 y] W fun r w' => r = .returned (.tuple #[.agg #[.bool qn, .string qS, .int .i64 qe], .int .i64 ey]) ∧ Below W.heap.size W w') (hx : ex ≠ 0 ∨ (ex = 0 ∧ ey ≠ 0)) (hT : Tab w) :
  Calls Tryz.prog 38 #[.complex .f64 x y] w fun r w' => r = .returned (.tuple #[.agg #[.bool false, .string { data := #[] }, .int .i64 0, .bool false, .string { data := #[] }, .int .i64 0], .int .i64 5]) ∧ Below w.heap.size w w' := by
 go_enter Tryz.func38, Tryz.ntmps38
 have B0 := Below.refl w.heap.size w
 have q_w_F2 : Hid (w.heap.size ≤ w.heap.size) := Lib.hid (by omega)
 have F2 := Blk.put (w) #[.bool false, .string { data := #[] }, .int .i64 0, .bool false, .string { data := #[] }, .int .i64 0] 28
 replace B0 := B0.alloc B0.size (.cells #[.bool false, .string { data := #[] }, .int .i64 0, .bool false, .string { data := #[] }, .int .i64 0] 28)
 go_wp2_with fail
 (with_reducible refine (h1 _ (hT.below B0)).mono ?_)
 rintro r w1 ⟨rfl, hb1⟩
 replace F2 := F2.keep hb1
 replace B0 := B0.trans (hb1.mono B0.size)
 clear hb1
 replace F2 := F2.allocd (.cells #[.bool pn, .string pS, .int .i64 pe] 24)
 replace B0 := B0.alloc B0.size (.cells #[.bool pn, .string pS, .int .i64 pe] 24)
 go_wp2_with fail
 (with_reducible refine (h2 _ (hT.below B0)).mono ?_)
 rintro r w2 ⟨rfl, hb2⟩
 replace F2 := F2.keep hb2
 replace B0 := B0.trans (hb2.mono B0.size)
 clear hb2
 replace F2 := F2.allocd (.cells #[.bool qn, .string qS, .int .i64 qe] 24)
 replace B0 := B0.alloc B0.size (.cells #[.bool qn, .string qS, .int .i64 qe] 24)
 rcases hx with h | ⟨rfl, h⟩
 ·have g2 : (ex != 0) = true := by simpa using h
  clear h
  obtain ⟨xF22_0, xF22_1, xF22_2, xF22_3, xF22_4, xF22_5⟩ := F2.ce6
  obtain ⟨xF22_0f, xF22_1f, xF22_2f, xF22_3f, xF22_4f, xF22_5f⟩ := F2.fr6
  replace F2 : Blk ((((((((w2).alloc (.cells #[.bool qn, .string qS, .int .i64 qe] 24)).setCell ⟨w.heap.size, 0, none⟩ (.bool false)).setCell ⟨w.heap.size, 1, none⟩ (.string { data := #[] })).setCell ⟨w.heap.size, 2, none⟩ (.int .i64 0)).setCell ⟨w.heap.size, 3, none⟩ (.bool false)).setCell ⟨w.heap.size, 4, none⟩ (.string { data := #[] })).setCell ⟨w.heap.size, 5, none⟩ (.int .i64 0)) (w.heap.size) #[.bool false, .string { data := #[] }, .int .i64 0, .bool false, .string { data := #[] }, .int .i64 0] 28 := ((((((F2.setAt 0 (.bool false)).setAt 1 (.string { data := #[] })).setAt 2 (.int .i64 0)).setAt 3 (.bool false)).setAt 4 (.string { data := #[] })).setAt 5 (.int .i64 0))
  replace B0 := ((((((B0.setCell (p := ⟨w.heap.size, 0, none⟩) q_w_F2.out (.bool false)).setCell (p := ⟨w.heap.size, 1, none⟩) q_w_F2.out (.string { data := #[] })).setCell (p := ⟨w.heap.size, 2, none⟩) q_w_F2.out (.int .i64 0)).setCell (p := ⟨w.heap.size, 3, none⟩) q_w_F2.out (.bool false)).setCell (p := ⟨w.heap.size, 4, none⟩) q_w_F2.out (.string { data := #[] })).setCell (p := ⟨w.heap.size, 5, none⟩) q_w_F2.out (.int .i64 0))
  obtain ⟨xF23_0, xF23_1, xF23_2, xF23_3, xF23_4, xF23_5⟩ := F2.ce6
  go_wp2
  exact bodyPost_ret (v := .tuple #[.agg #[.bool false, .string { data := #[] }, .int .i64 0, .bool false, .string { data := #[] }, .int .i64 0], .int .i64 5]) (by simp [results, Tryz.results38, go_sem, xF23_0, xF23_1, xF23_2, xF23_3, xF23_4, xF23_5]) rfl ⟨rfl, B0⟩
 ·have g2 : (ey != 0) = true := by simpa using h
  clear h
  obtain ⟨xF22_0, xF22_1, xF22_2, xF22_3, xF22_4, xF22_5⟩ := F2.ce6
  obtain ⟨xF22_0f, xF22_1f, xF22_2f, xF22_3f, xF22_4f, xF22_5f⟩ := F2.fr6
  replace F2 : Blk ((((((((w2).alloc (.cells #[.bool qn, .string qS, .int .i64 qe] 24)).setCell ⟨w.heap.size, 0, none⟩ (.bool false)).setCell ⟨w.heap.size, 1, none⟩ (.string { data := #[] })).setCell ⟨w.heap.size, 2, none⟩ (.int .i64 0)).setCell ⟨w.heap.size, 3, none⟩ (.bool false)).setCell ⟨w.heap.size, 4, none⟩ (.string { data := #[] })).setCell ⟨w.heap.size, 5, none⟩ (.int .i64 0)) (w.heap.size) #[.bool false, .string { data := #[] }, .int .i64 0, .bool false, .string { data := #[] }, .int .i64 0] 28 := ((((((F2.setAt 0 (.bool false)).setAt 1 (.string { data := #[] })).setAt 2 (.int .i64 0)).setAt 3 (.bool false)).setAt 4 (.string { data := #[] })).setAt 5 (.int .i64 0))
  replace B0 := ((((((B0.setCell (p := ⟨w.heap.size, 0, none⟩) q_w_F2.out (.bool false)).setCell (p := ⟨w.heap.size, 1, none⟩) q_w_F2.out (.string { data := #[] })).setCell (p := ⟨w.heap.size, 2, none⟩) q_w_F2.out (.int .i64 0)).setCell (p := ⟨w.heap.size, 3, none⟩) q_w_F2.out (.bool false)).setCell (p := ⟨w.heap.size, 4, none⟩) q_w_F2.out (.string { data := #[] })).setCell (p := ⟨w.heap.size, 5, none⟩) q_w_F2.out (.int .i64 0))
  obtain ⟨xF23_0, xF23_1, xF23_2, xF23_3, xF23_4, xF23_5⟩ := F2.ce6
  go_wp2
  exact bodyPost_ret (v := .tuple #[.agg #[.bool false, .string { data := #[] }, .int .i64 0, .bool false, .string { data := #[] }, .int .i64 0], .int .i64 5]) (by simp [results, Tryz.results38, go_sem, xF23_0, xF23_1, xF23_2, xF23_3, xF23_4, xF23_5]) rfl ⟨rfl, B0⟩

theorem cfl_bad (b : Nat) (w : World) (hb : b < 18446744073709551616) (h : flQ b = 2047) :
  Calls Tryz.prog 76 #[.float .f64 b] w fun r w' => r = .returned (.tuple #[.agg #[.bool false, .string { data := #[] }, .int .i64 0], .int .i64 5]) ∧ Below w.heap.size w w' := by
 have k := dfloat_bad b w hb h
 rw [show dyR false 0 0 5 = .tuple #[.agg #[.bool false, .string (bstr 0), .int .i64 0], .int .i64 5] from rfl, bstr_zero] at k
 exact k
theorem cfl_ex (b : Nat) (hb : b < 18446744073709551616) : ∃ (n : Bool) (s : ByteArray) (f : Int) (e : Int), (flQ b ≠ 2047 → e = 0) ∧ (flQ b = 2047 → e = 5) ∧ ∀ W : World, Tab W → Calls Tryz.prog 76 #[.float .f64 b] W fun r w' => r = .returned (.tuple #[.agg #[.bool n, .string s, .int .i64 f], .int .i64 e]) ∧ Below W.heap.size W w' := by
 by_cases h : flQ b = 2047
 ·exact ⟨_, _, _, _, fun k => absurd h k, fun _ => rfl, fun W _ => cfl_bad b W hb h⟩
 ·exact ⟨_, _, _, _, fun _ => rfl, fun k => absurd k h, fun W hW => cfl b W hb h hW⟩
theorem gcomplex_bad (x y : Nat) (hx : x < 18446744073709551616) (hy : y < 18446744073709551616) (h : flQ x = 2047 ∨ flQ y = 2047) (w : World) (hT : Tab w) :
  Calls Tryz.prog 38 #[.complex .f64 x y] w fun r w' => r = .returned (.tuple #[.agg #[.bool false, .string { data := #[] }, .int .i64 0, .bool false, .string { data := #[] }, .int .i64 0], .int .i64 5]) ∧ Below w.heap.size w w' := by
 obtain ⟨_, _, _, ex, a1, a2, h1⟩ := cfl_ex x hx
 obtain ⟨_, _, _, ey, b1, b2, h2⟩ := cfl_ex y hy
 refine gcomplex_f x y ex ey _ _ _ _ _ _ w h1 h2 ?_ hT
 by_cases k : flQ x = 2047
 ·have := a2 k; exact .inl (by omega)
 ·have := a1 k
  rcases h with h | h
  ·exact absurd h k
  ·have := b2 h; exact .inr ⟨by omega, by omega⟩
theorem max_step (N U : DY) (hN : N.ok) (hU : U.ok) : ∃ V : DY, V.ok ∧ N.v ≤ V.v ∧ U.v ≤ V.v ∧ (V = N ∨ V = U) ∧
  ((0 < yCmp N U ∧ N.n = V.n ∧ bstr N.x = bstr V.x ∧ N.e = V.e) ∨ (¬ 0 < yCmp N U ∧ U.n = V.n ∧ bstr U.x = bstr V.x ∧ U.e = V.e)) := by
 by_cases h : 0 < yCmp N U
 ·have := yCmp_gt.1 h
  exact ⟨N, hN, by omega, by omega, .inl rfl, .inl ⟨h, rfl, rfl, rfl⟩⟩
 ·have : ¬ U.v < N.v := fun k => h (yCmp_gt.2 k)
  exact ⟨U, hU, by omega, by omega, .inr rfl, .inr ⟨h, rfl, rfl, rfl⟩⟩

theorem gNorm_z (a : GY) : (gNorm a).2 = 0 ∨ gNorm a = (DY.zero, 4) := yTwo_e _ _ _ _ _
/-- a corner's squared distance is worked out, and at most U -/
def cvK (c Z : GY) (U : DY) : Prop := (gSub c Z).2 = 0 ∧ (gNorm (gSub c Z).1).2 = 0 ∧ (gNorm (gSub c Z).1).1.v ≤ U.v

end Go.Proofs.YtfbkopepkklkjaaGreatDoor
