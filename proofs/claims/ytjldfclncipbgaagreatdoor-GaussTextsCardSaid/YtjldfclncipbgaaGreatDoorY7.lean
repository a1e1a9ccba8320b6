/- Gausses' texts: gauss.Show, gauss.Read, the reference's Show and Read: their ways, by letters. -/
import Derived.Test.YtjldfclncipbgaaGreatDoorY5
import Derived.Test.YtjldfclncipbgaaGreatDoorHF
namespace Go.Proofs.YtjldfclncipbgaaGreatDoor
open Go Go.RowKit Go.PlainAid Fil

set_option maxRecDepth 1000000 in
set_option maxHeartbeats 16000000 in
theorem gshow_ok (xn : Bool) (xS : ByteArray) (xe : Int) (xm : Bool) (xT : ByteArray) (xf : Int) (a b : ByteArray) (w : World) (hS : ∀ W, Below w.heap.size w W → Calls Tryz.prog 7 #[.agg #[.bool xn, .string xS, .int .i64 xe]] W fun r w' => r = .returned (.tuple #[.string a, .int .i64 0]) ∧ Below W.heap.size W w')
    (hI : ∀ W, Below w.heap.size w W → Calls Tryz.prog 7 #[.agg #[.bool xm, .string xT, .int .i64 xf]] W fun r w' => r = .returned (.tuple #[.string b, .int .i64 0]) ∧ Below W.heap.size W w')
    (ha : a.size ≤ 1000000) (hb : b.size ≤ 1000000) :
    Calls Tryz.prog 14 #[.agg #[.bool xn, .string xS, .int .i64 xe, .bool xm, .string xT, .int .i64 xf]] w fun r w' => r = .returned (.tuple #[.string ((a ++ ⟨#[44]⟩) ++ b), .int .i64 0]) ∧ Below w.heap.size w w' := by
  go_enter Tryz.func14, Tryz.ntmps14
  have B0 := Below.refl w.heap.size w
  have F1 := Blk.put (w) #[.bool xn, .string xS, .int .i64 xe, .bool xm, .string xT, .int .i64 xf] 38
  replace B0 := B0.alloc B0.size (.cells #[.bool xn, .string xS, .int .i64 xe, .bool xm, .string xT, .int .i64 xf] 38)
  obtain ⟨xF10_0, xF10_1, xF10_2, xF10_3, xF10_4, xF10_5⟩ := F1.ce6
  go_wp2_with fail
  (with_reducible refine (hS _ B0).mono ?_)
  rintro r w1 ⟨rfl, hb1⟩
  clear xF10_0 xF10_1 xF10_2 xF10_3 xF10_4 xF10_5
  replace F1 := F1.keep hb1
  replace B0 := B0.trans (hb1.mono B0.size)
  clear hb1
  obtain ⟨xF11_0, xF11_1, xF11_2, xF11_3, xF11_4, xF11_5⟩ := F1.ce6
  go_wp2_with fail
  (with_reducible refine (hI _ B0).mono ?_)
  rintro r w2 ⟨rfl, hb2⟩
  clear xF11_0 xF11_1 xF11_2 xF11_3 xF11_4 xF11_5
  replace F1 := F1.keep hb2
  replace B0 := B0.trans (hb2.mono B0.size)
  clear hb2
  go_wp2
  go_ret2
  exact ⟨rfl, B0⟩
set_option maxRecDepth 1000000 in
set_option maxHeartbeats 16000000 in
theorem gshow_e (xn : Bool) (xS : ByteArray) (xe : Int) (xm : Bool) (xT : ByteArray) (xf : Int) (a b : ByteArray) (e f : Int) (w : World) (hS : ∀ W, Below w.heap.size w W → Calls Tryz.prog 7 #[.agg #[.bool xn, .string xS, .int .i64 xe]] W fun r w' => r = .returned (.tuple #[.string a, .int .i64 e]) ∧ Below W.heap.size W w')
    (hI : ∀ W, Below w.heap.size w W → Calls Tryz.prog 7 #[.agg #[.bool xm, .string xT, .int .i64 xf]] W fun r w' => r = .returned (.tuple #[.string b, .int .i64 f]) ∧ Below W.heap.size W w')
    (he : (e != 0) = true) :
    Calls Tryz.prog 14 #[.agg #[.bool xn, .string xS, .int .i64 xe, .bool xm, .string xT, .int .i64 xf]] w fun r w' => r = .returned (.tuple #[.string { data := #[] }, .int .i64 2]) ∧ Below w.heap.size w w' := by
  go_enter Tryz.func14, Tryz.ntmps14
  have B0 := Below.refl w.heap.size w
  have F1 := Blk.put (w) #[.bool xn, .string xS, .int .i64 xe, .bool xm, .string xT, .int .i64 xf] 38
  replace B0 := B0.alloc B0.size (.cells #[.bool xn, .string xS, .int .i64 xe, .bool xm, .string xT, .int .i64 xf] 38)
  obtain ⟨xF10_0, xF10_1, xF10_2, xF10_3, xF10_4, xF10_5⟩ := F1.ce6
  go_wp2_with fail
  (with_reducible refine (hS _ B0).mono ?_)
  rintro r w1 ⟨rfl, hb1⟩
  clear xF10_0 xF10_1 xF10_2 xF10_3 xF10_4 xF10_5
  replace F1 := F1.keep hb1
  replace B0 := B0.trans (hb1.mono B0.size)
  clear hb1
  obtain ⟨xF11_0, xF11_1, xF11_2, xF11_3, xF11_4, xF11_5⟩ := F1.ce6
  go_wp2_with fail
  (with_reducible refine (hI _ B0).mono ?_)
  rintro r w2 ⟨rfl, hb2⟩
  clear xF11_0 xF11_1 xF11_2 xF11_3 xF11_4 xF11_5
  replace F1 := F1.keep hb2
  replace B0 := B0.trans (hb2.mono B0.size)
  clear hb2
  go_wp2
  go_ret2
  exact ⟨rfl, B0⟩
set_option maxRecDepth 1000000 in
set_option maxHeartbeats 16000000 in
theorem gshow_f (xn : Bool) (xS : ByteArray) (xe : Int) (xm : Bool) (xT : ByteArray) (xf : Int) (a b : ByteArray) (f : Int) (w : World) (hS : ∀ W, Below w.heap.size w W → Calls Tryz.prog 7 #[.agg #[.bool xn, .string xS, .int .i64 xe]] W fun r w' => r = .returned (.tuple #[.string a, .int .i64 0]) ∧ Below W.heap.size W w')
    (hI : ∀ W, Below w.heap.size w W → Calls Tryz.prog 7 #[.agg #[.bool xm, .string xT, .int .i64 xf]] W fun r w' => r = .returned (.tuple #[.string b, .int .i64 f]) ∧ Below W.heap.size W w')
    (hf : (f != 0) = true) :
    Calls Tryz.prog 14 #[.agg #[.bool xn, .string xS, .int .i64 xe, .bool xm, .string xT, .int .i64 xf]] w fun r w' => r = .returned (.tuple #[.string { data := #[] }, .int .i64 2]) ∧ Below w.heap.size w w' := by
  go_enter Tryz.func14, Tryz.ntmps14
  have B0 := Below.refl w.heap.size w
  have F1 := Blk.put (w) #[.bool xn, .string xS, .int .i64 xe, .bool xm, .string xT, .int .i64 xf] 38
  replace B0 := B0.alloc B0.size (.cells #[.bool xn, .string xS, .int .i64 xe, .bool xm, .string xT, .int .i64 xf] 38)
  obtain ⟨xF10_0, xF10_1, xF10_2, xF10_3, xF10_4, xF10_5⟩ := F1.ce6
  go_wp2_with fail
  (with_reducible refine (hS _ B0).mono ?_)
  rintro r w1 ⟨rfl, hb1⟩
  clear xF10_0 xF10_1 xF10_2 xF10_3 xF10_4 xF10_5
  replace F1 := F1.keep hb1
  replace B0 := B0.trans (hb1.mono B0.size)
  clear hb1
  obtain ⟨xF11_0, xF11_1, xF11_2, xF11_3, xF11_4, xF11_5⟩ := F1.ce6
  go_wp2_with fail
  (with_reducible refine (hI _ B0).mono ?_)
  rintro r w2 ⟨rfl, hb2⟩
  clear xF11_0 xF11_1 xF11_2 xF11_3 xF11_4 xF11_5
  replace F1 := F1.keep hb2
  replace B0 := B0.trans (hb2.mono B0.size)
  clear hb2
  go_wp2
  go_ret2
  exact ⟨rfl, B0⟩
set_option maxRecDepth 1000000 in
set_option maxHeartbeats 16000000 in
theorem gread_no (s a p : ByteArray) (n : Bool) (x : ByteArray) (k : Int) (m : Bool) (y : ByteArray) (l : Int) (f h : Int) (w : World) (hC : ∀ W, Calls Tryz.prog 27 #[.string s, .string { data := #[44] }] W fun r w' => r = .returned (.tuple #[.string a, .string p, .bool false]) ∧ Below W.heap.size W w')
    (hA : ∀ W, Below w.heap.size w W → Calls Tryz.prog 8 #[.string a] W fun r w' => r = .returned (.tuple #[.agg #[.bool n, .string x, .int .i64 k], .int .i64 f]) ∧ Below W.heap.size W w')
    (hP : ∀ W, Below w.heap.size w W → Calls Tryz.prog 8 #[.string p] W fun r w' => r = .returned (.tuple #[.agg #[.bool m, .string y, .int .i64 l], .int .i64 h]) ∧ Below W.heap.size W w') :
    Calls Tryz.prog 15 #[.string s] w fun r w' => r = .returned (.tuple #[.agg #[.bool false, .string { data := #[] }, .int .i64 0, .bool false, .string { data := #[] }, .int .i64 0], .int .i64 60]) ∧ Below w.heap.size w w' := by
  go_enter Tryz.func15, Tryz.ntmps15
  have B0 := Below.refl w.heap.size w
  have q_w_F2 : Hid (w.heap.size ≤ w.heap.size) := Lib.hid (by omega)
  have F2 := Blk.put (w) #[.bool false, .string { data := #[] }, .int .i64 0, .bool false, .string { data := #[] }, .int .i64 0] 38
  replace B0 := B0.alloc B0.size (.cells #[.bool false, .string { data := #[] }, .int .i64 0, .bool false, .string { data := #[] }, .int .i64 0] 38)
  go_wp2_with fail
  (with_reducible refine (hC _).mono ?_)
  rintro r w1 ⟨rfl, hb1⟩
  replace F2 := F2.keep hb1
  replace B0 := B0.trans (hb1.mono B0.size)
  clear hb1
  go_wp2_with fail
  (with_reducible refine (hA _ B0).mono ?_)
  rintro r w2 ⟨rfl, hb2⟩
  replace F2 := F2.keep hb2
  replace B0 := B0.trans (hb2.mono B0.size)
  clear hb2
  replace F2 := F2.allocd (.cells #[.bool n, .string x, .int .i64 k] 24)
  replace B0 := B0.alloc B0.size (.cells #[.bool n, .string x, .int .i64 k] 24)
  go_wp2_with fail
  (with_reducible refine (hP _ B0).mono ?_)
  rintro r w3 ⟨rfl, hb3⟩
  replace F2 := F2.keep hb3
  replace B0 := B0.trans (hb3.mono B0.size)
  clear hb3
  replace F2 := F2.allocd (.cells #[.bool m, .string y, .int .i64 l] 24)
  replace B0 := B0.alloc B0.size (.cells #[.bool m, .string y, .int .i64 l] 24)
  obtain ⟨xF23_0, xF23_1, xF23_2, xF23_3, xF23_4, xF23_5⟩ := F2.ce6
  obtain ⟨xF23_0f, xF23_1f, xF23_2f, xF23_3f, xF23_4f, xF23_5f⟩ := F2.fr6
  replace F2 : Blk ((((((((w3).alloc (.cells #[.bool m, .string y, .int .i64 l] 24)).setCell ⟨w.heap.size, 0, none⟩ (.bool false)).setCell ⟨w.heap.size, 1, none⟩ (.string { data := #[] })).setCell ⟨w.heap.size, 2, none⟩ (.int .i64 0)).setCell ⟨w.heap.size, 3, none⟩ (.bool false)).setCell ⟨w.heap.size, 4, none⟩ (.string { data := #[] })).setCell ⟨w.heap.size, 5, none⟩ (.int .i64 0)) (w.heap.size) #[.bool false, .string { data := #[] }, .int .i64 0, .bool false, .string { data := #[] }, .int .i64 0] 38 := ((((((F2.setAt 0 (.bool false)).setAt 1 (.string { data := #[] })).setAt 2 (.int .i64 0)).setAt 3 (.bool false)).setAt 4 (.string { data := #[] })).setAt 5 (.int .i64 0))
  replace B0 := ((((((B0.setCell (p := ⟨w.heap.size, 0, none⟩) q_w_F2.out (.bool false)).setCell (p := ⟨w.heap.size, 1, none⟩) q_w_F2.out (.string { data := #[] })).setCell (p := ⟨w.heap.size, 2, none⟩) q_w_F2.out (.int .i64 0)).setCell (p := ⟨w.heap.size, 3, none⟩) q_w_F2.out (.bool false)).setCell (p := ⟨w.heap.size, 4, none⟩) q_w_F2.out (.string { data := #[] })).setCell (p := ⟨w.heap.size, 5, none⟩) q_w_F2.out (.int .i64 0))
  obtain ⟨xF24_0, xF24_1, xF24_2, xF24_3, xF24_4, xF24_5⟩ := F2.ce6
  go_wp2
  exact bodyPost_ret (v := .tuple #[.agg #[.bool false, .string { data := #[] }, .int .i64 0, .bool false, .string { data := #[] }, .int .i64 0], .int .i64 60]) (by simp [results, Tryz.results15, go_sem, xF24_0, xF24_1, xF24_2, xF24_3, xF24_4, xF24_5]) rfl ⟨rfl, B0⟩
set_option maxRecDepth 1000000 in
set_option maxHeartbeats 16000000 in
theorem gread_f (s a p : ByteArray) (n : Bool) (x : ByteArray) (k : Int) (m : Bool) (y : ByteArray) (l : Int) (f h : Int) (w : World) (hC : ∀ W, Calls Tryz.prog 27 #[.string s, .string { data := #[44] }] W fun r w' => r = .returned (.tuple #[.string a, .string p, .bool true]) ∧ Below W.heap.size W w')
    (hA : ∀ W, Below w.heap.size w W → Calls Tryz.prog 8 #[.string a] W fun r w' => r = .returned (.tuple #[.agg #[.bool n, .string x, .int .i64 k], .int .i64 f]) ∧ Below W.heap.size W w')
    (hP : ∀ W, Below w.heap.size w W → Calls Tryz.prog 8 #[.string p] W fun r w' => r = .returned (.tuple #[.agg #[.bool m, .string y, .int .i64 l], .int .i64 h]) ∧ Below W.heap.size W w')
    (hf : (f != 0) = true) :
    Calls Tryz.prog 15 #[.string s] w fun r w' => r = .returned (.tuple #[.agg #[.bool false, .string { data := #[] }, .int .i64 0, .bool false, .string { data := #[] }, .int .i64 0], .int .i64 60]) ∧ Below w.heap.size w w' := by
  go_enter Tryz.func15, Tryz.ntmps15
  have B0 := Below.refl w.heap.size w
  have q_w_F2 : Hid (w.heap.size ≤ w.heap.size) := Lib.hid (by omega)
  have F2 := Blk.put (w) #[.bool false, .string { data := #[] }, .int .i64 0, .bool false, .string { data := #[] }, .int .i64 0] 38
  replace B0 := B0.alloc B0.size (.cells #[.bool false, .string { data := #[] }, .int .i64 0, .bool false, .string { data := #[] }, .int .i64 0] 38)
  go_wp2_with fail
  (with_reducible refine (hC _).mono ?_)
  rintro r w1 ⟨rfl, hb1⟩
  replace F2 := F2.keep hb1
  replace B0 := B0.trans (hb1.mono B0.size)
  clear hb1
  go_wp2_with fail
  (with_reducible refine (hA _ B0).mono ?_)
  rintro r w2 ⟨rfl, hb2⟩
  replace F2 := F2.keep hb2
  replace B0 := B0.trans (hb2.mono B0.size)
  clear hb2
  replace F2 := F2.allocd (.cells #[.bool n, .string x, .int .i64 k] 24)
  replace B0 := B0.alloc B0.size (.cells #[.bool n, .string x, .int .i64 k] 24)
  go_wp2_with fail
  (with_reducible refine (hP _ B0).mono ?_)
  rintro r w3 ⟨rfl, hb3⟩
  replace F2 := F2.keep hb3
  replace B0 := B0.trans (hb3.mono B0.size)
  clear hb3
  replace F2 := F2.allocd (.cells #[.bool m, .string y, .int .i64 l] 24)
  replace B0 := B0.alloc B0.size (.cells #[.bool m, .string y, .int .i64 l] 24)
  obtain ⟨xF23_0, xF23_1, xF23_2, xF23_3, xF23_4, xF23_5⟩ := F2.ce6
  obtain ⟨xF23_0f, xF23_1f, xF23_2f, xF23_3f, xF23_4f, xF23_5f⟩ := F2.fr6
  replace F2 : Blk ((((((((w3).alloc (.cells #[.bool m, .string y, .int .i64 l] 24)).setCell ⟨w.heap.size, 0, none⟩ (.bool false)).setCell ⟨w.heap.size, 1, none⟩ (.string { data := #[] })).setCell ⟨w.heap.size, 2, none⟩ (.int .i64 0)).setCell ⟨w.heap.size, 3, none⟩ (.bool false)).setCell ⟨w.heap.size, 4, none⟩ (.string { data := #[] })).setCell ⟨w.heap.size, 5, none⟩ (.int .i64 0)) (w.heap.size) #[.bool false, .string { data := #[] }, .int .i64 0, .bool false, .string { data := #[] }, .int .i64 0] 38 := ((((((F2.setAt 0 (.bool false)).setAt 1 (.string { data := #[] })).setAt 2 (.int .i64 0)).setAt 3 (.bool false)).setAt 4 (.string { data := #[] })).setAt 5 (.int .i64 0))
  replace B0 := ((((((B0.setCell (p := ⟨w.heap.size, 0, none⟩) q_w_F2.out (.bool false)).setCell (p := ⟨w.heap.size, 1, none⟩) q_w_F2.out (.string { data := #[] })).setCell (p := ⟨w.heap.size, 2, none⟩) q_w_F2.out (.int .i64 0)).setCell (p := ⟨w.heap.size, 3, none⟩) q_w_F2.out (.bool false)).setCell (p := ⟨w.heap.size, 4, none⟩) q_w_F2.out (.string { data := #[] })).setCell (p := ⟨w.heap.size, 5, none⟩) q_w_F2.out (.int .i64 0))
  obtain ⟨xF24_0, xF24_1, xF24_2, xF24_3, xF24_4, xF24_5⟩ := F2.ce6
  go_wp2
  exact bodyPost_ret (v := .tuple #[.agg #[.bool false, .string { data := #[] }, .int .i64 0, .bool false, .string { data := #[] }, .int .i64 0], .int .i64 60]) (by simp [results, Tryz.results15, go_sem, xF24_0, xF24_1, xF24_2, xF24_3, xF24_4, xF24_5]) rfl ⟨rfl, B0⟩
set_option maxRecDepth 1000000 in
set_option maxHeartbeats 16000000 in
theorem gread_h (s a p : ByteArray) (n : Bool) (x : ByteArray) (k : Int) (m : Bool) (y : ByteArray) (l : Int) (h : Int) (w : World) (hC : ∀ W, Calls Tryz.prog 27 #[.string s, .string { data := #[44] }] W fun r w' => r = .returned (.tuple #[.string a, .string p, .bool true]) ∧ Below W.heap.size W w')
    (hA : ∀ W, Below w.heap.size w W → Calls Tryz.prog 8 #[.string a] W fun r w' => r = .returned (.tuple #[.agg #[.bool n, .string x, .int .i64 k], .int .i64 0]) ∧ Below W.heap.size W w')
    (hP : ∀ W, Below w.heap.size w W → Calls Tryz.prog 8 #[.string p] W fun r w' => r = .returned (.tuple #[.agg #[.bool m, .string y, .int .i64 l], .int .i64 h]) ∧ Below W.heap.size W w')
    (hh : (h != 0) = true) :
    Calls Tryz.prog 15 #[.string s] w fun r w' => r = .returned (.tuple #[.agg #[.bool false, .string { data := #[] }, .int .i64 0, .bool false, .string { data := #[] }, .int .i64 0], .int .i64 60]) ∧ Below w.heap.size w w' := by
  go_enter Tryz.func15, Tryz.ntmps15
  have B0 := Below.refl w.heap.size w
  have q_w_F2 : Hid (w.heap.size ≤ w.heap.size) := Lib.hid (by omega)
  have F2 := Blk.put (w) #[.bool false, .string { data := #[] }, .int .i64 0, .bool false, .string { data := #[] }, .int .i64 0] 38
  replace B0 := B0.alloc B0.size (.cells #[.bool false, .string { data := #[] }, .int .i64 0, .bool false, .string { data := #[] }, .int .i64 0] 38)
  go_wp2_with fail
  (with_reducible refine (hC _).mono ?_)
  rintro r w1 ⟨rfl, hb1⟩
  replace F2 := F2.keep hb1
  replace B0 := B0.trans (hb1.mono B0.size)
  clear hb1
  go_wp2_with fail
  (with_reducible refine (hA _ B0).mono ?_)
  rintro r w2 ⟨rfl, hb2⟩
  replace F2 := F2.keep hb2
  replace B0 := B0.trans (hb2.mono B0.size)
  clear hb2
  replace F2 := F2.allocd (.cells #[.bool n, .string x, .int .i64 k] 24)
  replace B0 := B0.alloc B0.size (.cells #[.bool n, .string x, .int .i64 k] 24)
  go_wp2_with fail
  (with_reducible refine (hP _ B0).mono ?_)
  rintro r w3 ⟨rfl, hb3⟩
  replace F2 := F2.keep hb3
  replace B0 := B0.trans (hb3.mono B0.size)
  clear hb3
  replace F2 := F2.allocd (.cells #[.bool m, .string y, .int .i64 l] 24)
  replace B0 := B0.alloc B0.size (.cells #[.bool m, .string y, .int .i64 l] 24)
  obtain ⟨xF23_0, xF23_1, xF23_2, xF23_3, xF23_4, xF23_5⟩ := F2.ce6
  obtain ⟨xF23_0f, xF23_1f, xF23_2f, xF23_3f, xF23_4f, xF23_5f⟩ := F2.fr6
  replace F2 : Blk ((((((((w3).alloc (.cells #[.bool m, .string y, .int .i64 l] 24)).setCell ⟨w.heap.size, 0, none⟩ (.bool false)).setCell ⟨w.heap.size, 1, none⟩ (.string { data := #[] })).setCell ⟨w.heap.size, 2, none⟩ (.int .i64 0)).setCell ⟨w.heap.size, 3, none⟩ (.bool false)).setCell ⟨w.heap.size, 4, none⟩ (.string { data := #[] })).setCell ⟨w.heap.size, 5, none⟩ (.int .i64 0)) (w.heap.size) #[.bool false, .string { data := #[] }, .int .i64 0, .bool false, .string { data := #[] }, .int .i64 0] 38 := ((((((F2.setAt 0 (.bool false)).setAt 1 (.string { data := #[] })).setAt 2 (.int .i64 0)).setAt 3 (.bool false)).setAt 4 (.string { data := #[] })).setAt 5 (.int .i64 0))
  replace B0 := ((((((B0.setCell (p := ⟨w.heap.size, 0, none⟩) q_w_F2.out (.bool false)).setCell (p := ⟨w.heap.size, 1, none⟩) q_w_F2.out (.string { data := #[] })).setCell (p := ⟨w.heap.size, 2, none⟩) q_w_F2.out (.int .i64 0)).setCell (p := ⟨w.heap.size, 3, none⟩) q_w_F2.out (.bool false)).setCell (p := ⟨w.heap.size, 4, none⟩) q_w_F2.out (.string { data := #[] })).setCell (p := ⟨w.heap.size, 5, none⟩) q_w_F2.out (.int .i64 0))
  obtain ⟨xF24_0, xF24_1, xF24_2, xF24_3, xF24_4, xF24_5⟩ := F2.ce6
  go_wp2
  exact bodyPost_ret (v := .tuple #[.agg #[.bool false, .string { data := #[] }, .int .i64 0, .bool false, .string { data := #[] }, .int .i64 0], .int .i64 60]) (by simp [results, Tryz.results15, go_sem, xF24_0, xF24_1, xF24_2, xF24_3, xF24_4, xF24_5]) rfl ⟨rfl, B0⟩
set_option maxRecDepth 1000000 in
set_option maxHeartbeats 16000000 in
theorem gread_ok (s a p : ByteArray) (n : Bool) (x : ByteArray) (k : Int) (m : Bool) (y : ByteArray) (l : Int) (w : World) (hC : ∀ W, Calls Tryz.prog 27 #[.string s, .string { data := #[44] }] W fun r w' => r = .returned (.tuple #[.string a, .string p, .bool true]) ∧ Below W.heap.size W w')
    (hA : ∀ W, Below w.heap.size w W → Calls Tryz.prog 8 #[.string a] W fun r w' => r = .returned (.tuple #[.agg #[.bool n, .string x, .int .i64 k], .int .i64 0]) ∧ Below W.heap.size W w')
    (hP : ∀ W, Below w.heap.size w W → Calls Tryz.prog 8 #[.string p] W fun r w' => r = .returned (.tuple #[.agg #[.bool m, .string y, .int .i64 l], .int .i64 0]) ∧ Below W.heap.size W w') :
    Calls Tryz.prog 15 #[.string s] w fun r w' => r = .returned (.tuple #[.agg #[.bool n, .string x, .int .i64 k, .bool m, .string y, .int .i64 l], .int .i64 0]) ∧ Below w.heap.size w w' := by
  go_enter Tryz.func15, Tryz.ntmps15
  have B0 := Below.refl w.heap.size w
  have q_w_F2 : Hid (w.heap.size ≤ w.heap.size) := Lib.hid (by omega)
  have F2 := Blk.put (w) #[.bool false, .string { data := #[] }, .int .i64 0, .bool false, .string { data := #[] }, .int .i64 0] 38
  replace B0 := B0.alloc B0.size (.cells #[.bool false, .string { data := #[] }, .int .i64 0, .bool false, .string { data := #[] }, .int .i64 0] 38)
  go_wp2_with fail
  (with_reducible refine (hC _).mono ?_)
  rintro r w1 ⟨rfl, hb1⟩
  replace F2 := F2.keep hb1
  replace B0 := B0.trans (hb1.mono B0.size)
  clear hb1
  go_wp2_with fail
  (with_reducible refine (hA _ B0).mono ?_)
  rintro r w2 ⟨rfl, hb2⟩
  replace F2 := F2.keep hb2
  replace B0 := B0.trans (hb2.mono B0.size)
  clear hb2
  have q_F2_F7 : Hid (w.heap.size < w2.heap.size) := Lib.hid (by have := F2.lt; first | exact this | omega | (simp; done) | simpa using this)
  replace F2 := F2.allocd (.cells #[.bool n, .string x, .int .i64 k] 24)
  have F7 := Blk.put (w2) #[.bool n, .string x, .int .i64 k] 24
  replace B0 := B0.alloc B0.size (.cells #[.bool n, .string x, .int .i64 k] 24)
  go_wp2_with fail
  (with_reducible refine (hP _ B0).mono ?_)
  rintro r w3 ⟨rfl, hb3⟩
  replace F2 := F2.keep hb3
  replace F7 := F7.keep hb3
  replace B0 := B0.trans (hb3.mono B0.size)
  clear hb3
  have q_F2_F9 : Hid (w.heap.size < w3.heap.size) := Lib.hid (by have := F2.lt; first | exact this | omega | (simp; done) | simpa using this)
  replace F2 := F2.allocd (.cells #[.bool m, .string y, .int .i64 l] 24)
  replace F7 := F7.allocd (.cells #[.bool m, .string y, .int .i64 l] 24)
  have F9 := Blk.put (w3) #[.bool m, .string y, .int .i64 l] 24
  replace B0 := B0.alloc B0.size (.cells #[.bool m, .string y, .int .i64 l] 24)
  obtain ⟨xF73_0, xF73_1, xF73_2⟩ := F7.ce3
  obtain ⟨xF93_0, xF93_1, xF93_2⟩ := F9.ce3
  obtain ⟨xF23_0, xF23_1, xF23_2, xF23_3, xF23_4, xF23_5⟩ := F2.ce6
  obtain ⟨xF23_0f, xF23_1f, xF23_2f, xF23_3f, xF23_4f, xF23_5f⟩ := F2.fr6
  replace F7 := ((((((F7.far 0 (.bool n) (Nat.ne_of_gt q_F2_F7.out)).far 1 (.string x) (Nat.ne_of_gt q_F2_F7.out)).far 2 (.int .i64 k) (Nat.ne_of_gt q_F2_F7.out)).far 3 (.bool m) (Nat.ne_of_gt q_F2_F7.out)).far 4 (.string y) (Nat.ne_of_gt q_F2_F7.out)).far 5 (.int .i64 l) (Nat.ne_of_gt q_F2_F7.out))
  replace F9 := ((((((F9.far 0 (.bool n) (Nat.ne_of_gt q_F2_F9.out)).far 1 (.string x) (Nat.ne_of_gt q_F2_F9.out)).far 2 (.int .i64 k) (Nat.ne_of_gt q_F2_F9.out)).far 3 (.bool m) (Nat.ne_of_gt q_F2_F9.out)).far 4 (.string y) (Nat.ne_of_gt q_F2_F9.out)).far 5 (.int .i64 l) (Nat.ne_of_gt q_F2_F9.out))
  replace F2 : Blk ((((((((w3).alloc (.cells #[.bool m, .string y, .int .i64 l] 24)).setCell ⟨w.heap.size, 0, none⟩ (.bool n)).setCell ⟨w.heap.size, 1, none⟩ (.string x)).setCell ⟨w.heap.size, 2, none⟩ (.int .i64 k)).setCell ⟨w.heap.size, 3, none⟩ (.bool m)).setCell ⟨w.heap.size, 4, none⟩ (.string y)).setCell ⟨w.heap.size, 5, none⟩ (.int .i64 l)) (w.heap.size) #[.bool n, .string x, .int .i64 k, .bool m, .string y, .int .i64 l] 38 := ((((((F2.setAt 0 (.bool n)).setAt 1 (.string x)).setAt 2 (.int .i64 k)).setAt 3 (.bool m)).setAt 4 (.string y)).setAt 5 (.int .i64 l))
  replace B0 := ((((((B0.setCell (p := ⟨w.heap.size, 0, none⟩) q_w_F2.out (.bool n)).setCell (p := ⟨w.heap.size, 1, none⟩) q_w_F2.out (.string x)).setCell (p := ⟨w.heap.size, 2, none⟩) q_w_F2.out (.int .i64 k)).setCell (p := ⟨w.heap.size, 3, none⟩) q_w_F2.out (.bool m)).setCell (p := ⟨w.heap.size, 4, none⟩) q_w_F2.out (.string y)).setCell (p := ⟨w.heap.size, 5, none⟩) q_w_F2.out (.int .i64 l))
  obtain ⟨xF24_0, xF24_1, xF24_2, xF24_3, xF24_4, xF24_5⟩ := F2.ce6
  go_wp2
  exact bodyPost_ret (v := .tuple #[.agg #[.bool n, .string x, .int .i64 k, .bool m, .string y, .int .i64 l], .int .i64 0]) (by simp [results, Tryz.results15, go_sem, xF24_0, xF24_1, xF24_2, xF24_3, xF24_4, xF24_5]) rfl ⟨rfl, B0⟩
set_option maxRecDepth 1000000 in
set_option maxHeartbeats 16000000 in
theorem r6show_ok (xn : Bool) (xS : ByteArray) (xe : Int) (xm : Bool) (xT : ByteArray) (xf : Int) (a b : ByteArray) (w : World) (hS : ∀ W, Calls Tryz.prog 12 #[.agg #[.bool xn, .string xS, .int .i64 xe]] W fun r w' => r = .returned (.string a) ∧ Below W.heap.size W w')
    (hI : ∀ W, Calls Tryz.prog 12 #[.agg #[.bool xm, .string xT, .int .i64 xf]] W fun r w' => r = .returned (.string b) ∧ Below W.heap.size W w')
    (ha : a.size ≤ 1000000) (hb : b.size ≤ 1000000) :
    Calls Tryz.prog 20 #[.agg #[.bool xn, .string xS, .int .i64 xe, .bool xm, .string xT, .int .i64 xf]] w fun r w' => r = .returned (.string ((a ++ ⟨#[44]⟩) ++ b)) ∧ Below w.heap.size w w' := by
  go_enter Tryz.func20, Tryz.ntmps20
  have B0 := Below.refl w.heap.size w
  have F1 := Blk.put (w) #[.bool xn, .string xS, .int .i64 xe, .bool xm, .string xT, .int .i64 xf] 38
  replace B0 := B0.alloc B0.size (.cells #[.bool xn, .string xS, .int .i64 xe, .bool xm, .string xT, .int .i64 xf] 38)
  go_wp2_with fail
  refine wp_region_cut 8 (by kernel_rfl) (by kernel_rfl) ?_
  rintro W rfl
  simp only [List.take_succ_cons, List.take_zero, List.drop_succ_cons, List.drop_zero]
  obtain ⟨xF10_0, xF10_1, xF10_2, xF10_3, xF10_4, xF10_5⟩ := F1.ce6
  have hHeld : (fun w' : World => w'.cell? ⟨w.heap.size, 0, none⟩ = some (.bool xn) ∧ w'.cell? ⟨w.heap.size, 1, none⟩ = some (.string xS) ∧ w'.cell? ⟨w.heap.size, 2, none⟩ = some (.int .i64 xe) ∧ w'.cell? ⟨w.heap.size, 3, none⟩ = some (.bool xm) ∧ w'.cell? ⟨w.heap.size, 4, none⟩ = some (.string xT) ∧ w'.cell? ⟨w.heap.size, 5, none⟩ = some (.int .i64 xf)) ((w).alloc (.cells #[.bool xn, .string xS, .int .i64 xe, .bool xm, .string xT, .int .i64 xf] 38)).drew := ⟨xF10_0, xF10_1, xF10_2, xF10_3, xF10_4, xF10_5⟩
  refine wpAny_of_held (S := fun w' : World => w'.cell? ⟨w.heap.size, 0, none⟩ = some (.bool xn) ∧ w'.cell? ⟨w.heap.size, 1, none⟩ = some (.string xS) ∧ w'.cell? ⟨w.heap.size, 2, none⟩ = some (.int .i64 xe) ∧ w'.cell? ⟨w.heap.size, 3, none⟩ = some (.bool xm) ∧ w'.cell? ⟨w.heap.size, 4, none⟩ = some (.string xT) ∧ w'.cell? ⟨w.heap.size, 5, none⟩ = some (.int .i64 xf)) _ _ _ _ ?_
  replace F1 := F1.drew
  replace B0 := B0.drew
  refine wpAnyH_take (i := 0) (v := _) (by first | (simp only [List.getElem?_toArray, List.getElem?_cons_zero]; rfl) | rfl) (by kernel_rfl) (by kernel_rfl) (by kernel_rfl) (by exact fun _ _ _ h => h) (Or.inl ⟨by rfl, by (intro w hSw; (try dsimp only at hSw); go_simp; (try with_reducible rfl); (try (refine (if_neg ?_).trans rfl; omega)))⟩) (by assumption) ?_
  (try dsimp only [Act.put]); (try go_frame)
  refine wpAnyH_take (i := 1) (v := _) (by first | (simp only [List.getElem?_toArray, List.getElem?_cons_zero, List.getElem?_cons_succ]; rfl) | rfl) (by kernel_rfl) (by kernel_rfl) (by kernel_rfl) (by exact fun _ _ _ h => h) (Or.inl ⟨by rfl, by (intro w hSw; (try dsimp only at hSw); go_simp; (try with_reducible rfl); (try (refine (if_neg ?_).trans rfl; omega)))⟩) (by assumption) ?_
  (try dsimp only [Act.put]); (try go_frame)
  refine wpAnyH_take (i := 4) (v := _) (by first | (simp only [List.getElem?_toArray, List.getElem?_cons_zero, List.getElem?_cons_succ]; rfl) | rfl) (by kernel_rfl) (by kernel_rfl) (by kernel_rfl) (by exact fun _ _ _ h => h) (Or.inl ⟨by rfl, by (intro w hSw; (try dsimp only at hSw); go_simp; (try with_reducible rfl); (try (refine (if_neg ?_).trans rfl; omega)))⟩) (by assumption) ?_
  (try dsimp only [Act.put]); (try go_frame)
  refine wpAnyH_take (i := 5) (v := _) (by first | (simp only [List.getElem?_toArray, List.getElem?_cons_zero, List.getElem?_cons_succ]; rfl) | rfl) (by kernel_rfl) (by kernel_rfl) (by kernel_rfl) (by exact fun _ _ _ h => h) (Or.inl ⟨by rfl, by (intro w hSw; (try dsimp only at hSw); go_simp; (try with_reducible rfl); (try (refine (if_neg ?_).trans rfl; omega)))⟩) (by assumption) ?_
  (try dsimp only [Act.put]); (try go_frame)
  refine wpAnyH_ready (rs := [2]) (by kernel_rfl) (by simp) ?_
  refine AllReadyH.cons rfl (fun K hK => ?_) AllReadyH.nil
  go_simp
  (with_reducible refine (hS _).mono ?_)
  rintro r w1 ⟨rfl, hb1⟩
  clear xF10_0 xF10_1 xF10_2 xF10_3 xF10_4 xF10_5
  replace F1 := F1.keep hb1
  replace B0 := B0.trans (hb1.mono B0.size)
  clear hb1
  obtain ⟨xF12_0, xF12_1, xF12_2, xF12_3, xF12_4, xF12_5⟩ := F1.ce6
  refine hK.out _ _ ?_ (fun hHeld => ?_)
  · exact ⟨xF12_0, xF12_1, xF12_2, xF12_3, xF12_4, xF12_5⟩
  clear hK K
  (try dsimp only [Act.put]); (try go_frame)
  refine wpAnyH_take (i := 3) (v := _) (by first | (simp only [List.getElem?_toArray, List.getElem?_cons_zero, List.getElem?_cons_succ]; rfl) | rfl) (by kernel_rfl) (by kernel_rfl) (by kernel_rfl) (by exact fun _ _ _ h => h) (Or.inl ⟨by rfl, by (intro w hSw; (try dsimp only at hSw); go_simp; (try with_reducible rfl); (try (refine (if_neg ?_).trans rfl; omega)))⟩) (by assumption) ?_
  (try dsimp only [Act.put]); (try go_frame)
  refine wpAnyH_ready (rs := [6]) (by kernel_rfl) (by simp) ?_
  refine AllReadyH.cons rfl (fun K hK => ?_) AllReadyH.nil
  go_simp
  (with_reducible refine (hI _).mono ?_)
  rintro r w2 ⟨rfl, hb2⟩
  clear xF12_0 xF12_1 xF12_2 xF12_3 xF12_4 xF12_5
  replace F1 := F1.keep hb2
  replace B0 := B0.trans (hb2.mono B0.size)
  clear hb2
  obtain ⟨xF13_0, xF13_1, xF13_2, xF13_3, xF13_4, xF13_5⟩ := F1.ce6
  refine hK.out _ _ ?_ (fun hHeld => ?_)
  · exact ⟨xF13_0, xF13_1, xF13_2, xF13_3, xF13_4, xF13_5⟩
  clear hK K
  (try dsimp only [Act.put]); (try go_frame)
  refine wpAnyH_take (i := 7) (v := _) (by first | (simp only [List.getElem?_toArray, List.getElem?_cons_zero, List.getElem?_cons_succ]; rfl) | rfl) (by kernel_rfl) (by kernel_rfl) (by kernel_rfl) (by exact fun _ _ _ h => h) (Or.inl ⟨by rfl, by (intro w hSw; (try dsimp only at hSw); go_simp; (try with_reducible rfl); (try (refine (if_neg ?_).trans rfl; omega)))⟩) (by assumption) ?_
  (try dsimp only [Act.put]); (try go_frame)
  refine wpAnyH_done (by kernel_rfl) ?_ _
  try simp only [QCut]
  clear hHeld
  clear xF13_0 xF13_1 xF13_2 xF13_3 xF13_4 xF13_5
  go_wp2
  go_ret
  exact ⟨rfl, B0⟩
set_option maxRecDepth 1000000 in
set_option maxHeartbeats 16000000 in
theorem r6read_no (s : ByteArray) (w : World) (hs : s.size ≤ 9223372036854775807)
    (hn : ∀ k, k < s.size → byt s k ≠ 44) :
    Calls Tryz.prog 16 #[.string s] w fun r w' => r = .returned (.tuple #[.agg #[.bool false, .string { data := #[] }, .int .i64 0, .bool false, .string { data := #[] }, .int .i64 0], .int .i64 60]) ∧ Below w.heap.size w w' := by
  have F2 := Blk.put w #[.bool false, .string { data := #[] }, .int .i64 0, .bool false, .string { data := #[] }, .int .i64 0] 38
  have B0 := (Below.refl w.heap.size w).alloc (Nat.le_refl _) (.cells #[.bool false, .string { data := #[] }, .int .i64 0, .bool false, .string { data := #[] }, .int .i64 0] 38)
  have HN := Lib.hid hn
  clear hn
  go_enter Tryz.func16, Tryz.ntmps16
  go_wp2_with fail
  generalize w.alloc (.cells #[.bool false, .string { data := #[] }, .int .i64 0, .bool false, .string { data := #[] }, .int .i64 0] 38) = v5 at *
  go_loopg [4] (s.size + 1) (fun g s4 wr => ∃ k : Nat, k ≤ s.size ∧ g = s.size + 1 - k ∧ s4 = .int .i64 k ∧ wr = v5)
  case atStart => exact ⟨0, by omega, by omega, rfl, rfl⟩
  case round =>
    obtain ⟨j, hk, hg, rfl, rfl⟩ := hrel
    by_cases hki : j < s.size
    · have hkt : j < s.size := by omega
      have hb := HN.out j hki
      rw [byt_in hkt] at hb
      have t1 : decide ((j : Int) < s.size) = true := decide_eq_true (by omega)
      have t2 : (((s[j]'hkt).toNat : Int) != 44) = true := by simp; omega
      clear hb
      go_wp2
      go_roundg (s.size + 1 - (j + 1))
      case measure => omega
      case rel => exact ⟨j + 1, by omega, rfl, by go_num, rfl⟩
    · obtain rfl : s.size = j := by omega
      clear hg hki hk
      have t1 : decide ((s.size : Int) < s.size) = false := decide_eq_false (by omega)
      have q_w_F2 : Hid (w.heap.size ≤ w.heap.size) := Lib.hid (Nat.le_refl _)
      obtain ⟨xF23_0, xF23_1, xF23_2, xF23_3, xF23_4, xF23_5⟩ := F2.ce6
      obtain ⟨xF23_0f, xF23_1f, xF23_2f, xF23_3f, xF23_4f, xF23_5f⟩ := F2.fr6
      replace F2 : Blk (((((((wr).setCell ⟨w.heap.size, 0, none⟩ (.bool false)).setCell ⟨w.heap.size, 1, none⟩ (.string { data := #[] })).setCell ⟨w.heap.size, 2, none⟩ (.int .i64 0)).setCell ⟨w.heap.size, 3, none⟩ (.bool false)).setCell ⟨w.heap.size, 4, none⟩ (.string { data := #[] })).setCell ⟨w.heap.size, 5, none⟩ (.int .i64 0)) (w.heap.size) #[.bool false, .string { data := #[] }, .int .i64 0, .bool false, .string { data := #[] }, .int .i64 0] 38 := ((((((F2.setAt 0 (.bool false)).setAt 1 (.string { data := #[] })).setAt 2 (.int .i64 0)).setAt 3 (.bool false)).setAt 4 (.string { data := #[] })).setAt 5 (.int .i64 0))
      replace B0 := ((((((B0.setCell (p := ⟨w.heap.size, 0, none⟩) q_w_F2.out (.bool false)).setCell (p := ⟨w.heap.size, 1, none⟩) q_w_F2.out (.string { data := #[] })).setCell (p := ⟨w.heap.size, 2, none⟩) q_w_F2.out (.int .i64 0)).setCell (p := ⟨w.heap.size, 3, none⟩) q_w_F2.out (.bool false)).setCell (p := ⟨w.heap.size, 4, none⟩) q_w_F2.out (.string { data := #[] })).setCell (p := ⟨w.heap.size, 5, none⟩) q_w_F2.out (.int .i64 0))
      obtain ⟨xF24_0, xF24_1, xF24_2, xF24_3, xF24_4, xF24_5⟩ := F2.ce6
      go_wp2
      exact bodyPost_ret (v := .tuple #[.agg #[.bool false, .string { data := #[] }, .int .i64 0, .bool false, .string { data := #[] }, .int .i64 0], .int .i64 60]) (by simp [results, Tryz.results16, go_sem, xF24_0, xF24_1, xF24_2, xF24_3, xF24_4, xF24_5]) rfl ⟨rfl, B0⟩
set_option maxRecDepth 1000000 in
set_option maxHeartbeats 16000000 in
theorem r6read_f (s : ByteArray) (w : World) (hs : s.size ≤ 9223372036854775807)
    (i : Nat) (hi : i < s.size) (h44 : byt s i = 44)
    (hn : ∀ k, k < i → byt s k ≠ 44)
    (a p : ByteArray) (hA : s.extract 0 i = a) (hP : s.extract (i + 1) s.size = p)
    (n : Bool) (x : ByteArray) (k : Int) (m : Bool) (y : ByteArray) (l : Int) (f : Int) (hf : (f != 0) = true) (h : Int)
    (h1 : ∀ W, Calls Tryz.prog 9 #[.string a] W fun r w' => r = .returned (.tuple #[.agg #[.bool n, .string x, .int .i64 k], .int .i64 f]) ∧ Below W.heap.size W w')
    (h2 : ∀ W, Calls Tryz.prog 9 #[.string p] W fun r w' => r = .returned (.tuple #[.agg #[.bool m, .string y, .int .i64 l], .int .i64 h]) ∧ Below W.heap.size W w') :
    Calls Tryz.prog 16 #[.string s] w fun r w' => r = .returned (.tuple #[.agg #[.bool false, .string { data := #[] }, .int .i64 0, .bool false, .string { data := #[] }, .int .i64 0], .int .i64 60]) ∧ Below w.heap.size w w' := by
  have F2 := Blk.put w #[.bool false, .string { data := #[] }, .int .i64 0, .bool false, .string { data := #[] }, .int .i64 0] 38
  have B0 := (Below.refl w.heap.size w).alloc (Nat.le_refl _) (.cells #[.bool false, .string { data := #[] }, .int .i64 0, .bool false, .string { data := #[] }, .int .i64 0] 38)
  have HN := Lib.hid hn
  clear hn
  go_enter Tryz.func16, Tryz.ntmps16
  go_wp2_with fail
  generalize w.alloc (.cells #[.bool false, .string { data := #[] }, .int .i64 0, .bool false, .string { data := #[] }, .int .i64 0] 38) = v5 at *
  go_loopg [4] (i + 1) (fun g s4 wr => ∃ k : Nat, k ≤ i ∧ g = i + 1 - k ∧ s4 = .int .i64 k ∧ wr = v5)
  case atStart => exact ⟨0, by omega, by omega, rfl, rfl⟩
  case round =>
    obtain ⟨j, hk, hg, rfl, rfl⟩ := hrel
    by_cases hki : j < i
    · have hkt : j < s.size := by omega
      have hb := HN.out j hki
      rw [byt_in hkt] at hb
      have t1 : decide ((j : Int) < s.size) = true := decide_eq_true (by omega)
      have t2 : (((s[j]'hkt).toNat : Int) != 44) = true := by simp; omega
      clear hb
      go_wp2
      go_roundg (i + 1 - (j + 1))
      case measure => omega
      case rel => exact ⟨j + 1, by omega, rfl, by go_num, rfl⟩
    · obtain rfl : i = j := by omega
      clear hg hki hk
      have hb : byt s i = 44 := h44
      rw [byt_in hi] at hb
      have t1 : decide ((i : Int) < s.size) = true := decide_eq_true (by omega)
      have t2 : (((s[i]'hi).toNat : Int) != 44) = false := by simp; omega
      have t3 : ((i : Int) == (s.size : Int)) = false := by simp; omega
      have t4 : (i == s.size) = false := by simp; omega
      have e1 : ((i : Int) + 1).toNat = i + 1 := by omega
      clear hb h44
      have q_w_F2 : Hid (w.heap.size ≤ w.heap.size) := Lib.hid (Nat.le_refl _)
      go_wp2_with fail
      (with_reducible refine (h1 _).mono ?_)
      rintro r w2 ⟨rfl, hb2⟩
      replace F2 := F2.keep hb2
      replace B0 := B0.trans (hb2.mono B0.size)
      clear hb2
      replace F2 := F2.allocd (.cells #[.bool n, .string x, .int .i64 k] 24)
      replace B0 := B0.alloc B0.size (.cells #[.bool n, .string x, .int .i64 k] 24)
      go_wp2_with fail
      (with_reducible refine (h2 _).mono ?_)
      rintro r w3 ⟨rfl, hb3⟩
      replace F2 := F2.keep hb3
      replace B0 := B0.trans (hb3.mono B0.size)
      clear hb3
      replace F2 := F2.allocd (.cells #[.bool m, .string y, .int .i64 l] 24)
      replace B0 := B0.alloc B0.size (.cells #[.bool m, .string y, .int .i64 l] 24)
      obtain ⟨xF25_0, xF25_1, xF25_2, xF25_3, xF25_4, xF25_5⟩ := F2.ce6
      obtain ⟨xF25_0f, xF25_1f, xF25_2f, xF25_3f, xF25_4f, xF25_5f⟩ := F2.fr6
      replace F2 : Blk ((((((((w3).alloc (.cells #[.bool m, .string y, .int .i64 l] 24)).setCell ⟨w.heap.size, 0, none⟩ (.bool false)).setCell ⟨w.heap.size, 1, none⟩ (.string { data := #[] })).setCell ⟨w.heap.size, 2, none⟩ (.int .i64 0)).setCell ⟨w.heap.size, 3, none⟩ (.bool false)).setCell ⟨w.heap.size, 4, none⟩ (.string { data := #[] })).setCell ⟨w.heap.size, 5, none⟩ (.int .i64 0)) (w.heap.size) #[.bool false, .string { data := #[] }, .int .i64 0, .bool false, .string { data := #[] }, .int .i64 0] 38 := ((((((F2.setAt 0 (.bool false)).setAt 1 (.string { data := #[] })).setAt 2 (.int .i64 0)).setAt 3 (.bool false)).setAt 4 (.string { data := #[] })).setAt 5 (.int .i64 0))
      replace B0 := ((((((B0.setCell (p := ⟨w.heap.size, 0, none⟩) q_w_F2.out (.bool false)).setCell (p := ⟨w.heap.size, 1, none⟩) q_w_F2.out (.string { data := #[] })).setCell (p := ⟨w.heap.size, 2, none⟩) q_w_F2.out (.int .i64 0)).setCell (p := ⟨w.heap.size, 3, none⟩) q_w_F2.out (.bool false)).setCell (p := ⟨w.heap.size, 4, none⟩) q_w_F2.out (.string { data := #[] })).setCell (p := ⟨w.heap.size, 5, none⟩) q_w_F2.out (.int .i64 0))
      obtain ⟨xF26_0, xF26_1, xF26_2, xF26_3, xF26_4, xF26_5⟩ := F2.ce6
      go_wp2
      exact bodyPost_ret (v := .tuple #[.agg #[.bool false, .string { data := #[] }, .int .i64 0, .bool false, .string { data := #[] }, .int .i64 0], .int .i64 60]) (by simp [results, Tryz.results16, go_sem, xF26_0, xF26_1, xF26_2, xF26_3, xF26_4, xF26_5]) rfl ⟨rfl, B0⟩
set_option maxRecDepth 1000000 in
set_option maxHeartbeats 16000000 in
theorem r6read_h (s : ByteArray) (w : World) (hs : s.size ≤ 9223372036854775807)
    (i : Nat) (hi : i < s.size) (h44 : byt s i = 44)
    (hn : ∀ k, k < i → byt s k ≠ 44)
    (a p : ByteArray) (hA : s.extract 0 i = a) (hP : s.extract (i + 1) s.size = p)
    (n : Bool) (x : ByteArray) (k : Int) (m : Bool) (y : ByteArray) (l : Int) (h : Int) (hh : (h != 0) = true)
    (h1 : ∀ W, Calls Tryz.prog 9 #[.string a] W fun r w' => r = .returned (.tuple #[.agg #[.bool n, .string x, .int .i64 k], .int .i64 0]) ∧ Below W.heap.size W w')
    (h2 : ∀ W, Calls Tryz.prog 9 #[.string p] W fun r w' => r = .returned (.tuple #[.agg #[.bool m, .string y, .int .i64 l], .int .i64 h]) ∧ Below W.heap.size W w') :
    Calls Tryz.prog 16 #[.string s] w fun r w' => r = .returned (.tuple #[.agg #[.bool false, .string { data := #[] }, .int .i64 0, .bool false, .string { data := #[] }, .int .i64 0], .int .i64 60]) ∧ Below w.heap.size w w' := by
  have F2 := Blk.put w #[.bool false, .string { data := #[] }, .int .i64 0, .bool false, .string { data := #[] }, .int .i64 0] 38
  have B0 := (Below.refl w.heap.size w).alloc (Nat.le_refl _) (.cells #[.bool false, .string { data := #[] }, .int .i64 0, .bool false, .string { data := #[] }, .int .i64 0] 38)
  have HN := Lib.hid hn
  clear hn
  go_enter Tryz.func16, Tryz.ntmps16
  go_wp2_with fail
  generalize w.alloc (.cells #[.bool false, .string { data := #[] }, .int .i64 0, .bool false, .string { data := #[] }, .int .i64 0] 38) = v5 at *
  go_loopg [4] (i + 1) (fun g s4 wr => ∃ k : Nat, k ≤ i ∧ g = i + 1 - k ∧ s4 = .int .i64 k ∧ wr = v5)
  case atStart => exact ⟨0, by omega, by omega, rfl, rfl⟩
  case round =>
    obtain ⟨j, hk, hg, rfl, rfl⟩ := hrel
    by_cases hki : j < i
    · have hkt : j < s.size := by omega
      have hb := HN.out j hki
      rw [byt_in hkt] at hb
      have t1 : decide ((j : Int) < s.size) = true := decide_eq_true (by omega)
      have t2 : (((s[j]'hkt).toNat : Int) != 44) = true := by simp; omega
      clear hb
      go_wp2
      go_roundg (i + 1 - (j + 1))
      case measure => omega
      case rel => exact ⟨j + 1, by omega, rfl, by go_num, rfl⟩
    · obtain rfl : i = j := by omega
      clear hg hki hk
      have hb : byt s i = 44 := h44
      rw [byt_in hi] at hb
      have t1 : decide ((i : Int) < s.size) = true := decide_eq_true (by omega)
      have t2 : (((s[i]'hi).toNat : Int) != 44) = false := by simp; omega
      have t3 : ((i : Int) == (s.size : Int)) = false := by simp; omega
      have t4 : (i == s.size) = false := by simp; omega
      have e1 : ((i : Int) + 1).toNat = i + 1 := by omega
      clear hb h44
      have q_w_F2 : Hid (w.heap.size ≤ w.heap.size) := Lib.hid (Nat.le_refl _)
      go_wp2_with fail
      (with_reducible refine (h1 _).mono ?_)
      rintro r w2 ⟨rfl, hb2⟩
      replace F2 := F2.keep hb2
      replace B0 := B0.trans (hb2.mono B0.size)
      clear hb2
      replace F2 := F2.allocd (.cells #[.bool n, .string x, .int .i64 k] 24)
      replace B0 := B0.alloc B0.size (.cells #[.bool n, .string x, .int .i64 k] 24)
      go_wp2_with fail
      (with_reducible refine (h2 _).mono ?_)
      rintro r w3 ⟨rfl, hb3⟩
      replace F2 := F2.keep hb3
      replace B0 := B0.trans (hb3.mono B0.size)
      clear hb3
      replace F2 := F2.allocd (.cells #[.bool m, .string y, .int .i64 l] 24)
      replace B0 := B0.alloc B0.size (.cells #[.bool m, .string y, .int .i64 l] 24)
      obtain ⟨xF25_0, xF25_1, xF25_2, xF25_3, xF25_4, xF25_5⟩ := F2.ce6
      obtain ⟨xF25_0f, xF25_1f, xF25_2f, xF25_3f, xF25_4f, xF25_5f⟩ := F2.fr6
      replace F2 : Blk ((((((((w3).alloc (.cells #[.bool m, .string y, .int .i64 l] 24)).setCell ⟨w.heap.size, 0, none⟩ (.bool false)).setCell ⟨w.heap.size, 1, none⟩ (.string { data := #[] })).setCell ⟨w.heap.size, 2, none⟩ (.int .i64 0)).setCell ⟨w.heap.size, 3, none⟩ (.bool false)).setCell ⟨w.heap.size, 4, none⟩ (.string { data := #[] })).setCell ⟨w.heap.size, 5, none⟩ (.int .i64 0)) (w.heap.size) #[.bool false, .string { data := #[] }, .int .i64 0, .bool false, .string { data := #[] }, .int .i64 0] 38 := ((((((F2.setAt 0 (.bool false)).setAt 1 (.string { data := #[] })).setAt 2 (.int .i64 0)).setAt 3 (.bool false)).setAt 4 (.string { data := #[] })).setAt 5 (.int .i64 0))
      replace B0 := ((((((B0.setCell (p := ⟨w.heap.size, 0, none⟩) q_w_F2.out (.bool false)).setCell (p := ⟨w.heap.size, 1, none⟩) q_w_F2.out (.string { data := #[] })).setCell (p := ⟨w.heap.size, 2, none⟩) q_w_F2.out (.int .i64 0)).setCell (p := ⟨w.heap.size, 3, none⟩) q_w_F2.out (.bool false)).setCell (p := ⟨w.heap.size, 4, none⟩) q_w_F2.out (.string { data := #[] })).setCell (p := ⟨w.heap.size, 5, none⟩) q_w_F2.out (.int .i64 0))
      obtain ⟨xF26_0, xF26_1, xF26_2, xF26_3, xF26_4, xF26_5⟩ := F2.ce6
      go_wp2
      exact bodyPost_ret (v := .tuple #[.agg #[.bool false, .string { data := #[] }, .int .i64 0, .bool false, .string { data := #[] }, .int .i64 0], .int .i64 60]) (by simp [results, Tryz.results16, go_sem, xF26_0, xF26_1, xF26_2, xF26_3, xF26_4, xF26_5]) rfl ⟨rfl, B0⟩
set_option maxRecDepth 1000000 in
set_option maxHeartbeats 16000000 in
theorem r6read_ok (s : ByteArray) (w : World) (hs : s.size ≤ 9223372036854775807)
    (i : Nat) (hi : i < s.size) (h44 : byt s i = 44)
    (hn : ∀ k, k < i → byt s k ≠ 44)
    (a p : ByteArray) (hA : s.extract 0 i = a) (hP : s.extract (i + 1) s.size = p)
    (n : Bool) (x : ByteArray) (k : Int) (m : Bool) (y : ByteArray) (l : Int)
    (h1 : ∀ W, Calls Tryz.prog 9 #[.string a] W fun r w' => r = .returned (.tuple #[.agg #[.bool n, .string x, .int .i64 k], .int .i64 0]) ∧ Below W.heap.size W w')
    (h2 : ∀ W, Calls Tryz.prog 9 #[.string p] W fun r w' => r = .returned (.tuple #[.agg #[.bool m, .string y, .int .i64 l], .int .i64 0]) ∧ Below W.heap.size W w') :
    Calls Tryz.prog 16 #[.string s] w fun r w' => r = .returned (.tuple #[.agg #[.bool n, .string x, .int .i64 k, .bool m, .string y, .int .i64 l], .int .i64 0]) ∧ Below w.heap.size w w' := by
  have F2 := Blk.put w #[.bool false, .string { data := #[] }, .int .i64 0, .bool false, .string { data := #[] }, .int .i64 0] 38
  have B0 := (Below.refl w.heap.size w).alloc (Nat.le_refl _) (.cells #[.bool false, .string { data := #[] }, .int .i64 0, .bool false, .string { data := #[] }, .int .i64 0] 38)
  have HN := Lib.hid hn
  clear hn
  go_enter Tryz.func16, Tryz.ntmps16
  go_wp2_with fail
  generalize w.alloc (.cells #[.bool false, .string { data := #[] }, .int .i64 0, .bool false, .string { data := #[] }, .int .i64 0] 38) = v5 at *
  go_loopg [4] (i + 1) (fun g s4 wr => ∃ k : Nat, k ≤ i ∧ g = i + 1 - k ∧ s4 = .int .i64 k ∧ wr = v5)
  case atStart => exact ⟨0, by omega, by omega, rfl, rfl⟩
  case round =>
    obtain ⟨j, hk, hg, rfl, rfl⟩ := hrel
    by_cases hki : j < i
    · have hkt : j < s.size := by omega
      have hb := HN.out j hki
      rw [byt_in hkt] at hb
      have t1 : decide ((j : Int) < s.size) = true := decide_eq_true (by omega)
      have t2 : (((s[j]'hkt).toNat : Int) != 44) = true := by simp; omega
      clear hb
      go_wp2
      go_roundg (i + 1 - (j + 1))
      case measure => omega
      case rel => exact ⟨j + 1, by omega, rfl, by go_num, rfl⟩
    · obtain rfl : i = j := by omega
      clear hg hki hk
      have hb : byt s i = 44 := h44
      rw [byt_in hi] at hb
      have t1 : decide ((i : Int) < s.size) = true := decide_eq_true (by omega)
      have t2 : (((s[i]'hi).toNat : Int) != 44) = false := by simp; omega
      have t3 : ((i : Int) == (s.size : Int)) = false := by simp; omega
      have t4 : (i == s.size) = false := by simp; omega
      have e1 : ((i : Int) + 1).toNat = i + 1 := by omega
      clear hb h44
      have q_w_F2 : Hid (w.heap.size ≤ w.heap.size) := Lib.hid (Nat.le_refl _)
      go_wp2_with fail
      (with_reducible refine (h1 _).mono ?_)
      rintro r w2 ⟨rfl, hb2⟩
      replace F2 := F2.keep hb2
      replace B0 := B0.trans (hb2.mono B0.size)
      clear hb2
      have q_F2_F5 : Hid (w.heap.size < w2.heap.size) := Lib.hid (by have := F2.lt; first | exact this | omega | (simp; done) | simpa using this)
      replace F2 := F2.allocd (.cells #[.bool n, .string x, .int .i64 k] 24)
      have F5 := Blk.put (w2) #[.bool n, .string x, .int .i64 k] 24
      replace B0 := B0.alloc B0.size (.cells #[.bool n, .string x, .int .i64 k] 24)
      go_wp2_with fail
      (with_reducible refine (h2 _).mono ?_)
      rintro r w3 ⟨rfl, hb3⟩
      replace F2 := F2.keep hb3
      replace F5 := F5.keep hb3
      replace B0 := B0.trans (hb3.mono B0.size)
      clear hb3
      have q_F2_F7 : Hid (w.heap.size < w3.heap.size) := Lib.hid (by have := F2.lt; first | exact this | omega | (simp; done) | simpa using this)
      replace F2 := F2.allocd (.cells #[.bool m, .string y, .int .i64 l] 24)
      replace F5 := F5.allocd (.cells #[.bool m, .string y, .int .i64 l] 24)
      have F7 := Blk.put (w3) #[.bool m, .string y, .int .i64 l] 24
      replace B0 := B0.alloc B0.size (.cells #[.bool m, .string y, .int .i64 l] 24)
      obtain ⟨xF55_0, xF55_1, xF55_2⟩ := F5.ce3
      obtain ⟨xF75_0, xF75_1, xF75_2⟩ := F7.ce3
      obtain ⟨xF25_0, xF25_1, xF25_2, xF25_3, xF25_4, xF25_5⟩ := F2.ce6
      obtain ⟨xF25_0f, xF25_1f, xF25_2f, xF25_3f, xF25_4f, xF25_5f⟩ := F2.fr6
      replace F5 := ((((((F5.far 0 (.bool n) (Nat.ne_of_gt q_F2_F5.out)).far 1 (.string x) (Nat.ne_of_gt q_F2_F5.out)).far 2 (.int .i64 k) (Nat.ne_of_gt q_F2_F5.out)).far 3 (.bool m) (Nat.ne_of_gt q_F2_F5.out)).far 4 (.string y) (Nat.ne_of_gt q_F2_F5.out)).far 5 (.int .i64 l) (Nat.ne_of_gt q_F2_F5.out))
      replace F7 := ((((((F7.far 0 (.bool n) (Nat.ne_of_gt q_F2_F7.out)).far 1 (.string x) (Nat.ne_of_gt q_F2_F7.out)).far 2 (.int .i64 k) (Nat.ne_of_gt q_F2_F7.out)).far 3 (.bool m) (Nat.ne_of_gt q_F2_F7.out)).far 4 (.string y) (Nat.ne_of_gt q_F2_F7.out)).far 5 (.int .i64 l) (Nat.ne_of_gt q_F2_F7.out))
      replace F2 : Blk ((((((((w3).alloc (.cells #[.bool m, .string y, .int .i64 l] 24)).setCell ⟨w.heap.size, 0, none⟩ (.bool n)).setCell ⟨w.heap.size, 1, none⟩ (.string x)).setCell ⟨w.heap.size, 2, none⟩ (.int .i64 k)).setCell ⟨w.heap.size, 3, none⟩ (.bool m)).setCell ⟨w.heap.size, 4, none⟩ (.string y)).setCell ⟨w.heap.size, 5, none⟩ (.int .i64 l)) (w.heap.size) #[.bool n, .string x, .int .i64 k, .bool m, .string y, .int .i64 l] 38 := ((((((F2.setAt 0 (.bool n)).setAt 1 (.string x)).setAt 2 (.int .i64 k)).setAt 3 (.bool m)).setAt 4 (.string y)).setAt 5 (.int .i64 l))
      replace B0 := ((((((B0.setCell (p := ⟨w.heap.size, 0, none⟩) q_w_F2.out (.bool n)).setCell (p := ⟨w.heap.size, 1, none⟩) q_w_F2.out (.string x)).setCell (p := ⟨w.heap.size, 2, none⟩) q_w_F2.out (.int .i64 k)).setCell (p := ⟨w.heap.size, 3, none⟩) q_w_F2.out (.bool m)).setCell (p := ⟨w.heap.size, 4, none⟩) q_w_F2.out (.string y)).setCell (p := ⟨w.heap.size, 5, none⟩) q_w_F2.out (.int .i64 l))
      obtain ⟨xF26_0, xF26_1, xF26_2, xF26_3, xF26_4, xF26_5⟩ := F2.ce6
      go_wp2
      exact bodyPost_ret (v := .tuple #[.agg #[.bool n, .string x, .int .i64 k, .bool m, .string y, .int .i64 l], .int .i64 0]) (by simp [results, Tryz.results16, go_sem, xF26_0, xF26_1, xF26_2, xF26_3, xF26_4, xF26_5]) rfl ⟨rfl, B0⟩
end Go.Proofs.YtjldfclncipbgaaGreatDoor
