/- dyad.Read: its ways, by letters. -/
import Derived.Test.YtjldfclncipbgaaGreatDoorMO
import Derived.Test.YtjldfclncipbgaaGreatDoorML
import Derived.Test.YtjldfclncipbgaaGreatDoorKh
namespace Go.Proofs.YtjldfclncipbgaaGreatDoor
open Go Go.RowKit Go.PlainAid Fil

set_option maxRecDepth 1000000 in
set_option maxHeartbeats 16000000 in
theorem dread_zero  (w : World)  :
    Calls Tryz.prog 8 #[.string { data := #[48] }] w fun r w' => r = .returned (.tuple #[.agg #[.bool false, .string { data := #[] }, .int .i64 0], .int .i64 0]) ∧ Below w.heap.size w w' := by
  go_enter Tryz.func8, Tryz.ntmps8
  have B0 := Below.refl w.heap.size w
  have F2 := Blk.put (w) #[.bool false, .string { data := #[] }, .int .i64 0] 24
  replace B0 := B0.alloc B0.size (.cells #[.bool false, .string { data := #[] }, .int .i64 0] 24)
  obtain ⟨xF20_0, xF20_1, xF20_2⟩ := F2.ce3
  go_wp2
  exact bodyPost_ret (v := .tuple #[.agg #[.bool false, .string { data := #[] }, .int .i64 0], .int .i64 0]) (by simp [results, Tryz.results8, go_sem, xF20_0, xF20_1, xF20_2]) rfl ⟨rfl, B0⟩
set_option maxRecDepth 1000000 in
set_option maxHeartbeats 16000000 in
theorem dread_nocut (s a p : ByteArray) (w : World) (hs0 : (s.toList == [48]) = false)
    (hc : ∀ W, Calls Tryz.prog 27 #[.string s, .string { data := #[112] }] W fun r w' => r = .returned (.tuple #[.string a, .string p, .bool false]) ∧ Below W.heap.size W w') :
    Calls Tryz.prog 8 #[.string s] w fun r w' => r = .returned (.tuple #[.agg #[.bool false, .string { data := #[] }, .int .i64 0], .int .i64 30]) ∧ Below w.heap.size w w' := by
  go_enter Tryz.func8, Tryz.ntmps8
  have B0 := Below.refl w.heap.size w
  have q_w_F2 : Hid (w.heap.size ≤ w.heap.size) := Lib.hid (by omega)
  have F2 := Blk.put (w) #[.bool false, .string { data := #[] }, .int .i64 0] 24
  replace B0 := B0.alloc B0.size (.cells #[.bool false, .string { data := #[] }, .int .i64 0] 24)
  go_wp2_with fail
  (with_reducible refine (hc _).mono ?_)
  rintro r w1 ⟨rfl, hb1⟩
  replace F2 := F2.keep hb1
  replace B0 := B0.trans (hb1.mono B0.size)
  clear hb1
  obtain ⟨xF21_0, xF21_1, xF21_2⟩ := F2.ce3
  obtain ⟨xF21_0f, xF21_1f, xF21_2f⟩ := F2.fr3
  replace F2 : Blk ((((w1).setCell ⟨w.heap.size, 0, none⟩ (.bool false)).setCell ⟨w.heap.size, 1, none⟩ (.string { data := #[] })).setCell ⟨w.heap.size, 2, none⟩ (.int .i64 0)) (w.heap.size) #[.bool false, .string { data := #[] }, .int .i64 0] 24 := (((F2.setAt 0 (.bool false)).setAt 1 (.string { data := #[] })).setAt 2 (.int .i64 0))
  replace B0 := (((B0.setCell (p := ⟨w.heap.size, 0, none⟩) q_w_F2.out (.bool false)).setCell (p := ⟨w.heap.size, 1, none⟩) q_w_F2.out (.string { data := #[] })).setCell (p := ⟨w.heap.size, 2, none⟩) q_w_F2.out (.int .i64 0))
  obtain ⟨xF22_0, xF22_1, xF22_2⟩ := F2.ce3
  go_wp2
  exact bodyPost_ret (v := .tuple #[.agg #[.bool false, .string { data := #[] }, .int .i64 0], .int .i64 30]) (by simp [results, Tryz.results8, go_sem, xF22_0, xF22_1, xF22_2]) rfl ⟨rfl, B0⟩
set_option maxRecDepth 1000000 in
set_option maxHeartbeats 16000000 in
theorem dread_long (s a p : ByteArray) (w : World) (hs0 : (s.toList == [48]) = false)
    (hc : ∀ W, Calls Tryz.prog 27 #[.string s, .string { data := #[112] }] W fun r w' => r = .returned (.tuple #[.string a, .string p, .bool true]) ∧ Below W.heap.size W w')
    (hl : (49152 : Int) < (s.size : Int)) :
    Calls Tryz.prog 8 #[.string s] w fun r w' => r = .returned (.tuple #[.agg #[.bool false, .string { data := #[] }, .int .i64 0], .int .i64 30]) ∧ Below w.heap.size w w' := by
  go_enter Tryz.func8, Tryz.ntmps8
  have B0 := Below.refl w.heap.size w
  have q_w_F2 : Hid (w.heap.size ≤ w.heap.size) := Lib.hid (by omega)
  have F2 := Blk.put (w) #[.bool false, .string { data := #[] }, .int .i64 0] 24
  replace B0 := B0.alloc B0.size (.cells #[.bool false, .string { data := #[] }, .int .i64 0] 24)
  go_wp2_with fail
  (with_reducible refine (hc _).mono ?_)
  rintro r w1 ⟨rfl, hb1⟩
  replace F2 := F2.keep hb1
  replace B0 := B0.trans (hb1.mono B0.size)
  clear hb1
  obtain ⟨xF21_0, xF21_1, xF21_2⟩ := F2.ce3
  obtain ⟨xF21_0f, xF21_1f, xF21_2f⟩ := F2.fr3
  replace F2 : Blk ((((w1).setCell ⟨w.heap.size, 0, none⟩ (.bool false)).setCell ⟨w.heap.size, 1, none⟩ (.string { data := #[] })).setCell ⟨w.heap.size, 2, none⟩ (.int .i64 0)) (w.heap.size) #[.bool false, .string { data := #[] }, .int .i64 0] 24 := (((F2.setAt 0 (.bool false)).setAt 1 (.string { data := #[] })).setAt 2 (.int .i64 0))
  replace B0 := (((B0.setCell (p := ⟨w.heap.size, 0, none⟩) q_w_F2.out (.bool false)).setCell (p := ⟨w.heap.size, 1, none⟩) q_w_F2.out (.string { data := #[] })).setCell (p := ⟨w.heap.size, 2, none⟩) q_w_F2.out (.int .i64 0))
  obtain ⟨xF22_0, xF22_1, xF22_2⟩ := F2.ce3
  go_wp2
  exact bodyPost_ret (v := .tuple #[.agg #[.bool false, .string { data := #[] }, .int .i64 0], .int .i64 30]) (by simp [results, Tryz.results8, go_sem, xF22_0, xF22_1, xF22_2]) rfl ⟨rfl, B0⟩
set_option maxRecDepth 1000000 in
set_option maxHeartbeats 16000000 in
theorem dread_plong (s a p : ByteArray) (w : World) (hs0 : (s.toList == [48]) = false)
    (hc : ∀ W, Calls Tryz.prog 27 #[.string s, .string { data := #[112] }] W fun r w' => r = .returned (.tuple #[.string a, .string p, .bool true]) ∧ Below W.heap.size W w')
    (hl : ¬ (49152 : Int) < (s.size : Int))
    (hp : (10 : Int) < (p.size : Int)) :
    Calls Tryz.prog 8 #[.string s] w fun r w' => r = .returned (.tuple #[.agg #[.bool false, .string { data := #[] }, .int .i64 0], .int .i64 30]) ∧ Below w.heap.size w w' := by
  go_enter Tryz.func8, Tryz.ntmps8
  have B0 := Below.refl w.heap.size w
  have q_w_F2 : Hid (w.heap.size ≤ w.heap.size) := Lib.hid (by omega)
  have F2 := Blk.put (w) #[.bool false, .string { data := #[] }, .int .i64 0] 24
  replace B0 := B0.alloc B0.size (.cells #[.bool false, .string { data := #[] }, .int .i64 0] 24)
  go_wp2_with fail
  (with_reducible refine (hc _).mono ?_)
  rintro r w1 ⟨rfl, hb1⟩
  replace F2 := F2.keep hb1
  replace B0 := B0.trans (hb1.mono B0.size)
  clear hb1
  obtain ⟨xF21_0, xF21_1, xF21_2⟩ := F2.ce3
  obtain ⟨xF21_0f, xF21_1f, xF21_2f⟩ := F2.fr3
  replace F2 : Blk ((((w1).setCell ⟨w.heap.size, 0, none⟩ (.bool false)).setCell ⟨w.heap.size, 1, none⟩ (.string { data := #[] })).setCell ⟨w.heap.size, 2, none⟩ (.int .i64 0)) (w.heap.size) #[.bool false, .string { data := #[] }, .int .i64 0] 24 := (((F2.setAt 0 (.bool false)).setAt 1 (.string { data := #[] })).setAt 2 (.int .i64 0))
  replace B0 := (((B0.setCell (p := ⟨w.heap.size, 0, none⟩) q_w_F2.out (.bool false)).setCell (p := ⟨w.heap.size, 1, none⟩) q_w_F2.out (.string { data := #[] })).setCell (p := ⟨w.heap.size, 2, none⟩) q_w_F2.out (.int .i64 0))
  obtain ⟨xF22_0, xF22_1, xF22_2⟩ := F2.ce3
  go_wp2
  exact bodyPost_ret (v := .tuple #[.agg #[.bool false, .string { data := #[] }, .int .i64 0], .int .i64 30]) (by simp [results, Tryz.results8, go_sem, xF22_0, xF22_1, xF22_2]) rfl ⟨rfl, B0⟩
set_option maxRecDepth 1000000 in
set_option maxHeartbeats 16000000 in
theorem dread_en (s a p b n : ByteArray) (ng : Bool) (e : Int) (v : Int) (w : World) (hs0 : (s.toList == [48]) = false)
    (hc : ∀ W, Calls Tryz.prog 27 #[.string s, .string { data := #[112] }] W fun r w' => r = .returned (.tuple #[.string a, .string p, .bool true]) ∧ Below W.heap.size W w')
    (hl : ¬ (49152 : Int) < (s.size : Int))
    (hp : ¬ (10 : Int) < (p.size : Int))
    (hx : ∀ W, Calls Tryz.prog 28 #[.string a, .string { data := #[45] }] W fun r w' => r = .returned (.tuple #[.string b, .bool ng]) ∧ Below W.heap.size W w')
    (hn : ∀ W, Calls Tryz.prog 29 #[.string b] W fun r w' => r = .returned (.tuple #[.string n, .int .i64 e]) ∧ Below W.heap.size W w')
    (hA : ∀ W, Below w.heap.size w W → Calls Tryz.prog 30 #[.string p] W fun r w' => r = .returned (.tuple #[.int .i64 v, .nilIface]) ∧ Below W.heap.size W w')
    (he : (e != 0) = true) :
    Calls Tryz.prog 8 #[.string s] w fun r w' => r = .returned (.tuple #[.agg #[.bool false, .string { data := #[] }, .int .i64 0], .int .i64 30]) ∧ Below w.heap.size w w' := by
  go_enter Tryz.func8, Tryz.ntmps8
  have B0 := Below.refl w.heap.size w
  have q_w_F2 : Hid (w.heap.size ≤ w.heap.size) := Lib.hid (by omega)
  have F2 := Blk.put (w) #[.bool false, .string { data := #[] }, .int .i64 0] 24
  replace B0 := B0.alloc B0.size (.cells #[.bool false, .string { data := #[] }, .int .i64 0] 24)
  go_wp2_with fail
  (with_reducible refine (hc _).mono ?_)
  rintro r w1 ⟨rfl, hb1⟩
  replace F2 := F2.keep hb1
  replace B0 := B0.trans (hb1.mono B0.size)
  clear hb1
  go_wp2_with fail
  (with_reducible refine (hx _).mono ?_)
  rintro r w2 ⟨rfl, hb2⟩
  replace F2 := F2.keep hb2
  replace B0 := B0.trans (hb2.mono B0.size)
  clear hb2
  go_wp2_with fail
  (with_reducible refine (hn _).mono ?_)
  rintro r w3 ⟨rfl, hb3⟩
  replace F2 := F2.keep hb3
  replace B0 := B0.trans (hb3.mono B0.size)
  clear hb3
  go_wp2_with fail
  (with_reducible refine (hA _ B0).mono ?_)
  rintro r w4 ⟨rfl, hb4⟩
  replace F2 := F2.keep hb4
  replace B0 := B0.trans (hb4.mono B0.size)
  clear hb4
  replace F2 := F2.allocd (.cells #[.bool ng, .string n, .int .i64 v] 24)
  replace B0 := B0.alloc B0.size (.cells #[.bool ng, .string n, .int .i64 v] 24)
  obtain ⟨xF24_0, xF24_1, xF24_2⟩ := F2.ce3
  obtain ⟨xF24_0f, xF24_1f, xF24_2f⟩ := F2.fr3
  replace F2 : Blk (((((w4).alloc (.cells #[.bool ng, .string n, .int .i64 v] 24)).setCell ⟨w.heap.size, 0, none⟩ (.bool false)).setCell ⟨w.heap.size, 1, none⟩ (.string { data := #[] })).setCell ⟨w.heap.size, 2, none⟩ (.int .i64 0)) (w.heap.size) #[.bool false, .string { data := #[] }, .int .i64 0] 24 := (((F2.setAt 0 (.bool false)).setAt 1 (.string { data := #[] })).setAt 2 (.int .i64 0))
  replace B0 := (((B0.setCell (p := ⟨w.heap.size, 0, none⟩) q_w_F2.out (.bool false)).setCell (p := ⟨w.heap.size, 1, none⟩) q_w_F2.out (.string { data := #[] })).setCell (p := ⟨w.heap.size, 2, none⟩) q_w_F2.out (.int .i64 0))
  obtain ⟨xF25_0, xF25_1, xF25_2⟩ := F2.ce3
  go_wp2
  exact bodyPost_ret (v := .tuple #[.agg #[.bool false, .string { data := #[] }, .int .i64 0], .int .i64 30]) (by simp [results, Tryz.results8, go_sem, xF25_0, xF25_1, xF25_2]) rfl ⟨rfl, B0⟩
set_option maxRecDepth 1000000 in
set_option maxHeartbeats 16000000 in
theorem dread_enf (s a p b n : ByteArray) (ng : Bool) (e : Int) (w : World) (hs0 : (s.toList == [48]) = false)
    (hc : ∀ W, Calls Tryz.prog 27 #[.string s, .string { data := #[112] }] W fun r w' => r = .returned (.tuple #[.string a, .string p, .bool true]) ∧ Below W.heap.size W w')
    (hl : ¬ (49152 : Int) < (s.size : Int))
    (hp : ¬ (10 : Int) < (p.size : Int))
    (hx : ∀ W, Calls Tryz.prog 28 #[.string a, .string { data := #[45] }] W fun r w' => r = .returned (.tuple #[.string b, .bool ng]) ∧ Below W.heap.size W w')
    (hn : ∀ W, Calls Tryz.prog 29 #[.string b] W fun r w' => r = .returned (.tuple #[.string n, .int .i64 e]) ∧ Below W.heap.size W w')
    (hA : ∀ W, Below w.heap.size w W → Calls Tryz.prog 30 #[.string p] W fun r w' => (∃ tp pv, r = .returned (.tuple #[.int .i64 0, .iface tp pv])) ∧ Below W.heap.size W w')
    (he : (e != 0) = true) :
    Calls Tryz.prog 8 #[.string s] w fun r w' => r = .returned (.tuple #[.agg #[.bool false, .string { data := #[] }, .int .i64 0], .int .i64 30]) ∧ Below w.heap.size w w' := by
  go_enter Tryz.func8, Tryz.ntmps8
  have B0 := Below.refl w.heap.size w
  have q_w_F2 : Hid (w.heap.size ≤ w.heap.size) := Lib.hid (by omega)
  have F2 := Blk.put (w) #[.bool false, .string { data := #[] }, .int .i64 0] 24
  replace B0 := B0.alloc B0.size (.cells #[.bool false, .string { data := #[] }, .int .i64 0] 24)
  go_wp2_with fail
  (with_reducible refine (hc _).mono ?_)
  rintro r w1 ⟨rfl, hb1⟩
  replace F2 := F2.keep hb1
  replace B0 := B0.trans (hb1.mono B0.size)
  clear hb1
  go_wp2_with fail
  (with_reducible refine (hx _).mono ?_)
  rintro r w2 ⟨rfl, hb2⟩
  replace F2 := F2.keep hb2
  replace B0 := B0.trans (hb2.mono B0.size)
  clear hb2
  go_wp2_with fail
  (with_reducible refine (hn _).mono ?_)
  rintro r w3 ⟨rfl, hb3⟩
  replace F2 := F2.keep hb3
  replace B0 := B0.trans (hb3.mono B0.size)
  clear hb3
  go_wp2_with fail
  (with_reducible refine (hA _ B0).mono ?_)
  rintro r w4 ⟨⟨tp, pv, rfl⟩, hb4⟩
  replace F2 := F2.keep hb4
  replace B0 := B0.trans (hb4.mono B0.size)
  clear hb4
  replace F2 := F2.allocd (.cells #[.bool ng, .string n, .int .i64 0] 24)
  replace B0 := B0.alloc B0.size (.cells #[.bool ng, .string n, .int .i64 0] 24)
  obtain ⟨xF24_0, xF24_1, xF24_2⟩ := F2.ce3
  obtain ⟨xF24_0f, xF24_1f, xF24_2f⟩ := F2.fr3
  replace F2 : Blk (((((w4).alloc (.cells #[.bool ng, .string n, .int .i64 0] 24)).setCell ⟨w.heap.size, 0, none⟩ (.bool false)).setCell ⟨w.heap.size, 1, none⟩ (.string { data := #[] })).setCell ⟨w.heap.size, 2, none⟩ (.int .i64 0)) (w.heap.size) #[.bool false, .string { data := #[] }, .int .i64 0] 24 := (((F2.setAt 0 (.bool false)).setAt 1 (.string { data := #[] })).setAt 2 (.int .i64 0))
  replace B0 := (((B0.setCell (p := ⟨w.heap.size, 0, none⟩) q_w_F2.out (.bool false)).setCell (p := ⟨w.heap.size, 1, none⟩) q_w_F2.out (.string { data := #[] })).setCell (p := ⟨w.heap.size, 2, none⟩) q_w_F2.out (.int .i64 0))
  obtain ⟨xF25_0, xF25_1, xF25_2⟩ := F2.ce3
  go_wp2
  exact bodyPost_ret (v := .tuple #[.agg #[.bool false, .string { data := #[] }, .int .i64 0], .int .i64 30]) (by simp [results, Tryz.results8, go_sem, xF25_0, xF25_1, xF25_2]) rfl ⟨rfl, B0⟩
set_option maxRecDepth 1000000 in
set_option maxHeartbeats 16000000 in
theorem dread_ef (s a p b n : ByteArray) (ng : Bool) (w : World) (hs0 : (s.toList == [48]) = false)
    (hc : ∀ W, Calls Tryz.prog 27 #[.string s, .string { data := #[112] }] W fun r w' => r = .returned (.tuple #[.string a, .string p, .bool true]) ∧ Below W.heap.size W w')
    (hl : ¬ (49152 : Int) < (s.size : Int))
    (hp : ¬ (10 : Int) < (p.size : Int))
    (hx : ∀ W, Calls Tryz.prog 28 #[.string a, .string { data := #[45] }] W fun r w' => r = .returned (.tuple #[.string b, .bool ng]) ∧ Below W.heap.size W w')
    (hn : ∀ W, Calls Tryz.prog 29 #[.string b] W fun r w' => r = .returned (.tuple #[.string n, .int .i64 0]) ∧ Below W.heap.size W w')
    (hA : ∀ W, Below w.heap.size w W → Calls Tryz.prog 30 #[.string p] W fun r w' => (∃ tp pv, r = .returned (.tuple #[.int .i64 0, .iface tp pv])) ∧ Below W.heap.size W w') :
    Calls Tryz.prog 8 #[.string s] w fun r w' => r = .returned (.tuple #[.agg #[.bool false, .string { data := #[] }, .int .i64 0], .int .i64 30]) ∧ Below w.heap.size w w' := by
  go_enter Tryz.func8, Tryz.ntmps8
  have B0 := Below.refl w.heap.size w
  have q_w_F2 : Hid (w.heap.size ≤ w.heap.size) := Lib.hid (by omega)
  have F2 := Blk.put (w) #[.bool false, .string { data := #[] }, .int .i64 0] 24
  replace B0 := B0.alloc B0.size (.cells #[.bool false, .string { data := #[] }, .int .i64 0] 24)
  go_wp2_with fail
  (with_reducible refine (hc _).mono ?_)
  rintro r w1 ⟨rfl, hb1⟩
  replace F2 := F2.keep hb1
  replace B0 := B0.trans (hb1.mono B0.size)
  clear hb1
  go_wp2_with fail
  (with_reducible refine (hx _).mono ?_)
  rintro r w2 ⟨rfl, hb2⟩
  replace F2 := F2.keep hb2
  replace B0 := B0.trans (hb2.mono B0.size)
  clear hb2
  go_wp2_with fail
  (with_reducible refine (hn _).mono ?_)
  rintro r w3 ⟨rfl, hb3⟩
  replace F2 := F2.keep hb3
  replace B0 := B0.trans (hb3.mono B0.size)
  clear hb3
  go_wp2_with fail
  (with_reducible refine (hA _ B0).mono ?_)
  rintro r w4 ⟨⟨tp, pv, rfl⟩, hb4⟩
  replace F2 := F2.keep hb4
  replace B0 := B0.trans (hb4.mono B0.size)
  clear hb4
  replace F2 := F2.allocd (.cells #[.bool ng, .string n, .int .i64 0] 24)
  replace B0 := B0.alloc B0.size (.cells #[.bool ng, .string n, .int .i64 0] 24)
  obtain ⟨xF24_0, xF24_1, xF24_2⟩ := F2.ce3
  obtain ⟨xF24_0f, xF24_1f, xF24_2f⟩ := F2.fr3
  replace F2 : Blk (((((w4).alloc (.cells #[.bool ng, .string n, .int .i64 0] 24)).setCell ⟨w.heap.size, 0, none⟩ (.bool false)).setCell ⟨w.heap.size, 1, none⟩ (.string { data := #[] })).setCell ⟨w.heap.size, 2, none⟩ (.int .i64 0)) (w.heap.size) #[.bool false, .string { data := #[] }, .int .i64 0] 24 := (((F2.setAt 0 (.bool false)).setAt 1 (.string { data := #[] })).setAt 2 (.int .i64 0))
  replace B0 := (((B0.setCell (p := ⟨w.heap.size, 0, none⟩) q_w_F2.out (.bool false)).setCell (p := ⟨w.heap.size, 1, none⟩) q_w_F2.out (.string { data := #[] })).setCell (p := ⟨w.heap.size, 2, none⟩) q_w_F2.out (.int .i64 0))
  obtain ⟨xF25_0, xF25_1, xF25_2⟩ := F2.ce3
  go_wp2
  exact bodyPost_ret (v := .tuple #[.agg #[.bool false, .string { data := #[] }, .int .i64 0], .int .i64 30]) (by simp [results, Tryz.results8, go_sem, xF25_0, xF25_1, xF25_2]) rfl ⟨rfl, B0⟩
set_option maxRecDepth 1000000 in
set_option maxHeartbeats 16000000 in
theorem dread_n0 (s a p b : ByteArray) (ng : Bool) (v : Int) (w : World) (hs0 : (s.toList == [48]) = false)
    (hc : ∀ W, Calls Tryz.prog 27 #[.string s, .string { data := #[112] }] W fun r w' => r = .returned (.tuple #[.string a, .string p, .bool true]) ∧ Below W.heap.size W w')
    (hl : ¬ (49152 : Int) < (s.size : Int))
    (hp : ¬ (10 : Int) < (p.size : Int))
    (hx : ∀ W, Calls Tryz.prog 28 #[.string a, .string { data := #[45] }] W fun r w' => r = .returned (.tuple #[.string b, .bool ng]) ∧ Below W.heap.size W w')
    (hn : ∀ W, Calls Tryz.prog 29 #[.string b] W fun r w' => r = .returned (.tuple #[.string { data := #[] }, .int .i64 0]) ∧ Below W.heap.size W w')
    (hA : ∀ W, Below w.heap.size w W → Calls Tryz.prog 30 #[.string p] W fun r w' => r = .returned (.tuple #[.int .i64 v, .nilIface]) ∧ Below W.heap.size W w') :
    Calls Tryz.prog 8 #[.string s] w fun r w' => r = .returned (.tuple #[.agg #[.bool false, .string { data := #[] }, .int .i64 0], .int .i64 30]) ∧ Below w.heap.size w w' := by
  go_enter Tryz.func8, Tryz.ntmps8
  have B0 := Below.refl w.heap.size w
  have q_w_F2 : Hid (w.heap.size ≤ w.heap.size) := Lib.hid (by omega)
  have F2 := Blk.put (w) #[.bool false, .string { data := #[] }, .int .i64 0] 24
  replace B0 := B0.alloc B0.size (.cells #[.bool false, .string { data := #[] }, .int .i64 0] 24)
  go_wp2_with fail
  (with_reducible refine (hc _).mono ?_)
  rintro r w1 ⟨rfl, hb1⟩
  replace F2 := F2.keep hb1
  replace B0 := B0.trans (hb1.mono B0.size)
  clear hb1
  go_wp2_with fail
  (with_reducible refine (hx _).mono ?_)
  rintro r w2 ⟨rfl, hb2⟩
  replace F2 := F2.keep hb2
  replace B0 := B0.trans (hb2.mono B0.size)
  clear hb2
  go_wp2_with fail
  (with_reducible refine (hn _).mono ?_)
  rintro r w3 ⟨rfl, hb3⟩
  replace F2 := F2.keep hb3
  replace B0 := B0.trans (hb3.mono B0.size)
  clear hb3
  go_wp2_with fail
  (with_reducible refine (hA _ B0).mono ?_)
  rintro r w4 ⟨rfl, hb4⟩
  replace F2 := F2.keep hb4
  replace B0 := B0.trans (hb4.mono B0.size)
  clear hb4
  replace F2 := F2.allocd (.cells #[.bool ng, .string { data := #[] }, .int .i64 v] 24)
  replace B0 := B0.alloc B0.size (.cells #[.bool ng, .string { data := #[] }, .int .i64 v] 24)
  obtain ⟨xF24_0, xF24_1, xF24_2⟩ := F2.ce3
  obtain ⟨xF24_0f, xF24_1f, xF24_2f⟩ := F2.fr3
  replace F2 : Blk (((((w4).alloc (.cells #[.bool ng, .string { data := #[] }, .int .i64 v] 24)).setCell ⟨w.heap.size, 0, none⟩ (.bool false)).setCell ⟨w.heap.size, 1, none⟩ (.string { data := #[] })).setCell ⟨w.heap.size, 2, none⟩ (.int .i64 0)) (w.heap.size) #[.bool false, .string { data := #[] }, .int .i64 0] 24 := (((F2.setAt 0 (.bool false)).setAt 1 (.string { data := #[] })).setAt 2 (.int .i64 0))
  replace B0 := (((B0.setCell (p := ⟨w.heap.size, 0, none⟩) q_w_F2.out (.bool false)).setCell (p := ⟨w.heap.size, 1, none⟩) q_w_F2.out (.string { data := #[] })).setCell (p := ⟨w.heap.size, 2, none⟩) q_w_F2.out (.int .i64 0))
  obtain ⟨xF25_0, xF25_1, xF25_2⟩ := F2.ce3
  go_wp2
  exact bodyPost_ret (v := .tuple #[.agg #[.bool false, .string { data := #[] }, .int .i64 0], .int .i64 30]) (by simp [results, Tryz.results8, go_sem, xF25_0, xF25_1, xF25_2]) rfl ⟨rfl, B0⟩
set_option maxRecDepth 1000000 in
set_option maxHeartbeats 16000000 in
theorem dread_chk (s a p b n : ByteArray) (ng : Bool) (v : Int) (g : Int) (w : World) (hs0 : (s.toList == [48]) = false)
    (hc : ∀ W, Calls Tryz.prog 27 #[.string s, .string { data := #[112] }] W fun r w' => r = .returned (.tuple #[.string a, .string p, .bool true]) ∧ Below W.heap.size W w')
    (hl : ¬ (49152 : Int) < (s.size : Int))
    (hp : ¬ (10 : Int) < (p.size : Int))
    (hx : ∀ W, Calls Tryz.prog 28 #[.string a, .string { data := #[45] }] W fun r w' => r = .returned (.tuple #[.string b, .bool ng]) ∧ Below W.heap.size W w')
    (hn : ∀ W, Calls Tryz.prog 29 #[.string b] W fun r w' => r = .returned (.tuple #[.string n, .int .i64 0]) ∧ Below W.heap.size W w')
    (hA : ∀ W, Below w.heap.size w W → Calls Tryz.prog 30 #[.string p] W fun r w' => r = .returned (.tuple #[.int .i64 v, .nilIface]) ∧ Below W.heap.size W w')
    (h0 : n.toList.isEmpty = false)
    (hC : ∀ W, Calls Tryz.prog 13 #[.agg #[.bool ng, .string n, .int .i64 v]] W fun r w' => r = .returned (.int .i64 g) ∧ Below W.heap.size W w')
    (hg : (g != 0) = true) :
    Calls Tryz.prog 8 #[.string s] w fun r w' => r = .returned (.tuple #[.agg #[.bool false, .string { data := #[] }, .int .i64 0], .int .i64 30]) ∧ Below w.heap.size w w' := by
  have h02 : ¬ n.toList = [] := fun h => by rw [h] at h0; exact Bool.noConfusion h0
  have h03 : (n.toList == []) = false := by simpa using h02
  go_enter Tryz.func8, Tryz.ntmps8
  have B0 := Below.refl w.heap.size w
  have q_w_F2 : Hid (w.heap.size ≤ w.heap.size) := Lib.hid (by omega)
  have F2 := Blk.put (w) #[.bool false, .string { data := #[] }, .int .i64 0] 24
  replace B0 := B0.alloc B0.size (.cells #[.bool false, .string { data := #[] }, .int .i64 0] 24)
  go_wp2_with fail
  (with_reducible refine (hc _).mono ?_)
  rintro r w1 ⟨rfl, hb1⟩
  replace F2 := F2.keep hb1
  replace B0 := B0.trans (hb1.mono B0.size)
  clear hb1
  go_wp2_with fail
  (with_reducible refine (hx _).mono ?_)
  rintro r w2 ⟨rfl, hb2⟩
  replace F2 := F2.keep hb2
  replace B0 := B0.trans (hb2.mono B0.size)
  clear hb2
  go_wp2_with fail
  (with_reducible refine (hn _).mono ?_)
  rintro r w3 ⟨rfl, hb3⟩
  replace F2 := F2.keep hb3
  replace B0 := B0.trans (hb3.mono B0.size)
  clear hb3
  go_wp2_with fail
  (with_reducible refine (hA _ B0).mono ?_)
  rintro r w4 ⟨rfl, hb4⟩
  replace F2 := F2.keep hb4
  replace B0 := B0.trans (hb4.mono B0.size)
  clear hb4
  replace F2 := F2.allocd (.cells #[.bool ng, .string n, .int .i64 v] 24)
  have F12 := Blk.put (w4) #[.bool ng, .string n, .int .i64 v] 24
  replace B0 := B0.alloc B0.size (.cells #[.bool ng, .string n, .int .i64 v] 24)
  obtain ⟨xF124_0, xF124_1, xF124_2⟩ := F12.ce3
  go_wp2_with fail
  (with_reducible refine (hC _).mono ?_)
  rintro r w5 ⟨rfl, hb5⟩
  clear xF124_0 xF124_1 xF124_2
  replace F2 := F2.keep hb5
  replace F12 := F12.keep hb5
  replace B0 := B0.trans (hb5.mono B0.size)
  clear hb5
  obtain ⟨xF25_0, xF25_1, xF25_2⟩ := F2.ce3
  obtain ⟨xF25_0f, xF25_1f, xF25_2f⟩ := F2.fr3
  clear F12
  replace F2 : Blk ((((w5).setCell ⟨w.heap.size, 0, none⟩ (.bool false)).setCell ⟨w.heap.size, 1, none⟩ (.string { data := #[] })).setCell ⟨w.heap.size, 2, none⟩ (.int .i64 0)) (w.heap.size) #[.bool false, .string { data := #[] }, .int .i64 0] 24 := (((F2.setAt 0 (.bool false)).setAt 1 (.string { data := #[] })).setAt 2 (.int .i64 0))
  replace B0 := (((B0.setCell (p := ⟨w.heap.size, 0, none⟩) q_w_F2.out (.bool false)).setCell (p := ⟨w.heap.size, 1, none⟩) q_w_F2.out (.string { data := #[] })).setCell (p := ⟨w.heap.size, 2, none⟩) q_w_F2.out (.int .i64 0))
  obtain ⟨xF26_0, xF26_1, xF26_2⟩ := F2.ce3
  go_wp2
  exact bodyPost_ret (v := .tuple #[.agg #[.bool false, .string { data := #[] }, .int .i64 0], .int .i64 30]) (by simp [results, Tryz.results8, go_sem, xF26_0, xF26_1, xF26_2]) rfl ⟨rfl, B0⟩
set_option maxRecDepth 1000000 in
set_option maxHeartbeats 16000000 in
theorem dread_ne (s a p b n : ByteArray) (ng : Bool) (v : Int) (g : Int) (t : ByteArray) (w : World) (hs0 : (s.toList == [48]) = false)
    (hc : ∀ W, Calls Tryz.prog 27 #[.string s, .string { data := #[112] }] W fun r w' => r = .returned (.tuple #[.string a, .string p, .bool true]) ∧ Below W.heap.size W w')
    (hl : ¬ (49152 : Int) < (s.size : Int))
    (hp : ¬ (10 : Int) < (p.size : Int))
    (hx : ∀ W, Calls Tryz.prog 28 #[.string a, .string { data := #[45] }] W fun r w' => r = .returned (.tuple #[.string b, .bool ng]) ∧ Below W.heap.size W w')
    (hn : ∀ W, Calls Tryz.prog 29 #[.string b] W fun r w' => r = .returned (.tuple #[.string n, .int .i64 0]) ∧ Below W.heap.size W w')
    (hA : ∀ W, Below w.heap.size w W → Calls Tryz.prog 30 #[.string p] W fun r w' => r = .returned (.tuple #[.int .i64 v, .nilIface]) ∧ Below W.heap.size W w')
    (h0 : n.toList.isEmpty = false)
    (hC : ∀ W, Calls Tryz.prog 13 #[.agg #[.bool ng, .string n, .int .i64 v]] W fun r w' => r = .returned (.int .i64 0) ∧ Below W.heap.size W w')
    (hS : ∀ W, Below w.heap.size w W → Calls Tryz.prog 7 #[.agg #[.bool ng, .string n, .int .i64 v]] W fun r w' => r = .returned (.tuple #[.string t, .int .i64 g]) ∧ Below W.heap.size W w')
    (ht : (t.toList == s.toList) = false) :
    Calls Tryz.prog 8 #[.string s] w fun r w' => r = .returned (.tuple #[.agg #[.bool false, .string { data := #[] }, .int .i64 0], .int .i64 30]) ∧ Below w.heap.size w w' := by
  have h02 : ¬ n.toList = [] := fun h => by rw [h] at h0; exact Bool.noConfusion h0
  have h03 : (n.toList == []) = false := by simpa using h02
  go_enter Tryz.func8, Tryz.ntmps8
  have B0 := Below.refl w.heap.size w
  have q_w_F2 : Hid (w.heap.size ≤ w.heap.size) := Lib.hid (by omega)
  have F2 := Blk.put (w) #[.bool false, .string { data := #[] }, .int .i64 0] 24
  replace B0 := B0.alloc B0.size (.cells #[.bool false, .string { data := #[] }, .int .i64 0] 24)
  go_wp2_with fail
  (with_reducible refine (hc _).mono ?_)
  rintro r w1 ⟨rfl, hb1⟩
  replace F2 := F2.keep hb1
  replace B0 := B0.trans (hb1.mono B0.size)
  clear hb1
  go_wp2_with fail
  (with_reducible refine (hx _).mono ?_)
  rintro r w2 ⟨rfl, hb2⟩
  replace F2 := F2.keep hb2
  replace B0 := B0.trans (hb2.mono B0.size)
  clear hb2
  go_wp2_with fail
  (with_reducible refine (hn _).mono ?_)
  rintro r w3 ⟨rfl, hb3⟩
  replace F2 := F2.keep hb3
  replace B0 := B0.trans (hb3.mono B0.size)
  clear hb3
  go_wp2_with fail
  (with_reducible refine (hA _ B0).mono ?_)
  rintro r w4 ⟨rfl, hb4⟩
  replace F2 := F2.keep hb4
  replace B0 := B0.trans (hb4.mono B0.size)
  clear hb4
  replace F2 := F2.allocd (.cells #[.bool ng, .string n, .int .i64 v] 24)
  have F12 := Blk.put (w4) #[.bool ng, .string n, .int .i64 v] 24
  replace B0 := B0.alloc B0.size (.cells #[.bool ng, .string n, .int .i64 v] 24)
  obtain ⟨xF124_0, xF124_1, xF124_2⟩ := F12.ce3
  go_wp2_with fail
  (with_reducible refine (hC _).mono ?_)
  rintro r w5 ⟨rfl, hb5⟩
  clear xF124_0 xF124_1 xF124_2
  replace F2 := F2.keep hb5
  replace F12 := F12.keep hb5
  replace B0 := B0.trans (hb5.mono B0.size)
  clear hb5
  obtain ⟨xF125_0, xF125_1, xF125_2⟩ := F12.ce3
  go_wp2_with fail
  (with_reducible refine (hS _ B0).mono ?_)
  rintro r w6 ⟨rfl, hb6⟩
  clear xF125_0 xF125_1 xF125_2
  replace F2 := F2.keep hb6
  replace F12 := F12.keep hb6
  replace B0 := B0.trans (hb6.mono B0.size)
  clear hb6
  obtain ⟨xF26_0, xF26_1, xF26_2⟩ := F2.ce3
  obtain ⟨xF26_0f, xF26_1f, xF26_2f⟩ := F2.fr3
  clear F12
  replace F2 : Blk ((((w6).setCell ⟨w.heap.size, 0, none⟩ (.bool false)).setCell ⟨w.heap.size, 1, none⟩ (.string { data := #[] })).setCell ⟨w.heap.size, 2, none⟩ (.int .i64 0)) (w.heap.size) #[.bool false, .string { data := #[] }, .int .i64 0] 24 := (((F2.setAt 0 (.bool false)).setAt 1 (.string { data := #[] })).setAt 2 (.int .i64 0))
  replace B0 := (((B0.setCell (p := ⟨w.heap.size, 0, none⟩) q_w_F2.out (.bool false)).setCell (p := ⟨w.heap.size, 1, none⟩) q_w_F2.out (.string { data := #[] })).setCell (p := ⟨w.heap.size, 2, none⟩) q_w_F2.out (.int .i64 0))
  obtain ⟨xF27_0, xF27_1, xF27_2⟩ := F2.ce3
  go_wp2
  exact bodyPost_ret (v := .tuple #[.agg #[.bool false, .string { data := #[] }, .int .i64 0], .int .i64 30]) (by simp [results, Tryz.results8, go_sem, xF27_0, xF27_1, xF27_2]) rfl ⟨rfl, B0⟩
set_option maxRecDepth 1000000 in
set_option maxHeartbeats 16000000 in
theorem dread_ok (s a p b n : ByteArray) (ng : Bool) (v : Int) (g : Int) (w : World) (hs0 : (s.toList == [48]) = false)
    (hc : ∀ W, Calls Tryz.prog 27 #[.string s, .string { data := #[112] }] W fun r w' => r = .returned (.tuple #[.string a, .string p, .bool true]) ∧ Below W.heap.size W w')
    (hl : ¬ (49152 : Int) < (s.size : Int))
    (hp : ¬ (10 : Int) < (p.size : Int))
    (hx : ∀ W, Calls Tryz.prog 28 #[.string a, .string { data := #[45] }] W fun r w' => r = .returned (.tuple #[.string b, .bool ng]) ∧ Below W.heap.size W w')
    (hn : ∀ W, Calls Tryz.prog 29 #[.string b] W fun r w' => r = .returned (.tuple #[.string n, .int .i64 0]) ∧ Below W.heap.size W w')
    (hA : ∀ W, Below w.heap.size w W → Calls Tryz.prog 30 #[.string p] W fun r w' => r = .returned (.tuple #[.int .i64 v, .nilIface]) ∧ Below W.heap.size W w')
    (h0 : n.toList.isEmpty = false)
    (hC : ∀ W, Calls Tryz.prog 13 #[.agg #[.bool ng, .string n, .int .i64 v]] W fun r w' => r = .returned (.int .i64 0) ∧ Below W.heap.size W w')
    (hS : ∀ W, Below w.heap.size w W → Calls Tryz.prog 7 #[.agg #[.bool ng, .string n, .int .i64 v]] W fun r w' => r = .returned (.tuple #[.string s, .int .i64 g]) ∧ Below W.heap.size W w') :
    Calls Tryz.prog 8 #[.string s] w fun r w' => r = .returned (.tuple #[.agg #[.bool ng, .string n, .int .i64 v], .int .i64 0]) ∧ Below w.heap.size w w' := by
  have h02 : ¬ n.toList = [] := fun h => by rw [h] at h0; exact Bool.noConfusion h0
  have h03 : (n.toList == []) = false := by simpa using h02
  go_enter Tryz.func8, Tryz.ntmps8
  have B0 := Below.refl w.heap.size w
  have q_w_F2 : Hid (w.heap.size ≤ w.heap.size) := Lib.hid (by omega)
  have F2 := Blk.put (w) #[.bool false, .string { data := #[] }, .int .i64 0] 24
  replace B0 := B0.alloc B0.size (.cells #[.bool false, .string { data := #[] }, .int .i64 0] 24)
  go_wp2_with fail
  (with_reducible refine (hc _).mono ?_)
  rintro r w1 ⟨rfl, hb1⟩
  replace F2 := F2.keep hb1
  replace B0 := B0.trans (hb1.mono B0.size)
  clear hb1
  go_wp2_with fail
  (with_reducible refine (hx _).mono ?_)
  rintro r w2 ⟨rfl, hb2⟩
  replace F2 := F2.keep hb2
  replace B0 := B0.trans (hb2.mono B0.size)
  clear hb2
  go_wp2_with fail
  (with_reducible refine (hn _).mono ?_)
  rintro r w3 ⟨rfl, hb3⟩
  replace F2 := F2.keep hb3
  replace B0 := B0.trans (hb3.mono B0.size)
  clear hb3
  go_wp2_with fail
  (with_reducible refine (hA _ B0).mono ?_)
  rintro r w4 ⟨rfl, hb4⟩
  replace F2 := F2.keep hb4
  replace B0 := B0.trans (hb4.mono B0.size)
  clear hb4
  have q_F2_F12 : Hid (w.heap.size < w4.heap.size) := Lib.hid (by have := F2.lt; first | exact this | omega | (simp; done) | simpa using this)
  replace F2 := F2.allocd (.cells #[.bool ng, .string n, .int .i64 v] 24)
  have F12 := Blk.put (w4) #[.bool ng, .string n, .int .i64 v] 24
  replace B0 := B0.alloc B0.size (.cells #[.bool ng, .string n, .int .i64 v] 24)
  obtain ⟨xF124_0, xF124_1, xF124_2⟩ := F12.ce3
  go_wp2_with fail
  (with_reducible refine (hC _).mono ?_)
  rintro r w5 ⟨rfl, hb5⟩
  clear xF124_0 xF124_1 xF124_2
  replace F2 := F2.keep hb5
  replace F12 := F12.keep hb5
  replace B0 := B0.trans (hb5.mono B0.size)
  clear hb5
  obtain ⟨xF125_0, xF125_1, xF125_2⟩ := F12.ce3
  go_wp2_with fail
  (with_reducible refine (hS _ B0).mono ?_)
  rintro r w6 ⟨rfl, hb6⟩
  clear xF125_0 xF125_1 xF125_2
  replace F2 := F2.keep hb6
  replace F12 := F12.keep hb6
  replace B0 := B0.trans (hb6.mono B0.size)
  clear hb6
  obtain ⟨xF126_0, xF126_1, xF126_2⟩ := F12.ce3
  obtain ⟨xF26_0, xF26_1, xF26_2⟩ := F2.ce3
  obtain ⟨xF26_0f, xF26_1f, xF26_2f⟩ := F2.fr3
  replace F12 := (((F12.far 0 (.bool ng) (Nat.ne_of_gt q_F2_F12.out)).far 1 (.string n) (Nat.ne_of_gt q_F2_F12.out)).far 2 (.int .i64 v) (Nat.ne_of_gt q_F2_F12.out))
  replace F2 : Blk ((((w6).setCell ⟨w.heap.size, 0, none⟩ (.bool ng)).setCell ⟨w.heap.size, 1, none⟩ (.string n)).setCell ⟨w.heap.size, 2, none⟩ (.int .i64 v)) (w.heap.size) #[.bool ng, .string n, .int .i64 v] 24 := (((F2.setAt 0 (.bool ng)).setAt 1 (.string n)).setAt 2 (.int .i64 v))
  replace B0 := (((B0.setCell (p := ⟨w.heap.size, 0, none⟩) q_w_F2.out (.bool ng)).setCell (p := ⟨w.heap.size, 1, none⟩) q_w_F2.out (.string n)).setCell (p := ⟨w.heap.size, 2, none⟩) q_w_F2.out (.int .i64 v))
  obtain ⟨xF27_0, xF27_1, xF27_2⟩ := F2.ce3
  go_wp2
  exact bodyPost_ret (v := .tuple #[.agg #[.bool ng, .string n, .int .i64 v], .int .i64 0]) (by simp [results, Tryz.results8, go_sem, xF27_0, xF27_1, xF27_2]) rfl ⟨rfl, B0⟩
end Go.Proofs.YtjldfclncipbgaaGreatDoor
