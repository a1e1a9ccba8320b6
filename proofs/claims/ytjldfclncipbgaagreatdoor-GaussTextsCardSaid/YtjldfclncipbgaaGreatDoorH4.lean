/- Merged: HE H1 H2 H3 H4 -/
import Derived.Test.YtjldfclncipbgaaGreatDoorG4
import Derived.Test.YtjldfclncipbgaaGreatDoorU7
import Derived.Test.YtjldfclncipbgaaGreatDoorG3

/- Walks of the layer of Gausses, by a program (walk.py): part HE. -/
namespace Go.Proofs.YtjldfclncipbgaaGreatDoor
open Go Go.RowKit Go.PlainAid Fil

set_option maxHeartbeats 1000000 in
theorem l6all_any (b n c : Nat) (E : Nat → Int) (w : World) (hn : n ≤ 1000) (hc : ∀ i, i < n → w.cell? ⟨b, i, none⟩ = some (.int .i64 (E i))) :
    Calls Tryz.prog 22 #[.slice (some ⟨b, 0, none⟩) n c] w fun r w' => r = .returned (.bool (allB n fun i => E i == 0)) ∧ w = w' := by
  have g0 : 0 ≤ (n : Int) := by omega
  have g1 : (n : Int) ≤ 1000 := by omega
  have HC := Lib.hid hc
  clear hc
  go_enter Tryz.func22, Tryz.ntmps22
  go_wp2
  go_loopg [3] n (fun g s3 wr => w = wr ∧ ∃ i : Nat, i ≤ n ∧ g = n - i ∧ s3 = .int .i64 i ∧ ∀ j, j < i → (E j == 0) = true)
  case atStart => exact ⟨rfl, 0, by omega, by omega, rfl, fun j hj => absurd hj (by omega)⟩
  case round =>
    obtain ⟨rfl, i, hi, hg, rfl, hall⟩ := hrel
    have Hg := Lib.hid hg
    have Hall := Lib.hid hall
    clear hg hall
    by_cases hin : i < n
    · have k1 := HC.out i hin
      have q0 : 0 ≤ (i : Int) := by omega
      have q1 : (i : Int) < (n : Int) := by omega
      cases he : (E i == 0)
      · have he2 : (E i != 0) = true := by simp [bne, he]
        have He := Lib.hid he
        clear hi
        go_wp2
        go_ret
        exact ⟨ret_bool (by rw [allB_no hin He.out]), rfl⟩
      · have he2 : (E i != 0) = false := by simp [bne, he]
        have He := Lib.hid he
        clear hi
        go_wp2
        go_roundg (n - (i + 1))
        case measure => have := Hg.out; omega
        case rel => exact ⟨rfl, i + 1, by omega, rfl, by go_num, fun j hj => by
          by_cases e : j = i
          · subst e; exact He.out
          · exact Hall.out j (by omega)⟩
    · obtain rfl : i = n := by omega
      go_wp2
      go_ret
      exact ⟨ret_bool (by rw [allB_yes Hall.out]), rfl⟩

theorem l6all_2 (a b : Int) (Bk : Nat) (W : World) (h : W.heap.size = Bk) :
    Calls Tryz.prog 22 #[.slice (some ⟨Bk, 0, none⟩) 2 2] (W.alloc (.cells #[.int .i64 a, .int .i64 b] 25)) fun r w' => r = .returned (.bool (oks [a, b])) ∧ Below W.heap.size W w' := by
  subst h
  refine (l6all_any W.heap.size 2 2 (fun i => [a, b].getD i 0) _ (by omega) (fun i hi => new_ints W [a, b] i hi)).mono ?_
  rintro r w' ⟨rfl, rfl⟩
  exact ⟨rfl, (Below.refl _ _).alloc (Nat.le_refl _) _⟩

set_option maxRecDepth 10000 in
set_option maxHeartbeats 4000000 in
theorem l6same_yes (n : Bool) (s : ByteArray) (e : Int) (m : Bool) (t : ByteArray) (f : Int) (x : Int) (w : World) :
    Calls Tryz.prog 17 #[.agg #[.bool n, .string s, .int .i64 e, .bool m, .string t, .int .i64 f], .int .i64 x, .agg #[.bool n, .string s, .int .i64 e, .bool m, .string t, .int .i64 f], .int .i64 x] w fun r w' => r = .returned (.bool true) ∧ Below w.heap.size w w' := by
  go_enter Tryz.func17, Tryz.ntmps17
  have B0 := Below.refl w.heap.size w
  have F4 := Blk.put (w) #[.bool n, .string s, .int .i64 e, .bool m, .string t, .int .i64 f] 38
  replace B0 := B0.alloc B0.size (.cells #[.bool n, .string s, .int .i64 e, .bool m, .string t, .int .i64 f] 38)
  replace F4 := F4.allocd (.cells #[.bool n, .string s, .int .i64 e, .bool m, .string t, .int .i64 f] 38)
  have F6 := Blk.put ((w).alloc (.cells #[.bool n, .string s, .int .i64 e, .bool m, .string t, .int .i64 f] 38)) #[.bool n, .string s, .int .i64 e, .bool m, .string t, .int .i64 f] 38
  rw [show ((w).alloc (.cells #[.bool n, .string s, .int .i64 e, .bool m, .string t, .int .i64 f] 38)).heap.size = w.heap.size + 1 by simp] at F6
  replace B0 := B0.alloc B0.size (.cells #[.bool n, .string s, .int .i64 e, .bool m, .string t, .int .i64 f] 38)
  obtain ⟨xF40_0, xF40_1, xF40_2, xF40_3, xF40_4, xF40_5⟩ := F4.ce6
  obtain ⟨xF60_0, xF60_1, xF60_2, xF60_3, xF60_4, xF60_5⟩ := F6.ce6
  go_wp2
  go_ret
  exact ⟨rfl, B0⟩

theorem rcof (z f : Int) (w : World) (h0 : -9223372036854775808 ≤ z) (h1 : z ≤ 9223372036854775807) (he1 : -9223372036854775808 ≤ f) (he2 : f ≤ 9223372036854775807) :
    Calls Tryz.prog 70 #[.int .i64 z, .int .i64 f] w fun r w' => r = .returned (.tuple #[.agg #[.bool (mkD z f, mkR z f).1.n, .string (bstr (mkD z f, mkR z f).1.x), .int .i64 (mkD z f, mkR z f).1.e], .int .i64 (mkD z f, mkR z f).2]) ∧ Below w.heap.size w w' := rof2_any z f w h0 h1 he1 he2

set_option maxRecDepth 10000 in
set_option maxHeartbeats 4000000 in
theorem l6small_w (x y : Int) (p q : DY × Int) (w : World) (hx : (mkD x 0, mkR x 0) = p) (hy : (mkD y 0, mkR y 0) = q) (x0 : -9223372036854775808 ≤ x) (x1 : x ≤ 9223372036854775807) (y0 : -9223372036854775808 ≤ y) (y1 : y ≤ 9223372036854775807) :
    Calls Tryz.prog 40 #[.int .i64 x, .int .i64 y] w fun r w' => r = .returned (.agg #[.bool p.1.n, .string (bstr p.1.x), .int .i64 p.1.e, .bool q.1.n, .string (bstr q.1.x), .int .i64 q.1.e]) ∧ Below w.heap.size w w' := by
  have h1 := fun W => rcof x 0 W x0 x1 (by omega) (by omega)
  have h2 := fun W => rcof y 0 W y0 y1 (by omega) (by omega)
  rw [hx] at h1
  rw [hy] at h2
  clear hx hy x0 x1 y0 y1
  obtain ⟨⟨pn, pX, pe⟩, pr⟩ := p
  obtain ⟨⟨qn, qX, qe⟩, qr⟩ := q
  dsimp only at *
  generalize bstr pX = pS at *
  generalize bstr qX = qS at *
  go_enter Tryz.func40, Tryz.ntmps40
  have B0 := Below.refl w.heap.size w
  have q_w_F4 : Hid (w.heap.size ≤ w.heap.size) := Lib.hid (by omega)
  have F4 := Blk.put (w) #[.bool false, .string { data := #[] }, .int .i64 0, .bool false, .string { data := #[] }, .int .i64 0] 38
  replace B0 := B0.alloc B0.size (.cells #[.bool false, .string { data := #[] }, .int .i64 0, .bool false, .string { data := #[] }, .int .i64 0] 38)
  go_wp2_with fail
  (with_reducible refine (h1 _).mono ?_)
  rintro r w1 ⟨rfl, hb1⟩
  replace F4 := F4.keep hb1
  replace B0 := B0.trans (hb1.mono B0.size)
  clear hb1
  have q_F4_F5 : Hid (w.heap.size < w1.heap.size) := Lib.hid (by have := F4.lt; first | exact this | simpa using this | omega)
  replace F4 := F4.allocd (.cells #[.bool pn, .string pS, .int .i64 pe] 24)
  have F5 := Blk.put (w1) #[.bool pn, .string pS, .int .i64 pe] 24
  replace B0 := B0.alloc B0.size (.cells #[.bool pn, .string pS, .int .i64 pe] 24)
  go_wp2_with fail
  (with_reducible refine (h2 _).mono ?_)
  rintro r w2 ⟨rfl, hb2⟩
  replace F4 := F4.keep hb2
  replace F5 := F5.keep hb2
  replace B0 := B0.trans (hb2.mono B0.size)
  clear hb2
  have q_F4_F7 : Hid (w.heap.size < w2.heap.size) := Lib.hid (by have := F4.lt; first | exact this | simpa using this | omega)
  replace F4 := F4.allocd (.cells #[.bool qn, .string qS, .int .i64 qe] 24)
  replace F5 := F5.allocd (.cells #[.bool qn, .string qS, .int .i64 qe] 24)
  have F7 := Blk.put (w2) #[.bool qn, .string qS, .int .i64 qe] 24
  replace B0 := B0.alloc B0.size (.cells #[.bool qn, .string qS, .int .i64 qe] 24)
  obtain ⟨xF52_0, xF52_1, xF52_2⟩ := F5.ce3
  obtain ⟨xF72_0, xF72_1, xF72_2⟩ := F7.ce3
  obtain ⟨xF42_0, xF42_1, xF42_2, xF42_3, xF42_4, xF42_5⟩ := F4.ce6
  obtain ⟨xF42_0f, xF42_1f, xF42_2f, xF42_3f, xF42_4f, xF42_5f⟩ := F4.fr6
  replace F5 := ((((((F5.far 0 (.bool pn) (Nat.ne_of_gt q_F4_F5.out)).far 1 (.string pS) (Nat.ne_of_gt q_F4_F5.out)).far 2 (.int .i64 pe) (Nat.ne_of_gt q_F4_F5.out)).far 3 (.bool qn) (Nat.ne_of_gt q_F4_F5.out)).far 4 (.string qS) (Nat.ne_of_gt q_F4_F5.out)).far 5 (.int .i64 qe) (Nat.ne_of_gt q_F4_F5.out))
  replace F7 := ((((((F7.far 0 (.bool pn) (Nat.ne_of_gt q_F4_F7.out)).far 1 (.string pS) (Nat.ne_of_gt q_F4_F7.out)).far 2 (.int .i64 pe) (Nat.ne_of_gt q_F4_F7.out)).far 3 (.bool qn) (Nat.ne_of_gt q_F4_F7.out)).far 4 (.string qS) (Nat.ne_of_gt q_F4_F7.out)).far 5 (.int .i64 qe) (Nat.ne_of_gt q_F4_F7.out))
  replace F4 : Blk ((((((((w2).alloc (.cells #[.bool qn, .string qS, .int .i64 qe] 24)).setCell ⟨w.heap.size, 0, none⟩ (.bool pn)).setCell ⟨w.heap.size, 1, none⟩ (.string pS)).setCell ⟨w.heap.size, 2, none⟩ (.int .i64 pe)).setCell ⟨w.heap.size, 3, none⟩ (.bool qn)).setCell ⟨w.heap.size, 4, none⟩ (.string qS)).setCell ⟨w.heap.size, 5, none⟩ (.int .i64 qe)) (w.heap.size) #[.bool pn, .string pS, .int .i64 pe, .bool qn, .string qS, .int .i64 qe] 38 := ((((((F4.setAt 0 (.bool pn)).setAt 1 (.string pS)).setAt 2 (.int .i64 pe)).setAt 3 (.bool qn)).setAt 4 (.string qS)).setAt 5 (.int .i64 qe))
  replace B0 := ((((((B0.setCell (p := ⟨w.heap.size, 0, none⟩) q_w_F4.out (.bool pn)).setCell (p := ⟨w.heap.size, 1, none⟩) q_w_F4.out (.string pS)).setCell (p := ⟨w.heap.size, 2, none⟩) q_w_F4.out (.int .i64 pe)).setCell (p := ⟨w.heap.size, 3, none⟩) q_w_F4.out (.bool qn)).setCell (p := ⟨w.heap.size, 4, none⟩) q_w_F4.out (.string qS)).setCell (p := ⟨w.heap.size, 5, none⟩) q_w_F4.out (.int .i64 qe))
  obtain ⟨xF43_0, xF43_1, xF43_2, xF43_3, xF43_4, xF43_5⟩ := F4.ce6
  go_wp2
  exact bodyPost_ret (v := .agg #[.bool pn, .string pS, .int .i64 pe, .bool qn, .string qS, .int .i64 qe]) (by simp [results, Tryz.results40, go_sem, xF43_0, xF43_1, xF43_2, xF43_3, xF43_4, xF43_5]) rfl ⟨rfl, B0⟩

end Go.Proofs.YtjldfclncipbgaaGreatDoor

/- Walks of the layer of Gausses, by a program (walk.py): part H1. -/
namespace Go.Proofs.YtjldfclncipbgaaGreatDoor
open Go Go.RowKit Go.PlainAid Fil

end Go.Proofs.YtjldfclncipbgaaGreatDoor

/- Walks of the layer of Gausses, by a program (walk.py): part H2. -/
namespace Go.Proofs.YtjldfclncipbgaaGreatDoor
open Go Go.RowKit Go.PlainAid Fil

end Go.Proofs.YtjldfclncipbgaaGreatDoor

/- Walks of the layer of Gausses, by a program (walk.py): part H3. -/
namespace Go.Proofs.YtjldfclncipbgaaGreatDoor
open Go Go.RowKit Go.PlainAid Fil

end Go.Proofs.YtjldfclncipbgaaGreatDoor

/- Walks of the layer of Gausses, by a program (walk.py): part H4. -/
namespace Go.Proofs.YtjldfclncipbgaaGreatDoor
open Go Go.RowKit Go.PlainAid Fil

set_option maxRecDepth 10000 in
set_option maxHeartbeats 4000000 in
theorem qmay_any (n : Bool) (s : ByteArray) (e : Int) (m : Bool) (t : ByteArray) (f : Int) (w : World) (hs : s.size ≤ 9223372036854775807) (ht : t.size ≤ 9223372036854775807) :
    Calls Tryz.prog 18 #[.agg #[.bool n, .string s, .int .i64 e, .bool m, .string t, .int .i64 f]] w fun r w' => r = .returned (.bool (mayB n s e && mayB m t f)) ∧ Below w.heap.size w w' := by
  have h1 := fun W => rmay_any n s e W hs
  have h2 := fun W => rmay_any m t f W ht
  clear hs ht
  generalize mayB n s e = P at *
  generalize mayB m t f = Q at *
  cases P
  · rw [Bool.false_and]
    go_enter Tryz.func18, Tryz.ntmps18
    have B0 := Below.refl w.heap.size w
    have F1 := Blk.put (w) #[.bool n, .string s, .int .i64 e, .bool m, .string t, .int .i64 f] 38
    replace B0 := B0.alloc B0.size (.cells #[.bool n, .string s, .int .i64 e, .bool m, .string t, .int .i64 f] 38)
    obtain ⟨xF10_0, xF10_1, xF10_2, xF10_3, xF10_4, xF10_5⟩ := F1.ce6
    go_wp2_with fail
    (with_reducible refine (h1 _).mono ?_)
    rintro r w1 ⟨rfl, hb1⟩
    clear xF10_0 xF10_1 xF10_2 xF10_3 xF10_4 xF10_5
    replace F1 := F1.keep hb1
    replace B0 := B0.trans (hb1.mono B0.size)
    clear hb1
    go_wp2
    go_ret
    exact ⟨rfl, B0⟩
  · rw [Bool.true_and]
    go_enter Tryz.func18, Tryz.ntmps18
    have B0 := Below.refl w.heap.size w
    have F1 := Blk.put (w) #[.bool n, .string s, .int .i64 e, .bool m, .string t, .int .i64 f] 38
    replace B0 := B0.alloc B0.size (.cells #[.bool n, .string s, .int .i64 e, .bool m, .string t, .int .i64 f] 38)
    obtain ⟨xF10_0, xF10_1, xF10_2, xF10_3, xF10_4, xF10_5⟩ := F1.ce6
    go_wp2_with fail
    (with_reducible refine (h1 _).mono ?_)
    rintro r w1 ⟨rfl, hb1⟩
    clear xF10_0 xF10_1 xF10_2 xF10_3 xF10_4 xF10_5
    replace F1 := F1.keep hb1
    replace B0 := B0.trans (hb1.mono B0.size)
    clear hb1
    obtain ⟨xF11_0, xF11_1, xF11_2, xF11_3, xF11_4, xF11_5⟩ := F1.ce6
    go_wp2_with fail
    (with_reducible refine (h2 _).mono ?_)
    rintro r w2 ⟨rfl, hb2⟩
    clear xF11_0 xF11_1 xF11_2 xF11_3 xF11_4 xF11_5
    replace F1 := F1.keep hb2
    replace B0 := B0.trans (hb2.mono B0.size)
    clear hb2
    go_wp2
    go_ret
    exact ⟨rfl, B0⟩

end Go.Proofs.YtjldfclncipbgaaGreatDoor
