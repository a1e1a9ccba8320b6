/- Walks of the layer of Gausses, by a program (walk.py): part H4. -/
import Derived.Test.YtfbkopepkklkjaaGreatDoorG3
namespace Go.Proofs.YtfbkopepkklkjaaGreatDoor
open Go Go.RowKit Go.PlainAid Fil

set_option maxRecDepth 10000 in
set_option maxHeartbeats 4000000 in
theorem qmay_any (n : Bool) (s : ByteArray) (e : Int) (m : Bool) (t : ByteArray) (f : Int) (w : World) (hs : s.size ≤ 9223372036854775807) (ht : t.size ≤ 9223372036854775807) :
    Calls Tryz.prog 17 #[.agg #[.bool n, .string s, .int .i64 e, .bool m, .string t, .int .i64 f]] w fun r w' => r = .returned (.bool (mayB n s e && mayB m t f)) ∧ Below w.heap.size w w' := by
  have h1 := fun W => rmay_any n s e W hs
  have h2 := fun W => rmay_any m t f W ht
  clear hs ht
  generalize mayB n s e = P at *
  generalize mayB m t f = Q at *
  cases P
  · rw [Bool.false_and]
    go_enter Tryz.func17, Tryz.ntmps17
    have B0 := Below.refl w.heap.size w
    have F1 := Blk.put (w) #[.bool n, .string s, .int .i64 e, .bool m, .string t, .int .i64 f] 28
    replace B0 := B0.alloc B0.size (.cells #[.bool n, .string s, .int .i64 e, .bool m, .string t, .int .i64 f] 28)
    obtain ⟨xF10_0, xF10_1, xF10_2, xF10_3, xF10_4, xF10_5⟩ := F1.ce6
    go_wp2_with fail
    (with_reducible refine (h1 _).mono ?_)
    rintro r w1 ⟨rfl, hb1⟩
    clear xF10_0 xF10_1 xF10_2 xF10_3 xF10_4 xF10_5
    replace F1 := F1.keep hb1
    replace B0 := B0.trans (hb1.mono B0.size)
    clear hb1
    go_wp2
    go_ret
    exact ⟨rfl, B0⟩
  · rw [Bool.true_and]
    go_enter Tryz.func17, Tryz.ntmps17
    have B0 := Below.refl w.heap.size w
    have F1 := Blk.put (w) #[.bool n, .string s, .int .i64 e, .bool m, .string t, .int .i64 f] 28
    replace B0 := B0.alloc B0.size (.cells #[.bool n, .string s, .int .i64 e, .bool m, .string t, .int .i64 f] 28)
    obtain ⟨xF10_0, xF10_1, xF10_2, xF10_3, xF10_4, xF10_5⟩ := F1.ce6
    go_wp2_with fail
    (with_reducible refine (h1 _).mono ?_)
    rintro r w1 ⟨rfl, hb1⟩
    clear xF10_0 xF10_1 xF10_2 xF10_3 xF10_4 xF10_5
    replace F1 := F1.keep hb1
    replace B0 := B0.trans (hb1.mono B0.size)
    clear hb1
    obtain ⟨xF11_0, xF11_1, xF11_2, xF11_3, xF11_4, xF11_5⟩ := F1.ce6
    go_wp2_with fail
    (with_reducible refine (h2 _).mono ?_)
    rintro r w2 ⟨rfl, hb2⟩
    clear xF11_0 xF11_1 xF11_2 xF11_3 xF11_4 xF11_5
    replace F1 := F1.keep hb2
    replace B0 := B0.trans (hb2.mono B0.size)
    clear hb2
    go_wp2
    go_ret
    exact ⟨rfl, B0⟩

end Go.Proofs.YtfbkopepkklkjaaGreatDoor
