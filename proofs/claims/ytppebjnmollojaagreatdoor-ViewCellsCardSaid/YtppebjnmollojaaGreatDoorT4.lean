/- view.Find where the window, or the number, may not be; filigreelaw24.ViewCells: the walks, over letters. -/
import Derived.Test.YtppebjnmollojaaGreatDoorQ3
import Derived.Test.YtppebjnmollojaaGreatDoorQA
namespace Go.Proofs.YtppebjnmollojaaGreatDoor
open Go Go.RowKit Go.PlainAid Fil


set_option maxRecDepth 10000 in
set_option maxHeartbeats 4000000 in
theorem vfind_badw (g : GR) (e : Int) (a : Int) (d : Int) (j : GR) (w : World) (ok_g : g.fit) (h : winB g e a d = false) :
    Calls Tryz.prog 11 #[.agg #[.bool g.n, .string g.s, .int .i64 g.e, .bool g.m, .string g.t, .int .i64 g.f, .int .i64 e, .int .i64 a, .int .i64 d], .agg #[.bool j.n, .string j.s, .int .i64 j.e, .bool j.m, .string j.t, .int .i64 j.f]] w fun r w' => r = .returned (.tuple #[.int .i64 0, .int .i64 0, .int .i64 240]) ∧ Below w.heap.size w w' := by
  have h1 := fun W => vcheck_any g e a d W ok_g
  rw [if_neg (by rw [h]; decide)] at h1
  clear ok_g
  obtain ⟨gn, gS, ge, gm, gT, gf⟩ := g
  obtain ⟨jn, jS, je, jm, jT, jf⟩ := j
  dsimp only at *
  clear h
  go_enter Tryz.func11, Tryz.ntmps11
  have B0 := Below.refl w.heap.size w
  have F2 := Blk.put (w) #[.bool gn, .string gS, .int .i64 ge, .bool gm, .string gT, .int .i64 gf, .int .i64 e, .int .i64 a, .int .i64 d] 28
  replace B0 := B0.alloc B0.size (.cells #[.bool gn, .string gS, .int .i64 ge, .bool gm, .string gT, .int .i64 gf, .int .i64 e, .int .i64 a, .int .i64 d] 28)
  replace F2 := F2.allocd (.cells #[.bool jn, .string jS, .int .i64 je, .bool jm, .string jT, .int .i64 jf] 26)
  replace B0 := B0.alloc B0.size (.cells #[.bool jn, .string jS, .int .i64 je, .bool jm, .string jT, .int .i64 jf] 26)
  obtain ⟨xF20_0, xF20_1, xF20_2, xF20_3, xF20_4, xF20_5, xF20_6, xF20_7, xF20_8⟩ := F2.ce9
  go_wp2_with fail
  (with_reducible refine (h1 _).mono ?_)
  rintro r w1 ⟨rfl, hb1⟩
  clear xF20_0 xF20_1 xF20_2 xF20_3 xF20_4 xF20_5 xF20_6 xF20_7 xF20_8
  replace F2 := F2.keep hb1
  replace B0 := B0.trans (hb1.mono B0.size)
  clear hb1
  go_wp2
  go_ret3
  exact ⟨rfl, B0⟩

set_option maxRecDepth 10000 in
set_option maxHeartbeats 4000000 in
theorem vfind_badg (g : GY) (e : Int) (a : Int) (d : Int) (j : GR) (w : World) (ok_g : g.ok) (ok_j : j.fit) (e1 : -4096 ≤ e) (e2 : e ≤ 4096) (a1 : 1 ≤ a) (a2 : a ≤ 65536) (d1 : 1 ≤ d) (d2 : d ≤ 65536) (h : j.may = false) :
    Calls Tryz.prog 11 #[.agg #[.bool g.re.n, .string (bstr g.re.x), .int .i64 g.re.e, .bool g.im.n, .string (bstr g.im.x), .int .i64 g.im.e, .int .i64 e, .int .i64 a, .int .i64 d], .agg #[.bool j.n, .string j.s, .int .i64 j.e, .bool j.m, .string j.t, .int .i64 j.f]] w fun r w' => r = .returned (.tuple #[.int .i64 0, .int .i64 0, .int .i64 2]) ∧ Below w.heap.size w w' := by
  have h1 := fun W => vcheck_ok g e a d W ok_g e1 e2 a1 a2 d1 d2
  have h2 := fun W => gcheck_any j.n j.s j.e j.m j.t j.f W ok_j.1 ok_j.2
  rw [show (mayB j.n j.s j.e && mayB j.m j.t j.f) = false from h, okE_f] at h2
  clear ok_g ok_j
  obtain ⟨⟨gn, gX, ge⟩, ⟨gm, gY, gf⟩⟩ := g
  obtain ⟨jn, jS, je, jm, jT, jf⟩ := j
  dsimp only at *
  generalize bstr gX = gS at *
  generalize bstr gY = gT at *
  clear h e1 e2 a1 a2 d1 d2
  go_enter Tryz.func11, Tryz.ntmps11
  have B0 := Below.refl w.heap.size w
  have F2 := Blk.put (w) #[.bool gn, .string gS, .int .i64 ge, .bool gm, .string gT, .int .i64 gf, .int .i64 e, .int .i64 a, .int .i64 d] 28
  replace B0 := B0.alloc B0.size (.cells #[.bool gn, .string gS, .int .i64 ge, .bool gm, .string gT, .int .i64 gf, .int .i64 e, .int .i64 a, .int .i64 d] 28)
  replace F2 := F2.allocd (.cells #[.bool jn, .string jS, .int .i64 je, .bool jm, .string jT, .int .i64 jf] 26)
  have F3 := Blk.put ((w).alloc (.cells #[.bool gn, .string gS, .int .i64 ge, .bool gm, .string gT, .int .i64 gf, .int .i64 e, .int .i64 a, .int .i64 d] 28)) #[.bool jn, .string jS, .int .i64 je, .bool jm, .string jT, .int .i64 jf] 26
  rw [show ((w).alloc (.cells #[.bool gn, .string gS, .int .i64 ge, .bool gm, .string gT, .int .i64 gf, .int .i64 e, .int .i64 a, .int .i64 d] 28)).heap.size = w.heap.size + 1 by simp] at F3
  replace B0 := B0.alloc B0.size (.cells #[.bool jn, .string jS, .int .i64 je, .bool jm, .string jT, .int .i64 jf] 26)
  obtain ⟨xF20_0, xF20_1, xF20_2, xF20_3, xF20_4, xF20_5, xF20_6, xF20_7, xF20_8⟩ := F2.ce9
  go_wp2_with fail
  (with_reducible refine (h1 _).mono ?_)
  rintro r w1 ⟨rfl, hb1⟩
  clear xF20_0 xF20_1 xF20_2 xF20_3 xF20_4 xF20_5 xF20_6 xF20_7 xF20_8
  replace F2 := F2.keep hb1
  replace F3 := F3.keep hb1
  replace B0 := B0.trans (hb1.mono B0.size)
  clear hb1
  obtain ⟨xF31_0, xF31_1, xF31_2, xF31_3, xF31_4, xF31_5⟩ := F3.ce6
  go_wp2_with fail
  (with_reducible refine (h2 _).mono ?_)
  rintro r w2 ⟨rfl, hb2⟩
  clear xF31_0 xF31_1 xF31_2 xF31_3 xF31_4 xF31_5
  clear F2
  replace F3 := F3.keep hb2
  replace B0 := B0.trans (hb2.mono B0.size)
  clear hb2
  go_wp2
  go_ret3
  exact ⟨rfl, B0⟩

set_option maxRecDepth 1000000 in
set_option maxHeartbeats 16000000 in
theorem cells_1 (c r e a d : Int) (gn : Bool) (gS : ByteArray) (ge : Int) (hn : Bool) (hS : ByteArray) (he : Int) (jn : Bool) (jS : ByteArray) (je : Int) (mn : Bool) (mS : ByteArray) (me : Int) (w : World) (hcell : ∀ W : World, Tab W → Calls Tryz.prog 10 #[.agg #[.bool gn, .string gS, .int .i64 ge, .bool hn, .string hS, .int .i64 he, .int .i64 e, .int .i64 a, .int .i64 d], .int .i64 c, .int .i64 r] W fun r w' => r = .returned (.tuple #[.agg #[.bool false, .string { data := #[] }, .int .i64 0, .bool false, .string { data := #[] }, .int .i64 0, .int .i64 0], .int .i64 240]) ∧ Below W.heap.size W w') (hfind : ∀ W : World, Tab W → Calls Tryz.prog 11 #[.agg #[.bool gn, .string gS, .int .i64 ge, .bool hn, .string hS, .int .i64 he, .int .i64 e, .int .i64 a, .int .i64 d], .agg #[.bool jn, .string jS, .int .i64 je, .bool mn, .string mS, .int .i64 me]] W fun r w' => r = .returned (.tuple #[.int .i64 0, .int .i64 0, .int .i64 240]) ∧ Below W.heap.size W w') (hmay : ∀ W : World, Calls Tryz.prog 12 #[.agg #[.bool gn, .string gS, .int .i64 ge, .bool hn, .string hS, .int .i64 he, .int .i64 e, .int .i64 a, .int .i64 d]] W fun r w' => r = .returned (.bool false) ∧ Below W.heap.size W w') (hT : Tab w) :
    Calls Tryz.prog 3 #[.agg #[.bool gn, .string gS, .int .i64 ge, .bool hn, .string hS, .int .i64 he, .int .i64 e, .int .i64 a, .int .i64 d], .int .i64 c, .int .i64 r, .agg #[.bool jn, .string jS, .int .i64 je, .bool mn, .string mS, .int .i64 me]] w fun r' w' => r' = .returned (.bool true) ∧ Below w.heap.size w w' := by
  have aw := fun W hW => awake24 W hW
  go_enter Tryz.func3, Tryz.ntmps3
  have B0 := Below.refl w.heap.size w
  have F4 := Blk.put (w) #[.bool gn, .string gS, .int .i64 ge, .bool hn, .string hS, .int .i64 he, .int .i64 e, .int .i64 a, .int .i64 d] 28
  replace B0 := B0.alloc B0.size (.cells #[.bool gn, .string gS, .int .i64 ge, .bool hn, .string hS, .int .i64 he, .int .i64 e, .int .i64 a, .int .i64 d] 28)
  replace F4 := F4.allocd (.cells #[.bool jn, .string jS, .int .i64 je, .bool mn, .string mS, .int .i64 me] 26)
  have F7 := Blk.put ((w).alloc (.cells #[.bool gn, .string gS, .int .i64 ge, .bool hn, .string hS, .int .i64 he, .int .i64 e, .int .i64 a, .int .i64 d] 28)) #[.bool jn, .string jS, .int .i64 je, .bool mn, .string mS, .int .i64 me] 26
  rw [show ((w).alloc (.cells #[.bool gn, .string gS, .int .i64 ge, .bool hn, .string hS, .int .i64 he, .int .i64 e, .int .i64 a, .int .i64 d] 28)).heap.size = w.heap.size + 1 by simp] at F7
  replace B0 := B0.alloc B0.size (.cells #[.bool jn, .string jS, .int .i64 je, .bool mn, .string mS, .int .i64 me] 26)
  obtain ⟨xF40_0, xF40_1, xF40_2, xF40_3, xF40_4, xF40_5, xF40_6, xF40_7, xF40_8⟩ := F4.ce9
  go_wp2_with fail
  (with_reducible refine (hcell _ (hT.below B0)).mono ?_)
  rintro r w1 ⟨rfl, hb1⟩
  clear xF40_0 xF40_1 xF40_2 xF40_3 xF40_4 xF40_5 xF40_6 xF40_7 xF40_8
  replace F4 := F4.keep hb1
  replace F7 := F7.keep hb1
  replace B0 := B0.trans (hb1.mono B0.size)
  clear hb1
  replace F4 := F4.allocd (.cells #[.bool false, .string { data := #[] }, .int .i64 0, .bool false, .string { data := #[] }, .int .i64 0, .int .i64 0] 30)
  replace F7 := F7.allocd (.cells #[.bool false, .string { data := #[] }, .int .i64 0, .bool false, .string { data := #[] }, .int .i64 0, .int .i64 0] 30)
  have F9 := Blk.put (w1) #[.bool false, .string { data := #[] }, .int .i64 0, .bool false, .string { data := #[] }, .int .i64 0, .int .i64 0] 30
  replace B0 := B0.alloc B0.size (.cells #[.bool false, .string { data := #[] }, .int .i64 0, .bool false, .string { data := #[] }, .int .i64 0, .int .i64 0] 30)
  obtain ⟨xF41_0, xF41_1, xF41_2, xF41_3, xF41_4, xF41_5, xF41_6, xF41_7, xF41_8⟩ := F4.ce9
  obtain ⟨xF71_0, xF71_1, xF71_2, xF71_3, xF71_4, xF71_5⟩ := F7.ce6
  go_wp2_with fail
  (with_reducible refine (hfind _ (hT.below B0)).mono ?_)
  rintro r w2 ⟨rfl, hb2⟩
  clear xF41_0 xF41_1 xF41_2 xF41_3 xF41_4 xF41_5 xF41_6 xF41_7 xF41_8 xF71_0 xF71_1 xF71_2 xF71_3 xF71_4 xF71_5
  replace F4 := F4.keep hb2
  replace F7 := F7.keep hb2
  replace F9 := F9.keep hb2
  replace B0 := B0.trans (hb2.mono B0.size)
  clear hb2
  obtain ⟨xF42_0, xF42_1, xF42_2, xF42_3, xF42_4, xF42_5, xF42_6, xF42_7, xF42_8⟩ := F4.ce9
  go_wp2_with fail
  (with_reducible refine (hmay _).mono ?_)
  rintro r w3 ⟨rfl, hb3⟩
  clear xF42_0 xF42_1 xF42_2 xF42_3 xF42_4 xF42_5 xF42_6 xF42_7 xF42_8
  replace F4 := F4.keep hb3
  clear F7
  replace F9 := F9.keep hb3
  replace B0 := B0.trans (hb3.mono B0.size)
  clear hb3
  obtain ⟨xF93_0, xF93_1, xF93_2, xF93_3, xF93_4, xF93_5, xF93_6⟩ := F9.ce7
  go_wp2_with fail
  (with_reducible refine (aw _ (hT.below B0)).mono ?_)
  rintro r w4 ⟨rfl, hb4⟩
  clear xF93_0 xF93_1 xF93_2 xF93_3 xF93_4 xF93_5 xF93_6
  clear F4
  replace F9 := F9.keep hb4
  replace B0 := B0.trans (hb4.mono B0.size)
  clear hb4
  go_wp2
  go_ret
  exact ⟨rfl, B0⟩

set_option maxRecDepth 1000000 in
set_option maxHeartbeats 16000000 in
theorem cells_2 (c r e a d sE er : Int) (gn : Bool) (gS : ByteArray) (ge : Int) (hn : Bool) (hS : ByteArray) (he : Int) (jn : Bool) (jS : ByteArray) (je : Int) (mn : Bool) (mS : ByteArray) (me : Int) (ln : Bool) (lS : ByteArray) (le : Int) (bn : Bool) (bS : ByteArray) (be : Int) (w : World) (hcell : ∀ W : World, Tab W → Calls Tryz.prog 10 #[.agg #[.bool gn, .string gS, .int .i64 ge, .bool hn, .string hS, .int .i64 he, .int .i64 e, .int .i64 a, .int .i64 d], .int .i64 c, .int .i64 r] W fun r w' => r = .returned (.tuple #[.agg #[.bool ln, .string lS, .int .i64 le, .bool bn, .string bS, .int .i64 be, .int .i64 sE], .int .i64 er]) ∧ Below W.heap.size W w') (hfind : ∀ W : World, Tab W → Calls Tryz.prog 11 #[.agg #[.bool gn, .string gS, .int .i64 ge, .bool hn, .string hS, .int .i64 he, .int .i64 e, .int .i64 a, .int .i64 d], .agg #[.bool jn, .string jS, .int .i64 je, .bool mn, .string mS, .int .i64 me]] W fun r w' => r = .returned (.tuple #[.int .i64 0, .int .i64 0, .int .i64 2]) ∧ Below W.heap.size W w') (hmay : ∀ W : World, Calls Tryz.prog 12 #[.agg #[.bool gn, .string gS, .int .i64 ge, .bool hn, .string hS, .int .i64 he, .int .i64 e, .int .i64 a, .int .i64 d]] W fun r w' => r = .returned (.bool true) ∧ Below W.heap.size W w') (hrc : ∀ W : World, Calls Tryz.prog 14 #[.agg #[.bool gn, .string gS, .int .i64 ge, .bool hn, .string hS, .int .i64 he, .int .i64 e, .int .i64 a, .int .i64 d], .int .i64 c, .int .i64 r] W fun r w' => r = .returned (.tuple #[.agg #[.bool ln, .string lS, .int .i64 le, .bool bn, .string bS, .int .i64 be, .int .i64 sE], .int .i64 er]) ∧ Below W.heap.size W w') (hga : ∀ W : World, Calls Tryz.prog 15 #[.agg #[.bool jn, .string jS, .int .i64 je, .bool mn, .string mS, .int .i64 me]] W fun r w' => r = .returned (.bool false) ∧ Below W.heap.size W w') (hT : Tab w) :
    Calls Tryz.prog 3 #[.agg #[.bool gn, .string gS, .int .i64 ge, .bool hn, .string hS, .int .i64 he, .int .i64 e, .int .i64 a, .int .i64 d], .int .i64 c, .int .i64 r, .agg #[.bool jn, .string jS, .int .i64 je, .bool mn, .string mS, .int .i64 me]] w fun r' w' => r' = .returned (.bool true) ∧ Below w.heap.size w w' := by
  have aw := fun W hW => awake24 W hW
  go_enter Tryz.func3, Tryz.ntmps3
  have B0 := Below.refl w.heap.size w
  have F4 := Blk.put (w) #[.bool gn, .string gS, .int .i64 ge, .bool hn, .string hS, .int .i64 he, .int .i64 e, .int .i64 a, .int .i64 d] 28
  replace B0 := B0.alloc B0.size (.cells #[.bool gn, .string gS, .int .i64 ge, .bool hn, .string hS, .int .i64 he, .int .i64 e, .int .i64 a, .int .i64 d] 28)
  replace F4 := F4.allocd (.cells #[.bool jn, .string jS, .int .i64 je, .bool mn, .string mS, .int .i64 me] 26)
  have F7 := Blk.put ((w).alloc (.cells #[.bool gn, .string gS, .int .i64 ge, .bool hn, .string hS, .int .i64 he, .int .i64 e, .int .i64 a, .int .i64 d] 28)) #[.bool jn, .string jS, .int .i64 je, .bool mn, .string mS, .int .i64 me] 26
  rw [show ((w).alloc (.cells #[.bool gn, .string gS, .int .i64 ge, .bool hn, .string hS, .int .i64 he, .int .i64 e, .int .i64 a, .int .i64 d] 28)).heap.size = w.heap.size + 1 by simp] at F7
  replace B0 := B0.alloc B0.size (.cells #[.bool jn, .string jS, .int .i64 je, .bool mn, .string mS, .int .i64 me] 26)
  obtain ⟨xF40_0, xF40_1, xF40_2, xF40_3, xF40_4, xF40_5, xF40_6, xF40_7, xF40_8⟩ := F4.ce9
  go_wp2_with fail
  (with_reducible refine (hcell _ (hT.below B0)).mono ?_)
  rintro r w1 ⟨rfl, hb1⟩
  clear xF40_0 xF40_1 xF40_2 xF40_3 xF40_4 xF40_5 xF40_6 xF40_7 xF40_8
  replace F4 := F4.keep hb1
  replace F7 := F7.keep hb1
  replace B0 := B0.trans (hb1.mono B0.size)
  clear hb1
  replace F4 := F4.allocd (.cells #[.bool ln, .string lS, .int .i64 le, .bool bn, .string bS, .int .i64 be, .int .i64 sE] 30)
  replace F7 := F7.allocd (.cells #[.bool ln, .string lS, .int .i64 le, .bool bn, .string bS, .int .i64 be, .int .i64 sE] 30)
  have F9 := Blk.put (w1) #[.bool ln, .string lS, .int .i64 le, .bool bn, .string bS, .int .i64 be, .int .i64 sE] 30
  replace B0 := B0.alloc B0.size (.cells #[.bool ln, .string lS, .int .i64 le, .bool bn, .string bS, .int .i64 be, .int .i64 sE] 30)
  obtain ⟨xF41_0, xF41_1, xF41_2, xF41_3, xF41_4, xF41_5, xF41_6, xF41_7, xF41_8⟩ := F4.ce9
  obtain ⟨xF71_0, xF71_1, xF71_2, xF71_3, xF71_4, xF71_5⟩ := F7.ce6
  go_wp2_with fail
  (with_reducible refine (hfind _ (hT.below B0)).mono ?_)
  rintro r w2 ⟨rfl, hb2⟩
  clear xF41_0 xF41_1 xF41_2 xF41_3 xF41_4 xF41_5 xF41_6 xF41_7 xF41_8 xF71_0 xF71_1 xF71_2 xF71_3 xF71_4 xF71_5
  replace F4 := F4.keep hb2
  replace F7 := F7.keep hb2
  replace F9 := F9.keep hb2
  replace B0 := B0.trans (hb2.mono B0.size)
  clear hb2
  obtain ⟨xF42_0, xF42_1, xF42_2, xF42_3, xF42_4, xF42_5, xF42_6, xF42_7, xF42_8⟩ := F4.ce9
  go_wp2_with fail
  (with_reducible refine (hmay _).mono ?_)
  rintro r w3 ⟨rfl, hb3⟩
  clear xF42_0 xF42_1 xF42_2 xF42_3 xF42_4 xF42_5 xF42_6 xF42_7 xF42_8
  replace F4 := F4.keep hb3
  replace F7 := F7.keep hb3
  replace F9 := F9.keep hb3
  replace B0 := B0.trans (hb3.mono B0.size)
  clear hb3
  obtain ⟨xF43_0, xF43_1, xF43_2, xF43_3, xF43_4, xF43_5, xF43_6, xF43_7, xF43_8⟩ := F4.ce9
  go_wp2_with fail
  (with_reducible refine (hrc _).mono ?_)
  rintro r w4 ⟨rfl, hb4⟩
  clear xF43_0 xF43_1 xF43_2 xF43_3 xF43_4 xF43_5 xF43_6 xF43_7 xF43_8
  replace F4 := F4.keep hb4
  replace F7 := F7.keep hb4
  replace F9 := F9.keep hb4
  replace B0 := B0.trans (hb4.mono B0.size)
  clear hb4
  clear F4
  replace F7 := F7.allocd (.cells #[.bool ln, .string lS, .int .i64 le, .bool bn, .string bS, .int .i64 be, .int .i64 sE] 30)
  replace F9 := F9.allocd (.cells #[.bool ln, .string lS, .int .i64 le, .bool bn, .string bS, .int .i64 be, .int .i64 sE] 30)
  have F14 := Blk.put (w4) #[.bool ln, .string lS, .int .i64 le, .bool bn, .string bS, .int .i64 be, .int .i64 sE] 30
  replace B0 := B0.alloc B0.size (.cells #[.bool ln, .string lS, .int .i64 le, .bool bn, .string bS, .int .i64 be, .int .i64 sE] 30)
  obtain ⟨xF94_0, xF94_1, xF94_2, xF94_3, xF94_4, xF94_5, xF94_6⟩ := F9.ce7
  obtain ⟨xF144_0, xF144_1, xF144_2, xF144_3, xF144_4, xF144_5, xF144_6⟩ := F14.ce7
  obtain ⟨xF74_0, xF74_1, xF74_2, xF74_3, xF74_4, xF74_5⟩ := F7.ce6
  go_wp2_with fail
  (with_reducible refine (hga _).mono ?_)
  rintro r w5 ⟨rfl, hb5⟩
  clear xF94_0 xF94_1 xF94_2 xF94_3 xF94_4 xF94_5 xF94_6 xF144_0 xF144_1 xF144_2 xF144_3 xF144_4 xF144_5 xF144_6 xF74_0 xF74_1 xF74_2 xF74_3 xF74_4 xF74_5
  replace F7 := F7.keep hb5
  replace F9 := F9.keep hb5
  replace F14 := F14.keep hb5
  replace B0 := B0.trans (hb5.mono B0.size)
  clear hb5
  go_wp2_with fail
  (with_reducible refine (aw _ (hT.below B0)).mono ?_)
  rintro r w6 ⟨rfl, hb6⟩
  clear F7
  clear F9
  clear F14
  replace B0 := B0.trans (hb6.mono B0.size)
  clear hb6
  go_wp2
  go_ret
  exact ⟨rfl, B0⟩

set_option maxRecDepth 1000000 in
set_option maxHeartbeats 16000000 in
theorem cells_3 (c r e a d sE er X Y ef : Int) (gn : Bool) (gS : ByteArray) (ge : Int) (hn : Bool) (hS : ByteArray) (he : Int) (jn : Bool) (jS : ByteArray) (je : Int) (mn : Bool) (mS : ByteArray) (me : Int) (ln : Bool) (lS : ByteArray) (le : Int) (bn : Bool) (bS : ByteArray) (be : Int) (w : World) (hcell : ∀ W : World, Tab W → Calls Tryz.prog 10 #[.agg #[.bool gn, .string gS, .int .i64 ge, .bool hn, .string hS, .int .i64 he, .int .i64 e, .int .i64 a, .int .i64 d], .int .i64 c, .int .i64 r] W fun r w' => r = .returned (.tuple #[.agg #[.bool ln, .string lS, .int .i64 le, .bool bn, .string bS, .int .i64 be, .int .i64 sE], .int .i64 er]) ∧ Below W.heap.size W w') (hfind : ∀ W : World, Tab W → Calls Tryz.prog 11 #[.agg #[.bool gn, .string gS, .int .i64 ge, .bool hn, .string hS, .int .i64 he, .int .i64 e, .int .i64 a, .int .i64 d], .agg #[.bool jn, .string jS, .int .i64 je, .bool mn, .string mS, .int .i64 me]] W fun r w' => r = .returned (.tuple #[.int .i64 X, .int .i64 Y, .int .i64 ef]) ∧ Below W.heap.size W w') (hmay : ∀ W : World, Calls Tryz.prog 12 #[.agg #[.bool gn, .string gS, .int .i64 ge, .bool hn, .string hS, .int .i64 he, .int .i64 e, .int .i64 a, .int .i64 d]] W fun r w' => r = .returned (.bool true) ∧ Below W.heap.size W w') (hrc : ∀ W : World, Calls Tryz.prog 14 #[.agg #[.bool gn, .string gS, .int .i64 ge, .bool hn, .string hS, .int .i64 he, .int .i64 e, .int .i64 a, .int .i64 d], .int .i64 c, .int .i64 r] W fun r w' => r = .returned (.tuple #[.agg #[.bool ln, .string lS, .int .i64 le, .bool bn, .string bS, .int .i64 be, .int .i64 sE], .int .i64 er]) ∧ Below W.heap.size W w') (hga : ∀ W : World, Calls Tryz.prog 15 #[.agg #[.bool jn, .string jS, .int .i64 je, .bool mn, .string mS, .int .i64 me]] W fun r w' => r = .returned (.bool true) ∧ Below W.heap.size W w') (hrf : ∀ W : World, Calls Tryz.prog 16 #[.agg #[.bool gn, .string gS, .int .i64 ge, .bool hn, .string hS, .int .i64 he, .int .i64 e, .int .i64 a, .int .i64 d], .agg #[.bool jn, .string jS, .int .i64 je, .bool mn, .string mS, .int .i64 me]] W fun r w' => r = .returned (.tuple #[.int .i64 X, .int .i64 Y, .int .i64 ef]) ∧ Below W.heap.size W w') (hT : Tab w) :
    Calls Tryz.prog 3 #[.agg #[.bool gn, .string gS, .int .i64 ge, .bool hn, .string hS, .int .i64 he, .int .i64 e, .int .i64 a, .int .i64 d], .int .i64 c, .int .i64 r, .agg #[.bool jn, .string jS, .int .i64 je, .bool mn, .string mS, .int .i64 me]] w fun r' w' => r' = .returned (.bool true) ∧ Below w.heap.size w w' := by
  have aw := fun W hW => awake24 W hW
  go_enter Tryz.func3, Tryz.ntmps3
  have B0 := Below.refl w.heap.size w
  have F4 := Blk.put (w) #[.bool gn, .string gS, .int .i64 ge, .bool hn, .string hS, .int .i64 he, .int .i64 e, .int .i64 a, .int .i64 d] 28
  replace B0 := B0.alloc B0.size (.cells #[.bool gn, .string gS, .int .i64 ge, .bool hn, .string hS, .int .i64 he, .int .i64 e, .int .i64 a, .int .i64 d] 28)
  replace F4 := F4.allocd (.cells #[.bool jn, .string jS, .int .i64 je, .bool mn, .string mS, .int .i64 me] 26)
  have F7 := Blk.put ((w).alloc (.cells #[.bool gn, .string gS, .int .i64 ge, .bool hn, .string hS, .int .i64 he, .int .i64 e, .int .i64 a, .int .i64 d] 28)) #[.bool jn, .string jS, .int .i64 je, .bool mn, .string mS, .int .i64 me] 26
  rw [show ((w).alloc (.cells #[.bool gn, .string gS, .int .i64 ge, .bool hn, .string hS, .int .i64 he, .int .i64 e, .int .i64 a, .int .i64 d] 28)).heap.size = w.heap.size + 1 by simp] at F7
  replace B0 := B0.alloc B0.size (.cells #[.bool jn, .string jS, .int .i64 je, .bool mn, .string mS, .int .i64 me] 26)
  obtain ⟨xF40_0, xF40_1, xF40_2, xF40_3, xF40_4, xF40_5, xF40_6, xF40_7, xF40_8⟩ := F4.ce9
  go_wp2_with fail
  (with_reducible refine (hcell _ (hT.below B0)).mono ?_)
  rintro r w1 ⟨rfl, hb1⟩
  clear xF40_0 xF40_1 xF40_2 xF40_3 xF40_4 xF40_5 xF40_6 xF40_7 xF40_8
  replace F4 := F4.keep hb1
  replace F7 := F7.keep hb1
  replace B0 := B0.trans (hb1.mono B0.size)
  clear hb1
  replace F4 := F4.allocd (.cells #[.bool ln, .string lS, .int .i64 le, .bool bn, .string bS, .int .i64 be, .int .i64 sE] 30)
  replace F7 := F7.allocd (.cells #[.bool ln, .string lS, .int .i64 le, .bool bn, .string bS, .int .i64 be, .int .i64 sE] 30)
  have F9 := Blk.put (w1) #[.bool ln, .string lS, .int .i64 le, .bool bn, .string bS, .int .i64 be, .int .i64 sE] 30
  replace B0 := B0.alloc B0.size (.cells #[.bool ln, .string lS, .int .i64 le, .bool bn, .string bS, .int .i64 be, .int .i64 sE] 30)
  obtain ⟨xF41_0, xF41_1, xF41_2, xF41_3, xF41_4, xF41_5, xF41_6, xF41_7, xF41_8⟩ := F4.ce9
  obtain ⟨xF71_0, xF71_1, xF71_2, xF71_3, xF71_4, xF71_5⟩ := F7.ce6
  go_wp2_with fail
  (with_reducible refine (hfind _ (hT.below B0)).mono ?_)
  rintro r w2 ⟨rfl, hb2⟩
  clear xF41_0 xF41_1 xF41_2 xF41_3 xF41_4 xF41_5 xF41_6 xF41_7 xF41_8 xF71_0 xF71_1 xF71_2 xF71_3 xF71_4 xF71_5
  replace F4 := F4.keep hb2
  replace F7 := F7.keep hb2
  replace F9 := F9.keep hb2
  replace B0 := B0.trans (hb2.mono B0.size)
  clear hb2
  obtain ⟨xF42_0, xF42_1, xF42_2, xF42_3, xF42_4, xF42_5, xF42_6, xF42_7, xF42_8⟩ := F4.ce9
  go_wp2_with fail
  (with_reducible refine (hmay _).mono ?_)
  rintro r w3 ⟨rfl, hb3⟩
  clear xF42_0 xF42_1 xF42_2 xF42_3 xF42_4 xF42_5 xF42_6 xF42_7 xF42_8
  replace F4 := F4.keep hb3
  replace F7 := F7.keep hb3
  replace F9 := F9.keep hb3
  replace B0 := B0.trans (hb3.mono B0.size)
  clear hb3
  obtain ⟨xF43_0, xF43_1, xF43_2, xF43_3, xF43_4, xF43_5, xF43_6, xF43_7, xF43_8⟩ := F4.ce9
  go_wp2_with fail
  (with_reducible refine (hrc _).mono ?_)
  rintro r w4 ⟨rfl, hb4⟩
  clear xF43_0 xF43_1 xF43_2 xF43_3 xF43_4 xF43_5 xF43_6 xF43_7 xF43_8
  replace F4 := F4.keep hb4
  replace F7 := F7.keep hb4
  replace F9 := F9.keep hb4
  replace B0 := B0.trans (hb4.mono B0.size)
  clear hb4
  replace F4 := F4.allocd (.cells #[.bool ln, .string lS, .int .i64 le, .bool bn, .string bS, .int .i64 be, .int .i64 sE] 30)
  replace F7 := F7.allocd (.cells #[.bool ln, .string lS, .int .i64 le, .bool bn, .string bS, .int .i64 be, .int .i64 sE] 30)
  replace F9 := F9.allocd (.cells #[.bool ln, .string lS, .int .i64 le, .bool bn, .string bS, .int .i64 be, .int .i64 sE] 30)
  have F14 := Blk.put (w4) #[.bool ln, .string lS, .int .i64 le, .bool bn, .string bS, .int .i64 be, .int .i64 sE] 30
  replace B0 := B0.alloc B0.size (.cells #[.bool ln, .string lS, .int .i64 le, .bool bn, .string bS, .int .i64 be, .int .i64 sE] 30)
  obtain ⟨xF94_0, xF94_1, xF94_2, xF94_3, xF94_4, xF94_5, xF94_6⟩ := F9.ce7
  obtain ⟨xF144_0, xF144_1, xF144_2, xF144_3, xF144_4, xF144_5, xF144_6⟩ := F14.ce7
  obtain ⟨xF74_0, xF74_1, xF74_2, xF74_3, xF74_4, xF74_5⟩ := F7.ce6
  go_wp2_with fail
  (with_reducible refine (hga _).mono ?_)
  rintro r w5 ⟨rfl, hb5⟩
  clear xF94_0 xF94_1 xF94_2 xF94_3 xF94_4 xF94_5 xF94_6 xF144_0 xF144_1 xF144_2 xF144_3 xF144_4 xF144_5 xF144_6 xF74_0 xF74_1 xF74_2 xF74_3 xF74_4 xF74_5
  replace F4 := F4.keep hb5
  replace F7 := F7.keep hb5
  replace F9 := F9.keep hb5
  replace F14 := F14.keep hb5
  replace B0 := B0.trans (hb5.mono B0.size)
  clear hb5
  obtain ⟨xF45_0, xF45_1, xF45_2, xF45_3, xF45_4, xF45_5, xF45_6, xF45_7, xF45_8⟩ := F4.ce9
  obtain ⟨xF75_0, xF75_1, xF75_2, xF75_3, xF75_4, xF75_5⟩ := F7.ce6
  go_wp2_with fail
  (with_reducible refine (hrf _).mono ?_)
  rintro r w6 ⟨rfl, hb6⟩
  clear xF45_0 xF45_1 xF45_2 xF45_3 xF45_4 xF45_5 xF45_6 xF45_7 xF45_8 xF75_0 xF75_1 xF75_2 xF75_3 xF75_4 xF75_5
  replace F4 := F4.keep hb6
  replace F7 := F7.keep hb6
  clear F9
  clear F14
  replace B0 := B0.trans (hb6.mono B0.size)
  clear hb6
  go_wp2_with fail
  (with_reducible refine (aw _ (hT.below B0)).mono ?_)
  rintro r w7 ⟨rfl, hb7⟩
  clear F4
  clear F7
  replace B0 := B0.trans (hb7.mono B0.size)
  clear hb7
  go_wp2
  go_ret
  exact ⟨rfl, B0⟩

end Go.Proofs.YtppebjnmollojaaGreatDoor
