/- filigreelaw24.ViewZooms: the walk, over letters. -/
import Derived.Test.YtppebjnmollojaaDoorQH
import Derived.Test.YtppebjnmollojaaDoorQ7
import Derived.Test.YtppebjnmollojaaDoorQA
namespace Go.Proofs.YtppebjnmollojaaDoor
open Go Go.RowKit Go.PlainAid Fil


set_option maxRecDepth 1000000 in
set_option maxHeartbeats 16000000 in
theorem zooms_main (bz : Bool) (c r x y o k e a d sE er E A2 D2 ez : Int) (gn : Bool) (gS : ByteArray) (ge : Int) (hn : Bool) (hS : ByteArray) (he : Int) (ln : Bool) (lS : ByteArray) (le : Int) (bn : Bool) (bS : ByteArray) (be : Int) (zn : Bool) (zS : ByteArray) (ze : Int) (jn : Bool) (jS : ByteArray) (je : Int) (w : World) (hcell : ∀ W : World, Tab W → Calls Tryd.prog 9 #[.agg #[.bool gn, .string gS, .int .i64 ge, .bool hn, .string hS, .int .i64 he, .int .i64 e, .int .i64 a, .int .i64 d], .int .i64 c, .int .i64 r] W fun r w' => r = .returned (.tuple #[.agg #[.bool ln, .string lS, .int .i64 le, .bool bn, .string bS, .int .i64 be, .int .i64 sE], .int .i64 er]) ∧ Below W.heap.size W w') (hzoom : ∀ W : World, Tab W → Calls Tryd.prog 18 #[.agg #[.bool gn, .string gS, .int .i64 ge, .bool hn, .string hS, .int .i64 he, .int .i64 e, .int .i64 a, .int .i64 d], .int .i64 1] W fun r w' => r = .returned (.tuple #[.agg #[.bool zn, .string zS, .int .i64 ze, .bool jn, .string jS, .int .i64 je, .int .i64 E, .int .i64 A2, .int .i64 D2], .int .i64 ez]) ∧ Below W.heap.size W w') (hz : ((bz = false ∧ er ≠ 0) ∨ (bz = false ∧ er = 0 ∧ ez ≠ 0) ∨ (bz = true ∧ er = 0 ∧ ez = 0 ∧ (0 ≤ c ∧ c < 65536 ∧ 0 ≤ r ∧ r < 65536) ∧ ((∃ ep : Int, ep ≠ 0 ∧ (∀ W : World, Tab W → Calls Tryd.prog 14 #[.agg #[.bool ln, .string lS, .int .i64 le, .bool bn, .string bS, .int .i64 be, .int .i64 sE]] W fun r w' => r = .returned (.tuple #[.agg #[.bool false, .string { data := #[] }, .int .i64 0, .bool false, .string { data := #[] }, .int .i64 0, .int .i64 0, .bool false, .string { data := #[] }, .int .i64 0, .bool false, .string { data := #[] }, .int .i64 0, .int .i64 0, .bool false, .string { data := #[] }, .int .i64 0, .bool false, .string { data := #[] }, .int .i64 0, .int .i64 0, .bool false, .string { data := #[] }, .int .i64 0, .bool false, .string { data := #[] }, .int .i64 0, .int .i64 0], .int .i64 ep]) ∧ Below W.heap.size W w')) ∨ (∃ (mn : Bool) (mS : ByteArray) (me : Int) (nn : Bool) (nS : ByteArray) (ne : Int) (pE : Int), (∀ W : World, Tab W → Calls Tryd.prog 14 #[.agg #[.bool ln, .string lS, .int .i64 le, .bool bn, .string bS, .int .i64 be, .int .i64 sE]] W fun r w' => r = .returned (.tuple #[.agg #[.bool ln, .string lS, .int .i64 le, .bool bn, .string bS, .int .i64 be, .int .i64 pE, .bool mn, .string mS, .int .i64 me, .bool bn, .string bS, .int .i64 be, .int .i64 pE, .bool ln, .string lS, .int .i64 le, .bool nn, .string nS, .int .i64 ne, .int .i64 pE, .bool mn, .string mS, .int .i64 me, .bool nn, .string nS, .int .i64 ne, .int .i64 pE], .int .i64 0]) ∧ Below W.heap.size W w') ∧ (∀ W : World, Tab W → Calls Tryd.prog 9 #[.agg #[.bool zn, .string zS, .int .i64 ze, .bool jn, .string jS, .int .i64 je, .int .i64 E, .int .i64 A2, .int .i64 D2], .int .i64 (2 * c), .int .i64 (2 * r + 1)] W fun r w' => r = .returned (.tuple #[.agg #[.bool ln, .string lS, .int .i64 le, .bool bn, .string bS, .int .i64 be, .int .i64 pE], .int .i64 0]) ∧ Below W.heap.size W w') ∧ (∀ W : World, Tab W → Calls Tryd.prog 9 #[.agg #[.bool zn, .string zS, .int .i64 ze, .bool jn, .string jS, .int .i64 je, .int .i64 E, .int .i64 A2, .int .i64 D2], .int .i64 (2 * c + 1), .int .i64 (2 * r + 1)] W fun r w' => r = .returned (.tuple #[.agg #[.bool mn, .string mS, .int .i64 me, .bool bn, .string bS, .int .i64 be, .int .i64 pE], .int .i64 0]) ∧ Below W.heap.size W w') ∧ (∀ W : World, Tab W → Calls Tryd.prog 9 #[.agg #[.bool zn, .string zS, .int .i64 ze, .bool jn, .string jS, .int .i64 je, .int .i64 E, .int .i64 A2, .int .i64 D2], .int .i64 (2 * c), .int .i64 (2 * r)] W fun r w' => r = .returned (.tuple #[.agg #[.bool ln, .string lS, .int .i64 le, .bool nn, .string nS, .int .i64 ne, .int .i64 pE], .int .i64 0]) ∧ Below W.heap.size W w') ∧ (∀ W : World, Tab W → Calls Tryd.prog 9 #[.agg #[.bool zn, .string zS, .int .i64 ze, .bool jn, .string jS, .int .i64 je, .int .i64 E, .int .i64 A2, .int .i64 D2], .int .i64 (2 * c + 1), .int .i64 (2 * r)] W fun r w' => r = .returned (.tuple #[.agg #[.bool mn, .string mS, .int .i64 me, .bool nn, .string nS, .int .i64 ne, .int .i64 pE], .int .i64 0]) ∧ Below W.heap.size W w')))))) (hcrop : ((∃ ec : Int, ec ≠ 0 ∧ (∀ W : World, Tab W → Calls Tryd.prog 19 #[.agg #[.bool gn, .string gS, .int .i64 ge, .bool hn, .string hS, .int .i64 he, .int .i64 e, .int .i64 a, .int .i64 d], .int .i64 c, .int .i64 r, .int .i64 x, .int .i64 y] W fun r w' => r = .returned (.tuple #[.agg #[.bool false, .string { data := #[] }, .int .i64 0, .bool false, .string { data := #[] }, .int .i64 0, .int .i64 0, .int .i64 0, .int .i64 0], .int .i64 ec]) ∧ Below W.heap.size W w')) ∨ (∃ (pn : Bool) (pS : ByteArray) (pe : Int) (qn : Bool) (qS : ByteArray) (qe : Int), (∀ W : World, Tab W → Calls Tryd.prog 19 #[.agg #[.bool gn, .string gS, .int .i64 ge, .bool hn, .string hS, .int .i64 he, .int .i64 e, .int .i64 a, .int .i64 d], .int .i64 c, .int .i64 r, .int .i64 x, .int .i64 y] W fun r w' => r = .returned (.tuple #[.agg #[.bool pn, .string pS, .int .i64 pe, .bool qn, .string qS, .int .i64 qe, .int .i64 e, .int .i64 x, .int .i64 y], .int .i64 0]) ∧ Below W.heap.size W w') ∧ ((o < 0 ∨ (0 ≤ o ∧ k < 0) ∨ (0 ≤ o ∧ 0 ≤ k ∧ x ≤ o) ∨ (0 ≤ o ∧ 0 ≤ k ∧ o < x ∧ y ≤ k)) ∨ ((0 ≤ o ∧ 0 ≤ k ∧ o < x ∧ k < y) ∧ (0 ≤ c ∧ c + o < 65536 ∧ 0 ≤ r ∧ r + k < 65536) ∧ ∃ (un : Bool) (uS : ByteArray) (ue : Int) (vn : Bool) (vS : ByteArray) (ve : Int) (uE ex : Int), (∀ W : World, Tab W → Calls Tryd.prog 9 #[.agg #[.bool pn, .string pS, .int .i64 pe, .bool qn, .string qS, .int .i64 qe, .int .i64 e, .int .i64 x, .int .i64 y], .int .i64 o, .int .i64 k] W fun r w' => r = .returned (.tuple #[.agg #[.bool un, .string uS, .int .i64 ue, .bool vn, .string vS, .int .i64 ve, .int .i64 uE], .int .i64 ex]) ∧ Below W.heap.size W w') ∧ (∀ W : World, Tab W → Calls Tryd.prog 9 #[.agg #[.bool gn, .string gS, .int .i64 ge, .bool hn, .string hS, .int .i64 he, .int .i64 e, .int .i64 a, .int .i64 d], .int .i64 (c + o), .int .i64 (r + k)] W fun r w' => r = .returned (.tuple #[.agg #[.bool un, .string uS, .int .i64 ue, .bool vn, .string vS, .int .i64 ve, .int .i64 uE], .int .i64 ex]) ∧ Below W.heap.size W w')))))) (hT : Tab w) :
    Calls Tryd.prog 6 #[.agg #[.bool gn, .string gS, .int .i64 ge, .bool hn, .string hS, .int .i64 he, .int .i64 e, .int .i64 a, .int .i64 d], .int .i64 c, .int .i64 r, .int .i64 x, .int .i64 y, .int .i64 o, .int .i64 k] w fun r' w' => r' = .returned (.bool true) ∧ Below w.heap.size w w' := by
  have aw := fun W hW => awake24 W hW
  replace hz := Lib.hid hz
  replace hcrop := Lib.hid hcrop
  go_enter Tryd.func6, Tryd.ntmps6
  have B0 := Below.refl w.heap.size w
  have F7 := Blk.put (w) #[.bool gn, .string gS, .int .i64 ge, .bool hn, .string hS, .int .i64 he, .int .i64 e, .int .i64 a, .int .i64 d] 29
  replace B0 := B0.alloc B0.size (.cells #[.bool gn, .string gS, .int .i64 ge, .bool hn, .string hS, .int .i64 he, .int .i64 e, .int .i64 a, .int .i64 d] 29)
  go_wp2_with fail
  (with_reducible refine (aw _ (hT.below B0)).mono ?_)
  rintro r w1 ⟨rfl, hb1⟩
  replace F7 := F7.keep hb1
  replace B0 := B0.trans (hb1.mono B0.size)
  clear hb1
  obtain ⟨xF71_0, xF71_1, xF71_2, xF71_3, xF71_4, xF71_5, xF71_6, xF71_7, xF71_8⟩ := F7.ce9
  go_wp2_with fail
  (with_reducible refine (hcell _ (hT.below B0)).mono ?_)
  rintro r w2 ⟨rfl, hb2⟩
  clear xF71_0 xF71_1 xF71_2 xF71_3 xF71_4 xF71_5 xF71_6 xF71_7 xF71_8
  replace F7 := F7.keep hb2
  replace B0 := B0.trans (hb2.mono B0.size)
  clear hb2
  replace F7 := F7.allocd (.cells #[.bool ln, .string lS, .int .i64 le, .bool bn, .string bS, .int .i64 be, .int .i64 sE] 31)
  have F15 := Blk.put (w2) #[.bool ln, .string lS, .int .i64 le, .bool bn, .string bS, .int .i64 be, .int .i64 sE] 31
  replace B0 := B0.alloc B0.size (.cells #[.bool ln, .string lS, .int .i64 le, .bool bn, .string bS, .int .i64 be, .int .i64 sE] 31)
  obtain ⟨xF72_0, xF72_1, xF72_2, xF72_3, xF72_4, xF72_5, xF72_6, xF72_7, xF72_8⟩ := F7.ce9
  go_wp2_with fail
  (with_reducible refine (hzoom _ (hT.below B0)).mono ?_)
  rintro r w3 ⟨rfl, hb3⟩
  clear xF72_0 xF72_1 xF72_2 xF72_3 xF72_4 xF72_5 xF72_6 xF72_7 xF72_8
  replace F7 := F7.keep hb3
  replace F15 := F15.keep hb3
  replace B0 := B0.trans (hb3.mono B0.size)
  clear hb3
  replace F7 := F7.allocd (.cells #[.bool zn, .string zS, .int .i64 ze, .bool jn, .string jS, .int .i64 je, .int .i64 E, .int .i64 A2, .int .i64 D2] 29)
  replace F15 := F15.allocd (.cells #[.bool zn, .string zS, .int .i64 ze, .bool jn, .string jS, .int .i64 je, .int .i64 E, .int .i64 A2, .int .i64 D2] 29)
  have F17 := Blk.put (w3) #[.bool zn, .string zS, .int .i64 ze, .bool jn, .string jS, .int .i64 je, .int .i64 E, .int .i64 A2, .int .i64 D2] 29
  replace B0 := B0.alloc B0.size (.cells #[.bool zn, .string zS, .int .i64 ze, .bool jn, .string jS, .int .i64 je, .int .i64 E, .int .i64 A2, .int .i64 D2] 29)
  go_upto_region 5 with fail
  go_cut [46] (fun s46 wx => s46 = .bool bz ∧ Blk wx (w.heap.size) #[.bool gn, .string gS, .int .i64 ge, .bool hn, .string hS, .int .i64 he, .int .i64 e, .int .i64 a, .int .i64 d] 29 ∧ Blk wx (w2.heap.size) #[.bool ln, .string lS, .int .i64 le, .bool bn, .string bS, .int .i64 be, .int .i64 sE] 31 ∧ Blk wx (w3.heap.size) #[.bool zn, .string zS, .int .i64 ze, .bool jn, .string jS, .int .i64 je, .int .i64 E, .int .i64 A2, .int .i64 D2] 29 ∧ Below w.heap.size w wx)
  case first =>
    rcases hz.out with ⟨rfl, h⟩ | ⟨rfl, rfl, h⟩ | ⟨rfl, rfl, rfl, h⟩
    · have h2 : (er == 0) = false := by simpa using h
      clear h hz
      go_wp2_with fail
      go_meet
      exact ⟨by first | rfl | simp, F7, F15, F17, B0⟩
    · have h2 : (ez == 0) = false := by simpa using h
      clear h hz
      go_wp2_with fail
      go_meet
      exact ⟨by first | rfl | simp, F7, F15, F17, B0⟩
    · clear h hz
      go_wp2_with fail
      go_meet
      exact ⟨by first | rfl | simp, F7, F15, F17, B0⟩
  case rest =>
    clear B0
    clear F7
    clear F15
    clear F17
    obtain ⟨rfl, F7, F15, F17, B0⟩ := hcut
    generalize wc = v1 at *
    go_upto_if 46 with fail
    go_cut [] (fun  wx => Blk wx (w.heap.size) #[.bool gn, .string gS, .int .i64 ge, .bool hn, .string hS, .int .i64 he, .int .i64 e, .int .i64 a, .int .i64 d] 29 ∧ Below w.heap.size w wx)
    case first =>
      rcases hz.out with ⟨rfl, h⟩ | ⟨rfl, rfl, h⟩ | ⟨rfl, rfl, rfl, ⟨c0, c1, r0, r1⟩, ⟨ep, hep, hp⟩ | ⟨mn, mS, me, nn, nS, ne, pE, hp, t0, t1, t2, t3⟩⟩
      · clear h hz
        go_wp2_with fail
        go_meet
        exact ⟨F7, B0⟩
      · clear h hz
        go_wp2_with fail
        go_meet
        exact ⟨F7, B0⟩
      · have h2 : (ep == 0) = false := by simpa using hep
        clear hep hz
        obtain ⟨xF154_0, xF154_1, xF154_2, xF154_3, xF154_4, xF154_5, xF154_6⟩ := F15.ce7
        go_wp2_with fail
        (with_reducible refine (hp _ (hT.below B0)).mono ?_)
        rintro r w4 ⟨rfl, hb4⟩
        clear xF154_0 xF154_1 xF154_2 xF154_3 xF154_4 xF154_5 xF154_6
        replace F7 := F7.keep hb4
        replace F15 := F15.keep hb4
        replace F17 := F17.keep hb4
        replace B0 := B0.trans (hb4.mono B0.size)
        clear hb4
        dsimp only
        go_step
        refine wpList_move rfl _ (.inl rfl) (.tuple #[.agg #[.bool false, .string { data := #[] }, .int .i64 0, .bool false, .string { data := #[] }, .int .i64 0, .int .i64 0, .bool false, .string { data := #[] }, .int .i64 0, .bool false, .string { data := #[] }, .int .i64 0, .int .i64 0, .bool false, .string { data := #[] }, .int .i64 0, .bool false, .string { data := #[] }, .int .i64 0, .int .i64 0, .bool false, .string { data := #[] }, .int .i64 0, .bool false, .string { data := #[] }, .int .i64 0, .int .i64 0], .int .i64 ep]) rfl ?_
        (try dsimp only [Act.put]); (try go_frame)
        refine wpList_extract rfl _ 0 rfl _ (.agg #[.bool false, .string { data := #[] }, .int .i64 0, .bool false, .string { data := #[] }, .int .i64 0, .int .i64 0, .bool false, .string { data := #[] }, .int .i64 0, .bool false, .string { data := #[] }, .int .i64 0, .int .i64 0, .bool false, .string { data := #[] }, .int .i64 0, .bool false, .string { data := #[] }, .int .i64 0, .int .i64 0, .bool false, .string { data := #[] }, .int .i64 0, .bool false, .string { data := #[] }, .int .i64 0, .int .i64 0]) rfl rfl ?_
        (try dsimp only [Act.put]); (try go_frame)
        refine wpList_extract rfl _ 1 rfl _ (.int .i64 ep) rfl rfl ?_
        (try dsimp only [Act.put]); (try go_frame)
        refine wpList_new rfl _ rfl _ Tryd.zeroValue45 ?_
        (try dsimp only [Act.put]); (try go_frame)
        refine wpList_store_new rfl _ _ _ rfl _ #[.bool false, .string { data := #[] }, .int .i64 0, .bool false, .string { data := #[] }, .int .i64 0, .int .i64 0, .bool false, .string { data := #[] }, .int .i64 0, .bool false, .string { data := #[] }, .int .i64 0, .int .i64 0, .bool false, .string { data := #[] }, .int .i64 0, .bool false, .string { data := #[] }, .int .i64 0, .int .i64 0, .bool false, .string { data := #[] }, .int .i64 0, .bool false, .string { data := #[] }, .int .i64 0, .int .i64 0] rfl rfl (by kernel_rfl) rfl (by simp [Value.oneCell']) ?_
        (try dsimp only [Act.put]); (try go_frame)
        replace F7 := F7.allocd (.cells #[.bool false, .string { data := #[] }, .int .i64 0, .bool false, .string { data := #[] }, .int .i64 0, .int .i64 0, .bool false, .string { data := #[] }, .int .i64 0, .bool false, .string { data := #[] }, .int .i64 0, .int .i64 0, .bool false, .string { data := #[] }, .int .i64 0, .bool false, .string { data := #[] }, .int .i64 0, .int .i64 0, .bool false, .string { data := #[] }, .int .i64 0, .bool false, .string { data := #[] }, .int .i64 0, .int .i64 0] 45)
        clear F15
        clear F17
        replace B0 := B0.alloc B0.size (.cells #[.bool false, .string { data := #[] }, .int .i64 0, .bool false, .string { data := #[] }, .int .i64 0, .int .i64 0, .bool false, .string { data := #[] }, .int .i64 0, .bool false, .string { data := #[] }, .int .i64 0, .int .i64 0, .bool false, .string { data := #[] }, .int .i64 0, .bool false, .string { data := #[] }, .int .i64 0, .int .i64 0, .bool false, .string { data := #[] }, .int .i64 0, .bool false, .string { data := #[] }, .int .i64 0, .int .i64 0] 45)
        refine wpList_move rfl _ (.inr rfl) (.int .i64 ep) rfl ?_
        (try dsimp only [Act.put]); (try go_frame)
        go_wp2_with fail
        go_meet
        exact ⟨F7, B0⟩
      · clear hz
        obtain ⟨xF154_0, xF154_1, xF154_2, xF154_3, xF154_4, xF154_5, xF154_6⟩ := F15.ce7
        go_wp2_with fail
        (with_reducible refine (hp _ (hT.below B0)).mono ?_)
        rintro r w4 ⟨rfl, hb4⟩
        clear xF154_0 xF154_1 xF154_2 xF154_3 xF154_4 xF154_5 xF154_6
        replace F7 := F7.keep hb4
        replace F15 := F15.keep hb4
        replace F17 := F17.keep hb4
        replace B0 := B0.trans (hb4.mono B0.size)
        clear hb4
        dsimp only
        go_step
        refine wpList_move rfl _ (.inl rfl) (.tuple #[.agg #[.bool ln, .string lS, .int .i64 le, .bool bn, .string bS, .int .i64 be, .int .i64 pE, .bool mn, .string mS, .int .i64 me, .bool bn, .string bS, .int .i64 be, .int .i64 pE, .bool ln, .string lS, .int .i64 le, .bool nn, .string nS, .int .i64 ne, .int .i64 pE, .bool mn, .string mS, .int .i64 me, .bool nn, .string nS, .int .i64 ne, .int .i64 pE], .int .i64 0]) rfl ?_
        (try dsimp only [Act.put]); (try go_frame)
        refine wpList_extract rfl _ 0 rfl _ (.agg #[.bool ln, .string lS, .int .i64 le, .bool bn, .string bS, .int .i64 be, .int .i64 pE, .bool mn, .string mS, .int .i64 me, .bool bn, .string bS, .int .i64 be, .int .i64 pE, .bool ln, .string lS, .int .i64 le, .bool nn, .string nS, .int .i64 ne, .int .i64 pE, .bool mn, .string mS, .int .i64 me, .bool nn, .string nS, .int .i64 ne, .int .i64 pE]) rfl rfl ?_
        (try dsimp only [Act.put]); (try go_frame)
        refine wpList_extract rfl _ 1 rfl _ (.int .i64 0) rfl rfl ?_
        (try dsimp only [Act.put]); (try go_frame)
        refine wpList_new rfl _ rfl _ Tryd.zeroValue45 ?_
        (try dsimp only [Act.put]); (try go_frame)
        refine wpList_store_new rfl _ _ _ rfl _ #[.bool ln, .string lS, .int .i64 le, .bool bn, .string bS, .int .i64 be, .int .i64 pE, .bool mn, .string mS, .int .i64 me, .bool bn, .string bS, .int .i64 be, .int .i64 pE, .bool ln, .string lS, .int .i64 le, .bool nn, .string nS, .int .i64 ne, .int .i64 pE, .bool mn, .string mS, .int .i64 me, .bool nn, .string nS, .int .i64 ne, .int .i64 pE] rfl rfl (by kernel_rfl) rfl (by simp [Value.oneCell']) ?_
        (try dsimp only [Act.put]); (try go_frame)
        replace F7 := F7.allocd (.cells #[.bool ln, .string lS, .int .i64 le, .bool bn, .string bS, .int .i64 be, .int .i64 pE, .bool mn, .string mS, .int .i64 me, .bool bn, .string bS, .int .i64 be, .int .i64 pE, .bool ln, .string lS, .int .i64 le, .bool nn, .string nS, .int .i64 ne, .int .i64 pE, .bool mn, .string mS, .int .i64 me, .bool nn, .string nS, .int .i64 ne, .int .i64 pE] 45)
        clear F15
        replace F17 := F17.allocd (.cells #[.bool ln, .string lS, .int .i64 le, .bool bn, .string bS, .int .i64 be, .int .i64 pE, .bool mn, .string mS, .int .i64 me, .bool bn, .string bS, .int .i64 be, .int .i64 pE, .bool ln, .string lS, .int .i64 le, .bool nn, .string nS, .int .i64 ne, .int .i64 pE, .bool mn, .string mS, .int .i64 me, .bool nn, .string nS, .int .i64 ne, .int .i64 pE] 45)
        have F19 := Blk.put (w4) #[.bool ln, .string lS, .int .i64 le, .bool bn, .string bS, .int .i64 be, .int .i64 pE, .bool mn, .string mS, .int .i64 me, .bool bn, .string bS, .int .i64 be, .int .i64 pE, .bool ln, .string lS, .int .i64 le, .bool nn, .string nS, .int .i64 ne, .int .i64 pE, .bool mn, .string mS, .int .i64 me, .bool nn, .string nS, .int .i64 ne, .int .i64 pE] 45
        replace B0 := B0.alloc B0.size (.cells #[.bool ln, .string lS, .int .i64 le, .bool bn, .string bS, .int .i64 be, .int .i64 pE, .bool mn, .string mS, .int .i64 me, .bool bn, .string bS, .int .i64 be, .int .i64 pE, .bool ln, .string lS, .int .i64 le, .bool nn, .string nS, .int .i64 ne, .int .i64 pE, .bool mn, .string mS, .int .i64 me, .bool nn, .string nS, .int .i64 ne, .int .i64 pE] 45)
        refine wpList_move rfl _ (.inr rfl) (.int .i64 0) rfl ?_
        (try dsimp only [Act.put]); (try go_frame)
        go_wp2_with fail
        refine wp_loop_rounds 5 ?_
        rw [rounds_succ]
        obtain ⟨xF175_0, xF175_1, xF175_2, xF175_3, xF175_4, xF175_5, xF175_6, xF175_7, xF175_8⟩ := F17.ce9
        go_wp2_with fail
        (with_reducible refine (t0 _ (hT.below B0)).mono ?_)
        rintro r w5 ⟨rfl, hb5⟩
        clear xF175_0 xF175_1 xF175_2 xF175_3 xF175_4 xF175_5 xF175_6 xF175_7 xF175_8
        replace F7 := F7.keep hb5
        replace F17 := F17.keep hb5
        replace F19 := F19.keep hb5
        replace B0 := B0.trans (hb5.mono B0.size)
        clear hb5
        replace F7 := F7.allocd (.cells #[.bool ln, .string lS, .int .i64 le, .bool bn, .string bS, .int .i64 be, .int .i64 pE] 31)
        replace F17 := F17.allocd (.cells #[.bool ln, .string lS, .int .i64 le, .bool bn, .string bS, .int .i64 be, .int .i64 pE] 31)
        replace F19 := F19.allocd (.cells #[.bool ln, .string lS, .int .i64 le, .bool bn, .string bS, .int .i64 be, .int .i64 pE] 31)
        have F22r0 := Blk.put (w5) #[.bool ln, .string lS, .int .i64 le, .bool bn, .string bS, .int .i64 be, .int .i64 pE] 31
        replace B0 := B0.alloc B0.size (.cells #[.bool ln, .string lS, .int .i64 le, .bool bn, .string bS, .int .i64 be, .int .i64 pE] 31)
        go_wp2_with fail
        refine wp_region_any (by kernel_rfl) ?_
        obtain ⟨xF22r06_0, xF22r06_1, xF22r06_2, xF22r06_3, xF22r06_4, xF22r06_5, xF22r06_6⟩ := F22r0.ce7
        have yF196_0 : ((w5).alloc (.cells #[.bool ln, .string lS, .int .i64 le, .bool bn, .string bS, .int .i64 be, .int .i64 pE] 31)).cell? ⟨w4.heap.size, 0, none⟩ = some (.bool ln) := F19.at 0 (by simp)
        have yF196_1 : ((w5).alloc (.cells #[.bool ln, .string lS, .int .i64 le, .bool bn, .string bS, .int .i64 be, .int .i64 pE] 31)).cell? ⟨w4.heap.size, 1, none⟩ = some (.string lS) := F19.at 1 (by simp)
        have yF196_2 : ((w5).alloc (.cells #[.bool ln, .string lS, .int .i64 le, .bool bn, .string bS, .int .i64 be, .int .i64 pE] 31)).cell? ⟨w4.heap.size, 2, none⟩ = some (.int .i64 le) := F19.at 2 (by simp)
        have yF196_3 : ((w5).alloc (.cells #[.bool ln, .string lS, .int .i64 le, .bool bn, .string bS, .int .i64 be, .int .i64 pE] 31)).cell? ⟨w4.heap.size, 3, none⟩ = some (.bool bn) := F19.at 3 (by simp)
        have yF196_4 : ((w5).alloc (.cells #[.bool ln, .string lS, .int .i64 le, .bool bn, .string bS, .int .i64 be, .int .i64 pE] 31)).cell? ⟨w4.heap.size, 4, none⟩ = some (.string bS) := F19.at 4 (by simp)
        have yF196_5 : ((w5).alloc (.cells #[.bool ln, .string lS, .int .i64 le, .bool bn, .string bS, .int .i64 be, .int .i64 pE] 31)).cell? ⟨w4.heap.size, 5, none⟩ = some (.int .i64 be) := F19.at 5 (by simp)
        have yF196_6 : ((w5).alloc (.cells #[.bool ln, .string lS, .int .i64 le, .bool bn, .string bS, .int .i64 be, .int .i64 pE] 31)).cell? ⟨w4.heap.size, 6, none⟩ = some (.int .i64 pE) := F19.at 6 (by simp)
        have hHeld : (fun w' : World => w'.cell? ⟨w5.heap.size, 0, none⟩ = some (.bool ln) ∧ w'.cell? ⟨w5.heap.size, 1, none⟩ = some (.string lS) ∧ w'.cell? ⟨w5.heap.size, 2, none⟩ = some (.int .i64 le) ∧ w'.cell? ⟨w5.heap.size, 3, none⟩ = some (.bool bn) ∧ w'.cell? ⟨w5.heap.size, 4, none⟩ = some (.string bS) ∧ w'.cell? ⟨w5.heap.size, 5, none⟩ = some (.int .i64 be) ∧ w'.cell? ⟨w5.heap.size, 6, none⟩ = some (.int .i64 pE) ∧ w'.cell? ⟨w4.heap.size, 0, none⟩ = some (.bool ln) ∧ w'.cell? ⟨w4.heap.size, 1, none⟩ = some (.string lS) ∧ w'.cell? ⟨w4.heap.size, 2, none⟩ = some (.int .i64 le) ∧ w'.cell? ⟨w4.heap.size, 3, none⟩ = some (.bool bn) ∧ w'.cell? ⟨w4.heap.size, 4, none⟩ = some (.string bS) ∧ w'.cell? ⟨w4.heap.size, 5, none⟩ = some (.int .i64 be) ∧ w'.cell? ⟨w4.heap.size, 6, none⟩ = some (.int .i64 pE)) ((w5).alloc (.cells #[.bool ln, .string lS, .int .i64 le, .bool bn, .string bS, .int .i64 be, .int .i64 pE] 31)).drew := ⟨xF22r06_0, xF22r06_1, xF22r06_2, xF22r06_3, xF22r06_4, xF22r06_5, xF22r06_6, yF196_0, yF196_1, yF196_2, yF196_3, yF196_4, yF196_5, yF196_6⟩
        refine wpAny_of_held (S := fun w' : World => w'.cell? ⟨w5.heap.size, 0, none⟩ = some (.bool ln) ∧ w'.cell? ⟨w5.heap.size, 1, none⟩ = some (.string lS) ∧ w'.cell? ⟨w5.heap.size, 2, none⟩ = some (.int .i64 le) ∧ w'.cell? ⟨w5.heap.size, 3, none⟩ = some (.bool bn) ∧ w'.cell? ⟨w5.heap.size, 4, none⟩ = some (.string bS) ∧ w'.cell? ⟨w5.heap.size, 5, none⟩ = some (.int .i64 be) ∧ w'.cell? ⟨w5.heap.size, 6, none⟩ = some (.int .i64 pE) ∧ w'.cell? ⟨w4.heap.size, 0, none⟩ = some (.bool ln) ∧ w'.cell? ⟨w4.heap.size, 1, none⟩ = some (.string lS) ∧ w'.cell? ⟨w4.heap.size, 2, none⟩ = some (.int .i64 le) ∧ w'.cell? ⟨w4.heap.size, 3, none⟩ = some (.bool bn) ∧ w'.cell? ⟨w4.heap.size, 4, none⟩ = some (.string bS) ∧ w'.cell? ⟨w4.heap.size, 5, none⟩ = some (.int .i64 be) ∧ w'.cell? ⟨w4.heap.size, 6, none⟩ = some (.int .i64 pE)) _ _ _ ((w5).alloc (.cells #[.bool ln, .string lS, .int .i64 le, .bool bn, .string bS, .int .i64 be, .int .i64 pE] 31)).drew ?_
        replace F7 := F7.drew
        replace F17 := F17.drew
        replace F19 := F19.drew
        replace F22r0 := F22r0.drew
        replace B0 := B0.drew
        generalize ((w5).alloc (.cells #[.bool ln, .string lS, .int .i64 le, .bool bn, .string bS, .int .i64 be, .int .i64 pE] 31)).drew = v2 at *
        refine wpAnyH_take (i := 0) (v := _) (by first | (simp only [List.getElem?_toArray, List.getElem?_cons_zero]; rfl) | rfl) (by kernel_rfl) (by kernel_rfl) (by kernel_rfl) (by exact fun _ _ _ h => h) (Or.inl ⟨by rfl, by (intro w hSw; (try dsimp only at hSw); go_simp; try with_reducible rfl)⟩) (by assumption) ?_
        (try dsimp only [Act.put]); (try go_frame)
        refine wpAnyH_take (i := 1) (v := _) (by first | (simp only [List.getElem?_toArray, List.getElem?_cons_zero, List.getElem?_cons_succ]; rfl) | rfl) (by kernel_rfl) (by kernel_rfl) (by kernel_rfl) (by exact fun _ _ _ h => h) (Or.inl ⟨by rfl, by (intro w hSw; (try dsimp only at hSw); go_simp; try with_reducible rfl)⟩) (by assumption) ?_
        (try dsimp only [Act.put]); (try go_frame)
        refine wpAnyH_take (i := 2) (v := _) (by first | (simp only [List.getElem?_toArray, List.getElem?_cons_zero, List.getElem?_cons_succ]; rfl) | rfl) (by kernel_rfl) (by kernel_rfl) (by kernel_rfl) (by exact fun _ _ _ h => h) (Or.inl ⟨by rfl, by (intro w hSw; (try dsimp only at hSw); go_simp; try with_reducible rfl)⟩) (by assumption) ?_
        (try dsimp only [Act.put]); (try go_frame)
        refine wpAnyH_take (i := 3) (v := _) (by first | (simp only [List.getElem?_toArray, List.getElem?_cons_zero, List.getElem?_cons_succ]; rfl) | rfl) (by kernel_rfl) (by kernel_rfl) (by kernel_rfl) (by exact fun _ _ _ h => h) (Or.inl ⟨by rfl, by (intro w hSw; (try dsimp only at hSw); go_simp; try with_reducible rfl)⟩) (by assumption) ?_
        (try dsimp only [Act.put]); (try go_frame)
        refine wpAnyH_take (i := 4) (v := _) (by first | (simp only [List.getElem?_toArray, List.getElem?_cons_zero, List.getElem?_cons_succ]; rfl) | rfl) (by kernel_rfl) (by kernel_rfl) (by kernel_rfl) (by exact fun _ _ _ h => h) (Or.inl ⟨by rfl, by (intro w hSw; (try dsimp only at hSw); go_simp; try with_reducible rfl)⟩) (by assumption) ?_
        (try dsimp only [Act.put]); (try go_frame)
        refine wpAnyH_take (i := 5) (v := _) (by first | (simp only [List.getElem?_toArray, List.getElem?_cons_zero, List.getElem?_cons_succ]; rfl) | rfl) (by kernel_rfl) (by kernel_rfl) (by kernel_rfl) (by exact fun _ _ _ h => h) (Or.inl ⟨by rfl, by (intro w hSw; (try dsimp only at hSw); go_simp; try with_reducible rfl)⟩) (by assumption) ?_
        (try dsimp only [Act.put]); (try go_frame)
        refine wpAnyH_take (i := 6) (v := _) (by first | (simp only [List.getElem?_toArray, List.getElem?_cons_zero, List.getElem?_cons_succ]; rfl) | rfl) (by kernel_rfl) (by kernel_rfl) (by kernel_rfl) (by exact fun _ _ _ h => h) (Or.inl ⟨by rfl, by (intro w hSw; (try dsimp only at hSw); go_simp; try with_reducible rfl)⟩) (by assumption) ?_
        (try dsimp only [Act.put]); (try go_frame)
        refine wpAnyH_take (i := 7) (v := _) (by first | (simp only [List.getElem?_toArray, List.getElem?_cons_zero, List.getElem?_cons_succ]; rfl) | rfl) (by kernel_rfl) (by kernel_rfl) (by kernel_rfl) (by exact fun _ _ _ h => h) (Or.inl ⟨by rfl, by (intro w hSw; (try dsimp only at hSw); go_simp; try with_reducible rfl)⟩) (by assumption) ?_
        (try dsimp only [Act.put]); (try go_frame)
        refine wpAnyH_take (i := 8) (v := _) (by first | (simp only [List.getElem?_toArray, List.getElem?_cons_zero, List.getElem?_cons_succ]; rfl) | rfl) (by kernel_rfl) (by kernel_rfl) (by kernel_rfl) (by exact fun _ _ _ h => h) (Or.inl ⟨by rfl, by (intro w hSw; (try dsimp only at hSw); go_simp; try with_reducible rfl)⟩) (by assumption) ?_
        (try dsimp only [Act.put]); (try go_frame)
        refine wpAnyH_done (by kernel_rfl) ?_ _
        try simp only [QCut]
        clear hHeld
        clear xF22r06_0 xF22r06_1 xF22r06_2 xF22r06_3 xF22r06_4 xF22r06_5 xF22r06_6 yF196_0 yF196_1 yF196_2 yF196_3 yF196_4 yF196_5 yF196_6
        go_wp2_with fail
        rw [rounds_succ]
        obtain ⟨xF178_0, xF178_1, xF178_2, xF178_3, xF178_4, xF178_5, xF178_6, xF178_7, xF178_8⟩ := F17.ce9
        go_wp2_with fail
        (with_reducible refine (t1 _ (hT.below B0)).mono ?_)
        rintro r w6 ⟨rfl, hb6⟩
        clear xF178_0 xF178_1 xF178_2 xF178_3 xF178_4 xF178_5 xF178_6 xF178_7 xF178_8
        replace F7 := F7.keep hb6
        replace F17 := F17.keep hb6
        replace F19 := F19.keep hb6
        replace F22r0 := F22r0.keep hb6
        replace B0 := B0.trans (hb6.mono B0.size)
        clear hb6
        replace F7 := F7.allocd (.cells #[.bool mn, .string mS, .int .i64 me, .bool bn, .string bS, .int .i64 be, .int .i64 pE] 31)
        replace F17 := F17.allocd (.cells #[.bool mn, .string mS, .int .i64 me, .bool bn, .string bS, .int .i64 be, .int .i64 pE] 31)
        replace F19 := F19.allocd (.cells #[.bool mn, .string mS, .int .i64 me, .bool bn, .string bS, .int .i64 be, .int .i64 pE] 31)
        clear F22r0
        have F22r1 := Blk.put (w6) #[.bool mn, .string mS, .int .i64 me, .bool bn, .string bS, .int .i64 be, .int .i64 pE] 31
        replace B0 := B0.alloc B0.size (.cells #[.bool mn, .string mS, .int .i64 me, .bool bn, .string bS, .int .i64 be, .int .i64 pE] 31)
        go_wp2_with fail
        refine wp_region_any (by kernel_rfl) ?_
        obtain ⟨xF22r19_0, xF22r19_1, xF22r19_2, xF22r19_3, xF22r19_4, xF22r19_5, xF22r19_6⟩ := F22r1.ce7
        have yF199_7 : ((w6).alloc (.cells #[.bool mn, .string mS, .int .i64 me, .bool bn, .string bS, .int .i64 be, .int .i64 pE] 31)).cell? ⟨w4.heap.size, 7, none⟩ = some (.bool mn) := F19.at 7 (by simp)
        have yF199_8 : ((w6).alloc (.cells #[.bool mn, .string mS, .int .i64 me, .bool bn, .string bS, .int .i64 be, .int .i64 pE] 31)).cell? ⟨w4.heap.size, 8, none⟩ = some (.string mS) := F19.at 8 (by simp)
        have yF199_9 : ((w6).alloc (.cells #[.bool mn, .string mS, .int .i64 me, .bool bn, .string bS, .int .i64 be, .int .i64 pE] 31)).cell? ⟨w4.heap.size, 9, none⟩ = some (.int .i64 me) := F19.at 9 (by simp)
        have yF199_10 : ((w6).alloc (.cells #[.bool mn, .string mS, .int .i64 me, .bool bn, .string bS, .int .i64 be, .int .i64 pE] 31)).cell? ⟨w4.heap.size, 10, none⟩ = some (.bool bn) := F19.at 10 (by simp)
        have yF199_11 : ((w6).alloc (.cells #[.bool mn, .string mS, .int .i64 me, .bool bn, .string bS, .int .i64 be, .int .i64 pE] 31)).cell? ⟨w4.heap.size, 11, none⟩ = some (.string bS) := F19.at 11 (by simp)
        have yF199_12 : ((w6).alloc (.cells #[.bool mn, .string mS, .int .i64 me, .bool bn, .string bS, .int .i64 be, .int .i64 pE] 31)).cell? ⟨w4.heap.size, 12, none⟩ = some (.int .i64 be) := F19.at 12 (by simp)
        have yF199_13 : ((w6).alloc (.cells #[.bool mn, .string mS, .int .i64 me, .bool bn, .string bS, .int .i64 be, .int .i64 pE] 31)).cell? ⟨w4.heap.size, 13, none⟩ = some (.int .i64 pE) := F19.at 13 (by simp)
        have hHeld : (fun w' : World => w'.cell? ⟨w6.heap.size, 0, none⟩ = some (.bool mn) ∧ w'.cell? ⟨w6.heap.size, 1, none⟩ = some (.string mS) ∧ w'.cell? ⟨w6.heap.size, 2, none⟩ = some (.int .i64 me) ∧ w'.cell? ⟨w6.heap.size, 3, none⟩ = some (.bool bn) ∧ w'.cell? ⟨w6.heap.size, 4, none⟩ = some (.string bS) ∧ w'.cell? ⟨w6.heap.size, 5, none⟩ = some (.int .i64 be) ∧ w'.cell? ⟨w6.heap.size, 6, none⟩ = some (.int .i64 pE) ∧ w'.cell? ⟨w4.heap.size, 7, none⟩ = some (.bool mn) ∧ w'.cell? ⟨w4.heap.size, 8, none⟩ = some (.string mS) ∧ w'.cell? ⟨w4.heap.size, 9, none⟩ = some (.int .i64 me) ∧ w'.cell? ⟨w4.heap.size, 10, none⟩ = some (.bool bn) ∧ w'.cell? ⟨w4.heap.size, 11, none⟩ = some (.string bS) ∧ w'.cell? ⟨w4.heap.size, 12, none⟩ = some (.int .i64 be) ∧ w'.cell? ⟨w4.heap.size, 13, none⟩ = some (.int .i64 pE)) ((w6).alloc (.cells #[.bool mn, .string mS, .int .i64 me, .bool bn, .string bS, .int .i64 be, .int .i64 pE] 31)).drew := ⟨xF22r19_0, xF22r19_1, xF22r19_2, xF22r19_3, xF22r19_4, xF22r19_5, xF22r19_6, yF199_7, yF199_8, yF199_9, yF199_10, yF199_11, yF199_12, yF199_13⟩
        refine wpAny_of_held (S := fun w' : World => w'.cell? ⟨w6.heap.size, 0, none⟩ = some (.bool mn) ∧ w'.cell? ⟨w6.heap.size, 1, none⟩ = some (.string mS) ∧ w'.cell? ⟨w6.heap.size, 2, none⟩ = some (.int .i64 me) ∧ w'.cell? ⟨w6.heap.size, 3, none⟩ = some (.bool bn) ∧ w'.cell? ⟨w6.heap.size, 4, none⟩ = some (.string bS) ∧ w'.cell? ⟨w6.heap.size, 5, none⟩ = some (.int .i64 be) ∧ w'.cell? ⟨w6.heap.size, 6, none⟩ = some (.int .i64 pE) ∧ w'.cell? ⟨w4.heap.size, 7, none⟩ = some (.bool mn) ∧ w'.cell? ⟨w4.heap.size, 8, none⟩ = some (.string mS) ∧ w'.cell? ⟨w4.heap.size, 9, none⟩ = some (.int .i64 me) ∧ w'.cell? ⟨w4.heap.size, 10, none⟩ = some (.bool bn) ∧ w'.cell? ⟨w4.heap.size, 11, none⟩ = some (.string bS) ∧ w'.cell? ⟨w4.heap.size, 12, none⟩ = some (.int .i64 be) ∧ w'.cell? ⟨w4.heap.size, 13, none⟩ = some (.int .i64 pE)) _ _ _ ((w6).alloc (.cells #[.bool mn, .string mS, .int .i64 me, .bool bn, .string bS, .int .i64 be, .int .i64 pE] 31)).drew ?_
        replace F7 := F7.drew
        replace F17 := F17.drew
        replace F19 := F19.drew
        replace F22r1 := F22r1.drew
        replace B0 := B0.drew
        generalize ((w6).alloc (.cells #[.bool mn, .string mS, .int .i64 me, .bool bn, .string bS, .int .i64 be, .int .i64 pE] 31)).drew = v3 at *
        refine wpAnyH_take (i := 0) (v := _) (by first | (simp only [List.getElem?_toArray, List.getElem?_cons_zero]; rfl) | rfl) (by kernel_rfl) (by kernel_rfl) (by kernel_rfl) (by exact fun _ _ _ h => h) (Or.inl ⟨by rfl, by (intro w hSw; (try dsimp only at hSw); go_simp; try with_reducible rfl)⟩) (by assumption) ?_
        (try dsimp only [Act.put]); (try go_frame)
        refine wpAnyH_take (i := 1) (v := _) (by first | (simp only [List.getElem?_toArray, List.getElem?_cons_zero, List.getElem?_cons_succ]; rfl) | rfl) (by kernel_rfl) (by kernel_rfl) (by kernel_rfl) (by exact fun _ _ _ h => h) (Or.inl ⟨by rfl, by (intro w hSw; (try dsimp only at hSw); go_simp; try with_reducible rfl)⟩) (by assumption) ?_
        (try dsimp only [Act.put]); (try go_frame)
        refine wpAnyH_take (i := 2) (v := _) (by first | (simp only [List.getElem?_toArray, List.getElem?_cons_zero, List.getElem?_cons_succ]; rfl) | rfl) (by kernel_rfl) (by kernel_rfl) (by kernel_rfl) (by exact fun _ _ _ h => h) (Or.inl ⟨by rfl, by (intro w hSw; (try dsimp only at hSw); go_simp; try with_reducible rfl)⟩) (by assumption) ?_
        (try dsimp only [Act.put]); (try go_frame)
        refine wpAnyH_take (i := 3) (v := _) (by first | (simp only [List.getElem?_toArray, List.getElem?_cons_zero, List.getElem?_cons_succ]; rfl) | rfl) (by kernel_rfl) (by kernel_rfl) (by kernel_rfl) (by exact fun _ _ _ h => h) (Or.inl ⟨by rfl, by (intro w hSw; (try dsimp only at hSw); go_simp; try with_reducible rfl)⟩) (by assumption) ?_
        (try dsimp only [Act.put]); (try go_frame)
        refine wpAnyH_take (i := 4) (v := _) (by first | (simp only [List.getElem?_toArray, List.getElem?_cons_zero, List.getElem?_cons_succ]; rfl) | rfl) (by kernel_rfl) (by kernel_rfl) (by kernel_rfl) (by exact fun _ _ _ h => h) (Or.inl ⟨by rfl, by (intro w hSw; (try dsimp only at hSw); go_simp; try with_reducible rfl)⟩) (by assumption) ?_
        (try dsimp only [Act.put]); (try go_frame)
        refine wpAnyH_take (i := 5) (v := _) (by first | (simp only [List.getElem?_toArray, List.getElem?_cons_zero, List.getElem?_cons_succ]; rfl) | rfl) (by kernel_rfl) (by kernel_rfl) (by kernel_rfl) (by exact fun _ _ _ h => h) (Or.inl ⟨by rfl, by (intro w hSw; (try dsimp only at hSw); go_simp; try with_reducible rfl)⟩) (by assumption) ?_
        (try dsimp only [Act.put]); (try go_frame)
        refine wpAnyH_take (i := 6) (v := _) (by first | (simp only [List.getElem?_toArray, List.getElem?_cons_zero, List.getElem?_cons_succ]; rfl) | rfl) (by kernel_rfl) (by kernel_rfl) (by kernel_rfl) (by exact fun _ _ _ h => h) (Or.inl ⟨by rfl, by (intro w hSw; (try dsimp only at hSw); go_simp; try with_reducible rfl)⟩) (by assumption) ?_
        (try dsimp only [Act.put]); (try go_frame)
        refine wpAnyH_take (i := 7) (v := _) (by first | (simp only [List.getElem?_toArray, List.getElem?_cons_zero, List.getElem?_cons_succ]; rfl) | rfl) (by kernel_rfl) (by kernel_rfl) (by kernel_rfl) (by exact fun _ _ _ h => h) (Or.inl ⟨by rfl, by (intro w hSw; (try dsimp only at hSw); go_simp; try with_reducible rfl)⟩) (by assumption) ?_
        (try dsimp only [Act.put]); (try go_frame)
        refine wpAnyH_take (i := 8) (v := _) (by first | (simp only [List.getElem?_toArray, List.getElem?_cons_zero, List.getElem?_cons_succ]; rfl) | rfl) (by kernel_rfl) (by kernel_rfl) (by kernel_rfl) (by exact fun _ _ _ h => h) (Or.inl ⟨by rfl, by (intro w hSw; (try dsimp only at hSw); go_simp; try with_reducible rfl)⟩) (by assumption) ?_
        (try dsimp only [Act.put]); (try go_frame)
        refine wpAnyH_done (by kernel_rfl) ?_ _
        try simp only [QCut]
        clear hHeld
        clear xF22r19_0 xF22r19_1 xF22r19_2 xF22r19_3 xF22r19_4 xF22r19_5 xF22r19_6 yF199_7 yF199_8 yF199_9 yF199_10 yF199_11 yF199_12 yF199_13
        go_wp2_with fail
        rw [rounds_succ]
        obtain ⟨xF1711_0, xF1711_1, xF1711_2, xF1711_3, xF1711_4, xF1711_5, xF1711_6, xF1711_7, xF1711_8⟩ := F17.ce9
        go_wp2_with fail
        (with_reducible refine (t2 _ (hT.below B0)).mono ?_)
        rintro r w7 ⟨rfl, hb7⟩
        clear xF1711_0 xF1711_1 xF1711_2 xF1711_3 xF1711_4 xF1711_5 xF1711_6 xF1711_7 xF1711_8
        replace F7 := F7.keep hb7
        replace F17 := F17.keep hb7
        replace F19 := F19.keep hb7
        replace F22r1 := F22r1.keep hb7
        replace B0 := B0.trans (hb7.mono B0.size)
        clear hb7
        replace F7 := F7.allocd (.cells #[.bool ln, .string lS, .int .i64 le, .bool nn, .string nS, .int .i64 ne, .int .i64 pE] 31)
        replace F17 := F17.allocd (.cells #[.bool ln, .string lS, .int .i64 le, .bool nn, .string nS, .int .i64 ne, .int .i64 pE] 31)
        replace F19 := F19.allocd (.cells #[.bool ln, .string lS, .int .i64 le, .bool nn, .string nS, .int .i64 ne, .int .i64 pE] 31)
        clear F22r1
        have F22r2 := Blk.put (w7) #[.bool ln, .string lS, .int .i64 le, .bool nn, .string nS, .int .i64 ne, .int .i64 pE] 31
        replace B0 := B0.alloc B0.size (.cells #[.bool ln, .string lS, .int .i64 le, .bool nn, .string nS, .int .i64 ne, .int .i64 pE] 31)
        go_wp2_with fail
        refine wp_region_any (by kernel_rfl) ?_
        obtain ⟨xF22r212_0, xF22r212_1, xF22r212_2, xF22r212_3, xF22r212_4, xF22r212_5, xF22r212_6⟩ := F22r2.ce7
        have yF1912_14 : ((w7).alloc (.cells #[.bool ln, .string lS, .int .i64 le, .bool nn, .string nS, .int .i64 ne, .int .i64 pE] 31)).cell? ⟨w4.heap.size, 14, none⟩ = some (.bool ln) := F19.at 14 (by simp)
        have yF1912_15 : ((w7).alloc (.cells #[.bool ln, .string lS, .int .i64 le, .bool nn, .string nS, .int .i64 ne, .int .i64 pE] 31)).cell? ⟨w4.heap.size, 15, none⟩ = some (.string lS) := F19.at 15 (by simp)
        have yF1912_16 : ((w7).alloc (.cells #[.bool ln, .string lS, .int .i64 le, .bool nn, .string nS, .int .i64 ne, .int .i64 pE] 31)).cell? ⟨w4.heap.size, 16, none⟩ = some (.int .i64 le) := F19.at 16 (by simp)
        have yF1912_17 : ((w7).alloc (.cells #[.bool ln, .string lS, .int .i64 le, .bool nn, .string nS, .int .i64 ne, .int .i64 pE] 31)).cell? ⟨w4.heap.size, 17, none⟩ = some (.bool nn) := F19.at 17 (by simp)
        have yF1912_18 : ((w7).alloc (.cells #[.bool ln, .string lS, .int .i64 le, .bool nn, .string nS, .int .i64 ne, .int .i64 pE] 31)).cell? ⟨w4.heap.size, 18, none⟩ = some (.string nS) := F19.at 18 (by simp)
        have yF1912_19 : ((w7).alloc (.cells #[.bool ln, .string lS, .int .i64 le, .bool nn, .string nS, .int .i64 ne, .int .i64 pE] 31)).cell? ⟨w4.heap.size, 19, none⟩ = some (.int .i64 ne) := F19.at 19 (by simp)
        have yF1912_20 : ((w7).alloc (.cells #[.bool ln, .string lS, .int .i64 le, .bool nn, .string nS, .int .i64 ne, .int .i64 pE] 31)).cell? ⟨w4.heap.size, 20, none⟩ = some (.int .i64 pE) := F19.at 20 (by simp)
        have hHeld : (fun w' : World => w'.cell? ⟨w7.heap.size, 0, none⟩ = some (.bool ln) ∧ w'.cell? ⟨w7.heap.size, 1, none⟩ = some (.string lS) ∧ w'.cell? ⟨w7.heap.size, 2, none⟩ = some (.int .i64 le) ∧ w'.cell? ⟨w7.heap.size, 3, none⟩ = some (.bool nn) ∧ w'.cell? ⟨w7.heap.size, 4, none⟩ = some (.string nS) ∧ w'.cell? ⟨w7.heap.size, 5, none⟩ = some (.int .i64 ne) ∧ w'.cell? ⟨w7.heap.size, 6, none⟩ = some (.int .i64 pE) ∧ w'.cell? ⟨w4.heap.size, 14, none⟩ = some (.bool ln) ∧ w'.cell? ⟨w4.heap.size, 15, none⟩ = some (.string lS) ∧ w'.cell? ⟨w4.heap.size, 16, none⟩ = some (.int .i64 le) ∧ w'.cell? ⟨w4.heap.size, 17, none⟩ = some (.bool nn) ∧ w'.cell? ⟨w4.heap.size, 18, none⟩ = some (.string nS) ∧ w'.cell? ⟨w4.heap.size, 19, none⟩ = some (.int .i64 ne) ∧ w'.cell? ⟨w4.heap.size, 20, none⟩ = some (.int .i64 pE)) ((w7).alloc (.cells #[.bool ln, .string lS, .int .i64 le, .bool nn, .string nS, .int .i64 ne, .int .i64 pE] 31)).drew := ⟨xF22r212_0, xF22r212_1, xF22r212_2, xF22r212_3, xF22r212_4, xF22r212_5, xF22r212_6, yF1912_14, yF1912_15, yF1912_16, yF1912_17, yF1912_18, yF1912_19, yF1912_20⟩
        refine wpAny_of_held (S := fun w' : World => w'.cell? ⟨w7.heap.size, 0, none⟩ = some (.bool ln) ∧ w'.cell? ⟨w7.heap.size, 1, none⟩ = some (.string lS) ∧ w'.cell? ⟨w7.heap.size, 2, none⟩ = some (.int .i64 le) ∧ w'.cell? ⟨w7.heap.size, 3, none⟩ = some (.bool nn) ∧ w'.cell? ⟨w7.heap.size, 4, none⟩ = some (.string nS) ∧ w'.cell? ⟨w7.heap.size, 5, none⟩ = some (.int .i64 ne) ∧ w'.cell? ⟨w7.heap.size, 6, none⟩ = some (.int .i64 pE) ∧ w'.cell? ⟨w4.heap.size, 14, none⟩ = some (.bool ln) ∧ w'.cell? ⟨w4.heap.size, 15, none⟩ = some (.string lS) ∧ w'.cell? ⟨w4.heap.size, 16, none⟩ = some (.int .i64 le) ∧ w'.cell? ⟨w4.heap.size, 17, none⟩ = some (.bool nn) ∧ w'.cell? ⟨w4.heap.size, 18, none⟩ = some (.string nS) ∧ w'.cell? ⟨w4.heap.size, 19, none⟩ = some (.int .i64 ne) ∧ w'.cell? ⟨w4.heap.size, 20, none⟩ = some (.int .i64 pE)) _ _ _ ((w7).alloc (.cells #[.bool ln, .string lS, .int .i64 le, .bool nn, .string nS, .int .i64 ne, .int .i64 pE] 31)).drew ?_
        replace F7 := F7.drew
        replace F17 := F17.drew
        replace F19 := F19.drew
        replace F22r2 := F22r2.drew
        replace B0 := B0.drew
        generalize ((w7).alloc (.cells #[.bool ln, .string lS, .int .i64 le, .bool nn, .string nS, .int .i64 ne, .int .i64 pE] 31)).drew = v4 at *
        refine wpAnyH_take (i := 0) (v := _) (by first | (simp only [List.getElem?_toArray, List.getElem?_cons_zero]; rfl) | rfl) (by kernel_rfl) (by kernel_rfl) (by kernel_rfl) (by exact fun _ _ _ h => h) (Or.inl ⟨by rfl, by (intro w hSw; (try dsimp only at hSw); go_simp; try with_reducible rfl)⟩) (by assumption) ?_
        (try dsimp only [Act.put]); (try go_frame)
        refine wpAnyH_take (i := 1) (v := _) (by first | (simp only [List.getElem?_toArray, List.getElem?_cons_zero, List.getElem?_cons_succ]; rfl) | rfl) (by kernel_rfl) (by kernel_rfl) (by kernel_rfl) (by exact fun _ _ _ h => h) (Or.inl ⟨by rfl, by (intro w hSw; (try dsimp only at hSw); go_simp; try with_reducible rfl)⟩) (by assumption) ?_
        (try dsimp only [Act.put]); (try go_frame)
        refine wpAnyH_take (i := 2) (v := _) (by first | (simp only [List.getElem?_toArray, List.getElem?_cons_zero, List.getElem?_cons_succ]; rfl) | rfl) (by kernel_rfl) (by kernel_rfl) (by kernel_rfl) (by exact fun _ _ _ h => h) (Or.inl ⟨by rfl, by (intro w hSw; (try dsimp only at hSw); go_simp; try with_reducible rfl)⟩) (by assumption) ?_
        (try dsimp only [Act.put]); (try go_frame)
        refine wpAnyH_take (i := 3) (v := _) (by first | (simp only [List.getElem?_toArray, List.getElem?_cons_zero, List.getElem?_cons_succ]; rfl) | rfl) (by kernel_rfl) (by kernel_rfl) (by kernel_rfl) (by exact fun _ _ _ h => h) (Or.inl ⟨by rfl, by (intro w hSw; (try dsimp only at hSw); go_simp; try with_reducible rfl)⟩) (by assumption) ?_
        (try dsimp only [Act.put]); (try go_frame)
        refine wpAnyH_take (i := 4) (v := _) (by first | (simp only [List.getElem?_toArray, List.getElem?_cons_zero, List.getElem?_cons_succ]; rfl) | rfl) (by kernel_rfl) (by kernel_rfl) (by kernel_rfl) (by exact fun _ _ _ h => h) (Or.inl ⟨by rfl, by (intro w hSw; (try dsimp only at hSw); go_simp; try with_reducible rfl)⟩) (by assumption) ?_
        (try dsimp only [Act.put]); (try go_frame)
        refine wpAnyH_take (i := 5) (v := _) (by first | (simp only [List.getElem?_toArray, List.getElem?_cons_zero, List.getElem?_cons_succ]; rfl) | rfl) (by kernel_rfl) (by kernel_rfl) (by kernel_rfl) (by exact fun _ _ _ h => h) (Or.inl ⟨by rfl, by (intro w hSw; (try dsimp only at hSw); go_simp; try with_reducible rfl)⟩) (by assumption) ?_
        (try dsimp only [Act.put]); (try go_frame)
        refine wpAnyH_take (i := 6) (v := _) (by first | (simp only [List.getElem?_toArray, List.getElem?_cons_zero, List.getElem?_cons_succ]; rfl) | rfl) (by kernel_rfl) (by kernel_rfl) (by kernel_rfl) (by exact fun _ _ _ h => h) (Or.inl ⟨by rfl, by (intro w hSw; (try dsimp only at hSw); go_simp; try with_reducible rfl)⟩) (by assumption) ?_
        (try dsimp only [Act.put]); (try go_frame)
        refine wpAnyH_take (i := 7) (v := _) (by first | (simp only [List.getElem?_toArray, List.getElem?_cons_zero, List.getElem?_cons_succ]; rfl) | rfl) (by kernel_rfl) (by kernel_rfl) (by kernel_rfl) (by exact fun _ _ _ h => h) (Or.inl ⟨by rfl, by (intro w hSw; (try dsimp only at hSw); go_simp; try with_reducible rfl)⟩) (by assumption) ?_
        (try dsimp only [Act.put]); (try go_frame)
        refine wpAnyH_take (i := 8) (v := _) (by first | (simp only [List.getElem?_toArray, List.getElem?_cons_zero, List.getElem?_cons_succ]; rfl) | rfl) (by kernel_rfl) (by kernel_rfl) (by kernel_rfl) (by exact fun _ _ _ h => h) (Or.inl ⟨by rfl, by (intro w hSw; (try dsimp only at hSw); go_simp; try with_reducible rfl)⟩) (by assumption) ?_
        (try dsimp only [Act.put]); (try go_frame)
        refine wpAnyH_done (by kernel_rfl) ?_ _
        try simp only [QCut]
        clear hHeld
        clear xF22r212_0 xF22r212_1 xF22r212_2 xF22r212_3 xF22r212_4 xF22r212_5 xF22r212_6 yF1912_14 yF1912_15 yF1912_16 yF1912_17 yF1912_18 yF1912_19 yF1912_20
        go_wp2_with fail
        rw [rounds_succ]
        obtain ⟨xF1714_0, xF1714_1, xF1714_2, xF1714_3, xF1714_4, xF1714_5, xF1714_6, xF1714_7, xF1714_8⟩ := F17.ce9
        go_wp2_with fail
        (with_reducible refine (t3 _ (hT.below B0)).mono ?_)
        rintro r w8 ⟨rfl, hb8⟩
        clear xF1714_0 xF1714_1 xF1714_2 xF1714_3 xF1714_4 xF1714_5 xF1714_6 xF1714_7 xF1714_8
        replace F7 := F7.keep hb8
        replace F17 := F17.keep hb8
        replace F19 := F19.keep hb8
        replace F22r2 := F22r2.keep hb8
        replace B0 := B0.trans (hb8.mono B0.size)
        clear hb8
        replace F7 := F7.allocd (.cells #[.bool mn, .string mS, .int .i64 me, .bool nn, .string nS, .int .i64 ne, .int .i64 pE] 31)
        clear F17
        replace F19 := F19.allocd (.cells #[.bool mn, .string mS, .int .i64 me, .bool nn, .string nS, .int .i64 ne, .int .i64 pE] 31)
        clear F22r2
        have F22r3 := Blk.put (w8) #[.bool mn, .string mS, .int .i64 me, .bool nn, .string nS, .int .i64 ne, .int .i64 pE] 31
        replace B0 := B0.alloc B0.size (.cells #[.bool mn, .string mS, .int .i64 me, .bool nn, .string nS, .int .i64 ne, .int .i64 pE] 31)
        go_wp2_with fail
        refine wp_region_any (by kernel_rfl) ?_
        obtain ⟨xF22r315_0, xF22r315_1, xF22r315_2, xF22r315_3, xF22r315_4, xF22r315_5, xF22r315_6⟩ := F22r3.ce7
        have yF1915_21 : ((w8).alloc (.cells #[.bool mn, .string mS, .int .i64 me, .bool nn, .string nS, .int .i64 ne, .int .i64 pE] 31)).cell? ⟨w4.heap.size, 21, none⟩ = some (.bool mn) := F19.at 21 (by simp)
        have yF1915_22 : ((w8).alloc (.cells #[.bool mn, .string mS, .int .i64 me, .bool nn, .string nS, .int .i64 ne, .int .i64 pE] 31)).cell? ⟨w4.heap.size, 22, none⟩ = some (.string mS) := F19.at 22 (by simp)
        have yF1915_23 : ((w8).alloc (.cells #[.bool mn, .string mS, .int .i64 me, .bool nn, .string nS, .int .i64 ne, .int .i64 pE] 31)).cell? ⟨w4.heap.size, 23, none⟩ = some (.int .i64 me) := F19.at 23 (by simp)
        have yF1915_24 : ((w8).alloc (.cells #[.bool mn, .string mS, .int .i64 me, .bool nn, .string nS, .int .i64 ne, .int .i64 pE] 31)).cell? ⟨w4.heap.size, 24, none⟩ = some (.bool nn) := F19.at 24 (by simp)
        have yF1915_25 : ((w8).alloc (.cells #[.bool mn, .string mS, .int .i64 me, .bool nn, .string nS, .int .i64 ne, .int .i64 pE] 31)).cell? ⟨w4.heap.size, 25, none⟩ = some (.string nS) := F19.at 25 (by simp)
        have yF1915_26 : ((w8).alloc (.cells #[.bool mn, .string mS, .int .i64 me, .bool nn, .string nS, .int .i64 ne, .int .i64 pE] 31)).cell? ⟨w4.heap.size, 26, none⟩ = some (.int .i64 ne) := F19.at 26 (by simp)
        have yF1915_27 : ((w8).alloc (.cells #[.bool mn, .string mS, .int .i64 me, .bool nn, .string nS, .int .i64 ne, .int .i64 pE] 31)).cell? ⟨w4.heap.size, 27, none⟩ = some (.int .i64 pE) := F19.at 27 (by simp)
        have hHeld : (fun w' : World => w'.cell? ⟨w8.heap.size, 0, none⟩ = some (.bool mn) ∧ w'.cell? ⟨w8.heap.size, 1, none⟩ = some (.string mS) ∧ w'.cell? ⟨w8.heap.size, 2, none⟩ = some (.int .i64 me) ∧ w'.cell? ⟨w8.heap.size, 3, none⟩ = some (.bool nn) ∧ w'.cell? ⟨w8.heap.size, 4, none⟩ = some (.string nS) ∧ w'.cell? ⟨w8.heap.size, 5, none⟩ = some (.int .i64 ne) ∧ w'.cell? ⟨w8.heap.size, 6, none⟩ = some (.int .i64 pE) ∧ w'.cell? ⟨w4.heap.size, 21, none⟩ = some (.bool mn) ∧ w'.cell? ⟨w4.heap.size, 22, none⟩ = some (.string mS) ∧ w'.cell? ⟨w4.heap.size, 23, none⟩ = some (.int .i64 me) ∧ w'.cell? ⟨w4.heap.size, 24, none⟩ = some (.bool nn) ∧ w'.cell? ⟨w4.heap.size, 25, none⟩ = some (.string nS) ∧ w'.cell? ⟨w4.heap.size, 26, none⟩ = some (.int .i64 ne) ∧ w'.cell? ⟨w4.heap.size, 27, none⟩ = some (.int .i64 pE)) ((w8).alloc (.cells #[.bool mn, .string mS, .int .i64 me, .bool nn, .string nS, .int .i64 ne, .int .i64 pE] 31)).drew := ⟨xF22r315_0, xF22r315_1, xF22r315_2, xF22r315_3, xF22r315_4, xF22r315_5, xF22r315_6, yF1915_21, yF1915_22, yF1915_23, yF1915_24, yF1915_25, yF1915_26, yF1915_27⟩
        refine wpAny_of_held (S := fun w' : World => w'.cell? ⟨w8.heap.size, 0, none⟩ = some (.bool mn) ∧ w'.cell? ⟨w8.heap.size, 1, none⟩ = some (.string mS) ∧ w'.cell? ⟨w8.heap.size, 2, none⟩ = some (.int .i64 me) ∧ w'.cell? ⟨w8.heap.size, 3, none⟩ = some (.bool nn) ∧ w'.cell? ⟨w8.heap.size, 4, none⟩ = some (.string nS) ∧ w'.cell? ⟨w8.heap.size, 5, none⟩ = some (.int .i64 ne) ∧ w'.cell? ⟨w8.heap.size, 6, none⟩ = some (.int .i64 pE) ∧ w'.cell? ⟨w4.heap.size, 21, none⟩ = some (.bool mn) ∧ w'.cell? ⟨w4.heap.size, 22, none⟩ = some (.string mS) ∧ w'.cell? ⟨w4.heap.size, 23, none⟩ = some (.int .i64 me) ∧ w'.cell? ⟨w4.heap.size, 24, none⟩ = some (.bool nn) ∧ w'.cell? ⟨w4.heap.size, 25, none⟩ = some (.string nS) ∧ w'.cell? ⟨w4.heap.size, 26, none⟩ = some (.int .i64 ne) ∧ w'.cell? ⟨w4.heap.size, 27, none⟩ = some (.int .i64 pE)) _ _ _ ((w8).alloc (.cells #[.bool mn, .string mS, .int .i64 me, .bool nn, .string nS, .int .i64 ne, .int .i64 pE] 31)).drew ?_
        replace F7 := F7.drew
        replace F19 := F19.drew
        replace F22r3 := F22r3.drew
        replace B0 := B0.drew
        generalize ((w8).alloc (.cells #[.bool mn, .string mS, .int .i64 me, .bool nn, .string nS, .int .i64 ne, .int .i64 pE] 31)).drew = v5 at *
        refine wpAnyH_take (i := 0) (v := _) (by first | (simp only [List.getElem?_toArray, List.getElem?_cons_zero]; rfl) | rfl) (by kernel_rfl) (by kernel_rfl) (by kernel_rfl) (by exact fun _ _ _ h => h) (Or.inl ⟨by rfl, by (intro w hSw; (try dsimp only at hSw); go_simp; try with_reducible rfl)⟩) (by assumption) ?_
        (try dsimp only [Act.put]); (try go_frame)
        refine wpAnyH_take (i := 1) (v := _) (by first | (simp only [List.getElem?_toArray, List.getElem?_cons_zero, List.getElem?_cons_succ]; rfl) | rfl) (by kernel_rfl) (by kernel_rfl) (by kernel_rfl) (by exact fun _ _ _ h => h) (Or.inl ⟨by rfl, by (intro w hSw; (try dsimp only at hSw); go_simp; try with_reducible rfl)⟩) (by assumption) ?_
        (try dsimp only [Act.put]); (try go_frame)
        refine wpAnyH_take (i := 2) (v := _) (by first | (simp only [List.getElem?_toArray, List.getElem?_cons_zero, List.getElem?_cons_succ]; rfl) | rfl) (by kernel_rfl) (by kernel_rfl) (by kernel_rfl) (by exact fun _ _ _ h => h) (Or.inl ⟨by rfl, by (intro w hSw; (try dsimp only at hSw); go_simp; try with_reducible rfl)⟩) (by assumption) ?_
        (try dsimp only [Act.put]); (try go_frame)
        refine wpAnyH_take (i := 3) (v := _) (by first | (simp only [List.getElem?_toArray, List.getElem?_cons_zero, List.getElem?_cons_succ]; rfl) | rfl) (by kernel_rfl) (by kernel_rfl) (by kernel_rfl) (by exact fun _ _ _ h => h) (Or.inl ⟨by rfl, by (intro w hSw; (try dsimp only at hSw); go_simp; try with_reducible rfl)⟩) (by assumption) ?_
        (try dsimp only [Act.put]); (try go_frame)
        refine wpAnyH_take (i := 4) (v := _) (by first | (simp only [List.getElem?_toArray, List.getElem?_cons_zero, List.getElem?_cons_succ]; rfl) | rfl) (by kernel_rfl) (by kernel_rfl) (by kernel_rfl) (by exact fun _ _ _ h => h) (Or.inl ⟨by rfl, by (intro w hSw; (try dsimp only at hSw); go_simp; try with_reducible rfl)⟩) (by assumption) ?_
        (try dsimp only [Act.put]); (try go_frame)
        refine wpAnyH_take (i := 5) (v := _) (by first | (simp only [List.getElem?_toArray, List.getElem?_cons_zero, List.getElem?_cons_succ]; rfl) | rfl) (by kernel_rfl) (by kernel_rfl) (by kernel_rfl) (by exact fun _ _ _ h => h) (Or.inl ⟨by rfl, by (intro w hSw; (try dsimp only at hSw); go_simp; try with_reducible rfl)⟩) (by assumption) ?_
        (try dsimp only [Act.put]); (try go_frame)
        refine wpAnyH_take (i := 6) (v := _) (by first | (simp only [List.getElem?_toArray, List.getElem?_cons_zero, List.getElem?_cons_succ]; rfl) | rfl) (by kernel_rfl) (by kernel_rfl) (by kernel_rfl) (by exact fun _ _ _ h => h) (Or.inl ⟨by rfl, by (intro w hSw; (try dsimp only at hSw); go_simp; try with_reducible rfl)⟩) (by assumption) ?_
        (try dsimp only [Act.put]); (try go_frame)
        refine wpAnyH_take (i := 7) (v := _) (by first | (simp only [List.getElem?_toArray, List.getElem?_cons_zero, List.getElem?_cons_succ]; rfl) | rfl) (by kernel_rfl) (by kernel_rfl) (by kernel_rfl) (by exact fun _ _ _ h => h) (Or.inl ⟨by rfl, by (intro w hSw; (try dsimp only at hSw); go_simp; try with_reducible rfl)⟩) (by assumption) ?_
        (try dsimp only [Act.put]); (try go_frame)
        refine wpAnyH_take (i := 8) (v := _) (by first | (simp only [List.getElem?_toArray, List.getElem?_cons_zero, List.getElem?_cons_succ]; rfl) | rfl) (by kernel_rfl) (by kernel_rfl) (by kernel_rfl) (by exact fun _ _ _ h => h) (Or.inl ⟨by rfl, by (intro w hSw; (try dsimp only at hSw); go_simp; try with_reducible rfl)⟩) (by assumption) ?_
        (try dsimp only [Act.put]); (try go_frame)
        refine wpAnyH_done (by kernel_rfl) ?_ _
        try simp only [QCut]
        clear hHeld
        clear xF22r315_0 xF22r315_1 xF22r315_2 xF22r315_3 xF22r315_4 xF22r315_5 xF22r315_6 yF1915_21 yF1915_22 yF1915_23 yF1915_24 yF1915_25 yF1915_26 yF1915_27
        go_wp2_with fail
        rw [rounds_succ]
        go_wp2_with fail
        go_meet
        exact ⟨F7, B0⟩
    case rest =>
      clear B0
      clear F7
      clear F15
      clear F17
      obtain ⟨F7, B0⟩ := hcut
      generalize wc = v2 at *
      clear hz
      rcases hcrop.out with ⟨ec, hec, hc⟩ | ⟨pn, pS, pe, qn, qS, qe, hc, ho | ⟨⟨o0, k0, o1, k1⟩, ⟨c0, c1, r0, r1⟩, un, uS, ue, vn, vS, ve, uE, ex, u1, u2⟩⟩
      · have h2 : (ec != 0) = true := by simpa using hec
        clear hec hcrop
        obtain ⟨xF75_0, xF75_1, xF75_2, xF75_3, xF75_4, xF75_5, xF75_6, xF75_7, xF75_8⟩ := F7.ce9
        go_wp2_with fail
        (with_reducible refine (hc _ (hT.below B0)).mono ?_)
        rintro r w4 ⟨rfl, hb4⟩
        clear xF75_0 xF75_1 xF75_2 xF75_3 xF75_4 xF75_5 xF75_6 xF75_7 xF75_8
        replace F7 := F7.keep hb4
        replace B0 := B0.trans (hb4.mono B0.size)
        clear hb4
        clear F7
        have F24 := Blk.put (w4) #[.bool false, .string { data := #[] }, .int .i64 0, .bool false, .string { data := #[] }, .int .i64 0, .int .i64 0, .int .i64 0, .int .i64 0] 29
        replace B0 := B0.alloc B0.size (.cells #[.bool false, .string { data := #[] }, .int .i64 0, .bool false, .string { data := #[] }, .int .i64 0, .int .i64 0, .int .i64 0, .int .i64 0] 29)
        obtain ⟨xF246_0, xF246_1, xF246_2, xF246_3, xF246_4, xF246_5, xF246_6, xF246_7, xF246_8⟩ := F24.ce9
        go_wp2
        go_ret
        exact ⟨rfl, B0⟩
      · clear hcrop
        obtain ⟨xF75_0, xF75_1, xF75_2, xF75_3, xF75_4, xF75_5, xF75_6, xF75_7, xF75_8⟩ := F7.ce9
        go_wp2_with fail
        (with_reducible refine (hc _ (hT.below B0)).mono ?_)
        rintro r w4 ⟨rfl, hb4⟩
        clear xF75_0 xF75_1 xF75_2 xF75_3 xF75_4 xF75_5 xF75_6 xF75_7 xF75_8
        replace F7 := F7.keep hb4
        replace B0 := B0.trans (hb4.mono B0.size)
        clear hb4
        clear F7
        replace B0 := B0.alloc B0.size (.cells #[.bool pn, .string pS, .int .i64 pe, .bool qn, .string qS, .int .i64 qe, .int .i64 e, .int .i64 x, .int .i64 y] 29)
        rcases ho with h | ⟨h0, h⟩ | ⟨h0, h1, h⟩ | ⟨h0, h1, h2, h⟩
        · go_wp2
          go_ret
          exact ⟨rfl, B0⟩
        · go_wp2
          go_ret
          exact ⟨rfl, B0⟩
        · go_wp2
          go_ret
          exact ⟨rfl, B0⟩
        · go_wp2
          go_ret
          exact ⟨rfl, B0⟩
      · clear hcrop
        obtain ⟨xF75_0, xF75_1, xF75_2, xF75_3, xF75_4, xF75_5, xF75_6, xF75_7, xF75_8⟩ := F7.ce9
        go_wp2_with fail
        (with_reducible refine (hc _ (hT.below B0)).mono ?_)
        rintro r w4 ⟨rfl, hb4⟩
        clear xF75_0 xF75_1 xF75_2 xF75_3 xF75_4 xF75_5 xF75_6 xF75_7 xF75_8
        replace F7 := F7.keep hb4
        replace B0 := B0.trans (hb4.mono B0.size)
        clear hb4
        replace F7 := F7.allocd (.cells #[.bool pn, .string pS, .int .i64 pe, .bool qn, .string qS, .int .i64 qe, .int .i64 e, .int .i64 x, .int .i64 y] 29)
        have F24 := Blk.put (w4) #[.bool pn, .string pS, .int .i64 pe, .bool qn, .string qS, .int .i64 qe, .int .i64 e, .int .i64 x, .int .i64 y] 29
        replace B0 := B0.alloc B0.size (.cells #[.bool pn, .string pS, .int .i64 pe, .bool qn, .string qS, .int .i64 qe, .int .i64 e, .int .i64 x, .int .i64 y] 29)
        obtain ⟨xF246_0, xF246_1, xF246_2, xF246_3, xF246_4, xF246_5, xF246_6, xF246_7, xF246_8⟩ := F24.ce9
        go_wp2_with fail
        (with_reducible refine (u1 _ (hT.below B0)).mono ?_)
        rintro r w5 ⟨rfl, hb5⟩
        clear xF246_0 xF246_1 xF246_2 xF246_3 xF246_4 xF246_5 xF246_6 xF246_7 xF246_8
        replace F7 := F7.keep hb5
        replace F24 := F24.keep hb5
        replace B0 := B0.trans (hb5.mono B0.size)
        clear hb5
        replace F7 := F7.allocd (.cells #[.bool un, .string uS, .int .i64 ue, .bool vn, .string vS, .int .i64 ve, .int .i64 uE] 31)
        clear F24
        have F25 := Blk.put (w5) #[.bool un, .string uS, .int .i64 ue, .bool vn, .string vS, .int .i64 ve, .int .i64 uE] 31
        replace B0 := B0.alloc B0.size (.cells #[.bool un, .string uS, .int .i64 ue, .bool vn, .string vS, .int .i64 ve, .int .i64 uE] 31)
        obtain ⟨xF77_0, xF77_1, xF77_2, xF77_3, xF77_4, xF77_5, xF77_6, xF77_7, xF77_8⟩ := F7.ce9
        go_wp2_with fail
        (with_reducible refine (u2 _ (hT.below B0)).mono ?_)
        rintro r w6 ⟨rfl, hb6⟩
        clear xF77_0 xF77_1 xF77_2 xF77_3 xF77_4 xF77_5 xF77_6 xF77_7 xF77_8
        replace F7 := F7.keep hb6
        replace F25 := F25.keep hb6
        replace B0 := B0.trans (hb6.mono B0.size)
        clear hb6
        clear F7
        replace F25 := F25.allocd (.cells #[.bool un, .string uS, .int .i64 ue, .bool vn, .string vS, .int .i64 ve, .int .i64 uE] 31)
        have F26 := Blk.put (w6) #[.bool un, .string uS, .int .i64 ue, .bool vn, .string vS, .int .i64 ve, .int .i64 uE] 31
        replace B0 := B0.alloc B0.size (.cells #[.bool un, .string uS, .int .i64 ue, .bool vn, .string vS, .int .i64 ve, .int .i64 uE] 31)
        by_cases hx : ex = 0
        · subst hx
          obtain ⟨xF258_0, xF258_1, xF258_2, xF258_3, xF258_4, xF258_5, xF258_6⟩ := F25.ce7
          obtain ⟨xF268_0, xF268_1, xF268_2, xF268_3, xF268_4, xF268_5, xF268_6⟩ := F26.ce7
          go_wp2
          go_ret
          exact ⟨rfl, B0⟩
        · have h2 : (ex != 0) = true := by simpa using hx
          go_wp2
          go_ret
          exact ⟨rfl, B0⟩

end Go.Proofs.YtppebjnmollojaaDoor
