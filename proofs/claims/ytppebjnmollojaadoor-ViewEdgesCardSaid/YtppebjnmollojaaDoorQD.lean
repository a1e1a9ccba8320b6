/- filigreelaw24.ViewEdges: the walk, over letters. -/
import Derived.Test.YtppebjnmollojaaDoorQB
import Derived.Test.YtppebjnmollojaaDoorQA
namespace Go.Proofs.YtppebjnmollojaaDoor
open Go Go.RowKit Go.PlainAid Fil


set_option maxRecDepth 1000000 in
set_option maxHeartbeats 16000000 in
theorem edges_bad (c r o k e a d re uE er eu eh  K0 K1 K2 K3 E0 E1 E2 E3 : Int) (hh : Bool) (gn : Bool) (gS : ByteArray) (ge : Int) (hn : Bool) (hS : ByteArray) (he : Int) (mn : Bool) (mS : ByteArray) (me : Int) (jn : Bool) (jS : ByteArray) (je : Int) (ln : Bool) (lS : ByteArray) (le : Int) (bn : Bool) (bS : ByteArray) (be : Int) (pn : Bool) (pS : ByteArray) (pe : Int) (qn : Bool) (qS : ByteArray) (qe : Int) (xn : Bool) (xS : ByteArray) (xe : Int) (yn : Bool) (yS : ByteArray) (ye : Int) (un : Bool) (uS : ByteArray) (ue : Int) (vn : Bool) (vS : ByteArray) (ve : Int) (w : World) (c0 : 0 ≤ c) (c1 : c < 65536) (r0 : 0 ≤ r) (r1 : r < 65536) (cell : ∀ W : World, Tab W → Calls Tryd.prog 9 #[.agg #[.bool gn, .string gS, .int .i64 ge, .bool hn, .string hS, .int .i64 he, .int .i64 e, .int .i64 a, .int .i64 d], .int .i64 c, .int .i64 r] W fun r w' => r = .returned (.tuple #[.agg #[.bool ln, .string lS, .int .i64 le, .bool bn, .string bS, .int .i64 be, .int .i64 e], .int .i64 0]) ∧ Below W.heap.size W w') (corn : ∀ W : World, Tab W → Calls Tryd.prog 10 #[.agg #[.bool ln, .string lS, .int .i64 le, .bool bn, .string bS, .int .i64 be, .int .i64 e]] W fun r w' => r = .returned (.tuple #[.agg #[.bool ln, .string lS, .int .i64 le, .bool bn, .string bS, .int .i64 be, .bool pn, .string pS, .int .i64 pe, .bool bn, .string bS, .int .i64 be, .bool ln, .string lS, .int .i64 le, .bool qn, .string qS, .int .i64 qe, .bool pn, .string pS, .int .i64 pe, .bool qn, .string qS, .int .i64 qe], .int .i64 0]) ∧ Below W.heap.size W w') (right : ∀ W : World, Tab W → Calls Tryd.prog 9 #[.agg #[.bool gn, .string gS, .int .i64 ge, .bool hn, .string hS, .int .i64 he, .int .i64 e, .int .i64 a, .int .i64 d], .int .i64 (c + 1), .int .i64 r] W fun r w' => r = .returned (.tuple #[.agg #[.bool xn, .string xS, .int .i64 xe, .bool yn, .string yS, .int .i64 ye, .int .i64 re], .int .i64 er]) ∧ Below W.heap.size W w') (under : ∀ W : World, Tab W → Calls Tryd.prog 9 #[.agg #[.bool gn, .string gS, .int .i64 ge, .bool hn, .string hS, .int .i64 he, .int .i64 e, .int .i64 a, .int .i64 d], .int .i64 c, .int .i64 (r + 1)] W fun r w' => r = .returned (.tuple #[.agg #[.bool un, .string uS, .int .i64 ue, .bool vn, .string vS, .int .i64 ve, .int .i64 uE], .int .i64 eu]) ∧ Below W.heap.size W w') (holds : ∀ W : World, Tab W → Calls Tryd.prog 11 #[.agg #[.bool ln, .string lS, .int .i64 le, .bool bn, .string bS, .int .i64 be, .int .i64 e], .agg #[.bool mn, .string mS, .int .i64 me, .bool jn, .string jS, .int .i64 je]] W fun r w' => r = .returned (.tuple #[.bool hh, .int .i64 eh]) ∧ Below W.heap.size W w') (k0 : ∀ W : World, Calls Tryd.prog 12 #[.agg #[.bool mn, .string mS, .int .i64 me], .agg #[.bool ln, .string lS, .int .i64 le]] W fun r w' => r = .returned (.tuple #[.int .i64 K0, .int .i64 E0]) ∧ Below W.heap.size W w') (k1 : ∀ W : World, Calls Tryd.prog 12 #[.agg #[.bool mn, .string mS, .int .i64 me], .agg #[.bool pn, .string pS, .int .i64 pe]] W fun r w' => r = .returned (.tuple #[.int .i64 K1, .int .i64 E1]) ∧ Below W.heap.size W w') (k2 : ∀ W : World, Calls Tryd.prog 12 #[.agg #[.bool jn, .string jS, .int .i64 je], .agg #[.bool bn, .string bS, .int .i64 be]] W fun r w' => r = .returned (.tuple #[.int .i64 K2, .int .i64 E2]) ∧ Below W.heap.size W w') (k3 : ∀ W : World, Calls Tryd.prog 12 #[.agg #[.bool jn, .string jS, .int .i64 je], .agg #[.bool qn, .string qS, .int .i64 qe]] W fun r w' => r = .returned (.tuple #[.int .i64 K3, .int .i64 E3]) ∧ Below W.heap.size W w') (fr : er = 0 → pn = xn ∧ pS = xS ∧ pe = xe ∧ bn = yn ∧ bS = yS ∧ be = ye) (fu : eu = 0 → ln = un ∧ lS = uS ∧ le = ue ∧ e = uE ∧ ∀ W : World, Tab W → Calls Tryd.prog 10 #[.agg #[.bool ln, .string lS, .int .i64 le, .bool vn, .string vS, .int .i64 ve, .int .i64 e]] W fun r w' => r = .returned (.tuple #[.agg #[.bool ln, .string lS, .int .i64 le, .bool vn, .string vS, .int .i64 ve, .bool pn, .string pS, .int .i64 pe, .bool vn, .string vS, .int .i64 ve, .bool ln, .string lS, .int .i64 le, .bool bn, .string bS, .int .i64 be, .bool pn, .string pS, .int .i64 pe, .bool bn, .string bS, .int .i64 be], .int .i64 0]) ∧ Below W.heap.size W w') (hx : ¬ eh = 0) (hT : Tab w) :
    Calls Tryd.prog 4 #[.agg #[.bool gn, .string gS, .int .i64 ge, .bool hn, .string hS, .int .i64 he, .int .i64 e, .int .i64 a, .int .i64 d], .int .i64 c, .int .i64 r, .int .i64 o, .int .i64 k, .agg #[.bool mn, .string mS, .int .i64 me, .bool jn, .string jS, .int .i64 je]] w fun r' w' => r' = .returned (.bool true) ∧ Below w.heap.size w w' := by
  have aw := fun W hW => awake24 W hW
  replace fr := Lib.hid fr
  replace fu := Lib.hid fu
  have hx2 : (eh != 0) = true := by simpa using hx
  clear hx
  go_enter Tryd.func4, Tryd.ntmps4
  have B0 := Below.refl w.heap.size w
  have F6 := Blk.put (w) #[.bool gn, .string gS, .int .i64 ge, .bool hn, .string hS, .int .i64 he, .int .i64 e, .int .i64 a, .int .i64 d] 29
  replace B0 := B0.alloc B0.size (.cells #[.bool gn, .string gS, .int .i64 ge, .bool hn, .string hS, .int .i64 he, .int .i64 e, .int .i64 a, .int .i64 d] 29)
  replace F6 := F6.allocd (.cells #[.bool mn, .string mS, .int .i64 me, .bool jn, .string jS, .int .i64 je] 27)
  have F11 := Blk.put ((w).alloc (.cells #[.bool gn, .string gS, .int .i64 ge, .bool hn, .string hS, .int .i64 he, .int .i64 e, .int .i64 a, .int .i64 d] 29)) #[.bool mn, .string mS, .int .i64 me, .bool jn, .string jS, .int .i64 je] 27
  rw [show ((w).alloc (.cells #[.bool gn, .string gS, .int .i64 ge, .bool hn, .string hS, .int .i64 he, .int .i64 e, .int .i64 a, .int .i64 d] 29)).heap.size = w.heap.size + 1 by simp] at F11
  replace B0 := B0.alloc B0.size (.cells #[.bool mn, .string mS, .int .i64 me, .bool jn, .string jS, .int .i64 je] 27)
  go_wp2_with fail
  (with_reducible refine (aw _ (hT.below B0)).mono ?_)
  rintro r w1 ⟨rfl, hb1⟩
  replace F6 := F6.keep hb1
  replace F11 := F11.keep hb1
  replace B0 := B0.trans (hb1.mono B0.size)
  clear hb1
  obtain ⟨xF61_0, xF61_1, xF61_2, xF61_3, xF61_4, xF61_5, xF61_6, xF61_7, xF61_8⟩ := F6.ce9
  go_wp2_with fail
  (with_reducible refine (cell _ (hT.below B0)).mono ?_)
  rintro r w2 ⟨rfl, hb2⟩
  clear xF61_0 xF61_1 xF61_2 xF61_3 xF61_4 xF61_5 xF61_6 xF61_7 xF61_8
  replace F6 := F6.keep hb2
  replace F11 := F11.keep hb2
  replace B0 := B0.trans (hb2.mono B0.size)
  clear hb2
  replace F6 := F6.allocd (.cells #[.bool ln, .string lS, .int .i64 le, .bool bn, .string bS, .int .i64 be, .int .i64 e] 31)
  replace F11 := F11.allocd (.cells #[.bool ln, .string lS, .int .i64 le, .bool bn, .string bS, .int .i64 be, .int .i64 e] 31)
  have F13 := Blk.put (w2) #[.bool ln, .string lS, .int .i64 le, .bool bn, .string bS, .int .i64 be, .int .i64 e] 31
  replace B0 := B0.alloc B0.size (.cells #[.bool ln, .string lS, .int .i64 le, .bool bn, .string bS, .int .i64 be, .int .i64 e] 31)
  obtain ⟨xF132_0, xF132_1, xF132_2, xF132_3, xF132_4, xF132_5, xF132_6⟩ := F13.ce7
  go_wp2_with fail
  (with_reducible refine (corn _ (hT.below B0)).mono ?_)
  rintro r w3 ⟨rfl, hb3⟩
  clear xF132_0 xF132_1 xF132_2 xF132_3 xF132_4 xF132_5 xF132_6
  replace F6 := F6.keep hb3
  replace F11 := F11.keep hb3
  replace F13 := F13.keep hb3
  replace B0 := B0.trans (hb3.mono B0.size)
  clear hb3
  dsimp only
  go_step
  refine wpList_move rfl _ (.inl rfl) (.tuple #[.agg #[.bool ln, .string lS, .int .i64 le, .bool bn, .string bS, .int .i64 be, .bool pn, .string pS, .int .i64 pe, .bool bn, .string bS, .int .i64 be, .bool ln, .string lS, .int .i64 le, .bool qn, .string qS, .int .i64 qe, .bool pn, .string pS, .int .i64 pe, .bool qn, .string qS, .int .i64 qe], .int .i64 0]) rfl ?_
  (try dsimp only [Act.put]); (try go_frame)
  refine wpList_extract rfl _ 0 rfl _ (.agg #[.bool ln, .string lS, .int .i64 le, .bool bn, .string bS, .int .i64 be, .bool pn, .string pS, .int .i64 pe, .bool bn, .string bS, .int .i64 be, .bool ln, .string lS, .int .i64 le, .bool qn, .string qS, .int .i64 qe, .bool pn, .string pS, .int .i64 pe, .bool qn, .string qS, .int .i64 qe]) rfl rfl ?_
  (try dsimp only [Act.put]); (try go_frame)
  refine wpList_extract rfl _ 1 rfl _ (.int .i64 0) rfl rfl ?_
  (try dsimp only [Act.put]); (try go_frame)
  refine wpList_new rfl _ rfl _ Tryd.zeroValue35 ?_
  (try dsimp only [Act.put]); (try go_frame)
  refine wpList_store_new rfl _ _ _ rfl _ #[.bool ln, .string lS, .int .i64 le, .bool bn, .string bS, .int .i64 be, .bool pn, .string pS, .int .i64 pe, .bool bn, .string bS, .int .i64 be, .bool ln, .string lS, .int .i64 le, .bool qn, .string qS, .int .i64 qe, .bool pn, .string pS, .int .i64 pe, .bool qn, .string qS, .int .i64 qe] rfl rfl (by kernel_rfl) rfl (by simp [Value.oneCell']) ?_
  (try dsimp only [Act.put]); (try go_frame)
  replace F6 := F6.allocd (.cells #[.bool ln, .string lS, .int .i64 le, .bool bn, .string bS, .int .i64 be, .bool pn, .string pS, .int .i64 pe, .bool bn, .string bS, .int .i64 be, .bool ln, .string lS, .int .i64 le, .bool qn, .string qS, .int .i64 qe, .bool pn, .string pS, .int .i64 pe, .bool qn, .string qS, .int .i64 qe] 35)
  replace F11 := F11.allocd (.cells #[.bool ln, .string lS, .int .i64 le, .bool bn, .string bS, .int .i64 be, .bool pn, .string pS, .int .i64 pe, .bool bn, .string bS, .int .i64 be, .bool ln, .string lS, .int .i64 le, .bool qn, .string qS, .int .i64 qe, .bool pn, .string pS, .int .i64 pe, .bool qn, .string qS, .int .i64 qe] 35)
  replace F13 := F13.allocd (.cells #[.bool ln, .string lS, .int .i64 le, .bool bn, .string bS, .int .i64 be, .bool pn, .string pS, .int .i64 pe, .bool bn, .string bS, .int .i64 be, .bool ln, .string lS, .int .i64 le, .bool qn, .string qS, .int .i64 qe, .bool pn, .string pS, .int .i64 pe, .bool qn, .string qS, .int .i64 qe] 35)
  have F15 := Blk.put (w3) #[.bool ln, .string lS, .int .i64 le, .bool bn, .string bS, .int .i64 be, .bool pn, .string pS, .int .i64 pe, .bool bn, .string bS, .int .i64 be, .bool ln, .string lS, .int .i64 le, .bool qn, .string qS, .int .i64 qe, .bool pn, .string pS, .int .i64 pe, .bool qn, .string qS, .int .i64 qe] 35
  replace B0 := B0.alloc B0.size (.cells #[.bool ln, .string lS, .int .i64 le, .bool bn, .string bS, .int .i64 be, .bool pn, .string pS, .int .i64 pe, .bool bn, .string bS, .int .i64 be, .bool ln, .string lS, .int .i64 le, .bool qn, .string qS, .int .i64 qe, .bool pn, .string pS, .int .i64 pe, .bool qn, .string qS, .int .i64 qe] 35)
  refine wpList_move rfl _ (.inr rfl) (.int .i64 0) rfl ?_
  (try dsimp only [Act.put]); (try go_frame)
  obtain ⟨xF63_0, xF63_1, xF63_2, xF63_3, xF63_4, xF63_5, xF63_6, xF63_7, xF63_8⟩ := F6.ce9
  go_wp2_with fail
  (with_reducible refine (right _ (hT.below B0)).mono ?_)
  rintro r w4 ⟨rfl, hb4⟩
  clear xF63_0 xF63_1 xF63_2 xF63_3 xF63_4 xF63_5 xF63_6 xF63_7 xF63_8
  replace F6 := F6.keep hb4
  replace F11 := F11.keep hb4
  replace F13 := F13.keep hb4
  replace F15 := F15.keep hb4
  replace B0 := B0.trans (hb4.mono B0.size)
  clear hb4
  replace F6 := F6.allocd (.cells #[.bool xn, .string xS, .int .i64 xe, .bool yn, .string yS, .int .i64 ye, .int .i64 re] 31)
  replace F11 := F11.allocd (.cells #[.bool xn, .string xS, .int .i64 xe, .bool yn, .string yS, .int .i64 ye, .int .i64 re] 31)
  replace F13 := F13.allocd (.cells #[.bool xn, .string xS, .int .i64 xe, .bool yn, .string yS, .int .i64 ye, .int .i64 re] 31)
  replace F15 := F15.allocd (.cells #[.bool xn, .string xS, .int .i64 xe, .bool yn, .string yS, .int .i64 ye, .int .i64 re] 31)
  have F16 := Blk.put (w4) #[.bool xn, .string xS, .int .i64 xe, .bool yn, .string yS, .int .i64 ye, .int .i64 re] 31
  replace B0 := B0.alloc B0.size (.cells #[.bool xn, .string xS, .int .i64 xe, .bool yn, .string yS, .int .i64 ye, .int .i64 re] 31)
  go_upto_region 10 with fail
  go_cut [78] (fun s78 wx => s78 = .bool false ∧ Blk wx (w.heap.size) #[.bool gn, .string gS, .int .i64 ge, .bool hn, .string hS, .int .i64 he, .int .i64 e, .int .i64 a, .int .i64 d] 29 ∧ Blk wx (w.heap.size + 1) #[.bool mn, .string mS, .int .i64 me, .bool jn, .string jS, .int .i64 je] 27 ∧ Blk wx (w2.heap.size) #[.bool ln, .string lS, .int .i64 le, .bool bn, .string bS, .int .i64 be, .int .i64 e] 31 ∧ Blk wx (w3.heap.size) #[.bool ln, .string lS, .int .i64 le, .bool bn, .string bS, .int .i64 be, .bool pn, .string pS, .int .i64 pe, .bool bn, .string bS, .int .i64 be, .bool ln, .string lS, .int .i64 le, .bool qn, .string qS, .int .i64 qe, .bool pn, .string pS, .int .i64 pe, .bool qn, .string qS, .int .i64 qe] 35 ∧ Blk wx (w4.heap.size) #[.bool xn, .string xS, .int .i64 xe, .bool yn, .string yS, .int .i64 ye, .int .i64 re] 31 ∧ Below w.heap.size w wx)
  case first =>
    by_cases hr : er = 0
    · subst hr
      obtain ⟨rfl, rfl, rfl, rfl, rfl, rfl⟩ := fr.out rfl
      obtain ⟨xF164_0, xF164_1, xF164_2, xF164_3, xF164_4, xF164_5, xF164_6⟩ := F16.ce7
      have yF154_6 : ((w4).alloc (.cells #[.bool pn, .string pS, .int .i64 pe, .bool bn, .string bS, .int .i64 be, .int .i64 re] 31)).cell? ⟨w3.heap.size, 6, none⟩ = some (.bool pn) := F15.at 6 (by simp)
      have yF154_7 : ((w4).alloc (.cells #[.bool pn, .string pS, .int .i64 pe, .bool bn, .string bS, .int .i64 be, .int .i64 re] 31)).cell? ⟨w3.heap.size, 7, none⟩ = some (.string pS) := F15.at 7 (by simp)
      have yF154_8 : ((w4).alloc (.cells #[.bool pn, .string pS, .int .i64 pe, .bool bn, .string bS, .int .i64 be, .int .i64 re] 31)).cell? ⟨w3.heap.size, 8, none⟩ = some (.int .i64 pe) := F15.at 8 (by simp)
      obtain ⟨xF134_0, xF134_1, xF134_2, xF134_3, xF134_4, xF134_5, xF134_6⟩ := F13.ce7
      go_wp2_with fail
      go_meet
      exact ⟨by first | rfl | simp, F6, F11, F13, F15, F16, B0⟩
    · have hr2 : (er == 0) = false := by simpa using hr
      go_wp2_with fail
      go_meet
      exact ⟨by first | rfl | simp, F6, F11, F13, F15, F16, B0⟩
  case rest =>
    clear B0
    clear F6
    clear F11
    clear F13
    clear F15
    clear F16
    obtain ⟨rfl, F6, F11, F13, F15, F16, B0⟩ := hcut
    generalize wc = v1 at *
    obtain ⟨xF65_0, xF65_1, xF65_2, xF65_3, xF65_4, xF65_5, xF65_6, xF65_7, xF65_8⟩ := F6.ce9
    go_wp2_with fail
    (with_reducible refine (under _ (hT.below B0)).mono ?_)
    rintro r w5 ⟨rfl, hb5⟩
    clear xF65_0 xF65_1 xF65_2 xF65_3 xF65_4 xF65_5 xF65_6 xF65_7 xF65_8
    replace F6 := F6.keep hb5
    replace F11 := F11.keep hb5
    replace F13 := F13.keep hb5
    replace F15 := F15.keep hb5
    replace F16 := F16.keep hb5
    replace B0 := B0.trans (hb5.mono B0.size)
    clear hb5
    replace F6 := F6.allocd (.cells #[.bool un, .string uS, .int .i64 ue, .bool vn, .string vS, .int .i64 ve, .int .i64 uE] 31)
    replace F11 := F11.allocd (.cells #[.bool un, .string uS, .int .i64 ue, .bool vn, .string vS, .int .i64 ve, .int .i64 uE] 31)
    replace F13 := F13.allocd (.cells #[.bool un, .string uS, .int .i64 ue, .bool vn, .string vS, .int .i64 ve, .int .i64 uE] 31)
    replace F15 := F15.allocd (.cells #[.bool un, .string uS, .int .i64 ue, .bool vn, .string vS, .int .i64 ve, .int .i64 uE] 31)
    clear F16
    have F17 := Blk.put (w5) #[.bool un, .string uS, .int .i64 ue, .bool vn, .string vS, .int .i64 ve, .int .i64 uE] 31
    replace B0 := B0.alloc B0.size (.cells #[.bool un, .string uS, .int .i64 ue, .bool vn, .string vS, .int .i64 ve, .int .i64 uE] 31)
    go_upto_if 88 with fail
    go_cut [] (fun  wx => Blk wx (w.heap.size) #[.bool gn, .string gS, .int .i64 ge, .bool hn, .string hS, .int .i64 he, .int .i64 e, .int .i64 a, .int .i64 d] 29 ∧ Blk wx (w.heap.size + 1) #[.bool mn, .string mS, .int .i64 me, .bool jn, .string jS, .int .i64 je] 27 ∧ Blk wx (w2.heap.size) #[.bool ln, .string lS, .int .i64 le, .bool bn, .string bS, .int .i64 be, .int .i64 e] 31 ∧ Blk wx (w3.heap.size) #[.bool ln, .string lS, .int .i64 le, .bool bn, .string bS, .int .i64 be, .bool pn, .string pS, .int .i64 pe, .bool bn, .string bS, .int .i64 be, .bool ln, .string lS, .int .i64 le, .bool qn, .string qS, .int .i64 qe, .bool pn, .string pS, .int .i64 pe, .bool qn, .string qS, .int .i64 qe] 35 ∧ Below w.heap.size w wx)
    case first =>
      by_cases hu : eu = 0
      · subst hu
        obtain ⟨rfl, rfl, rfl, rfl, hcu⟩ := fu.out rfl
        have hu2 : ((0 : Int) == 0) = true := rfl
        obtain ⟨xF176_0, xF176_1, xF176_2, xF176_3, xF176_4, xF176_5, xF176_6⟩ := F17.ce7
        go_wp2_with fail
        (with_reducible refine (hcu _ (hT.below B0)).mono ?_)
        rintro r w6 ⟨rfl, hb6⟩
        clear xF176_0 xF176_1 xF176_2 xF176_3 xF176_4 xF176_5 xF176_6
        replace F6 := F6.keep hb6
        replace F11 := F11.keep hb6
        replace F13 := F13.keep hb6
        replace F15 := F15.keep hb6
        replace F17 := F17.keep hb6
        replace B0 := B0.trans (hb6.mono B0.size)
        clear hb6
        dsimp only
        go_step
        refine wpList_move rfl _ (.inl rfl) (.tuple #[.agg #[.bool ln, .string lS, .int .i64 le, .bool vn, .string vS, .int .i64 ve, .bool pn, .string pS, .int .i64 pe, .bool vn, .string vS, .int .i64 ve, .bool ln, .string lS, .int .i64 le, .bool bn, .string bS, .int .i64 be, .bool pn, .string pS, .int .i64 pe, .bool bn, .string bS, .int .i64 be], .int .i64 0]) rfl ?_
        (try dsimp only [Act.put]); (try go_frame)
        refine wpList_extract rfl _ 0 rfl _ (.agg #[.bool ln, .string lS, .int .i64 le, .bool vn, .string vS, .int .i64 ve, .bool pn, .string pS, .int .i64 pe, .bool vn, .string vS, .int .i64 ve, .bool ln, .string lS, .int .i64 le, .bool bn, .string bS, .int .i64 be, .bool pn, .string pS, .int .i64 pe, .bool bn, .string bS, .int .i64 be]) rfl rfl ?_
        (try dsimp only [Act.put]); (try go_frame)
        refine wpList_extract rfl _ 1 rfl _ (.int .i64 0) rfl rfl ?_
        (try dsimp only [Act.put]); (try go_frame)
        refine wpList_new rfl _ rfl _ Tryd.zeroValue35 ?_
        (try dsimp only [Act.put]); (try go_frame)
        refine wpList_store_new rfl _ _ _ rfl _ #[.bool ln, .string lS, .int .i64 le, .bool vn, .string vS, .int .i64 ve, .bool pn, .string pS, .int .i64 pe, .bool vn, .string vS, .int .i64 ve, .bool ln, .string lS, .int .i64 le, .bool bn, .string bS, .int .i64 be, .bool pn, .string pS, .int .i64 pe, .bool bn, .string bS, .int .i64 be] rfl rfl (by kernel_rfl) rfl (by simp [Value.oneCell']) ?_
        (try dsimp only [Act.put]); (try go_frame)
        replace F6 := F6.allocd (.cells #[.bool ln, .string lS, .int .i64 le, .bool vn, .string vS, .int .i64 ve, .bool pn, .string pS, .int .i64 pe, .bool vn, .string vS, .int .i64 ve, .bool ln, .string lS, .int .i64 le, .bool bn, .string bS, .int .i64 be, .bool pn, .string pS, .int .i64 pe, .bool bn, .string bS, .int .i64 be] 35)
        replace F11 := F11.allocd (.cells #[.bool ln, .string lS, .int .i64 le, .bool vn, .string vS, .int .i64 ve, .bool pn, .string pS, .int .i64 pe, .bool vn, .string vS, .int .i64 ve, .bool ln, .string lS, .int .i64 le, .bool bn, .string bS, .int .i64 be, .bool pn, .string pS, .int .i64 pe, .bool bn, .string bS, .int .i64 be] 35)
        replace F13 := F13.allocd (.cells #[.bool ln, .string lS, .int .i64 le, .bool vn, .string vS, .int .i64 ve, .bool pn, .string pS, .int .i64 pe, .bool vn, .string vS, .int .i64 ve, .bool ln, .string lS, .int .i64 le, .bool bn, .string bS, .int .i64 be, .bool pn, .string pS, .int .i64 pe, .bool bn, .string bS, .int .i64 be] 35)
        replace F15 := F15.allocd (.cells #[.bool ln, .string lS, .int .i64 le, .bool vn, .string vS, .int .i64 ve, .bool pn, .string pS, .int .i64 pe, .bool vn, .string vS, .int .i64 ve, .bool ln, .string lS, .int .i64 le, .bool bn, .string bS, .int .i64 be, .bool pn, .string pS, .int .i64 pe, .bool bn, .string bS, .int .i64 be] 35)
        clear F17
        have F18 := Blk.put (w6) #[.bool ln, .string lS, .int .i64 le, .bool vn, .string vS, .int .i64 ve, .bool pn, .string pS, .int .i64 pe, .bool vn, .string vS, .int .i64 ve, .bool ln, .string lS, .int .i64 le, .bool bn, .string bS, .int .i64 be, .bool pn, .string pS, .int .i64 pe, .bool bn, .string bS, .int .i64 be] 35
        replace B0 := B0.alloc B0.size (.cells #[.bool ln, .string lS, .int .i64 le, .bool vn, .string vS, .int .i64 ve, .bool pn, .string pS, .int .i64 pe, .bool vn, .string vS, .int .i64 ve, .bool ln, .string lS, .int .i64 le, .bool bn, .string bS, .int .i64 be, .bool pn, .string pS, .int .i64 pe, .bool bn, .string bS, .int .i64 be] 35)
        refine wpList_move rfl _ (.inr rfl) (.int .i64 0) rfl ?_
        (try dsimp only [Act.put]); (try go_frame)
        have yF187_12 : ((w6).alloc (.cells #[.bool ln, .string lS, .int .i64 le, .bool vn, .string vS, .int .i64 ve, .bool pn, .string pS, .int .i64 pe, .bool vn, .string vS, .int .i64 ve, .bool ln, .string lS, .int .i64 le, .bool bn, .string bS, .int .i64 be, .bool pn, .string pS, .int .i64 pe, .bool bn, .string bS, .int .i64 be] 35)).cell? ⟨w6.heap.size, 12, none⟩ = some (.bool ln) := F18.at 12 (by simp)
        have yF187_13 : ((w6).alloc (.cells #[.bool ln, .string lS, .int .i64 le, .bool vn, .string vS, .int .i64 ve, .bool pn, .string pS, .int .i64 pe, .bool vn, .string vS, .int .i64 ve, .bool ln, .string lS, .int .i64 le, .bool bn, .string bS, .int .i64 be, .bool pn, .string pS, .int .i64 pe, .bool bn, .string bS, .int .i64 be] 35)).cell? ⟨w6.heap.size, 13, none⟩ = some (.string lS) := F18.at 13 (by simp)
        have yF187_14 : ((w6).alloc (.cells #[.bool ln, .string lS, .int .i64 le, .bool vn, .string vS, .int .i64 ve, .bool pn, .string pS, .int .i64 pe, .bool vn, .string vS, .int .i64 ve, .bool ln, .string lS, .int .i64 le, .bool bn, .string bS, .int .i64 be, .bool pn, .string pS, .int .i64 pe, .bool bn, .string bS, .int .i64 be] 35)).cell? ⟨w6.heap.size, 14, none⟩ = some (.int .i64 le) := F18.at 14 (by simp)
        have yF187_15 : ((w6).alloc (.cells #[.bool ln, .string lS, .int .i64 le, .bool vn, .string vS, .int .i64 ve, .bool pn, .string pS, .int .i64 pe, .bool vn, .string vS, .int .i64 ve, .bool ln, .string lS, .int .i64 le, .bool bn, .string bS, .int .i64 be, .bool pn, .string pS, .int .i64 pe, .bool bn, .string bS, .int .i64 be] 35)).cell? ⟨w6.heap.size, 15, none⟩ = some (.bool bn) := F18.at 15 (by simp)
        have yF187_16 : ((w6).alloc (.cells #[.bool ln, .string lS, .int .i64 le, .bool vn, .string vS, .int .i64 ve, .bool pn, .string pS, .int .i64 pe, .bool vn, .string vS, .int .i64 ve, .bool ln, .string lS, .int .i64 le, .bool bn, .string bS, .int .i64 be, .bool pn, .string pS, .int .i64 pe, .bool bn, .string bS, .int .i64 be] 35)).cell? ⟨w6.heap.size, 16, none⟩ = some (.string bS) := F18.at 16 (by simp)
        have yF187_17 : ((w6).alloc (.cells #[.bool ln, .string lS, .int .i64 le, .bool vn, .string vS, .int .i64 ve, .bool pn, .string pS, .int .i64 pe, .bool vn, .string vS, .int .i64 ve, .bool ln, .string lS, .int .i64 le, .bool bn, .string bS, .int .i64 be, .bool pn, .string pS, .int .i64 pe, .bool bn, .string bS, .int .i64 be] 35)).cell? ⟨w6.heap.size, 17, none⟩ = some (.int .i64 be) := F18.at 17 (by simp)
        have yF157_0 : ((w6).alloc (.cells #[.bool ln, .string lS, .int .i64 le, .bool vn, .string vS, .int .i64 ve, .bool pn, .string pS, .int .i64 pe, .bool vn, .string vS, .int .i64 ve, .bool ln, .string lS, .int .i64 le, .bool bn, .string bS, .int .i64 be, .bool pn, .string pS, .int .i64 pe, .bool bn, .string bS, .int .i64 be] 35)).cell? ⟨w3.heap.size, 0, none⟩ = some (.bool ln) := F15.at 0 (by simp)
        have yF157_1 : ((w6).alloc (.cells #[.bool ln, .string lS, .int .i64 le, .bool vn, .string vS, .int .i64 ve, .bool pn, .string pS, .int .i64 pe, .bool vn, .string vS, .int .i64 ve, .bool ln, .string lS, .int .i64 le, .bool bn, .string bS, .int .i64 be, .bool pn, .string pS, .int .i64 pe, .bool bn, .string bS, .int .i64 be] 35)).cell? ⟨w3.heap.size, 1, none⟩ = some (.string lS) := F15.at 1 (by simp)
        have yF157_2 : ((w6).alloc (.cells #[.bool ln, .string lS, .int .i64 le, .bool vn, .string vS, .int .i64 ve, .bool pn, .string pS, .int .i64 pe, .bool vn, .string vS, .int .i64 ve, .bool ln, .string lS, .int .i64 le, .bool bn, .string bS, .int .i64 be, .bool pn, .string pS, .int .i64 pe, .bool bn, .string bS, .int .i64 be] 35)).cell? ⟨w3.heap.size, 2, none⟩ = some (.int .i64 le) := F15.at 2 (by simp)
        have yF157_3 : ((w6).alloc (.cells #[.bool ln, .string lS, .int .i64 le, .bool vn, .string vS, .int .i64 ve, .bool pn, .string pS, .int .i64 pe, .bool vn, .string vS, .int .i64 ve, .bool ln, .string lS, .int .i64 le, .bool bn, .string bS, .int .i64 be, .bool pn, .string pS, .int .i64 pe, .bool bn, .string bS, .int .i64 be] 35)).cell? ⟨w3.heap.size, 3, none⟩ = some (.bool bn) := F15.at 3 (by simp)
        have yF157_4 : ((w6).alloc (.cells #[.bool ln, .string lS, .int .i64 le, .bool vn, .string vS, .int .i64 ve, .bool pn, .string pS, .int .i64 pe, .bool vn, .string vS, .int .i64 ve, .bool ln, .string lS, .int .i64 le, .bool bn, .string bS, .int .i64 be, .bool pn, .string pS, .int .i64 pe, .bool bn, .string bS, .int .i64 be] 35)).cell? ⟨w3.heap.size, 4, none⟩ = some (.string bS) := F15.at 4 (by simp)
        have yF157_5 : ((w6).alloc (.cells #[.bool ln, .string lS, .int .i64 le, .bool vn, .string vS, .int .i64 ve, .bool pn, .string pS, .int .i64 pe, .bool vn, .string vS, .int .i64 ve, .bool ln, .string lS, .int .i64 le, .bool bn, .string bS, .int .i64 be, .bool pn, .string pS, .int .i64 pe, .bool bn, .string bS, .int .i64 be] 35)).cell? ⟨w3.heap.size, 5, none⟩ = some (.int .i64 be) := F15.at 5 (by simp)
        have yF187_18 : ((w6).alloc (.cells #[.bool ln, .string lS, .int .i64 le, .bool vn, .string vS, .int .i64 ve, .bool pn, .string pS, .int .i64 pe, .bool vn, .string vS, .int .i64 ve, .bool ln, .string lS, .int .i64 le, .bool bn, .string bS, .int .i64 be, .bool pn, .string pS, .int .i64 pe, .bool bn, .string bS, .int .i64 be] 35)).cell? ⟨w6.heap.size, 18, none⟩ = some (.bool pn) := F18.at 18 (by simp)
        have yF187_19 : ((w6).alloc (.cells #[.bool ln, .string lS, .int .i64 le, .bool vn, .string vS, .int .i64 ve, .bool pn, .string pS, .int .i64 pe, .bool vn, .string vS, .int .i64 ve, .bool ln, .string lS, .int .i64 le, .bool bn, .string bS, .int .i64 be, .bool pn, .string pS, .int .i64 pe, .bool bn, .string bS, .int .i64 be] 35)).cell? ⟨w6.heap.size, 19, none⟩ = some (.string pS) := F18.at 19 (by simp)
        have yF187_20 : ((w6).alloc (.cells #[.bool ln, .string lS, .int .i64 le, .bool vn, .string vS, .int .i64 ve, .bool pn, .string pS, .int .i64 pe, .bool vn, .string vS, .int .i64 ve, .bool ln, .string lS, .int .i64 le, .bool bn, .string bS, .int .i64 be, .bool pn, .string pS, .int .i64 pe, .bool bn, .string bS, .int .i64 be] 35)).cell? ⟨w6.heap.size, 20, none⟩ = some (.int .i64 pe) := F18.at 20 (by simp)
        have yF187_21 : ((w6).alloc (.cells #[.bool ln, .string lS, .int .i64 le, .bool vn, .string vS, .int .i64 ve, .bool pn, .string pS, .int .i64 pe, .bool vn, .string vS, .int .i64 ve, .bool ln, .string lS, .int .i64 le, .bool bn, .string bS, .int .i64 be, .bool pn, .string pS, .int .i64 pe, .bool bn, .string bS, .int .i64 be] 35)).cell? ⟨w6.heap.size, 21, none⟩ = some (.bool bn) := F18.at 21 (by simp)
        have yF187_22 : ((w6).alloc (.cells #[.bool ln, .string lS, .int .i64 le, .bool vn, .string vS, .int .i64 ve, .bool pn, .string pS, .int .i64 pe, .bool vn, .string vS, .int .i64 ve, .bool ln, .string lS, .int .i64 le, .bool bn, .string bS, .int .i64 be, .bool pn, .string pS, .int .i64 pe, .bool bn, .string bS, .int .i64 be] 35)).cell? ⟨w6.heap.size, 22, none⟩ = some (.string bS) := F18.at 22 (by simp)
        have yF187_23 : ((w6).alloc (.cells #[.bool ln, .string lS, .int .i64 le, .bool vn, .string vS, .int .i64 ve, .bool pn, .string pS, .int .i64 pe, .bool vn, .string vS, .int .i64 ve, .bool ln, .string lS, .int .i64 le, .bool bn, .string bS, .int .i64 be, .bool pn, .string pS, .int .i64 pe, .bool bn, .string bS, .int .i64 be] 35)).cell? ⟨w6.heap.size, 23, none⟩ = some (.int .i64 be) := F18.at 23 (by simp)
        have yF157_6 : ((w6).alloc (.cells #[.bool ln, .string lS, .int .i64 le, .bool vn, .string vS, .int .i64 ve, .bool pn, .string pS, .int .i64 pe, .bool vn, .string vS, .int .i64 ve, .bool ln, .string lS, .int .i64 le, .bool bn, .string bS, .int .i64 be, .bool pn, .string pS, .int .i64 pe, .bool bn, .string bS, .int .i64 be] 35)).cell? ⟨w3.heap.size, 6, none⟩ = some (.bool pn) := F15.at 6 (by simp)
        have yF157_7 : ((w6).alloc (.cells #[.bool ln, .string lS, .int .i64 le, .bool vn, .string vS, .int .i64 ve, .bool pn, .string pS, .int .i64 pe, .bool vn, .string vS, .int .i64 ve, .bool ln, .string lS, .int .i64 le, .bool bn, .string bS, .int .i64 be, .bool pn, .string pS, .int .i64 pe, .bool bn, .string bS, .int .i64 be] 35)).cell? ⟨w3.heap.size, 7, none⟩ = some (.string pS) := F15.at 7 (by simp)
        have yF157_8 : ((w6).alloc (.cells #[.bool ln, .string lS, .int .i64 le, .bool vn, .string vS, .int .i64 ve, .bool pn, .string pS, .int .i64 pe, .bool vn, .string vS, .int .i64 ve, .bool ln, .string lS, .int .i64 le, .bool bn, .string bS, .int .i64 be, .bool pn, .string pS, .int .i64 pe, .bool bn, .string bS, .int .i64 be] 35)).cell? ⟨w3.heap.size, 8, none⟩ = some (.int .i64 pe) := F15.at 8 (by simp)
        have yF157_9 : ((w6).alloc (.cells #[.bool ln, .string lS, .int .i64 le, .bool vn, .string vS, .int .i64 ve, .bool pn, .string pS, .int .i64 pe, .bool vn, .string vS, .int .i64 ve, .bool ln, .string lS, .int .i64 le, .bool bn, .string bS, .int .i64 be, .bool pn, .string pS, .int .i64 pe, .bool bn, .string bS, .int .i64 be] 35)).cell? ⟨w3.heap.size, 9, none⟩ = some (.bool bn) := F15.at 9 (by simp)
        have yF157_10 : ((w6).alloc (.cells #[.bool ln, .string lS, .int .i64 le, .bool vn, .string vS, .int .i64 ve, .bool pn, .string pS, .int .i64 pe, .bool vn, .string vS, .int .i64 ve, .bool ln, .string lS, .int .i64 le, .bool bn, .string bS, .int .i64 be, .bool pn, .string pS, .int .i64 pe, .bool bn, .string bS, .int .i64 be] 35)).cell? ⟨w3.heap.size, 10, none⟩ = some (.string bS) := F15.at 10 (by simp)
        have yF157_11 : ((w6).alloc (.cells #[.bool ln, .string lS, .int .i64 le, .bool vn, .string vS, .int .i64 ve, .bool pn, .string pS, .int .i64 pe, .bool vn, .string vS, .int .i64 ve, .bool ln, .string lS, .int .i64 le, .bool bn, .string bS, .int .i64 be, .bool pn, .string pS, .int .i64 pe, .bool bn, .string bS, .int .i64 be] 35)).cell? ⟨w3.heap.size, 11, none⟩ = some (.int .i64 be) := F15.at 11 (by simp)
        go_wp2_with fail
        go_meet
        exact ⟨F6, F11, F13, F15, B0⟩
      · have hu2 : (eu == 0) = false := by simpa using hu
        go_wp2_with fail
        go_meet
        exact ⟨F6, F11, F13, F15, B0⟩
    case rest =>
      clear B0
      clear F6
      clear F11
      clear F13
      clear F15
      clear F17
      obtain ⟨F6, F11, F13, F15, B0⟩ := hcut
      generalize wc = v2 at *
      obtain ⟨xF137_0, xF137_1, xF137_2, xF137_3, xF137_4, xF137_5, xF137_6⟩ := F13.ce7
      obtain ⟨xF117_0, xF117_1, xF117_2, xF117_3, xF117_4, xF117_5⟩ := F11.ce6
      go_wp2_with fail
      (with_reducible refine (holds _ (hT.below B0)).mono ?_)
      rintro r w6 ⟨rfl, hb6⟩
      clear xF137_0 xF137_1 xF137_2 xF137_3 xF137_4 xF137_5 xF137_6 xF117_0 xF117_1 xF117_2 xF117_3 xF117_4 xF117_5
      replace F6 := F6.keep hb6
      replace F11 := F11.keep hb6
      replace F13 := F13.keep hb6
      replace F15 := F15.keep hb6
      replace B0 := B0.trans (hb6.mono B0.size)
      clear hb6
      obtain ⟨xF118_0, xF118_1, xF118_2, xF118_3, xF118_4, xF118_5⟩ := F11.ce6
      obtain ⟨xF138_0, xF138_1, xF138_2, xF138_3, xF138_4, xF138_5, xF138_6⟩ := F13.ce7
      go_wp2_with fail
      (with_reducible refine (k0 _).mono ?_)
      rintro r w7 ⟨rfl, hb7⟩
      clear xF118_0 xF118_1 xF118_2 xF118_3 xF118_4 xF118_5 xF138_0 xF138_1 xF138_2 xF138_3 xF138_4 xF138_5 xF138_6
      clear F6
      replace F11 := F11.keep hb7
      replace F13 := F13.keep hb7
      replace F15 := F15.keep hb7
      replace B0 := B0.trans (hb7.mono B0.size)
      clear hb7
      obtain ⟨xF119_0, xF119_1, xF119_2, xF119_3, xF119_4, xF119_5⟩ := F11.ce6
      have yF159_6 : (w7).cell? ⟨w3.heap.size, 6, none⟩ = some (.bool pn) := F15.at 6 (by simp)
      have yF159_7 : (w7).cell? ⟨w3.heap.size, 7, none⟩ = some (.string pS) := F15.at 7 (by simp)
      have yF159_8 : (w7).cell? ⟨w3.heap.size, 8, none⟩ = some (.int .i64 pe) := F15.at 8 (by simp)
      go_wp2_with fail
      (with_reducible refine (k1 _).mono ?_)
      rintro r w8 ⟨rfl, hb8⟩
      clear xF119_0 xF119_1 xF119_2 xF119_3 xF119_4 xF119_5 yF159_6 yF159_7 yF159_8
      replace F11 := F11.keep hb8
      replace F13 := F13.keep hb8
      replace F15 := F15.keep hb8
      replace B0 := B0.trans (hb8.mono B0.size)
      clear hb8
      obtain ⟨xF1110_0, xF1110_1, xF1110_2, xF1110_3, xF1110_4, xF1110_5⟩ := F11.ce6
      obtain ⟨xF1310_0, xF1310_1, xF1310_2, xF1310_3, xF1310_4, xF1310_5, xF1310_6⟩ := F13.ce7
      go_wp2_with fail
      (with_reducible refine (k2 _).mono ?_)
      rintro r w9 ⟨rfl, hb9⟩
      clear xF1110_0 xF1110_1 xF1110_2 xF1110_3 xF1110_4 xF1110_5 xF1310_0 xF1310_1 xF1310_2 xF1310_3 xF1310_4 xF1310_5 xF1310_6
      replace F11 := F11.keep hb9
      replace F13 := F13.keep hb9
      replace F15 := F15.keep hb9
      replace B0 := B0.trans (hb9.mono B0.size)
      clear hb9
      obtain ⟨xF1111_0, xF1111_1, xF1111_2, xF1111_3, xF1111_4, xF1111_5⟩ := F11.ce6
      have yF1511_15 : (w9).cell? ⟨w3.heap.size, 15, none⟩ = some (.bool qn) := F15.at 15 (by simp)
      have yF1511_16 : (w9).cell? ⟨w3.heap.size, 16, none⟩ = some (.string qS) := F15.at 16 (by simp)
      have yF1511_17 : (w9).cell? ⟨w3.heap.size, 17, none⟩ = some (.int .i64 qe) := F15.at 17 (by simp)
      go_wp2_with fail
      (with_reducible refine (k3 _).mono ?_)
      rintro r w10 ⟨rfl, hb10⟩
      clear xF1111_0 xF1111_1 xF1111_2 xF1111_3 xF1111_4 xF1111_5 yF1511_15 yF1511_16 yF1511_17
      replace F11 := F11.keep hb10
      clear F13
      replace F15 := F15.keep hb10
      replace B0 := B0.trans (hb10.mono B0.size)
      clear hb10
      go_wp2
      go_ret
      exact ⟨rfl, B0⟩

set_option maxRecDepth 1000000 in
set_option maxHeartbeats 16000000 in
theorem edges_none (c r o k e a d er : Int) (gn : Bool) (gS : ByteArray) (ge : Int) (hn : Bool) (hS : ByteArray) (he : Int) (mn : Bool) (mS : ByteArray) (me : Int) (jn : Bool) (jS : ByteArray) (je : Int) (w : World) (cell : ∀ W : World, Tab W → Calls Tryd.prog 9 #[.agg #[.bool gn, .string gS, .int .i64 ge, .bool hn, .string hS, .int .i64 he, .int .i64 e, .int .i64 a, .int .i64 d], .int .i64 c, .int .i64 r] W fun r w' => r = .returned (.tuple #[.agg #[.bool false, .string { data := #[] }, .int .i64 0, .bool false, .string { data := #[] }, .int .i64 0, .int .i64 0], .int .i64 er]) ∧ Below W.heap.size W w') (hx : ¬ er = 0) (hT : Tab w) :
    Calls Tryd.prog 4 #[.agg #[.bool gn, .string gS, .int .i64 ge, .bool hn, .string hS, .int .i64 he, .int .i64 e, .int .i64 a, .int .i64 d], .int .i64 c, .int .i64 r, .int .i64 o, .int .i64 k, .agg #[.bool mn, .string mS, .int .i64 me, .bool jn, .string jS, .int .i64 je]] w fun r' w' => r' = .returned (.bool true) ∧ Below w.heap.size w w' := by
  have aw := fun W hW => awake24 W hW
  have hx2 : (er != 0) = true := by simpa using hx
  clear hx
  go_enter Tryd.func4, Tryd.ntmps4
  have B0 := Below.refl w.heap.size w
  have F6 := Blk.put (w) #[.bool gn, .string gS, .int .i64 ge, .bool hn, .string hS, .int .i64 he, .int .i64 e, .int .i64 a, .int .i64 d] 29
  replace B0 := B0.alloc B0.size (.cells #[.bool gn, .string gS, .int .i64 ge, .bool hn, .string hS, .int .i64 he, .int .i64 e, .int .i64 a, .int .i64 d] 29)
  replace F6 := F6.allocd (.cells #[.bool mn, .string mS, .int .i64 me, .bool jn, .string jS, .int .i64 je] 27)
  replace B0 := B0.alloc B0.size (.cells #[.bool mn, .string mS, .int .i64 me, .bool jn, .string jS, .int .i64 je] 27)
  go_wp2_with fail
  (with_reducible refine (aw _ (hT.below B0)).mono ?_)
  rintro r w1 ⟨rfl, hb1⟩
  replace F6 := F6.keep hb1
  replace B0 := B0.trans (hb1.mono B0.size)
  clear hb1
  obtain ⟨xF61_0, xF61_1, xF61_2, xF61_3, xF61_4, xF61_5, xF61_6, xF61_7, xF61_8⟩ := F6.ce9
  go_wp2_with fail
  (with_reducible refine (cell _ (hT.below B0)).mono ?_)
  rintro r w2 ⟨rfl, hb2⟩
  clear xF61_0 xF61_1 xF61_2 xF61_3 xF61_4 xF61_5 xF61_6 xF61_7 xF61_8
  replace F6 := F6.keep hb2
  replace B0 := B0.trans (hb2.mono B0.size)
  clear hb2
  clear F6
  have F13 := Blk.put (w2) #[.bool false, .string { data := #[] }, .int .i64 0, .bool false, .string { data := #[] }, .int .i64 0, .int .i64 0] 31
  replace B0 := B0.alloc B0.size (.cells #[.bool false, .string { data := #[] }, .int .i64 0, .bool false, .string { data := #[] }, .int .i64 0, .int .i64 0] 31)
  obtain ⟨xF132_0, xF132_1, xF132_2, xF132_3, xF132_4, xF132_5, xF132_6⟩ := F13.ce7
  go_wp2
  go_ret
  exact ⟨rfl, B0⟩

set_option maxRecDepth 1000000 in
set_option maxHeartbeats 16000000 in
theorem edges_corn (c r o k e a d : Int) (gn : Bool) (gS : ByteArray) (ge : Int) (hn : Bool) (hS : ByteArray) (he : Int) (mn : Bool) (mS : ByteArray) (me : Int) (jn : Bool) (jS : ByteArray) (je : Int) (ln : Bool) (lS : ByteArray) (le : Int) (bn : Bool) (bS : ByteArray) (be : Int) (w : World) (cell : ∀ W : World, Tab W → Calls Tryd.prog 9 #[.agg #[.bool gn, .string gS, .int .i64 ge, .bool hn, .string hS, .int .i64 he, .int .i64 e, .int .i64 a, .int .i64 d], .int .i64 c, .int .i64 r] W fun r w' => r = .returned (.tuple #[.agg #[.bool ln, .string lS, .int .i64 le, .bool bn, .string bS, .int .i64 be, .int .i64 e], .int .i64 0]) ∧ Below W.heap.size W w') (corn : ∀ W : World, Tab W → Calls Tryd.prog 10 #[.agg #[.bool ln, .string lS, .int .i64 le, .bool bn, .string bS, .int .i64 be, .int .i64 e]] W fun r w' => r = .returned (.tuple #[.agg #[.bool false, .string { data := #[] }, .int .i64 0, .bool false, .string { data := #[] }, .int .i64 0, .bool false, .string { data := #[] }, .int .i64 0, .bool false, .string { data := #[] }, .int .i64 0, .bool false, .string { data := #[] }, .int .i64 0, .bool false, .string { data := #[] }, .int .i64 0, .bool false, .string { data := #[] }, .int .i64 0, .bool false, .string { data := #[] }, .int .i64 0], .int .i64 4]) ∧ Below W.heap.size W w') (hT : Tab w) :
    Calls Tryd.prog 4 #[.agg #[.bool gn, .string gS, .int .i64 ge, .bool hn, .string hS, .int .i64 he, .int .i64 e, .int .i64 a, .int .i64 d], .int .i64 c, .int .i64 r, .int .i64 o, .int .i64 k, .agg #[.bool mn, .string mS, .int .i64 me, .bool jn, .string jS, .int .i64 je]] w fun r' w' => r' = .returned (.bool true) ∧ Below w.heap.size w w' := by
  have aw := fun W hW => awake24 W hW
  go_enter Tryd.func4, Tryd.ntmps4
  have B0 := Below.refl w.heap.size w
  have F6 := Blk.put (w) #[.bool gn, .string gS, .int .i64 ge, .bool hn, .string hS, .int .i64 he, .int .i64 e, .int .i64 a, .int .i64 d] 29
  replace B0 := B0.alloc B0.size (.cells #[.bool gn, .string gS, .int .i64 ge, .bool hn, .string hS, .int .i64 he, .int .i64 e, .int .i64 a, .int .i64 d] 29)
  replace F6 := F6.allocd (.cells #[.bool mn, .string mS, .int .i64 me, .bool jn, .string jS, .int .i64 je] 27)
  replace B0 := B0.alloc B0.size (.cells #[.bool mn, .string mS, .int .i64 me, .bool jn, .string jS, .int .i64 je] 27)
  go_wp2_with fail
  (with_reducible refine (aw _ (hT.below B0)).mono ?_)
  rintro r w1 ⟨rfl, hb1⟩
  replace F6 := F6.keep hb1
  replace B0 := B0.trans (hb1.mono B0.size)
  clear hb1
  obtain ⟨xF61_0, xF61_1, xF61_2, xF61_3, xF61_4, xF61_5, xF61_6, xF61_7, xF61_8⟩ := F6.ce9
  go_wp2_with fail
  (with_reducible refine (cell _ (hT.below B0)).mono ?_)
  rintro r w2 ⟨rfl, hb2⟩
  clear xF61_0 xF61_1 xF61_2 xF61_3 xF61_4 xF61_5 xF61_6 xF61_7 xF61_8
  replace F6 := F6.keep hb2
  replace B0 := B0.trans (hb2.mono B0.size)
  clear hb2
  clear F6
  have F13 := Blk.put (w2) #[.bool ln, .string lS, .int .i64 le, .bool bn, .string bS, .int .i64 be, .int .i64 e] 31
  replace B0 := B0.alloc B0.size (.cells #[.bool ln, .string lS, .int .i64 le, .bool bn, .string bS, .int .i64 be, .int .i64 e] 31)
  obtain ⟨xF132_0, xF132_1, xF132_2, xF132_3, xF132_4, xF132_5, xF132_6⟩ := F13.ce7
  go_wp2_with fail
  (with_reducible refine (corn _ (hT.below B0)).mono ?_)
  rintro r w3 ⟨rfl, hb3⟩
  clear xF132_0 xF132_1 xF132_2 xF132_3 xF132_4 xF132_5 xF132_6
  replace F13 := F13.keep hb3
  replace B0 := B0.trans (hb3.mono B0.size)
  clear hb3
  dsimp only
  go_step
  refine wpList_move rfl _ (.inl rfl) (.tuple #[.agg #[.bool false, .string { data := #[] }, .int .i64 0, .bool false, .string { data := #[] }, .int .i64 0, .bool false, .string { data := #[] }, .int .i64 0, .bool false, .string { data := #[] }, .int .i64 0, .bool false, .string { data := #[] }, .int .i64 0, .bool false, .string { data := #[] }, .int .i64 0, .bool false, .string { data := #[] }, .int .i64 0, .bool false, .string { data := #[] }, .int .i64 0], .int .i64 4]) rfl ?_
  (try dsimp only [Act.put]); (try go_frame)
  refine wpList_extract rfl _ 0 rfl _ (.agg #[.bool false, .string { data := #[] }, .int .i64 0, .bool false, .string { data := #[] }, .int .i64 0, .bool false, .string { data := #[] }, .int .i64 0, .bool false, .string { data := #[] }, .int .i64 0, .bool false, .string { data := #[] }, .int .i64 0, .bool false, .string { data := #[] }, .int .i64 0, .bool false, .string { data := #[] }, .int .i64 0, .bool false, .string { data := #[] }, .int .i64 0]) rfl rfl ?_
  (try dsimp only [Act.put]); (try go_frame)
  refine wpList_extract rfl _ 1 rfl _ (.int .i64 4) rfl rfl ?_
  (try dsimp only [Act.put]); (try go_frame)
  refine wpList_new rfl _ rfl _ Tryd.zeroValue35 ?_
  (try dsimp only [Act.put]); (try go_frame)
  refine wpList_store_new rfl _ _ _ rfl _ #[.bool false, .string { data := #[] }, .int .i64 0, .bool false, .string { data := #[] }, .int .i64 0, .bool false, .string { data := #[] }, .int .i64 0, .bool false, .string { data := #[] }, .int .i64 0, .bool false, .string { data := #[] }, .int .i64 0, .bool false, .string { data := #[] }, .int .i64 0, .bool false, .string { data := #[] }, .int .i64 0, .bool false, .string { data := #[] }, .int .i64 0] rfl rfl (by kernel_rfl) rfl (by simp [Value.oneCell']) ?_
  (try dsimp only [Act.put]); (try go_frame)
  clear F13
  replace B0 := B0.alloc B0.size (.cells #[.bool false, .string { data := #[] }, .int .i64 0, .bool false, .string { data := #[] }, .int .i64 0, .bool false, .string { data := #[] }, .int .i64 0, .bool false, .string { data := #[] }, .int .i64 0, .bool false, .string { data := #[] }, .int .i64 0, .bool false, .string { data := #[] }, .int .i64 0, .bool false, .string { data := #[] }, .int .i64 0, .bool false, .string { data := #[] }, .int .i64 0] 35)
  refine wpList_move rfl _ (.inr rfl) (.int .i64 4) rfl ?_
  (try dsimp only [Act.put]); (try go_frame)
  go_wp2
  go_ret
  exact ⟨rfl, B0⟩

end Go.Proofs.YtppebjnmollojaaDoor
