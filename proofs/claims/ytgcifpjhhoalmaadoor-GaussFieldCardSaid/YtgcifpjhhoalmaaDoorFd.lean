/- filigreelaw06.GaussField. -/
import Derived.Test.YtgcifpjhhoalmaaDoorGL
import Derived.Test.YtgcifpjhhoalmaaDoorHF
namespace Go.Proofs.YtgcifpjhhoalmaaDoor
open Go Go.RowKit Go.PlainAid Fil

theorem bstr_one : bstr 1 = { data := #[1] } := by
  apply ByteArray.ext
  apply Array.ext'
  show bs 1 = [1]
  decide
theorem gmul_i (a : GY) (w : World) (ha : a.ok) (hT : Tab w) :
    Calls Tryd.prog 44 #[.agg #[.bool a.re.n, .string (bstr a.re.x), .int .i64 a.re.e, .bool a.im.n, .string (bstr a.im.x), .int .i64 a.im.e], .agg #[.bool false, .string { data := #[] }, .int .i64 0, .bool false, .string { data := #[1] }, .int .i64 0]] w fun r w' => r = .returned (.tuple #[.agg #[.bool (gTurn a).re.n, .string (bstr (gTurn a).re.x), .int .i64 (gTurn a).re.e, .bool (gTurn a).im.n, .string (bstr (gTurn a).im.x), .int .i64 (gTurn a).im.e], .int .i64 0]) ∧ Below w.heap.size w w' := by
  have h := gmul a GY.i w ha GY.i_ok hT
  rw [gTurn_mul ha, show bstr GY.i.re.x = { data := #[] } from bstr_zero, show bstr GY.i.im.x = { data := #[1] } from bstr_one] at h
  exact h

set_option maxRecDepth 100000 in
set_option maxHeartbeats 8000000 in
theorem field_bad (p q : Option GY) (a : GR) (b : GR) (c : GR) (S : GY × Int) (P : GY × Int) (U : GY × Int) (V : GY × Int) (L : GY × Int) (X : GY × Int) (Y : GY × Int) (Z : GY × Int) (E_S : x2 GY.zero gAdd none p = S) (E_P : x2 GY.zero gMul none p = P) (E_U : x2 GY.zero gMul (some P.1) q = U) (E_V : x2 GY.zero gMul p q = V) (E_L : x2 GY.zero gMul none (some V.1) = L) (E_X : x2 GY.zero gMul (some S.1) q = X) (E_Y : x2 GY.zero gMul none q = Y) (E_Z : gAdd Y.1 V.1 = Z) (w : World) (ho : Rep a none) (hp : Rep b p) (hq : Rep c q) (hT : Tab w) :
    Calls Tryd.prog 11 #[.agg #[.bool a.n, .string a.s, .int .i64 a.e, .bool a.m, .string a.t, .int .i64 a.f], .agg #[.bool b.n, .string b.s, .int .i64 b.e, .bool b.m, .string b.t, .int .i64 b.f], .agg #[.bool c.n, .string c.s, .int .i64 c.e, .bool c.m, .string c.t, .int .i64 c.f]] w fun r w' => r = .returned (.bool true) ∧ Below w.heap.size w w' := by
  have ok_S : S.1.ok := E_S ▸ x2_ok gAdd_ok _ _
  have ok_P : P.1.ok := E_P ▸ x2_ok gMul_ok _ _
  have ok_U : U.1.ok := E_U ▸ x2_ok gMul_ok _ _
  have ok_V : V.1.ok := E_V ▸ x2_ok gMul_ok _ _
  have ok_L : L.1.ok := E_L ▸ x2_ok gMul_ok _ _
  have ok_X : X.1.ok := E_X ▸ x2_ok gMul_ok _ _
  have ok_Y : Y.1.ok := E_Y ▸ x2_ok gMul_ok _ _
  have ok_Z : Z.1.ok := E_Z ▸ gAdd_ok _ _
  have hw := fun W hW => l6awake_any W hW
  have h1 := fun W hW => gadd_x a b none p W ho hp hW
  rw [E_S] at h1
  have h2 := fun W hW => gadd_x b a p none W hp ho hW
  rw [x2_comm gAdd_comm] at h2
  rw [E_S] at h2
  have h3 := fun W hW => gmul_x a b none p W ho hp hW
  rw [E_P] at h3
  have h4 := fun W hW => gmul_x b a p none W hp ho hW
  rw [x2_comm gMul_comm] at h4
  rw [E_P] at h4
  have h5 := fun W hW => gmul_x P.1.raw c (some P.1) q W (Rep.out ok_P) hq hW
  rw [E_U] at h5
  have h6 := fun W hW => gmul_x b c p q W hp hq hW
  rw [E_V] at h6
  have h7 := fun W hW => gmul_x a V.1.raw none (some V.1) W ho (Rep.out ok_V) hW
  rw [E_L] at h7
  have o1 := fun Bk W h => l6all_4 P.2 U.2 V.2 L.2 Bk W h
  have h8 := fun W hW => gmul_x S.1.raw c (some S.1) q W (Rep.out ok_S) hq hW
  rw [E_X] at h8
  have h9 := fun W hW => gmul_x a c none q W ho hq hW
  rw [E_Y] at h9
  have h10 := fun W hW => gadd Y.1 V.1 W ok_Y ok_V hW
  rw [E_Z] at h10
  have o2 := fun Bk W h => l6all_5 S.2 X.2 V.2 Y.2 Z.2 Bk W h
  have h11 := fun W => gcheck_x a none W ho
  have f1 : oks [P.2, U.2, V.2, L.2] = true → U.1.re.n = L.1.re.n ∧ bstr U.1.re.x = bstr L.1.re.x ∧ U.1.re.e = L.1.re.e ∧ U.1.im.n = L.1.im.n ∧ bstr U.1.im.x = bstr L.1.im.x ∧ U.1.im.e = L.1.im.e := fun h => by
    rw [oks_cons, oks_cons, oks_cons, oks_cons] at h
    obtain ⟨e1, -⟩ := h
    subst E_P
    obtain ⟨A', B', hA, -⟩ := x2_some e1
    cases hA
  have f2 : oks [S.2, X.2, V.2, Y.2, Z.2] = true → X.1.re.n = Z.1.re.n ∧ bstr X.1.re.x = bstr Z.1.re.x ∧ X.1.re.e = Z.1.re.e ∧ X.1.im.n = Z.1.im.n ∧ bstr X.1.im.x = bstr Z.1.im.x ∧ X.1.im.e = Z.1.im.e := fun h => by
    rw [oks_cons, oks_cons, oks_cons, oks_cons, oks_cons] at h
    obtain ⟨e1, -⟩ := h
    subst E_S
    obtain ⟨A', B', hA, -⟩ := x2_some e1
    cases hA
  generalize oks [P.2, U.2, V.2, L.2] = O1 at *
  generalize oks [S.2, X.2, V.2, Y.2, Z.2] = O2 at *
  clear ho hp hq
  clear E_S E_P E_U E_V E_L E_X E_Y E_Z ok_S ok_P ok_U ok_V ok_L ok_X ok_Y ok_Z
  obtain ⟨an, aS, ae, am, aT, af⟩ := a
  obtain ⟨bn, bS, be, bm, bT, bf⟩ := b
  obtain ⟨cn, cS, ce, cm, cT, cf⟩ := c
  obtain ⟨⟨⟨Sn, SX, Se⟩, ⟨Sm, SY, Sf⟩⟩, Sr⟩ := S
  obtain ⟨⟨⟨Pn, PX, Pe⟩, ⟨Pm, PY, Pf⟩⟩, Pr⟩ := P
  obtain ⟨⟨⟨Un, UX, Ue⟩, ⟨Um, UY, Uf⟩⟩, Ur⟩ := U
  obtain ⟨⟨⟨Vn, VX, Ve⟩, ⟨Vm, VY, Vf⟩⟩, Vr⟩ := V
  obtain ⟨⟨⟨Ln, LX, Le⟩, ⟨Lm, LY, Lf⟩⟩, Lr⟩ := L
  obtain ⟨⟨⟨Xn, XX, Xe⟩, ⟨Xm, XY, Xf⟩⟩, Xr⟩ := X
  obtain ⟨⟨⟨Yn, YX, Ye⟩, ⟨Ym, YY, Yf⟩⟩, Yr⟩ := Y
  obtain ⟨⟨⟨Zn, ZX, Ze⟩, ⟨Zm, ZY, Zf⟩⟩, Zr⟩ := Z
  dsimp only at *
  try dsimp only [GY.raw, DY.raw] at *
  generalize bstr SX = SS at *
  generalize bstr SY = ST at *
  generalize bstr PX = PS at *
  generalize bstr PY = PT at *
  generalize bstr UX = US at *
  generalize bstr UY = UT at *
  generalize bstr VX = VS at *
  generalize bstr VY = VT at *
  generalize bstr LX = LS at *
  generalize bstr LY = LT at *
  generalize bstr XX = XS at *
  generalize bstr XY = XT at *
  generalize bstr YX = YS at *
  generalize bstr YY = YT at *
  generalize bstr ZX = ZS at *
  generalize bstr ZY = ZT at *
  have K1 := Lib.hid f1
  have K2 := Lib.hid f2
  clear f1 f2
  simp only [Option.isSome_none, Bool.false_eq_true, if_false] at h11
  go_enter Tryd.func11, Tryd.ntmps11
  have B0 := Below.refl w.heap.size w
  have F3 := Blk.put (w) #[.bool an, .string aS, .int .i64 ae, .bool am, .string aT, .int .i64 af] 49
  replace B0 := B0.alloc B0.size (.cells #[.bool an, .string aS, .int .i64 ae, .bool am, .string aT, .int .i64 af] 49)
  replace F3 := F3.allocd (.cells #[.bool bn, .string bS, .int .i64 be, .bool bm, .string bT, .int .i64 bf] 49)
  have F4 := Blk.put ((w).alloc (.cells #[.bool an, .string aS, .int .i64 ae, .bool am, .string aT, .int .i64 af] 49)) #[.bool bn, .string bS, .int .i64 be, .bool bm, .string bT, .int .i64 bf] 49
  rw [show ((w).alloc (.cells #[.bool an, .string aS, .int .i64 ae, .bool am, .string aT, .int .i64 af] 49)).heap.size = w.heap.size + 1 by simp] at F4
  replace B0 := B0.alloc B0.size (.cells #[.bool bn, .string bS, .int .i64 be, .bool bm, .string bT, .int .i64 bf] 49)
  replace F3 := F3.allocd (.cells #[.bool cn, .string cS, .int .i64 ce, .bool cm, .string cT, .int .i64 cf] 49)
  replace F4 := F4.allocd (.cells #[.bool cn, .string cS, .int .i64 ce, .bool cm, .string cT, .int .i64 cf] 49)
  have F5 := Blk.put (((w).alloc (.cells #[.bool an, .string aS, .int .i64 ae, .bool am, .string aT, .int .i64 af] 49)).alloc (.cells #[.bool bn, .string bS, .int .i64 be, .bool bm, .string bT, .int .i64 bf] 49)) #[.bool cn, .string cS, .int .i64 ce, .bool cm, .string cT, .int .i64 cf] 49
  rw [show (((w).alloc (.cells #[.bool an, .string aS, .int .i64 ae, .bool am, .string aT, .int .i64 af] 49)).alloc (.cells #[.bool bn, .string bS, .int .i64 be, .bool bm, .string bT, .int .i64 bf] 49)).heap.size = w.heap.size + 1 + 1 by simp] at F5
  replace B0 := B0.alloc B0.size (.cells #[.bool cn, .string cS, .int .i64 ce, .bool cm, .string cT, .int .i64 cf] 49)
  go_wp2_with fail
  (with_reducible refine (hw _ (hT.below B0)).mono ?_)
  rintro r w1 ⟨rfl, hb1⟩
  replace F3 := F3.keep hb1
  replace F4 := F4.keep hb1
  replace F5 := F5.keep hb1
  replace B0 := B0.trans (hb1.mono B0.size)
  clear hb1
  obtain ⟨xF31_0, xF31_1, xF31_2, xF31_3, xF31_4, xF31_5⟩ := F3.ce6
  obtain ⟨xF41_0, xF41_1, xF41_2, xF41_3, xF41_4, xF41_5⟩ := F4.ce6
  go_wp2_with fail
  (with_reducible refine (h1 _ (hT.below B0)).mono ?_)
  rintro r w2 ⟨rfl, hb2⟩
  clear xF31_0 xF31_1 xF31_2 xF31_3 xF31_4 xF31_5 xF41_0 xF41_1 xF41_2 xF41_3 xF41_4 xF41_5
  replace F3 := F3.keep hb2
  replace F4 := F4.keep hb2
  replace F5 := F5.keep hb2
  replace B0 := B0.trans (hb2.mono B0.size)
  clear hb2
  replace F3 := F3.allocd (.cells #[.bool Sn, .string SS, .int .i64 Se, .bool Sm, .string ST, .int .i64 Sf] 49)
  replace F4 := F4.allocd (.cells #[.bool Sn, .string SS, .int .i64 Se, .bool Sm, .string ST, .int .i64 Sf] 49)
  replace F5 := F5.allocd (.cells #[.bool Sn, .string SS, .int .i64 Se, .bool Sm, .string ST, .int .i64 Sf] 49)
  have F7 := Blk.put (w2) #[.bool Sn, .string SS, .int .i64 Se, .bool Sm, .string ST, .int .i64 Sf] 49
  replace B0 := B0.alloc B0.size (.cells #[.bool Sn, .string SS, .int .i64 Se, .bool Sm, .string ST, .int .i64 Sf] 49)
  obtain ⟨xF42_0, xF42_1, xF42_2, xF42_3, xF42_4, xF42_5⟩ := F4.ce6
  obtain ⟨xF32_0, xF32_1, xF32_2, xF32_3, xF32_4, xF32_5⟩ := F3.ce6
  go_wp2_with fail
  (with_reducible refine (h2 _ (hT.below B0)).mono ?_)
  rintro r w3 ⟨rfl, hb3⟩
  clear xF42_0 xF42_1 xF42_2 xF42_3 xF42_4 xF42_5 xF32_0 xF32_1 xF32_2 xF32_3 xF32_4 xF32_5
  replace F3 := F3.keep hb3
  replace F4 := F4.keep hb3
  replace F5 := F5.keep hb3
  replace F7 := F7.keep hb3
  replace B0 := B0.trans (hb3.mono B0.size)
  clear hb3
  replace F3 := F3.allocd (.cells #[.bool Sn, .string SS, .int .i64 Se, .bool Sm, .string ST, .int .i64 Sf] 49)
  replace F4 := F4.allocd (.cells #[.bool Sn, .string SS, .int .i64 Se, .bool Sm, .string ST, .int .i64 Sf] 49)
  replace F5 := F5.allocd (.cells #[.bool Sn, .string SS, .int .i64 Se, .bool Sm, .string ST, .int .i64 Sf] 49)
  replace F7 := F7.allocd (.cells #[.bool Sn, .string SS, .int .i64 Se, .bool Sm, .string ST, .int .i64 Sf] 49)
  have F9 := Blk.put (w3) #[.bool Sn, .string SS, .int .i64 Se, .bool Sm, .string ST, .int .i64 Sf] 49
  replace B0 := B0.alloc B0.size (.cells #[.bool Sn, .string SS, .int .i64 Se, .bool Sm, .string ST, .int .i64 Sf] 49)
  obtain ⟨xF33_0, xF33_1, xF33_2, xF33_3, xF33_4, xF33_5⟩ := F3.ce6
  obtain ⟨xF43_0, xF43_1, xF43_2, xF43_3, xF43_4, xF43_5⟩ := F4.ce6
  go_wp2_with fail
  (with_reducible refine (h3 _ (hT.below B0)).mono ?_)
  rintro r w4 ⟨rfl, hb4⟩
  clear xF33_0 xF33_1 xF33_2 xF33_3 xF33_4 xF33_5 xF43_0 xF43_1 xF43_2 xF43_3 xF43_4 xF43_5
  replace F3 := F3.keep hb4
  replace F4 := F4.keep hb4
  replace F5 := F5.keep hb4
  replace F7 := F7.keep hb4
  replace F9 := F9.keep hb4
  replace B0 := B0.trans (hb4.mono B0.size)
  clear hb4
  replace F3 := F3.allocd (.cells #[.bool Pn, .string PS, .int .i64 Pe, .bool Pm, .string PT, .int .i64 Pf] 49)
  replace F4 := F4.allocd (.cells #[.bool Pn, .string PS, .int .i64 Pe, .bool Pm, .string PT, .int .i64 Pf] 49)
  replace F5 := F5.allocd (.cells #[.bool Pn, .string PS, .int .i64 Pe, .bool Pm, .string PT, .int .i64 Pf] 49)
  replace F7 := F7.allocd (.cells #[.bool Pn, .string PS, .int .i64 Pe, .bool Pm, .string PT, .int .i64 Pf] 49)
  replace F9 := F9.allocd (.cells #[.bool Pn, .string PS, .int .i64 Pe, .bool Pm, .string PT, .int .i64 Pf] 49)
  have F11 := Blk.put (w4) #[.bool Pn, .string PS, .int .i64 Pe, .bool Pm, .string PT, .int .i64 Pf] 49
  replace B0 := B0.alloc B0.size (.cells #[.bool Pn, .string PS, .int .i64 Pe, .bool Pm, .string PT, .int .i64 Pf] 49)
  obtain ⟨xF44_0, xF44_1, xF44_2, xF44_3, xF44_4, xF44_5⟩ := F4.ce6
  obtain ⟨xF34_0, xF34_1, xF34_2, xF34_3, xF34_4, xF34_5⟩ := F3.ce6
  go_wp2_with fail
  (with_reducible refine (h4 _ (hT.below B0)).mono ?_)
  rintro r w5 ⟨rfl, hb5⟩
  clear xF44_0 xF44_1 xF44_2 xF44_3 xF44_4 xF44_5 xF34_0 xF34_1 xF34_2 xF34_3 xF34_4 xF34_5
  replace F3 := F3.keep hb5
  replace F4 := F4.keep hb5
  replace F5 := F5.keep hb5
  replace F7 := F7.keep hb5
  replace F9 := F9.keep hb5
  replace F11 := F11.keep hb5
  replace B0 := B0.trans (hb5.mono B0.size)
  clear hb5
  replace F3 := F3.allocd (.cells #[.bool Pn, .string PS, .int .i64 Pe, .bool Pm, .string PT, .int .i64 Pf] 49)
  replace F4 := F4.allocd (.cells #[.bool Pn, .string PS, .int .i64 Pe, .bool Pm, .string PT, .int .i64 Pf] 49)
  replace F5 := F5.allocd (.cells #[.bool Pn, .string PS, .int .i64 Pe, .bool Pm, .string PT, .int .i64 Pf] 49)
  replace F7 := F7.allocd (.cells #[.bool Pn, .string PS, .int .i64 Pe, .bool Pm, .string PT, .int .i64 Pf] 49)
  replace F9 := F9.allocd (.cells #[.bool Pn, .string PS, .int .i64 Pe, .bool Pm, .string PT, .int .i64 Pf] 49)
  replace F11 := F11.allocd (.cells #[.bool Pn, .string PS, .int .i64 Pe, .bool Pm, .string PT, .int .i64 Pf] 49)
  have F13 := Blk.put (w5) #[.bool Pn, .string PS, .int .i64 Pe, .bool Pm, .string PT, .int .i64 Pf] 49
  replace B0 := B0.alloc B0.size (.cells #[.bool Pn, .string PS, .int .i64 Pe, .bool Pm, .string PT, .int .i64 Pf] 49)
  go_upto_region 7 with fail
  go_cut [70] (fun s70 wx => s70 = .bool false ∧ Blk wx (w.heap.size) #[.bool an, .string aS, .int .i64 ae, .bool am, .string aT, .int .i64 af] 49 ∧ Blk wx (w.heap.size + 1) #[.bool bn, .string bS, .int .i64 be, .bool bm, .string bT, .int .i64 bf] 49 ∧ Blk wx (w.heap.size + 1 + 1) #[.bool cn, .string cS, .int .i64 ce, .bool cm, .string cT, .int .i64 cf] 49 ∧ Blk wx (w2.heap.size) #[.bool Sn, .string SS, .int .i64 Se, .bool Sm, .string ST, .int .i64 Sf] 49 ∧ Blk wx (w4.heap.size) #[.bool Pn, .string PS, .int .i64 Pe, .bool Pm, .string PT, .int .i64 Pf] 49 ∧ Below w.heap.size w wx)
  case first =>
    obtain ⟨xF75_0, xF75_1, xF75_2, xF75_3, xF75_4, xF75_5⟩ := F7.ce6
    obtain ⟨xF95_0, xF95_1, xF95_2, xF95_3, xF95_4, xF95_5⟩ := F9.ce6
    obtain ⟨xF115_0, xF115_1, xF115_2, xF115_3, xF115_4, xF115_5⟩ := F11.ce6
    obtain ⟨xF135_0, xF135_1, xF135_2, xF135_3, xF135_4, xF135_5⟩ := F13.ce6
    go_wp2_with fail
    go_meet
    exact ⟨by first | rfl | simp, F3, F4, F5, F7, F11, B0⟩
  case rest =>
    clear B0
    clear F3
    clear F4
    clear F5
    clear F7
    clear F9
    clear F11
    clear F13
    obtain ⟨rfl, F3, F4, F5, F7, F11, B0⟩ := hcut
    generalize wc = v1 at *
    obtain ⟨xF116_0, xF116_1, xF116_2, xF116_3, xF116_4, xF116_5⟩ := F11.ce6
    obtain ⟨xF56_0, xF56_1, xF56_2, xF56_3, xF56_4, xF56_5⟩ := F5.ce6
    go_wp2_with fail
    (with_reducible refine (h5 _ (hT.below B0)).mono ?_)
    rintro r w6 ⟨rfl, hb6⟩
    clear xF116_0 xF116_1 xF116_2 xF116_3 xF116_4 xF116_5 xF56_0 xF56_1 xF56_2 xF56_3 xF56_4 xF56_5
    replace F3 := F3.keep hb6
    replace F4 := F4.keep hb6
    replace F5 := F5.keep hb6
    replace F7 := F7.keep hb6
    replace F11 := F11.keep hb6
    replace B0 := B0.trans (hb6.mono B0.size)
    clear hb6
    replace F3 := F3.allocd (.cells #[.bool Un, .string US, .int .i64 Ue, .bool Um, .string UT, .int .i64 Uf] 49)
    replace F4 := F4.allocd (.cells #[.bool Un, .string US, .int .i64 Ue, .bool Um, .string UT, .int .i64 Uf] 49)
    replace F5 := F5.allocd (.cells #[.bool Un, .string US, .int .i64 Ue, .bool Um, .string UT, .int .i64 Uf] 49)
    replace F7 := F7.allocd (.cells #[.bool Un, .string US, .int .i64 Ue, .bool Um, .string UT, .int .i64 Uf] 49)
    replace F11 := F11.allocd (.cells #[.bool Un, .string US, .int .i64 Ue, .bool Um, .string UT, .int .i64 Uf] 49)
    have F15 := Blk.put (w6) #[.bool Un, .string US, .int .i64 Ue, .bool Um, .string UT, .int .i64 Uf] 49
    replace B0 := B0.alloc B0.size (.cells #[.bool Un, .string US, .int .i64 Ue, .bool Um, .string UT, .int .i64 Uf] 49)
    obtain ⟨xF47_0, xF47_1, xF47_2, xF47_3, xF47_4, xF47_5⟩ := F4.ce6
    obtain ⟨xF57_0, xF57_1, xF57_2, xF57_3, xF57_4, xF57_5⟩ := F5.ce6
    go_wp2_with fail
    (with_reducible refine (h6 _ (hT.below B0)).mono ?_)
    rintro r w7 ⟨rfl, hb7⟩
    clear xF47_0 xF47_1 xF47_2 xF47_3 xF47_4 xF47_5 xF57_0 xF57_1 xF57_2 xF57_3 xF57_4 xF57_5
    replace F3 := F3.keep hb7
    replace F4 := F4.keep hb7
    replace F5 := F5.keep hb7
    replace F7 := F7.keep hb7
    replace F11 := F11.keep hb7
    replace F15 := F15.keep hb7
    replace B0 := B0.trans (hb7.mono B0.size)
    clear hb7
    replace F3 := F3.allocd (.cells #[.bool Vn, .string VS, .int .i64 Ve, .bool Vm, .string VT, .int .i64 Vf] 49)
    replace F4 := F4.allocd (.cells #[.bool Vn, .string VS, .int .i64 Ve, .bool Vm, .string VT, .int .i64 Vf] 49)
    replace F5 := F5.allocd (.cells #[.bool Vn, .string VS, .int .i64 Ve, .bool Vm, .string VT, .int .i64 Vf] 49)
    replace F7 := F7.allocd (.cells #[.bool Vn, .string VS, .int .i64 Ve, .bool Vm, .string VT, .int .i64 Vf] 49)
    replace F11 := F11.allocd (.cells #[.bool Vn, .string VS, .int .i64 Ve, .bool Vm, .string VT, .int .i64 Vf] 49)
    replace F15 := F15.allocd (.cells #[.bool Vn, .string VS, .int .i64 Ve, .bool Vm, .string VT, .int .i64 Vf] 49)
    have F17 := Blk.put (w7) #[.bool Vn, .string VS, .int .i64 Ve, .bool Vm, .string VT, .int .i64 Vf] 49
    replace B0 := B0.alloc B0.size (.cells #[.bool Vn, .string VS, .int .i64 Ve, .bool Vm, .string VT, .int .i64 Vf] 49)
    obtain ⟨xF38_0, xF38_1, xF38_2, xF38_3, xF38_4, xF38_5⟩ := F3.ce6
    obtain ⟨xF178_0, xF178_1, xF178_2, xF178_3, xF178_4, xF178_5⟩ := F17.ce6
    go_wp2_with fail
    (with_reducible refine (h7 _ (hT.below B0)).mono ?_)
    rintro r w8 ⟨rfl, hb8⟩
    clear xF38_0 xF38_1 xF38_2 xF38_3 xF38_4 xF38_5 xF178_0 xF178_1 xF178_2 xF178_3 xF178_4 xF178_5
    replace F3 := F3.keep hb8
    replace F4 := F4.keep hb8
    replace F5 := F5.keep hb8
    replace F7 := F7.keep hb8
    replace F11 := F11.keep hb8
    replace F15 := F15.keep hb8
    replace F17 := F17.keep hb8
    replace B0 := B0.trans (hb8.mono B0.size)
    clear hb8
    replace F3 := F3.allocd (.cells #[.bool Ln, .string LS, .int .i64 Le, .bool Lm, .string LT, .int .i64 Lf] 49)
    replace F4 := F4.allocd (.cells #[.bool Ln, .string LS, .int .i64 Le, .bool Lm, .string LT, .int .i64 Lf] 49)
    replace F5 := F5.allocd (.cells #[.bool Ln, .string LS, .int .i64 Le, .bool Lm, .string LT, .int .i64 Lf] 49)
    replace F7 := F7.allocd (.cells #[.bool Ln, .string LS, .int .i64 Le, .bool Lm, .string LT, .int .i64 Lf] 49)
    replace F11 := F11.allocd (.cells #[.bool Ln, .string LS, .int .i64 Le, .bool Lm, .string LT, .int .i64 Lf] 49)
    replace F15 := F15.allocd (.cells #[.bool Ln, .string LS, .int .i64 Le, .bool Lm, .string LT, .int .i64 Lf] 49)
    replace F17 := F17.allocd (.cells #[.bool Ln, .string LS, .int .i64 Le, .bool Lm, .string LT, .int .i64 Lf] 49)
    have F19 := Blk.put (w8) #[.bool Ln, .string LS, .int .i64 Le, .bool Lm, .string LT, .int .i64 Lf] 49
    replace B0 := B0.alloc B0.size (.cells #[.bool Ln, .string LS, .int .i64 Le, .bool Lm, .string LT, .int .i64 Lf] 49)
    go_upto_region 12 with fail
    go_cut [99] (fun s99 wx => s99 = .bool false ∧ Blk wx (w.heap.size) #[.bool an, .string aS, .int .i64 ae, .bool am, .string aT, .int .i64 af] 49 ∧ Blk wx (w.heap.size + 1) #[.bool bn, .string bS, .int .i64 be, .bool bm, .string bT, .int .i64 bf] 49 ∧ Blk wx (w.heap.size + 1 + 1) #[.bool cn, .string cS, .int .i64 ce, .bool cm, .string cT, .int .i64 cf] 49 ∧ Blk wx (w2.heap.size) #[.bool Sn, .string SS, .int .i64 Se, .bool Sm, .string ST, .int .i64 Sf] 49 ∧ Blk wx (w4.heap.size) #[.bool Pn, .string PS, .int .i64 Pe, .bool Pm, .string PT, .int .i64 Pf] 49 ∧ Blk wx (w7.heap.size) #[.bool Vn, .string VS, .int .i64 Ve, .bool Vm, .string VT, .int .i64 Vf] 49 ∧ Below w.heap.size w wx)
    case first =>
      go_wp2_with fail
      (with_reducible refine (o1 _ _ (by simp)).mono ?_)
      rintro r w9 ⟨rfl, hb9⟩
      replace F3 := F3.keep hb9
      replace F4 := F4.keep hb9
      replace F5 := F5.keep hb9
      replace F7 := F7.keep hb9
      replace F11 := F11.keep hb9
      replace F15 := F15.keep hb9
      replace F17 := F17.keep hb9
      replace F19 := F19.keep hb9
      replace B0 := B0.trans (hb9.mono B0.size)
      clear hb9
      cases O1
      · clear K1
        go_wp2_with fail
        go_meet
        exact ⟨by first | rfl | simp, F3, F4, F5, F7, F11, F17, B0⟩
      · obtain ⟨rfl, rfl, rfl, rfl, rfl, rfl⟩ := K1.out rfl
        clear K1
        obtain ⟨xF1510_0, xF1510_1, xF1510_2, xF1510_3, xF1510_4, xF1510_5⟩ := F15.ce6
        obtain ⟨xF1910_0, xF1910_1, xF1910_2, xF1910_3, xF1910_4, xF1910_5⟩ := F19.ce6
        go_wp2_with fail
        go_meet
        exact ⟨by first | rfl | simp, F3, F4, F5, F7, F11, F17, B0⟩
    case rest =>
      clear B0
      clear F3
      clear F4
      clear F5
      clear F7
      clear F11
      clear F15
      clear F17
      clear F19
      obtain ⟨rfl, F3, F4, F5, F7, F11, F17, B0⟩ := hcut
      generalize wc = v2 at *
      obtain ⟨xF710_0, xF710_1, xF710_2, xF710_3, xF710_4, xF710_5⟩ := F7.ce6
      obtain ⟨xF510_0, xF510_1, xF510_2, xF510_3, xF510_4, xF510_5⟩ := F5.ce6
      go_wp2_with fail
      (with_reducible refine (h8 _ (hT.below B0)).mono ?_)
      rintro r w9 ⟨rfl, hb9⟩
      clear xF710_0 xF710_1 xF710_2 xF710_3 xF710_4 xF710_5 xF510_0 xF510_1 xF510_2 xF510_3 xF510_4 xF510_5
      replace F3 := F3.keep hb9
      replace F4 := F4.keep hb9
      replace F5 := F5.keep hb9
      replace F7 := F7.keep hb9
      replace F11 := F11.keep hb9
      replace F17 := F17.keep hb9
      replace B0 := B0.trans (hb9.mono B0.size)
      clear hb9
      replace F3 := F3.allocd (.cells #[.bool Xn, .string XS, .int .i64 Xe, .bool Xm, .string XT, .int .i64 Xf] 49)
      replace F4 := F4.allocd (.cells #[.bool Xn, .string XS, .int .i64 Xe, .bool Xm, .string XT, .int .i64 Xf] 49)
      replace F5 := F5.allocd (.cells #[.bool Xn, .string XS, .int .i64 Xe, .bool Xm, .string XT, .int .i64 Xf] 49)
      clear F7
      replace F11 := F11.allocd (.cells #[.bool Xn, .string XS, .int .i64 Xe, .bool Xm, .string XT, .int .i64 Xf] 49)
      replace F17 := F17.allocd (.cells #[.bool Xn, .string XS, .int .i64 Xe, .bool Xm, .string XT, .int .i64 Xf] 49)
      have F21 := Blk.put (w9) #[.bool Xn, .string XS, .int .i64 Xe, .bool Xm, .string XT, .int .i64 Xf] 49
      replace B0 := B0.alloc B0.size (.cells #[.bool Xn, .string XS, .int .i64 Xe, .bool Xm, .string XT, .int .i64 Xf] 49)
      obtain ⟨xF311_0, xF311_1, xF311_2, xF311_3, xF311_4, xF311_5⟩ := F3.ce6
      obtain ⟨xF511_0, xF511_1, xF511_2, xF511_3, xF511_4, xF511_5⟩ := F5.ce6
      go_wp2_with fail
      (with_reducible refine (h9 _ (hT.below B0)).mono ?_)
      rintro r w10 ⟨rfl, hb10⟩
      clear xF311_0 xF311_1 xF311_2 xF311_3 xF311_4 xF311_5 xF511_0 xF511_1 xF511_2 xF511_3 xF511_4 xF511_5
      replace F3 := F3.keep hb10
      replace F4 := F4.keep hb10
      replace F5 := F5.keep hb10
      replace F11 := F11.keep hb10
      replace F17 := F17.keep hb10
      replace F21 := F21.keep hb10
      replace B0 := B0.trans (hb10.mono B0.size)
      clear hb10
      replace F3 := F3.allocd (.cells #[.bool Yn, .string YS, .int .i64 Ye, .bool Ym, .string YT, .int .i64 Yf] 49)
      replace F4 := F4.allocd (.cells #[.bool Yn, .string YS, .int .i64 Ye, .bool Ym, .string YT, .int .i64 Yf] 49)
      clear F5
      replace F11 := F11.allocd (.cells #[.bool Yn, .string YS, .int .i64 Ye, .bool Ym, .string YT, .int .i64 Yf] 49)
      replace F17 := F17.allocd (.cells #[.bool Yn, .string YS, .int .i64 Ye, .bool Ym, .string YT, .int .i64 Yf] 49)
      replace F21 := F21.allocd (.cells #[.bool Yn, .string YS, .int .i64 Ye, .bool Ym, .string YT, .int .i64 Yf] 49)
      have F22 := Blk.put (w10) #[.bool Yn, .string YS, .int .i64 Ye, .bool Ym, .string YT, .int .i64 Yf] 49
      replace B0 := B0.alloc B0.size (.cells #[.bool Yn, .string YS, .int .i64 Ye, .bool Ym, .string YT, .int .i64 Yf] 49)
      obtain ⟨xF2212_0, xF2212_1, xF2212_2, xF2212_3, xF2212_4, xF2212_5⟩ := F22.ce6
      obtain ⟨xF1712_0, xF1712_1, xF1712_2, xF1712_3, xF1712_4, xF1712_5⟩ := F17.ce6
      go_wp2_with fail
      (with_reducible refine (h10 _ (hT.below B0)).mono ?_)
      rintro r w11 ⟨rfl, hb11⟩
      clear xF2212_0 xF2212_1 xF2212_2 xF2212_3 xF2212_4 xF2212_5 xF1712_0 xF1712_1 xF1712_2 xF1712_3 xF1712_4 xF1712_5
      replace F3 := F3.keep hb11
      replace F4 := F4.keep hb11
      replace F11 := F11.keep hb11
      replace F17 := F17.keep hb11
      replace F21 := F21.keep hb11
      replace F22 := F22.keep hb11
      replace B0 := B0.trans (hb11.mono B0.size)
      clear hb11
      replace F3 := F3.allocd (.cells #[.bool Zn, .string ZS, .int .i64 Ze, .bool Zm, .string ZT, .int .i64 Zf] 49)
      replace F4 := F4.allocd (.cells #[.bool Zn, .string ZS, .int .i64 Ze, .bool Zm, .string ZT, .int .i64 Zf] 49)
      replace F11 := F11.allocd (.cells #[.bool Zn, .string ZS, .int .i64 Ze, .bool Zm, .string ZT, .int .i64 Zf] 49)
      clear F17
      replace F21 := F21.allocd (.cells #[.bool Zn, .string ZS, .int .i64 Ze, .bool Zm, .string ZT, .int .i64 Zf] 49)
      clear F22
      have F23 := Blk.put (w11) #[.bool Zn, .string ZS, .int .i64 Ze, .bool Zm, .string ZT, .int .i64 Zf] 49
      replace B0 := B0.alloc B0.size (.cells #[.bool Zn, .string ZS, .int .i64 Ze, .bool Zm, .string ZT, .int .i64 Zf] 49)
      go_upto_region 17 with fail
      go_cut [129] (fun s129 wx => s129 = .bool false ∧ Blk wx (w.heap.size) #[.bool an, .string aS, .int .i64 ae, .bool am, .string aT, .int .i64 af] 49 ∧ Blk wx (w.heap.size + 1) #[.bool bn, .string bS, .int .i64 be, .bool bm, .string bT, .int .i64 bf] 49 ∧ Blk wx (w4.heap.size) #[.bool Pn, .string PS, .int .i64 Pe, .bool Pm, .string PT, .int .i64 Pf] 49 ∧ Below w.heap.size w wx)
      case first =>
        go_wp2_with fail
        (with_reducible refine (o2 _ _ (by simp)).mono ?_)
        rintro r w12 ⟨rfl, hb12⟩
        replace F3 := F3.keep hb12
        replace F4 := F4.keep hb12
        replace F11 := F11.keep hb12
        replace F21 := F21.keep hb12
        replace F23 := F23.keep hb12
        replace B0 := B0.trans (hb12.mono B0.size)
        clear hb12
        cases O2
        · clear K2
          go_wp2_with fail
          go_meet
          exact ⟨by first | rfl | simp, F3, F4, F11, B0⟩
        · obtain ⟨rfl, rfl, rfl, rfl, rfl, rfl⟩ := K2.out rfl
          clear K2
          obtain ⟨xF2114_0, xF2114_1, xF2114_2, xF2114_3, xF2114_4, xF2114_5⟩ := F21.ce6
          obtain ⟨xF2314_0, xF2314_1, xF2314_2, xF2314_3, xF2314_4, xF2314_5⟩ := F23.ce6
          go_wp2_with fail
          go_meet
          exact ⟨by first | rfl | simp, F3, F4, F11, B0⟩
      case rest =>
        clear B0
        clear F3
        clear F4
        clear F11
        clear F21
        clear F23
        obtain ⟨rfl, F3, F4, F11, B0⟩ := hcut
        generalize wc = v3 at *
        obtain ⟨xF314_0, xF314_1, xF314_2, xF314_3, xF314_4, xF314_5⟩ := F3.ce6
        go_wp2_with fail
        (with_reducible refine (h11 _).mono ?_)
        rintro r w12 ⟨rfl, hb12⟩
        clear xF314_0 xF314_1 xF314_2 xF314_3 xF314_4 xF314_5
        replace F3 := F3.keep hb12
        replace F4 := F4.keep hb12
        replace F11 := F11.keep hb12
        replace B0 := B0.trans (hb12.mono B0.size)
        clear hb12
        go_wp2
        go_ret
        exact ⟨rfl, B0⟩

end Go.Proofs.YtgcifpjhhoalmaaDoor
