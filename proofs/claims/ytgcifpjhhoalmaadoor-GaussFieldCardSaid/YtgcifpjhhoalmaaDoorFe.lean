/- Walks of the layer of Gausses, by a program (walk.py): part Fe. -/
import Derived.Test.YtgcifpjhhoalmaaDoorFd
namespace Go.Proofs.YtgcifpjhhoalmaaDoor
open Go Go.RowKit Go.PlainAid Fil

set_option maxRecDepth 100000 in
set_option maxHeartbeats 8000000 in
theorem field_ok (p q : Option GY) (a : GY) (b : GR) (c : GR) (S : GY × Int) (P : GY × Int) (U : GY × Int) (V : GY × Int) (L : GY × Int) (X : GY × Int) (Y : GY × Int) (Z : GY × Int) (T : GY) (M : GY) (J : GY) (H : GY) (Q : GY × Int) (E : GY) (E_S : x2 GY.zero gAdd (some a) p = S) (E_P : x2 GY.zero gMul (some a) p = P) (E_U : x2 GY.zero gMul (some P.1) q = U) (E_V : x2 GY.zero gMul p q = V) (E_L : x2 GY.zero gMul (some a) (some V.1) = L) (E_X : x2 GY.zero gMul (some S.1) q = X) (E_Y : x2 GY.zero gMul (some a) q = Y) (E_Z : gAdd Y.1 V.1 = Z) (E_T : gTurn a = T) (E_M : gNeg a = M) (E_J : gConj a = J) (E_H : xU gConj p = H) (E_Q : gMul J H = Q) (E_E : gConj P.1 = E) (w : World) (ok_a : a.ok) (hp : Rep b p) (hq : Rep c q) (hT : Tab w) :
    Calls Tryd.prog 11 #[.agg #[.bool a.re.n, .string (bstr a.re.x), .int .i64 a.re.e, .bool a.im.n, .string (bstr a.im.x), .int .i64 a.im.e], .agg #[.bool b.n, .string b.s, .int .i64 b.e, .bool b.m, .string b.t, .int .i64 b.f], .agg #[.bool c.n, .string c.s, .int .i64 c.e, .bool c.m, .string c.t, .int .i64 c.f]] w fun r w' => r = .returned (.bool true) ∧ Below w.heap.size w w' := by
  have ok_S : S.1.ok := E_S ▸ x2_ok gAdd_ok _ _
  have ok_P : P.1.ok := E_P ▸ x2_ok gMul_ok _ _
  have ok_U : U.1.ok := E_U ▸ x2_ok gMul_ok _ _
  have ok_V : V.1.ok := E_V ▸ x2_ok gMul_ok _ _
  have ok_L : L.1.ok := E_L ▸ x2_ok gMul_ok _ _
  have ok_X : X.1.ok := E_X ▸ x2_ok gMul_ok _ _
  have ok_Y : Y.1.ok := E_Y ▸ x2_ok gMul_ok _ _
  have ok_Z : Z.1.ok := E_Z ▸ gAdd_ok _ _
  have ok_J : J.ok := E_J ▸ gConj_ok ok_a
  have ok_H : H.ok := E_H ▸ xU_ok (fun _ h => gConj_ok h) hp
  have hw := fun W hW => l6awake_any W hW
  have h1 := fun W hW => gadd_x a.raw b (some a) p W (Rep.out ok_a) hp hW
  rw [E_S] at h1
  have h2 := fun W hW => gadd_x b a.raw p (some a) W hp (Rep.out ok_a) hW
  rw [x2_comm gAdd_comm] at h2
  rw [E_S] at h2
  have h3 := fun W hW => gmul_x a.raw b (some a) p W (Rep.out ok_a) hp hW
  rw [E_P] at h3
  have h4 := fun W hW => gmul_x b a.raw p (some a) W hp (Rep.out ok_a) hW
  rw [x2_comm gMul_comm] at h4
  rw [E_P] at h4
  have h5 := fun W hW => gmul_x P.1.raw c (some P.1) q W (Rep.out ok_P) hq hW
  rw [E_U] at h5
  have h6 := fun W hW => gmul_x b c p q W hp hq hW
  rw [E_V] at h6
  have h7 := fun W hW => gmul_x a.raw V.1.raw (some a) (some V.1) W (Rep.out ok_a) (Rep.out ok_V) hW
  rw [E_L] at h7
  have o1 := fun Bk W h => l6all_4 P.2 U.2 V.2 L.2 Bk W h
  have h8 := fun W hW => gmul_x S.1.raw c (some S.1) q W (Rep.out ok_S) hq hW
  rw [E_X] at h8
  have h9 := fun W hW => gmul_x a.raw c (some a) q W (Rep.out ok_a) hq hW
  rw [E_Y] at h9
  have h10 := fun W hW => gadd Y.1 V.1 W ok_Y ok_V hW
  rw [E_Z] at h10
  have o2 := fun Bk W h => l6all_5 S.2 X.2 V.2 Y.2 Z.2 Bk W h
  have h11 := fun W => gcheck_ok a W ok_a
  have h12 := fun W hW => gmul_i a W ok_a hW
  rw [E_T] at h12
  have h13 := fun W => gturn a W ok_a
  rw [E_T] at h13
  have h14 := fun W => gturn (gTurn a) W (gTurn_ok ok_a)
  rw [gTurn_turn] at h14
  rw [E_T] at h14
  rw [E_M] at h14
  have h15 := fun W => gneg a W ok_a
  rw [E_M] at h15
  have h16 := fun W => gconj a W ok_a
  rw [E_J] at h16
  have h17 := fun W => gconj (gConj a) W (gConj_ok ok_a)
  rw [gConj_conj ok_a] at h17
  rw [E_J] at h17
  have h18 := fun W => gconj_x b p W hp
  rw [E_H] at h18
  have h19 := fun W hW => gmul J H W ok_J ok_H hW
  rw [E_Q] at h19
  have o4 : ∀ W : World, Calls Tryd.prog 47 #[.slice (some ⟨W.heap.size, 0, none⟩) 2 2] ((W.alloc (.cells #[.int .i64 P.2, .int .i64 Q.2] 26)).drew) fun r w' => r = .returned (.bool (oks [P.2, Q.2])) ∧ Below (World.drew W).heap.size (World.drew W) w' := fun W => l6all_2 P.2 Q.2 _ (World.drew W) rfl
  have h20 := fun W => gconj P.1 W ok_P
  rw [E_E] at h20
  have f1 : oks [P.2, U.2, V.2, L.2] = true → U.1.re.n = L.1.re.n ∧ bstr U.1.re.x = bstr L.1.re.x ∧ U.1.re.e = L.1.re.e ∧ U.1.im.n = L.1.im.n ∧ bstr U.1.im.x = bstr L.1.im.x ∧ U.1.im.e = L.1.im.e := fun h => by
    rw [oks_cons, oks_cons, oks_cons, oks_cons] at h
    obtain ⟨e1, e2, e3, e4, -⟩ := h
    subst E_P; subst E_U; subst E_V; subst E_L
    obtain ⟨A', B', hA, rfl⟩ := x2_some e1
    obtain rfl := Option.some.inj hA
    obtain ⟨B'', C', hB, rfl⟩ := x2_some e3
    obtain rfl := Option.some.inj hB
    have := field_1 ok_a hp.1 hq.1 e1 e2 e3 e4
    exact ⟨congrArg (fun g => g.re.n) this, congrArg (fun g => bstr g.re.x) this, congrArg (fun g => g.re.e) this, congrArg (fun g => g.im.n) this, congrArg (fun g => bstr g.im.x) this, congrArg (fun g => g.im.e) this⟩
  have f2 : oks [S.2, X.2, V.2, Y.2, Z.2] = true → X.1.re.n = Z.1.re.n ∧ bstr X.1.re.x = bstr Z.1.re.x ∧ X.1.re.e = Z.1.re.e ∧ X.1.im.n = Z.1.im.n ∧ bstr X.1.im.x = bstr Z.1.im.x ∧ X.1.im.e = Z.1.im.e := fun h => by
    rw [oks_cons, oks_cons, oks_cons, oks_cons, oks_cons] at h
    obtain ⟨e1, e2, e3, e4, e5, -⟩ := h
    subst E_S; subst E_X; subst E_V; subst E_Y; subst E_Z
    obtain ⟨A', B', hA, rfl⟩ := x2_some e1
    obtain rfl := Option.some.inj hA
    obtain ⟨B'', C', hB, rfl⟩ := x2_some e3
    obtain rfl := Option.some.inj hB
    have := field_2 ok_a hp.1 hq.1 e1 e2 e3 e4 e5
    exact ⟨congrArg (fun g => g.re.n) this, congrArg (fun g => bstr g.re.x) this, congrArg (fun g => g.re.e) this, congrArg (fun g => g.im.n) this, congrArg (fun g => bstr g.im.x) this, congrArg (fun g => g.im.e) this⟩
  have f4 : oks [P.2, Q.2] = true → E.re.n = Q.1.re.n ∧ bstr E.re.x = bstr Q.1.re.x ∧ E.re.e = Q.1.re.e ∧ E.im.n = Q.1.im.n ∧ bstr E.im.x = bstr Q.1.im.x ∧ E.im.e = Q.1.im.e := fun h => by
    rw [oks_cons, oks_cons] at h
    obtain ⟨e1, e2, -⟩ := h
    subst E_P; subst E_J; subst E_H; subst E_Q; subst E_E
    obtain ⟨A', B', hA, rfl⟩ := x2_some e1
    obtain rfl := Option.some.inj hA
    have := field_3 ok_a hp.1 e1 e2
    exact ⟨congrArg (fun g => g.re.n) this.symm, congrArg (fun g => bstr g.re.x) this.symm, congrArg (fun g => g.re.e) this.symm, congrArg (fun g => g.im.n) this.symm, congrArg (fun g => bstr g.im.x) this.symm, congrArg (fun g => g.im.e) this.symm⟩
  generalize oks [P.2, U.2, V.2, L.2] = O1 at *
  generalize oks [S.2, X.2, V.2, Y.2, Z.2] = O2 at *
  generalize oks [P.2, Q.2] = O4 at *
  clear hp hq
  clear E_S E_P E_U E_V E_L E_X E_Y E_Z E_T E_M E_J E_H E_Q E_E ok_S ok_P ok_U ok_V ok_L ok_X ok_Y ok_Z ok_J ok_H ok_a
  obtain ⟨⟨an, aX, ae⟩, ⟨am, aY, af⟩⟩ := a
  obtain ⟨bn, bS, be, bm, bT, bf⟩ := b
  obtain ⟨cn, cS, ce, cm, cT, cf⟩ := c
  obtain ⟨⟨⟨Sn, SX, Se⟩, ⟨Sm, SY, Sf⟩⟩, Sr⟩ := S
  obtain ⟨⟨⟨Pn, PX, Pe⟩, ⟨Pm, PY, Pf⟩⟩, Pr⟩ := P
  obtain ⟨⟨⟨Un, UX, Ue⟩, ⟨Um, UY, Uf⟩⟩, Ur⟩ := U
  obtain ⟨⟨⟨Vn, VX, Ve⟩, ⟨Vm, VY, Vf⟩⟩, Vr⟩ := V
  obtain ⟨⟨⟨Ln, LX, Le⟩, ⟨Lm, LY, Lf⟩⟩, Lr⟩ := L
  obtain ⟨⟨⟨Xn, XX, Xe⟩, ⟨Xm, XY, Xf⟩⟩, Xr⟩ := X
  obtain ⟨⟨⟨Yn, YX, Ye⟩, ⟨Ym, YY, Yf⟩⟩, Yr⟩ := Y
  obtain ⟨⟨⟨Zn, ZX, Ze⟩, ⟨Zm, ZY, Zf⟩⟩, Zr⟩ := Z
  obtain ⟨⟨Tn, TX, Te⟩, ⟨Tm, TY, Tf⟩⟩ := T
  obtain ⟨⟨Mn, MX, Me⟩, ⟨Mm, MY, Mf⟩⟩ := M
  obtain ⟨⟨Jn, JX, Je⟩, ⟨Jm, JY, Jf⟩⟩ := J
  obtain ⟨⟨Hn, HX, He⟩, ⟨Hm, HY, Hf⟩⟩ := H
  obtain ⟨⟨⟨Qn, QX, Qe⟩, ⟨Qm, QY, Qf⟩⟩, Qr⟩ := Q
  obtain ⟨⟨En, EX, Ee⟩, ⟨Em, EY, Ef⟩⟩ := E
  dsimp only at *
  try dsimp only [GY.raw, DY.raw] at *
  generalize bstr aX = aS at *
  generalize bstr aY = aT at *
  generalize bstr SX = SS at *
  generalize bstr SY = ST at *
  generalize bstr PX = PS at *
  generalize bstr PY = PT at *
  generalize bstr UX = US at *
  generalize bstr UY = UT at *
  generalize bstr VX = VS at *
  generalize bstr VY = VT at *
  generalize bstr LX = LS at *
  generalize bstr LY = LT at *
  generalize bstr XX = XS at *
  generalize bstr XY = XT at *
  generalize bstr YX = YS at *
  generalize bstr YY = YT at *
  generalize bstr ZX = ZS at *
  generalize bstr ZY = ZT at *
  generalize bstr TX = TS at *
  generalize bstr TY = TT at *
  generalize bstr MX = MS at *
  generalize bstr MY = MT at *
  generalize bstr JX = JS at *
  generalize bstr JY = JT at *
  generalize bstr HX = HS at *
  generalize bstr HY = HT at *
  generalize bstr QX = QS at *
  generalize bstr QY = QT at *
  generalize bstr EX = ES at *
  generalize bstr EY = ET at *
  have K1 := Lib.hid f1
  have K2 := Lib.hid f2
  have K4 := Lib.hid f4
  clear f1 f2 f4
  go_enter Tryd.func11, Tryd.ntmps11
  have B0 := Below.refl w.heap.size w
  have F3 := Blk.put (w) #[.bool an, .string aS, .int .i64 ae, .bool am, .string aT, .int .i64 af] 49
  replace B0 := B0.alloc B0.size (.cells #[.bool an, .string aS, .int .i64 ae, .bool am, .string aT, .int .i64 af] 49)
  replace F3 := F3.allocd (.cells #[.bool bn, .string bS, .int .i64 be, .bool bm, .string bT, .int .i64 bf] 49)
  have F4 := Blk.put ((w).alloc (.cells #[.bool an, .string aS, .int .i64 ae, .bool am, .string aT, .int .i64 af] 49)) #[.bool bn, .string bS, .int .i64 be, .bool bm, .string bT, .int .i64 bf] 49
  rw [show ((w).alloc (.cells #[.bool an, .string aS, .int .i64 ae, .bool am, .string aT, .int .i64 af] 49)).heap.size = w.heap.size + 1 by simp] at F4
  replace B0 := B0.alloc B0.size (.cells #[.bool bn, .string bS, .int .i64 be, .bool bm, .string bT, .int .i64 bf] 49)
  replace F3 := F3.allocd (.cells #[.bool cn, .string cS, .int .i64 ce, .bool cm, .string cT, .int .i64 cf] 49)
  replace F4 := F4.allocd (.cells #[.bool cn, .string cS, .int .i64 ce, .bool cm, .string cT, .int .i64 cf] 49)
  have F5 := Blk.put (((w).alloc (.cells #[.bool an, .string aS, .int .i64 ae, .bool am, .string aT, .int .i64 af] 49)).alloc (.cells #[.bool bn, .string bS, .int .i64 be, .bool bm, .string bT, .int .i64 bf] 49)) #[.bool cn, .string cS, .int .i64 ce, .bool cm, .string cT, .int .i64 cf] 49
  rw [show (((w).alloc (.cells #[.bool an, .string aS, .int .i64 ae, .bool am, .string aT, .int .i64 af] 49)).alloc (.cells #[.bool bn, .string bS, .int .i64 be, .bool bm, .string bT, .int .i64 bf] 49)).heap.size = w.heap.size + 1 + 1 by simp] at F5
  replace B0 := B0.alloc B0.size (.cells #[.bool cn, .string cS, .int .i64 ce, .bool cm, .string cT, .int .i64 cf] 49)
  go_wp2_with fail
  (with_reducible refine (hw _ (hT.below B0)).mono ?_)
  rintro r w1 ⟨rfl, hb1⟩
  replace F3 := F3.keep hb1
  replace F4 := F4.keep hb1
  replace F5 := F5.keep hb1
  replace B0 := B0.trans (hb1.mono B0.size)
  clear hb1
  obtain ⟨xF31_0, xF31_1, xF31_2, xF31_3, xF31_4, xF31_5⟩ := F3.ce6
  obtain ⟨xF41_0, xF41_1, xF41_2, xF41_3, xF41_4, xF41_5⟩ := F4.ce6
  go_wp2_with fail
  (with_reducible refine (h1 _ (hT.below B0)).mono ?_)
  rintro r w2 ⟨rfl, hb2⟩
  clear xF31_0 xF31_1 xF31_2 xF31_3 xF31_4 xF31_5 xF41_0 xF41_1 xF41_2 xF41_3 xF41_4 xF41_5
  replace F3 := F3.keep hb2
  replace F4 := F4.keep hb2
  replace F5 := F5.keep hb2
  replace B0 := B0.trans (hb2.mono B0.size)
  clear hb2
  replace F3 := F3.allocd (.cells #[.bool Sn, .string SS, .int .i64 Se, .bool Sm, .string ST, .int .i64 Sf] 49)
  replace F4 := F4.allocd (.cells #[.bool Sn, .string SS, .int .i64 Se, .bool Sm, .string ST, .int .i64 Sf] 49)
  replace F5 := F5.allocd (.cells #[.bool Sn, .string SS, .int .i64 Se, .bool Sm, .string ST, .int .i64 Sf] 49)
  have F7 := Blk.put (w2) #[.bool Sn, .string SS, .int .i64 Se, .bool Sm, .string ST, .int .i64 Sf] 49
  replace B0 := B0.alloc B0.size (.cells #[.bool Sn, .string SS, .int .i64 Se, .bool Sm, .string ST, .int .i64 Sf] 49)
  obtain ⟨xF42_0, xF42_1, xF42_2, xF42_3, xF42_4, xF42_5⟩ := F4.ce6
  obtain ⟨xF32_0, xF32_1, xF32_2, xF32_3, xF32_4, xF32_5⟩ := F3.ce6
  go_wp2_with fail
  (with_reducible refine (h2 _ (hT.below B0)).mono ?_)
  rintro r w3 ⟨rfl, hb3⟩
  clear xF42_0 xF42_1 xF42_2 xF42_3 xF42_4 xF42_5 xF32_0 xF32_1 xF32_2 xF32_3 xF32_4 xF32_5
  replace F3 := F3.keep hb3
  replace F4 := F4.keep hb3
  replace F5 := F5.keep hb3
  replace F7 := F7.keep hb3
  replace B0 := B0.trans (hb3.mono B0.size)
  clear hb3
  replace F3 := F3.allocd (.cells #[.bool Sn, .string SS, .int .i64 Se, .bool Sm, .string ST, .int .i64 Sf] 49)
  replace F4 := F4.allocd (.cells #[.bool Sn, .string SS, .int .i64 Se, .bool Sm, .string ST, .int .i64 Sf] 49)
  replace F5 := F5.allocd (.cells #[.bool Sn, .string SS, .int .i64 Se, .bool Sm, .string ST, .int .i64 Sf] 49)
  replace F7 := F7.allocd (.cells #[.bool Sn, .string SS, .int .i64 Se, .bool Sm, .string ST, .int .i64 Sf] 49)
  have F9 := Blk.put (w3) #[.bool Sn, .string SS, .int .i64 Se, .bool Sm, .string ST, .int .i64 Sf] 49
  replace B0 := B0.alloc B0.size (.cells #[.bool Sn, .string SS, .int .i64 Se, .bool Sm, .string ST, .int .i64 Sf] 49)
  obtain ⟨xF33_0, xF33_1, xF33_2, xF33_3, xF33_4, xF33_5⟩ := F3.ce6
  obtain ⟨xF43_0, xF43_1, xF43_2, xF43_3, xF43_4, xF43_5⟩ := F4.ce6
  go_wp2_with fail
  (with_reducible refine (h3 _ (hT.below B0)).mono ?_)
  rintro r w4 ⟨rfl, hb4⟩
  clear xF33_0 xF33_1 xF33_2 xF33_3 xF33_4 xF33_5 xF43_0 xF43_1 xF43_2 xF43_3 xF43_4 xF43_5
  replace F3 := F3.keep hb4
  replace F4 := F4.keep hb4
  replace F5 := F5.keep hb4
  replace F7 := F7.keep hb4
  replace F9 := F9.keep hb4
  replace B0 := B0.trans (hb4.mono B0.size)
  clear hb4
  replace F3 := F3.allocd (.cells #[.bool Pn, .string PS, .int .i64 Pe, .bool Pm, .string PT, .int .i64 Pf] 49)
  replace F4 := F4.allocd (.cells #[.bool Pn, .string PS, .int .i64 Pe, .bool Pm, .string PT, .int .i64 Pf] 49)
  replace F5 := F5.allocd (.cells #[.bool Pn, .string PS, .int .i64 Pe, .bool Pm, .string PT, .int .i64 Pf] 49)
  replace F7 := F7.allocd (.cells #[.bool Pn, .string PS, .int .i64 Pe, .bool Pm, .string PT, .int .i64 Pf] 49)
  replace F9 := F9.allocd (.cells #[.bool Pn, .string PS, .int .i64 Pe, .bool Pm, .string PT, .int .i64 Pf] 49)
  have F11 := Blk.put (w4) #[.bool Pn, .string PS, .int .i64 Pe, .bool Pm, .string PT, .int .i64 Pf] 49
  replace B0 := B0.alloc B0.size (.cells #[.bool Pn, .string PS, .int .i64 Pe, .bool Pm, .string PT, .int .i64 Pf] 49)
  obtain ⟨xF44_0, xF44_1, xF44_2, xF44_3, xF44_4, xF44_5⟩ := F4.ce6
  obtain ⟨xF34_0, xF34_1, xF34_2, xF34_3, xF34_4, xF34_5⟩ := F3.ce6
  go_wp2_with fail
  (with_reducible refine (h4 _ (hT.below B0)).mono ?_)
  rintro r w5 ⟨rfl, hb5⟩
  clear xF44_0 xF44_1 xF44_2 xF44_3 xF44_4 xF44_5 xF34_0 xF34_1 xF34_2 xF34_3 xF34_4 xF34_5
  replace F3 := F3.keep hb5
  replace F4 := F4.keep hb5
  replace F5 := F5.keep hb5
  replace F7 := F7.keep hb5
  replace F9 := F9.keep hb5
  replace F11 := F11.keep hb5
  replace B0 := B0.trans (hb5.mono B0.size)
  clear hb5
  replace F3 := F3.allocd (.cells #[.bool Pn, .string PS, .int .i64 Pe, .bool Pm, .string PT, .int .i64 Pf] 49)
  replace F4 := F4.allocd (.cells #[.bool Pn, .string PS, .int .i64 Pe, .bool Pm, .string PT, .int .i64 Pf] 49)
  replace F5 := F5.allocd (.cells #[.bool Pn, .string PS, .int .i64 Pe, .bool Pm, .string PT, .int .i64 Pf] 49)
  replace F7 := F7.allocd (.cells #[.bool Pn, .string PS, .int .i64 Pe, .bool Pm, .string PT, .int .i64 Pf] 49)
  replace F9 := F9.allocd (.cells #[.bool Pn, .string PS, .int .i64 Pe, .bool Pm, .string PT, .int .i64 Pf] 49)
  replace F11 := F11.allocd (.cells #[.bool Pn, .string PS, .int .i64 Pe, .bool Pm, .string PT, .int .i64 Pf] 49)
  have F13 := Blk.put (w5) #[.bool Pn, .string PS, .int .i64 Pe, .bool Pm, .string PT, .int .i64 Pf] 49
  replace B0 := B0.alloc B0.size (.cells #[.bool Pn, .string PS, .int .i64 Pe, .bool Pm, .string PT, .int .i64 Pf] 49)
  go_upto_region 7 with fail
  go_cut [70] (fun s70 wx => s70 = .bool false ∧ Blk wx (w.heap.size) #[.bool an, .string aS, .int .i64 ae, .bool am, .string aT, .int .i64 af] 49 ∧ Blk wx (w.heap.size + 1) #[.bool bn, .string bS, .int .i64 be, .bool bm, .string bT, .int .i64 bf] 49 ∧ Blk wx (w.heap.size + 1 + 1) #[.bool cn, .string cS, .int .i64 ce, .bool cm, .string cT, .int .i64 cf] 49 ∧ Blk wx (w2.heap.size) #[.bool Sn, .string SS, .int .i64 Se, .bool Sm, .string ST, .int .i64 Sf] 49 ∧ Blk wx (w4.heap.size) #[.bool Pn, .string PS, .int .i64 Pe, .bool Pm, .string PT, .int .i64 Pf] 49 ∧ Below w.heap.size w wx)
  case first =>
    obtain ⟨xF75_0, xF75_1, xF75_2, xF75_3, xF75_4, xF75_5⟩ := F7.ce6
    obtain ⟨xF95_0, xF95_1, xF95_2, xF95_3, xF95_4, xF95_5⟩ := F9.ce6
    obtain ⟨xF115_0, xF115_1, xF115_2, xF115_3, xF115_4, xF115_5⟩ := F11.ce6
    obtain ⟨xF135_0, xF135_1, xF135_2, xF135_3, xF135_4, xF135_5⟩ := F13.ce6
    go_wp2_with fail
    go_meet
    exact ⟨by first | rfl | simp, F3, F4, F5, F7, F11, B0⟩
  case rest =>
    clear B0
    clear F3
    clear F4
    clear F5
    clear F7
    clear F9
    clear F11
    clear F13
    obtain ⟨rfl, F3, F4, F5, F7, F11, B0⟩ := hcut
    generalize wc = v1 at *
    obtain ⟨xF116_0, xF116_1, xF116_2, xF116_3, xF116_4, xF116_5⟩ := F11.ce6
    obtain ⟨xF56_0, xF56_1, xF56_2, xF56_3, xF56_4, xF56_5⟩ := F5.ce6
    go_wp2_with fail
    (with_reducible refine (h5 _ (hT.below B0)).mono ?_)
    rintro r w6 ⟨rfl, hb6⟩
    clear xF116_0 xF116_1 xF116_2 xF116_3 xF116_4 xF116_5 xF56_0 xF56_1 xF56_2 xF56_3 xF56_4 xF56_5
    replace F3 := F3.keep hb6
    replace F4 := F4.keep hb6
    replace F5 := F5.keep hb6
    replace F7 := F7.keep hb6
    replace F11 := F11.keep hb6
    replace B0 := B0.trans (hb6.mono B0.size)
    clear hb6
    replace F3 := F3.allocd (.cells #[.bool Un, .string US, .int .i64 Ue, .bool Um, .string UT, .int .i64 Uf] 49)
    replace F4 := F4.allocd (.cells #[.bool Un, .string US, .int .i64 Ue, .bool Um, .string UT, .int .i64 Uf] 49)
    replace F5 := F5.allocd (.cells #[.bool Un, .string US, .int .i64 Ue, .bool Um, .string UT, .int .i64 Uf] 49)
    replace F7 := F7.allocd (.cells #[.bool Un, .string US, .int .i64 Ue, .bool Um, .string UT, .int .i64 Uf] 49)
    replace F11 := F11.allocd (.cells #[.bool Un, .string US, .int .i64 Ue, .bool Um, .string UT, .int .i64 Uf] 49)
    have F15 := Blk.put (w6) #[.bool Un, .string US, .int .i64 Ue, .bool Um, .string UT, .int .i64 Uf] 49
    replace B0 := B0.alloc B0.size (.cells #[.bool Un, .string US, .int .i64 Ue, .bool Um, .string UT, .int .i64 Uf] 49)
    obtain ⟨xF47_0, xF47_1, xF47_2, xF47_3, xF47_4, xF47_5⟩ := F4.ce6
    obtain ⟨xF57_0, xF57_1, xF57_2, xF57_3, xF57_4, xF57_5⟩ := F5.ce6
    go_wp2_with fail
    (with_reducible refine (h6 _ (hT.below B0)).mono ?_)
    rintro r w7 ⟨rfl, hb7⟩
    clear xF47_0 xF47_1 xF47_2 xF47_3 xF47_4 xF47_5 xF57_0 xF57_1 xF57_2 xF57_3 xF57_4 xF57_5
    replace F3 := F3.keep hb7
    replace F4 := F4.keep hb7
    replace F5 := F5.keep hb7
    replace F7 := F7.keep hb7
    replace F11 := F11.keep hb7
    replace F15 := F15.keep hb7
    replace B0 := B0.trans (hb7.mono B0.size)
    clear hb7
    replace F3 := F3.allocd (.cells #[.bool Vn, .string VS, .int .i64 Ve, .bool Vm, .string VT, .int .i64 Vf] 49)
    replace F4 := F4.allocd (.cells #[.bool Vn, .string VS, .int .i64 Ve, .bool Vm, .string VT, .int .i64 Vf] 49)
    replace F5 := F5.allocd (.cells #[.bool Vn, .string VS, .int .i64 Ve, .bool Vm, .string VT, .int .i64 Vf] 49)
    replace F7 := F7.allocd (.cells #[.bool Vn, .string VS, .int .i64 Ve, .bool Vm, .string VT, .int .i64 Vf] 49)
    replace F11 := F11.allocd (.cells #[.bool Vn, .string VS, .int .i64 Ve, .bool Vm, .string VT, .int .i64 Vf] 49)
    replace F15 := F15.allocd (.cells #[.bool Vn, .string VS, .int .i64 Ve, .bool Vm, .string VT, .int .i64 Vf] 49)
    have F17 := Blk.put (w7) #[.bool Vn, .string VS, .int .i64 Ve, .bool Vm, .string VT, .int .i64 Vf] 49
    replace B0 := B0.alloc B0.size (.cells #[.bool Vn, .string VS, .int .i64 Ve, .bool Vm, .string VT, .int .i64 Vf] 49)
    obtain ⟨xF38_0, xF38_1, xF38_2, xF38_3, xF38_4, xF38_5⟩ := F3.ce6
    obtain ⟨xF178_0, xF178_1, xF178_2, xF178_3, xF178_4, xF178_5⟩ := F17.ce6
    go_wp2_with fail
    (with_reducible refine (h7 _ (hT.below B0)).mono ?_)
    rintro r w8 ⟨rfl, hb8⟩
    clear xF38_0 xF38_1 xF38_2 xF38_3 xF38_4 xF38_5 xF178_0 xF178_1 xF178_2 xF178_3 xF178_4 xF178_5
    replace F3 := F3.keep hb8
    replace F4 := F4.keep hb8
    replace F5 := F5.keep hb8
    replace F7 := F7.keep hb8
    replace F11 := F11.keep hb8
    replace F15 := F15.keep hb8
    replace F17 := F17.keep hb8
    replace B0 := B0.trans (hb8.mono B0.size)
    clear hb8
    replace F3 := F3.allocd (.cells #[.bool Ln, .string LS, .int .i64 Le, .bool Lm, .string LT, .int .i64 Lf] 49)
    replace F4 := F4.allocd (.cells #[.bool Ln, .string LS, .int .i64 Le, .bool Lm, .string LT, .int .i64 Lf] 49)
    replace F5 := F5.allocd (.cells #[.bool Ln, .string LS, .int .i64 Le, .bool Lm, .string LT, .int .i64 Lf] 49)
    replace F7 := F7.allocd (.cells #[.bool Ln, .string LS, .int .i64 Le, .bool Lm, .string LT, .int .i64 Lf] 49)
    replace F11 := F11.allocd (.cells #[.bool Ln, .string LS, .int .i64 Le, .bool Lm, .string LT, .int .i64 Lf] 49)
    replace F15 := F15.allocd (.cells #[.bool Ln, .string LS, .int .i64 Le, .bool Lm, .string LT, .int .i64 Lf] 49)
    replace F17 := F17.allocd (.cells #[.bool Ln, .string LS, .int .i64 Le, .bool Lm, .string LT, .int .i64 Lf] 49)
    have F19 := Blk.put (w8) #[.bool Ln, .string LS, .int .i64 Le, .bool Lm, .string LT, .int .i64 Lf] 49
    replace B0 := B0.alloc B0.size (.cells #[.bool Ln, .string LS, .int .i64 Le, .bool Lm, .string LT, .int .i64 Lf] 49)
    go_upto_region 12 with fail
    go_cut [99] (fun s99 wx => s99 = .bool false ∧ Blk wx (w.heap.size) #[.bool an, .string aS, .int .i64 ae, .bool am, .string aT, .int .i64 af] 49 ∧ Blk wx (w.heap.size + 1) #[.bool bn, .string bS, .int .i64 be, .bool bm, .string bT, .int .i64 bf] 49 ∧ Blk wx (w.heap.size + 1 + 1) #[.bool cn, .string cS, .int .i64 ce, .bool cm, .string cT, .int .i64 cf] 49 ∧ Blk wx (w2.heap.size) #[.bool Sn, .string SS, .int .i64 Se, .bool Sm, .string ST, .int .i64 Sf] 49 ∧ Blk wx (w4.heap.size) #[.bool Pn, .string PS, .int .i64 Pe, .bool Pm, .string PT, .int .i64 Pf] 49 ∧ Blk wx (w7.heap.size) #[.bool Vn, .string VS, .int .i64 Ve, .bool Vm, .string VT, .int .i64 Vf] 49 ∧ Below w.heap.size w wx)
    case first =>
      go_wp2_with fail
      (with_reducible refine (o1 _ _ (by simp)).mono ?_)
      rintro r w9 ⟨rfl, hb9⟩
      replace F3 := F3.keep hb9
      replace F4 := F4.keep hb9
      replace F5 := F5.keep hb9
      replace F7 := F7.keep hb9
      replace F11 := F11.keep hb9
      replace F15 := F15.keep hb9
      replace F17 := F17.keep hb9
      replace F19 := F19.keep hb9
      replace B0 := B0.trans (hb9.mono B0.size)
      clear hb9
      cases O1
      · clear K1
        go_wp2_with fail
        go_meet
        exact ⟨by first | rfl | simp, F3, F4, F5, F7, F11, F17, B0⟩
      · obtain ⟨rfl, rfl, rfl, rfl, rfl, rfl⟩ := K1.out rfl
        clear K1
        obtain ⟨xF1510_0, xF1510_1, xF1510_2, xF1510_3, xF1510_4, xF1510_5⟩ := F15.ce6
        obtain ⟨xF1910_0, xF1910_1, xF1910_2, xF1910_3, xF1910_4, xF1910_5⟩ := F19.ce6
        go_wp2_with fail
        go_meet
        exact ⟨by first | rfl | simp, F3, F4, F5, F7, F11, F17, B0⟩
    case rest =>
      clear B0
      clear F3
      clear F4
      clear F5
      clear F7
      clear F11
      clear F15
      clear F17
      clear F19
      obtain ⟨rfl, F3, F4, F5, F7, F11, F17, B0⟩ := hcut
      generalize wc = v2 at *
      obtain ⟨xF710_0, xF710_1, xF710_2, xF710_3, xF710_4, xF710_5⟩ := F7.ce6
      obtain ⟨xF510_0, xF510_1, xF510_2, xF510_3, xF510_4, xF510_5⟩ := F5.ce6
      go_wp2_with fail
      (with_reducible refine (h8 _ (hT.below B0)).mono ?_)
      rintro r w9 ⟨rfl, hb9⟩
      clear xF710_0 xF710_1 xF710_2 xF710_3 xF710_4 xF710_5 xF510_0 xF510_1 xF510_2 xF510_3 xF510_4 xF510_5
      replace F3 := F3.keep hb9
      replace F4 := F4.keep hb9
      replace F5 := F5.keep hb9
      replace F7 := F7.keep hb9
      replace F11 := F11.keep hb9
      replace F17 := F17.keep hb9
      replace B0 := B0.trans (hb9.mono B0.size)
      clear hb9
      replace F3 := F3.allocd (.cells #[.bool Xn, .string XS, .int .i64 Xe, .bool Xm, .string XT, .int .i64 Xf] 49)
      replace F4 := F4.allocd (.cells #[.bool Xn, .string XS, .int .i64 Xe, .bool Xm, .string XT, .int .i64 Xf] 49)
      replace F5 := F5.allocd (.cells #[.bool Xn, .string XS, .int .i64 Xe, .bool Xm, .string XT, .int .i64 Xf] 49)
      clear F7
      replace F11 := F11.allocd (.cells #[.bool Xn, .string XS, .int .i64 Xe, .bool Xm, .string XT, .int .i64 Xf] 49)
      replace F17 := F17.allocd (.cells #[.bool Xn, .string XS, .int .i64 Xe, .bool Xm, .string XT, .int .i64 Xf] 49)
      have F21 := Blk.put (w9) #[.bool Xn, .string XS, .int .i64 Xe, .bool Xm, .string XT, .int .i64 Xf] 49
      replace B0 := B0.alloc B0.size (.cells #[.bool Xn, .string XS, .int .i64 Xe, .bool Xm, .string XT, .int .i64 Xf] 49)
      obtain ⟨xF311_0, xF311_1, xF311_2, xF311_3, xF311_4, xF311_5⟩ := F3.ce6
      obtain ⟨xF511_0, xF511_1, xF511_2, xF511_3, xF511_4, xF511_5⟩ := F5.ce6
      go_wp2_with fail
      (with_reducible refine (h9 _ (hT.below B0)).mono ?_)
      rintro r w10 ⟨rfl, hb10⟩
      clear xF311_0 xF311_1 xF311_2 xF311_3 xF311_4 xF311_5 xF511_0 xF511_1 xF511_2 xF511_3 xF511_4 xF511_5
      replace F3 := F3.keep hb10
      replace F4 := F4.keep hb10
      replace F5 := F5.keep hb10
      replace F11 := F11.keep hb10
      replace F17 := F17.keep hb10
      replace F21 := F21.keep hb10
      replace B0 := B0.trans (hb10.mono B0.size)
      clear hb10
      replace F3 := F3.allocd (.cells #[.bool Yn, .string YS, .int .i64 Ye, .bool Ym, .string YT, .int .i64 Yf] 49)
      replace F4 := F4.allocd (.cells #[.bool Yn, .string YS, .int .i64 Ye, .bool Ym, .string YT, .int .i64 Yf] 49)
      clear F5
      replace F11 := F11.allocd (.cells #[.bool Yn, .string YS, .int .i64 Ye, .bool Ym, .string YT, .int .i64 Yf] 49)
      replace F17 := F17.allocd (.cells #[.bool Yn, .string YS, .int .i64 Ye, .bool Ym, .string YT, .int .i64 Yf] 49)
      replace F21 := F21.allocd (.cells #[.bool Yn, .string YS, .int .i64 Ye, .bool Ym, .string YT, .int .i64 Yf] 49)
      have F22 := Blk.put (w10) #[.bool Yn, .string YS, .int .i64 Ye, .bool Ym, .string YT, .int .i64 Yf] 49
      replace B0 := B0.alloc B0.size (.cells #[.bool Yn, .string YS, .int .i64 Ye, .bool Ym, .string YT, .int .i64 Yf] 49)
      obtain ⟨xF2212_0, xF2212_1, xF2212_2, xF2212_3, xF2212_4, xF2212_5⟩ := F22.ce6
      obtain ⟨xF1712_0, xF1712_1, xF1712_2, xF1712_3, xF1712_4, xF1712_5⟩ := F17.ce6
      go_wp2_with fail
      (with_reducible refine (h10 _ (hT.below B0)).mono ?_)
      rintro r w11 ⟨rfl, hb11⟩
      clear xF2212_0 xF2212_1 xF2212_2 xF2212_3 xF2212_4 xF2212_5 xF1712_0 xF1712_1 xF1712_2 xF1712_3 xF1712_4 xF1712_5
      replace F3 := F3.keep hb11
      replace F4 := F4.keep hb11
      replace F11 := F11.keep hb11
      replace F17 := F17.keep hb11
      replace F21 := F21.keep hb11
      replace F22 := F22.keep hb11
      replace B0 := B0.trans (hb11.mono B0.size)
      clear hb11
      replace F3 := F3.allocd (.cells #[.bool Zn, .string ZS, .int .i64 Ze, .bool Zm, .string ZT, .int .i64 Zf] 49)
      replace F4 := F4.allocd (.cells #[.bool Zn, .string ZS, .int .i64 Ze, .bool Zm, .string ZT, .int .i64 Zf] 49)
      replace F11 := F11.allocd (.cells #[.bool Zn, .string ZS, .int .i64 Ze, .bool Zm, .string ZT, .int .i64 Zf] 49)
      clear F17
      replace F21 := F21.allocd (.cells #[.bool Zn, .string ZS, .int .i64 Ze, .bool Zm, .string ZT, .int .i64 Zf] 49)
      clear F22
      have F23 := Blk.put (w11) #[.bool Zn, .string ZS, .int .i64 Ze, .bool Zm, .string ZT, .int .i64 Zf] 49
      replace B0 := B0.alloc B0.size (.cells #[.bool Zn, .string ZS, .int .i64 Ze, .bool Zm, .string ZT, .int .i64 Zf] 49)
      go_upto_region 17 with fail
      go_cut [129] (fun s129 wx => s129 = .bool false ∧ Blk wx (w.heap.size) #[.bool an, .string aS, .int .i64 ae, .bool am, .string aT, .int .i64 af] 49 ∧ Blk wx (w.heap.size + 1) #[.bool bn, .string bS, .int .i64 be, .bool bm, .string bT, .int .i64 bf] 49 ∧ Blk wx (w4.heap.size) #[.bool Pn, .string PS, .int .i64 Pe, .bool Pm, .string PT, .int .i64 Pf] 49 ∧ Below w.heap.size w wx)
      case first =>
        go_wp2_with fail
        (with_reducible refine (o2 _ _ (by simp)).mono ?_)
        rintro r w12 ⟨rfl, hb12⟩
        replace F3 := F3.keep hb12
        replace F4 := F4.keep hb12
        replace F11 := F11.keep hb12
        replace F21 := F21.keep hb12
        replace F23 := F23.keep hb12
        replace B0 := B0.trans (hb12.mono B0.size)
        clear hb12
        cases O2
        · clear K2
          go_wp2_with fail
          go_meet
          exact ⟨by first | rfl | simp, F3, F4, F11, B0⟩
        · obtain ⟨rfl, rfl, rfl, rfl, rfl, rfl⟩ := K2.out rfl
          clear K2
          obtain ⟨xF2114_0, xF2114_1, xF2114_2, xF2114_3, xF2114_4, xF2114_5⟩ := F21.ce6
          obtain ⟨xF2314_0, xF2314_1, xF2314_2, xF2314_3, xF2314_4, xF2314_5⟩ := F23.ce6
          go_wp2_with fail
          go_meet
          exact ⟨by first | rfl | simp, F3, F4, F11, B0⟩
      case rest =>
        clear B0
        clear F3
        clear F4
        clear F11
        clear F21
        clear F23
        obtain ⟨rfl, F3, F4, F11, B0⟩ := hcut
        generalize wc = v3 at *
        obtain ⟨xF314_0, xF314_1, xF314_2, xF314_3, xF314_4, xF314_5⟩ := F3.ce6
        go_wp2_with fail
        (with_reducible refine (h11 _).mono ?_)
        rintro r w12 ⟨rfl, hb12⟩
        clear xF314_0 xF314_1 xF314_2 xF314_3 xF314_4 xF314_5
        replace F3 := F3.keep hb12
        replace F4 := F4.keep hb12
        replace F11 := F11.keep hb12
        replace B0 := B0.trans (hb12.mono B0.size)
        clear hb12
        obtain ⟨xF315_0, xF315_1, xF315_2, xF315_3, xF315_4, xF315_5⟩ := F3.ce6
        go_wp2_with fail
        (with_reducible refine (h12 _ (hT.below B0)).mono ?_)
        rintro r w13 ⟨rfl, hb13⟩
        clear xF315_0 xF315_1 xF315_2 xF315_3 xF315_4 xF315_5
        replace F3 := F3.keep hb13
        replace F4 := F4.keep hb13
        replace F11 := F11.keep hb13
        replace B0 := B0.trans (hb13.mono B0.size)
        clear hb13
        replace F3 := F3.allocd (.cells #[.bool Tn, .string TS, .int .i64 Te, .bool Tm, .string TT, .int .i64 Tf] 49)
        replace F4 := F4.allocd (.cells #[.bool Tn, .string TS, .int .i64 Te, .bool Tm, .string TT, .int .i64 Tf] 49)
        replace F11 := F11.allocd (.cells #[.bool Tn, .string TS, .int .i64 Te, .bool Tm, .string TT, .int .i64 Tf] 49)
        have F25 := Blk.put (w13) #[.bool Tn, .string TS, .int .i64 Te, .bool Tm, .string TT, .int .i64 Tf] 49
        replace B0 := B0.alloc B0.size (.cells #[.bool Tn, .string TS, .int .i64 Te, .bool Tm, .string TT, .int .i64 Tf] 49)
        go_upto_region 22 with fail
        go_cut [162] (fun s162 wx => s162 = .bool false ∧ Blk wx (w.heap.size) #[.bool an, .string aS, .int .i64 ae, .bool am, .string aT, .int .i64 af] 49 ∧ Blk wx (w.heap.size + 1) #[.bool bn, .string bS, .int .i64 be, .bool bm, .string bT, .int .i64 bf] 49 ∧ Blk wx (w4.heap.size) #[.bool Pn, .string PS, .int .i64 Pe, .bool Pm, .string PT, .int .i64 Pf] 49 ∧ Below w.heap.size w wx)
        case first =>
          go_wp2_with fail
          refine wp_region_any (by kernel_rfl) ?_
          obtain ⟨xF316_0, xF316_1, xF316_2, xF316_3, xF316_4, xF316_5⟩ := F3.ce6
          obtain ⟨xF2516_0, xF2516_1, xF2516_2, xF2516_3, xF2516_4, xF2516_5⟩ := F25.ce6
          have hHeld : (fun w' : World => w'.cell? ⟨w.heap.size, 0, none⟩ = some (.bool an) ∧ w'.cell? ⟨w.heap.size, 1, none⟩ = some (.string aS) ∧ w'.cell? ⟨w.heap.size, 2, none⟩ = some (.int .i64 ae) ∧ w'.cell? ⟨w.heap.size, 3, none⟩ = some (.bool am) ∧ w'.cell? ⟨w.heap.size, 4, none⟩ = some (.string aT) ∧ w'.cell? ⟨w.heap.size, 5, none⟩ = some (.int .i64 af) ∧ w'.cell? ⟨w13.heap.size, 0, none⟩ = some (.bool Tn) ∧ w'.cell? ⟨w13.heap.size, 1, none⟩ = some (.string TS) ∧ w'.cell? ⟨w13.heap.size, 2, none⟩ = some (.int .i64 Te) ∧ w'.cell? ⟨w13.heap.size, 3, none⟩ = some (.bool Tm) ∧ w'.cell? ⟨w13.heap.size, 4, none⟩ = some (.string TT) ∧ w'.cell? ⟨w13.heap.size, 5, none⟩ = some (.int .i64 Tf)) ((w13).alloc (.cells #[.bool Tn, .string TS, .int .i64 Te, .bool Tm, .string TT, .int .i64 Tf] 49)).drew := ⟨xF316_0, xF316_1, xF316_2, xF316_3, xF316_4, xF316_5, xF2516_0, xF2516_1, xF2516_2, xF2516_3, xF2516_4, xF2516_5⟩
          refine wpAny_of_held (S := fun w' : World => w'.cell? ⟨w.heap.size, 0, none⟩ = some (.bool an) ∧ w'.cell? ⟨w.heap.size, 1, none⟩ = some (.string aS) ∧ w'.cell? ⟨w.heap.size, 2, none⟩ = some (.int .i64 ae) ∧ w'.cell? ⟨w.heap.size, 3, none⟩ = some (.bool am) ∧ w'.cell? ⟨w.heap.size, 4, none⟩ = some (.string aT) ∧ w'.cell? ⟨w.heap.size, 5, none⟩ = some (.int .i64 af) ∧ w'.cell? ⟨w13.heap.size, 0, none⟩ = some (.bool Tn) ∧ w'.cell? ⟨w13.heap.size, 1, none⟩ = some (.string TS) ∧ w'.cell? ⟨w13.heap.size, 2, none⟩ = some (.int .i64 Te) ∧ w'.cell? ⟨w13.heap.size, 3, none⟩ = some (.bool Tm) ∧ w'.cell? ⟨w13.heap.size, 4, none⟩ = some (.string TT) ∧ w'.cell? ⟨w13.heap.size, 5, none⟩ = some (.int .i64 Tf)) _ _ _ _ ?_
          replace F3 := F3.drew
          replace F4 := F4.drew
          replace F11 := F11.drew
          replace F25 := F25.drew
          replace B0 := B0.drew
          refine wpAnyH_take (i := 0) (v := _) (by first | (simp only [List.getElem?_toArray, List.getElem?_cons_zero]; rfl) | rfl) (by kernel_rfl) (by kernel_rfl) (by kernel_rfl) (by exact fun _ _ _ h => h) (Or.inl ⟨by rfl, by (intro w hSw; (try dsimp only at hSw); go_simp; try with_reducible rfl)⟩) (by assumption) ?_
          (try dsimp only [Act.put]); (try go_frame)
          refine wpAnyH_take (i := 1) (v := _) (by first | (simp only [List.getElem?_toArray, List.getElem?_cons_zero, List.getElem?_cons_succ]; rfl) | rfl) (by kernel_rfl) (by kernel_rfl) (by kernel_rfl) (by exact fun _ _ _ h => h) (Or.inl ⟨by rfl, by (intro w hSw; (try dsimp only at hSw); go_simp; try with_reducible rfl)⟩) (by assumption) ?_
          (try dsimp only [Act.put]); (try go_frame)
          refine wpAnyH_take (i := 2) (v := _) (by first | (simp only [List.getElem?_toArray, List.getElem?_cons_zero, List.getElem?_cons_succ]; rfl) | rfl) (by kernel_rfl) (by kernel_rfl) (by kernel_rfl) (by exact fun _ _ _ h => h) (Or.inl ⟨by rfl, by (intro w hSw; (try dsimp only at hSw); go_simp; try with_reducible rfl)⟩) (by assumption) ?_
          (try dsimp only [Act.put]); (try go_frame)
          refine wpAnyH_take (i := 3) (v := _) (by first | (simp only [List.getElem?_toArray, List.getElem?_cons_zero, List.getElem?_cons_succ]; rfl) | rfl) (by kernel_rfl) (by kernel_rfl) (by kernel_rfl) (by exact fun _ _ _ h => h) (Or.inl ⟨by rfl, by (intro w hSw; (try dsimp only at hSw); go_simp; try with_reducible rfl)⟩) (by assumption) ?_
          (try dsimp only [Act.put]); (try go_frame)
          refine wpAnyH_take (i := 5) (v := _) (by first | (simp only [List.getElem?_toArray, List.getElem?_cons_zero, List.getElem?_cons_succ]; rfl) | rfl) (by kernel_rfl) (by kernel_rfl) (by kernel_rfl) (by exact fun _ _ _ h => h) (Or.inl ⟨by rfl, by (intro w hSw; (try dsimp only at hSw); go_simp; try with_reducible rfl)⟩) (by assumption) ?_
          (try dsimp only [Act.put]); (try go_frame)
          refine wpAnyH_ready (rs := [4]) (by kernel_rfl) (by simp) ?_
          refine AllReadyH.cons rfl (fun K hK => ?_) AllReadyH.nil
          go_simp
          (with_reducible refine (h13 _).mono ?_)
          rintro r w14 ⟨rfl, hb14⟩
          clear xF316_0 xF316_1 xF316_2 xF316_3 xF316_4 xF316_5 xF2516_0 xF2516_1 xF2516_2 xF2516_3 xF2516_4 xF2516_5
          replace F3 := F3.keep hb14
          replace F4 := F4.keep hb14
          replace F11 := F11.keep hb14
          replace F25 := F25.keep hb14
          replace B0 := B0.trans (hb14.mono B0.size)
          clear hb14
          obtain ⟨xF318_0, xF318_1, xF318_2, xF318_3, xF318_4, xF318_5⟩ := F3.ce6
          obtain ⟨xF2518_0, xF2518_1, xF2518_2, xF2518_3, xF2518_4, xF2518_5⟩ := F25.ce6
          refine hK.out _ _ ?_ (fun hHeld => ?_)
          · exact ⟨xF318_0, xF318_1, xF318_2, xF318_3, xF318_4, xF318_5, xF2518_0, xF2518_1, xF2518_2, xF2518_3, xF2518_4, xF2518_5⟩
          clear hK K
          (try dsimp only [Act.put]); (try go_frame)
          refine wpAnyH_take (i := 6) (v := _) (by first | (simp only [List.getElem?_toArray, List.getElem?_cons_zero, List.getElem?_cons_succ]; rfl) | rfl) (by kernel_rfl) (by kernel_rfl) (by kernel_rfl) (by exact fun _ _ _ h => h) (Or.inl ⟨by rfl, by (intro w hSw; (try dsimp only at hSw); go_simp; try with_reducible rfl)⟩) (by assumption) ?_
          (try dsimp only [Act.put]); (try go_frame)
          refine wpAnyH_take (i := 7) (v := _) (by first | (simp only [List.getElem?_toArray, List.getElem?_cons_zero, List.getElem?_cons_succ]; rfl) | rfl) (by kernel_rfl) (by kernel_rfl) (by kernel_rfl) (by exact fun _ _ _ h => h) (Or.inl ⟨by rfl, by (intro w hSw; (try dsimp only at hSw); go_simp; try with_reducible rfl)⟩) (by assumption) ?_
          (try dsimp only [Act.put]); (try go_frame)
          refine wpAnyH_take (i := 8) (v := _) (by first | (simp only [List.getElem?_toArray, List.getElem?_cons_zero, List.getElem?_cons_succ]; rfl) | rfl) (by kernel_rfl) (by kernel_rfl) (by kernel_rfl) (by exact fun _ _ _ h => h) (Or.inl ⟨by rfl, by (intro w hSw; (try dsimp only at hSw); go_simp; try with_reducible rfl)⟩) (by assumption) ?_
          (try dsimp only [Act.put]); (try go_frame)
          refine wpAnyH_take (i := 9) (v := _) (by first | (simp only [List.getElem?_toArray, List.getElem?_cons_zero, List.getElem?_cons_succ]; rfl) | rfl) (by kernel_rfl) (by kernel_rfl) (by kernel_rfl) (by exact fun _ _ _ h => h) (Or.inl ⟨by rfl, by (intro w hSw; (try dsimp only at hSw); go_simp; try with_reducible rfl)⟩) (by assumption) ?_
          (try dsimp only [Act.put]); (try go_frame)
          refine wpAnyH_take (i := 12) (v := _) (by first | (simp only [List.getElem?_toArray, List.getElem?_cons_zero, List.getElem?_cons_succ]; rfl) | rfl) (by kernel_rfl) (by kernel_rfl) (by kernel_rfl) (by exact fun _ _ _ h => h) (Or.inl ⟨by rfl, by (intro w hSw; (try dsimp only at hSw); go_simp; try with_reducible rfl)⟩) (by assumption) ?_
          (try dsimp only [Act.put]); (try go_frame)
          refine wpAnyH_ready (rs := [10]) (by kernel_rfl) (by simp) ?_
          refine AllReadyH.cons rfl (fun K hK => ?_) AllReadyH.nil
          go_simp
          (with_reducible refine (h13 _).mono ?_)
          rintro r w15 ⟨rfl, hb15⟩
          clear xF318_0 xF318_1 xF318_2 xF318_3 xF318_4 xF318_5 xF2518_0 xF2518_1 xF2518_2 xF2518_3 xF2518_4 xF2518_5
          replace F3 := F3.keep hb15
          replace F4 := F4.keep hb15
          replace F11 := F11.keep hb15
          replace F25 := F25.keep hb15
          replace B0 := B0.trans (hb15.mono B0.size)
          clear hb15
          obtain ⟨xF319_0, xF319_1, xF319_2, xF319_3, xF319_4, xF319_5⟩ := F3.ce6
          obtain ⟨xF2519_0, xF2519_1, xF2519_2, xF2519_3, xF2519_4, xF2519_5⟩ := F25.ce6
          refine hK.out _ _ ?_ (fun hHeld => ?_)
          · exact ⟨xF319_0, xF319_1, xF319_2, xF319_3, xF319_4, xF319_5, xF2519_0, xF2519_1, xF2519_2, xF2519_3, xF2519_4, xF2519_5⟩
          clear hK K
          (try dsimp only [Act.put]); (try go_frame)
          refine wpAnyH_ready (rs := [11]) (by kernel_rfl) (by simp) ?_
          refine AllReadyH.cons rfl (fun K hK => ?_) AllReadyH.nil
          go_simp
          (with_reducible refine (h14 _).mono ?_)
          rintro r w16 ⟨rfl, hb16⟩
          clear xF319_0 xF319_1 xF319_2 xF319_3 xF319_4 xF319_5 xF2519_0 xF2519_1 xF2519_2 xF2519_3 xF2519_4 xF2519_5
          replace F3 := F3.keep hb16
          replace F4 := F4.keep hb16
          replace F11 := F11.keep hb16
          replace F25 := F25.keep hb16
          replace B0 := B0.trans (hb16.mono B0.size)
          clear hb16
          obtain ⟨xF320_0, xF320_1, xF320_2, xF320_3, xF320_4, xF320_5⟩ := F3.ce6
          obtain ⟨xF2520_0, xF2520_1, xF2520_2, xF2520_3, xF2520_4, xF2520_5⟩ := F25.ce6
          refine hK.out _ _ ?_ (fun hHeld => ?_)
          · exact ⟨xF320_0, xF320_1, xF320_2, xF320_3, xF320_4, xF320_5, xF2520_0, xF2520_1, xF2520_2, xF2520_3, xF2520_4, xF2520_5⟩
          clear hK K
          (try dsimp only [Act.put]); (try go_frame)
          refine wpAnyH_ready (rs := [13]) (by kernel_rfl) (by simp) ?_
          refine AllReadyH.cons rfl (fun K hK => ?_) AllReadyH.nil
          go_simp
          (with_reducible refine (h15 _).mono ?_)
          rintro r w17 ⟨rfl, hb17⟩
          clear xF320_0 xF320_1 xF320_2 xF320_3 xF320_4 xF320_5 xF2520_0 xF2520_1 xF2520_2 xF2520_3 xF2520_4 xF2520_5
          replace F3 := F3.keep hb17
          replace F4 := F4.keep hb17
          replace F11 := F11.keep hb17
          replace F25 := F25.keep hb17
          replace B0 := B0.trans (hb17.mono B0.size)
          clear hb17
          obtain ⟨xF321_0, xF321_1, xF321_2, xF321_3, xF321_4, xF321_5⟩ := F3.ce6
          obtain ⟨xF2521_0, xF2521_1, xF2521_2, xF2521_3, xF2521_4, xF2521_5⟩ := F25.ce6
          refine hK.out _ _ ?_ (fun hHeld => ?_)
          · exact ⟨xF321_0, xF321_1, xF321_2, xF321_3, xF321_4, xF321_5, xF2521_0, xF2521_1, xF2521_2, xF2521_3, xF2521_4, xF2521_5⟩
          clear hK K
          (try dsimp only [Act.put]); (try go_frame)
          refine wpAnyH_take (i := 14) (v := _) (by first | (simp only [List.getElem?_toArray, List.getElem?_cons_zero, List.getElem?_cons_succ]; rfl) | rfl) (by kernel_rfl) (by kernel_rfl) (by kernel_rfl) (by exact fun _ _ _ h => h) (Or.inl ⟨by rfl, by (intro w hSw; (try dsimp only at hSw); go_simp; try with_reducible rfl)⟩) (by assumption) ?_
          (try dsimp only [Act.put]); (try go_frame)
          refine wpAnyH_take (i := 15) (v := _) (by first | (simp only [List.getElem?_toArray, List.getElem?_cons_zero, List.getElem?_cons_succ]; rfl) | rfl) (by kernel_rfl) (by kernel_rfl) (by kernel_rfl) (by exact fun _ _ _ h => h) (Or.inl ⟨by rfl, by (intro w hSw; (try dsimp only at hSw); go_simp; try with_reducible rfl)⟩) (by assumption) ?_
          (try dsimp only [Act.put]); (try go_frame)
          refine wpAnyH_take (i := 16) (v := _) (by first | (simp only [List.getElem?_toArray, List.getElem?_cons_zero, List.getElem?_cons_succ]; rfl) | rfl) (by kernel_rfl) (by kernel_rfl) (by kernel_rfl) (by exact fun _ _ _ h => h) (Or.inl ⟨by rfl, by (intro w hSw; (try dsimp only at hSw); go_simp; try with_reducible rfl)⟩) (by assumption) ?_
          (try dsimp only [Act.put]); (try go_frame)
          refine wpAnyH_take (i := 17) (v := _) (by first | (simp only [List.getElem?_toArray, List.getElem?_cons_zero, List.getElem?_cons_succ]; rfl) | rfl) (by kernel_rfl) (by kernel_rfl) (by kernel_rfl) (by exact fun _ _ _ h => h) (Or.inl ⟨by rfl, by (intro w hSw; (try dsimp only at hSw); go_simp; try with_reducible rfl)⟩) (by assumption) ?_
          (try dsimp only [Act.put]); (try go_frame)
          refine wpAnyH_take (i := 20) (v := _) (by first | (simp only [List.getElem?_toArray, List.getElem?_cons_zero, List.getElem?_cons_succ]; rfl) | rfl) (by kernel_rfl) (by kernel_rfl) (by kernel_rfl) (by exact fun _ _ _ h => h) (Or.inl ⟨by rfl, by (intro w hSw; (try dsimp only at hSw); go_simp; try with_reducible rfl)⟩) (by assumption) ?_
          (try dsimp only [Act.put]); (try go_frame)
          refine wpAnyH_ready (rs := [18]) (by kernel_rfl) (by simp) ?_
          refine AllReadyH.cons rfl (fun K hK => ?_) AllReadyH.nil
          go_simp
          (with_reducible refine (h16 _).mono ?_)
          rintro r w18 ⟨rfl, hb18⟩
          clear xF321_0 xF321_1 xF321_2 xF321_3 xF321_4 xF321_5 xF2521_0 xF2521_1 xF2521_2 xF2521_3 xF2521_4 xF2521_5
          replace F3 := F3.keep hb18
          replace F4 := F4.keep hb18
          replace F11 := F11.keep hb18
          replace F25 := F25.keep hb18
          replace B0 := B0.trans (hb18.mono B0.size)
          clear hb18
          obtain ⟨xF322_0, xF322_1, xF322_2, xF322_3, xF322_4, xF322_5⟩ := F3.ce6
          obtain ⟨xF2522_0, xF2522_1, xF2522_2, xF2522_3, xF2522_4, xF2522_5⟩ := F25.ce6
          refine hK.out _ _ ?_ (fun hHeld => ?_)
          · exact ⟨xF322_0, xF322_1, xF322_2, xF322_3, xF322_4, xF322_5, xF2522_0, xF2522_1, xF2522_2, xF2522_3, xF2522_4, xF2522_5⟩
          clear hK K
          (try dsimp only [Act.put]); (try go_frame)
          refine wpAnyH_ready (rs := [19]) (by kernel_rfl) (by simp) ?_
          refine AllReadyH.cons rfl (fun K hK => ?_) AllReadyH.nil
          go_simp
          (with_reducible refine (h17 _).mono ?_)
          rintro r w19 ⟨rfl, hb19⟩
          clear xF322_0 xF322_1 xF322_2 xF322_3 xF322_4 xF322_5 xF2522_0 xF2522_1 xF2522_2 xF2522_3 xF2522_4 xF2522_5
          replace F3 := F3.keep hb19
          replace F4 := F4.keep hb19
          replace F11 := F11.keep hb19
          replace F25 := F25.keep hb19
          replace B0 := B0.trans (hb19.mono B0.size)
          clear hb19
          obtain ⟨xF323_0, xF323_1, xF323_2, xF323_3, xF323_4, xF323_5⟩ := F3.ce6
          obtain ⟨xF2523_0, xF2523_1, xF2523_2, xF2523_3, xF2523_4, xF2523_5⟩ := F25.ce6
          refine hK.out _ _ ?_ (fun hHeld => ?_)
          · exact ⟨xF323_0, xF323_1, xF323_2, xF323_3, xF323_4, xF323_5, xF2523_0, xF2523_1, xF2523_2, xF2523_3, xF2523_4, xF2523_5⟩
          clear hK K
          (try dsimp only [Act.put]); (try go_frame)
          refine wpAnyH_take (i := 21) (v := _) (by first | (simp only [List.getElem?_toArray, List.getElem?_cons_zero, List.getElem?_cons_succ]; rfl) | rfl) (by kernel_rfl) (by kernel_rfl) (by kernel_rfl) (by exact fun _ _ _ h => h) (Or.inl ⟨by rfl, by (intro w hSw; (try dsimp only at hSw); go_simp; try with_reducible rfl)⟩) (by assumption) ?_
          (try dsimp only [Act.put]); (try go_frame)
          refine wpAnyH_take (i := 22) (v := _) (by first | (simp only [List.getElem?_toArray, List.getElem?_cons_zero, List.getElem?_cons_succ]; rfl) | rfl) (by kernel_rfl) (by kernel_rfl) (by kernel_rfl) (by exact fun _ _ _ h => h) (Or.inl ⟨by rfl, by (intro w hSw; (try dsimp only at hSw); go_simp; try with_reducible rfl)⟩) (by assumption) ?_
          (try dsimp only [Act.put]); (try go_frame)
          refine wpAnyH_done (by kernel_rfl) ?_ _
          try simp only [QCut]
          clear hHeld
          clear xF323_0 xF323_1 xF323_2 xF323_3 xF323_4 xF323_5 xF2523_0 xF2523_1 xF2523_2 xF2523_3 xF2523_4 xF2523_5
          go_wp2_with fail
          go_meet
          exact ⟨by first | rfl | simp, F3, F4, F11, B0⟩
        case rest =>
          clear B0
          clear F3
          clear F4
          clear F11
          clear F25
          obtain ⟨rfl, F3, F4, F11, B0⟩ := hcut
          generalize wc = v4 at *
          go_upto_region 24 with fail
          go_cut [10, 26] (fun s10 s26 wx => ∃ S26, s10 = .int .i64 Qr ∧ s26 = .pointer (some ⟨S26, 0, none⟩) ∧ Blk wx (w4.heap.size) #[.bool Pn, .string PS, .int .i64 Pe, .bool Pm, .string PT, .int .i64 Pf] 49 ∧ Blk wx S26 #[.bool Qn, .string QS, .int .i64 Qe, .bool Qm, .string QT, .int .i64 Qf] 49 ∧ Below w.heap.size w wx)
          case first =>
            go_wp2_with fail
            refine wp_region_any (by kernel_rfl) ?_
            obtain ⟨xF317_0, xF317_1, xF317_2, xF317_3, xF317_4, xF317_5⟩ := F3.ce6
            obtain ⟨xF417_0, xF417_1, xF417_2, xF417_3, xF417_4, xF417_5⟩ := F4.ce6
            have hHeld : (fun w' : World => w'.cell? ⟨w.heap.size, 0, none⟩ = some (.bool an) ∧ w'.cell? ⟨w.heap.size, 1, none⟩ = some (.string aS) ∧ w'.cell? ⟨w.heap.size, 2, none⟩ = some (.int .i64 ae) ∧ w'.cell? ⟨w.heap.size, 3, none⟩ = some (.bool am) ∧ w'.cell? ⟨w.heap.size, 4, none⟩ = some (.string aT) ∧ w'.cell? ⟨w.heap.size, 5, none⟩ = some (.int .i64 af) ∧ w'.cell? ⟨w.heap.size + 1, 0, none⟩ = some (.bool bn) ∧ w'.cell? ⟨w.heap.size + 1, 1, none⟩ = some (.string bS) ∧ w'.cell? ⟨w.heap.size + 1, 2, none⟩ = some (.int .i64 be) ∧ w'.cell? ⟨w.heap.size + 1, 3, none⟩ = some (.bool bm) ∧ w'.cell? ⟨w.heap.size + 1, 4, none⟩ = some (.string bT) ∧ w'.cell? ⟨w.heap.size + 1, 5, none⟩ = some (.int .i64 bf)) (v4).drew := ⟨xF317_0, xF317_1, xF317_2, xF317_3, xF317_4, xF317_5, xF417_0, xF417_1, xF417_2, xF417_3, xF417_4, xF417_5⟩
            refine wpAny_of_held (S := fun w' : World => w'.cell? ⟨w.heap.size, 0, none⟩ = some (.bool an) ∧ w'.cell? ⟨w.heap.size, 1, none⟩ = some (.string aS) ∧ w'.cell? ⟨w.heap.size, 2, none⟩ = some (.int .i64 ae) ∧ w'.cell? ⟨w.heap.size, 3, none⟩ = some (.bool am) ∧ w'.cell? ⟨w.heap.size, 4, none⟩ = some (.string aT) ∧ w'.cell? ⟨w.heap.size, 5, none⟩ = some (.int .i64 af) ∧ w'.cell? ⟨w.heap.size + 1, 0, none⟩ = some (.bool bn) ∧ w'.cell? ⟨w.heap.size + 1, 1, none⟩ = some (.string bS) ∧ w'.cell? ⟨w.heap.size + 1, 2, none⟩ = some (.int .i64 be) ∧ w'.cell? ⟨w.heap.size + 1, 3, none⟩ = some (.bool bm) ∧ w'.cell? ⟨w.heap.size + 1, 4, none⟩ = some (.string bT) ∧ w'.cell? ⟨w.heap.size + 1, 5, none⟩ = some (.int .i64 bf)) _ _ _ _ ?_
            replace F3 := F3.drew
            replace F4 := F4.drew
            replace F11 := F11.drew
            replace B0 := B0.drew
            refine wpAnyH_take (i := 0) (v := _) (by first | (simp only [List.getElem?_toArray, List.getElem?_cons_zero]; rfl) | rfl) (by kernel_rfl) (by kernel_rfl) (by kernel_rfl) (by exact fun _ _ _ h => h) (Or.inl ⟨by rfl, by (intro w hSw; (try dsimp only at hSw); go_simp; try with_reducible rfl)⟩) (by assumption) ?_
            (try dsimp only [Act.put]); (try go_frame)
            refine wpAnyH_take (i := 2) (v := _) (by first | (simp only [List.getElem?_toArray, List.getElem?_cons_zero, List.getElem?_cons_succ]; rfl) | rfl) (by kernel_rfl) (by kernel_rfl) (by kernel_rfl) (by exact fun _ _ _ h => h) (Or.inl ⟨by rfl, by (intro w hSw; (try dsimp only at hSw); go_simp; try with_reducible rfl)⟩) (by assumption) ?_
            (try dsimp only [Act.put]); (try go_frame)
            refine wpAnyH_ready (rs := [1, 8]) (by kernel_rfl) (by simp) ?_
            refine AllReadyH.cons rfl (fun K hK => ?_) (AllReadyH.cons rfl (fun K hK => ?_) AllReadyH.nil)
            · go_simp
              (with_reducible refine (h16 _).mono ?_)
              rintro r w14 ⟨rfl, hb14⟩
              clear xF317_0 xF317_1 xF317_2 xF317_3 xF317_4 xF317_5 xF417_0 xF417_1 xF417_2 xF417_3 xF417_4 xF417_5
              replace F3 := F3.keep hb14
              replace F4 := F4.keep hb14
              replace F11 := F11.keep hb14
              replace B0 := B0.trans (hb14.mono B0.size)
              clear hb14
              obtain ⟨xF319_0, xF319_1, xF319_2, xF319_3, xF319_4, xF319_5⟩ := F3.ce6
              obtain ⟨xF419_0, xF419_1, xF419_2, xF419_3, xF419_4, xF419_5⟩ := F4.ce6
              refine hK.out _ _ ?_ (fun hHeld => ?_)
              · exact ⟨xF319_0, xF319_1, xF319_2, xF319_3, xF319_4, xF319_5, xF419_0, xF419_1, xF419_2, xF419_3, xF419_4, xF419_5⟩
              clear hK K
              (try dsimp only [Act.put]); (try go_frame)
              refine wpAnyH_ready (rs := [3, 8]) (by kernel_rfl) (by simp) ?_
              refine AllReadyH.cons rfl (fun K hK => ?_) (AllReadyH.cons rfl (fun K hK => ?_) AllReadyH.nil)
              · go_simp
                (with_reducible refine (h18 _).mono ?_)
                rintro r w15 ⟨rfl, hb15⟩
                clear xF319_0 xF319_1 xF319_2 xF319_3 xF319_4 xF319_5 xF419_0 xF419_1 xF419_2 xF419_3 xF419_4 xF419_5
                replace F3 := F3.keep hb15
                replace F4 := F4.keep hb15
                replace F11 := F11.keep hb15
                replace B0 := B0.trans (hb15.mono B0.size)
                clear hb15
                obtain ⟨xF320_0, xF320_1, xF320_2, xF320_3, xF320_4, xF320_5⟩ := F3.ce6
                obtain ⟨xF420_0, xF420_1, xF420_2, xF420_3, xF420_4, xF420_5⟩ := F4.ce6
                refine hK.out _ _ ?_ (fun hHeld => ?_)
                · exact ⟨xF320_0, xF320_1, xF320_2, xF320_3, xF320_4, xF320_5, xF420_0, xF420_1, xF420_2, xF420_3, xF420_4, xF420_5⟩
                clear hK K
                (try dsimp only [Act.put]); (try go_frame)
                refine wpAnyH_ready (rs := [4, 8]) (by kernel_rfl) (by simp) ?_
                refine AllReadyH.cons rfl (fun K hK => ?_) (AllReadyH.cons rfl (fun K hK => ?_) AllReadyH.nil)
                · go_simp
                  (with_reducible refine (h19 _ (hT.below B0)).mono ?_)
                  rintro r w16 ⟨rfl, hb16⟩
                  clear xF320_0 xF320_1 xF320_2 xF320_3 xF320_4 xF320_5 xF420_0 xF420_1 xF420_2 xF420_3 xF420_4 xF420_5
                  replace F3 := F3.keep hb16
                  replace F4 := F4.keep hb16
                  replace F11 := F11.keep hb16
                  replace B0 := B0.trans (hb16.mono B0.size)
                  clear hb16
                  obtain ⟨xF321_0, xF321_1, xF321_2, xF321_3, xF321_4, xF321_5⟩ := F3.ce6
                  obtain ⟨xF421_0, xF421_1, xF421_2, xF421_3, xF421_4, xF421_5⟩ := F4.ce6
                  refine hK.out _ _ ?_ (fun hHeld => ?_)
                  · exact ⟨xF321_0, xF321_1, xF321_2, xF321_3, xF321_4, xF321_5, xF421_0, xF421_1, xF421_2, xF421_3, xF421_4, xF421_5⟩
                  clear hK K
                  (try dsimp only [Act.put]); (try go_frame)
                  refine wpAnyH_take (i := 5) (v := _) (by first | (simp only [List.getElem?_toArray, List.getElem?_cons_zero, List.getElem?_cons_succ]; rfl) | rfl) (by kernel_rfl) (by kernel_rfl) (by kernel_rfl) (by exact fun _ _ _ h => h) (Or.inl ⟨by rfl, by (intro w hSw; (try dsimp only at hSw); go_simp; try with_reducible rfl)⟩) (by assumption) ?_
                  (try dsimp only [Act.put]); (try go_frame)
                  refine wpAnyH_take (i := 6) (v := _) (by first | (simp only [List.getElem?_toArray, List.getElem?_cons_zero, List.getElem?_cons_succ]; rfl) | rfl) (by kernel_rfl) (by kernel_rfl) (by kernel_rfl) (by exact fun _ _ _ h => h) (Or.inl ⟨by rfl, by (intro w hSw; (try dsimp only at hSw); go_simp; try with_reducible rfl)⟩) (by assumption) ?_
                  (try dsimp only [Act.put]); (try go_frame)
                  refine wpAnyH_take (i := 7) (v := _) (by first | (simp only [List.getElem?_toArray, List.getElem?_cons_zero, List.getElem?_cons_succ]; rfl) | rfl) (by kernel_rfl) (by kernel_rfl) (by kernel_rfl) (by exact fun _ _ _ h => h) (Or.inl ⟨by rfl, by (intro w hSw; (try dsimp only at hSw); go_simp; try with_reducible rfl)⟩) (by assumption) ?_
                  (try dsimp only [Act.put]); (try go_frame)
                  refine wpAnyH_ready (rs := [8]) (by kernel_rfl) (by simp) ?_
                  refine AllReadyH.cons rfl (fun K hK => ?_) AllReadyH.nil
                  go_simp
                  obtain ⟨zF30, zF31, zF32, zF33, zF34, zF35⟩ := (F3.allocd (.cells #[.bool false, .string { data := #[] }, .int .i64 0, .bool false, .string { data := #[] }, .int .i64 0] 49)).ce6
                  obtain ⟨zF40, zF41, zF42, zF43, zF44, zF45⟩ := (F4.allocd (.cells #[.bool false, .string { data := #[] }, .int .i64 0, .bool false, .string { data := #[] }, .int .i64 0] 49)).ce6
                  clear xF321_0 xF321_1 xF321_2 xF321_3 xF321_4 xF321_5 xF421_0 xF421_1 xF421_2 xF421_3 xF421_4 xF421_5
                  refine hK.out _ _ ?_ (fun hHeld => ?_)
                  · exact ⟨zF30, zF31, zF32, zF33, zF34, zF35, zF40, zF41, zF42, zF43, zF44, zF45⟩
                  clear hK K
                  (try dsimp only [Act.put]); (try go_frame)
                  clear zF30 zF31 zF32 zF33 zF34 zF35 zF40 zF41 zF42 zF43 zF44 zF45
                  refine wpAnyH_ready (rs := [9]) (by kernel_rfl) (by simp) ?_
                  refine AllReadyH.cons rfl (fun K hK => ?_) AllReadyH.nil
                  go_simp
                  have q_w_F26 : Hid (w.heap.size ≤ w16.heap.size) := Lib.hid (by have := B0.size; first | exact this | omega | (simp; done) | simpa using this)
                  replace F3 := F3.allocd (.cells #[.bool Qn, .string QS, .int .i64 Qe, .bool Qm, .string QT, .int .i64 Qf] 49)
                  replace F4 := F4.allocd (.cells #[.bool Qn, .string QS, .int .i64 Qe, .bool Qm, .string QT, .int .i64 Qf] 49)
                  replace F11 := F11.allocd (.cells #[.bool Qn, .string QS, .int .i64 Qe, .bool Qm, .string QT, .int .i64 Qf] 49)
                  have F26 := Blk.put (w16) #[.bool Qn, .string QS, .int .i64 Qe, .bool Qm, .string QT, .int .i64 Qf] 49
                  replace B0 := B0.alloc B0.size (.cells #[.bool Qn, .string QS, .int .i64 Qe, .bool Qm, .string QT, .int .i64 Qf] 49)
                  obtain ⟨xF322_0, xF322_1, xF322_2, xF322_3, xF322_4, xF322_5⟩ := F3.ce6
                  obtain ⟨xF422_0, xF422_1, xF422_2, xF422_3, xF422_4, xF422_5⟩ := F4.ce6
                  refine hK.out _ _ ?_ (fun hHeld => ?_)
                  · exact ⟨xF322_0, xF322_1, xF322_2, xF322_3, xF322_4, xF322_5, xF422_0, xF422_1, xF422_2, xF422_3, xF422_4, xF422_5⟩
                  clear hK K
                  (try dsimp only [Act.put]); (try go_frame)
                  refine wpAnyH_take (i := 10) (v := _) (by first | (simp only [List.getElem?_toArray, List.getElem?_cons_zero, List.getElem?_cons_succ]; rfl) | rfl) (by kernel_rfl) (by kernel_rfl) (by kernel_rfl) (by exact fun _ _ _ h => h) (Or.inl ⟨by rfl, by (intro w hSw; (try dsimp only at hSw); go_simp; try with_reducible rfl)⟩) (by assumption) ?_
                  (try dsimp only [Act.put]); (try go_frame)
                  refine wpAnyH_done (by kernel_rfl) ?_ _
                  try simp only [QCut]
                  clear hHeld
                  clear xF322_0 xF322_1 xF322_2 xF322_3 xF322_4 xF322_5 xF422_0 xF422_1 xF422_2 xF422_3 xF422_4 xF422_5
                  go_wp2_with fail
                  go_meet
                  exact ⟨_, by first | rfl | simp, by first | rfl | simp, F11, F26, B0⟩
                · go_simp
                  clear xF320_0 xF320_1 xF320_2 xF320_3 xF320_4 xF320_5 xF420_0 xF420_1 xF420_2 xF420_3 xF420_4 xF420_5
                  have q_F3_F26 : Hid (w.heap.size < w15.heap.size) := Lib.hid (by have := F3.lt; first | exact this | omega | (simp; done) | simpa using this)
                  have q_F4_F26 : Hid (w.heap.size + 1 < w15.heap.size) := Lib.hid (by have := F4.lt; first | exact this | omega | (simp; done) | simpa using this)
                  have q_F11_F26 : Hid (w4.heap.size < w15.heap.size) := Lib.hid (by have := F11.lt; first | exact this | omega | (simp; done) | simpa using this)
                  have q_w_F26 : Hid (w.heap.size ≤ w15.heap.size) := Lib.hid (by have := B0.size; first | exact this | omega | (simp; done) | simpa using this)
                  replace F3 := F3.allocd (.cells #[.bool false, .string { data := #[] }, .int .i64 0, .bool false, .string { data := #[] }, .int .i64 0] 49)
                  replace F4 := F4.allocd (.cells #[.bool false, .string { data := #[] }, .int .i64 0, .bool false, .string { data := #[] }, .int .i64 0] 49)
                  replace F11 := F11.allocd (.cells #[.bool false, .string { data := #[] }, .int .i64 0, .bool false, .string { data := #[] }, .int .i64 0] 49)
                  have F26 := Blk.put (w15) #[.bool false, .string { data := #[] }, .int .i64 0, .bool false, .string { data := #[] }, .int .i64 0] 49
                  replace B0 := B0.alloc B0.size (.cells #[.bool false, .string { data := #[] }, .int .i64 0, .bool false, .string { data := #[] }, .int .i64 0] 49)
                  obtain ⟨xF321_0, xF321_1, xF321_2, xF321_3, xF321_4, xF321_5⟩ := F3.ce6
                  obtain ⟨xF421_0, xF421_1, xF421_2, xF421_3, xF421_4, xF421_5⟩ := F4.ce6
                  refine hK.out _ _ ?_ (fun hHeld => ?_)
                  · exact ⟨xF321_0, xF321_1, xF321_2, xF321_3, xF321_4, xF321_5, xF421_0, xF421_1, xF421_2, xF421_3, xF421_4, xF421_5⟩
                  clear hK K
                  (try dsimp only [Act.put]); (try go_frame)
                  refine wpAnyH_ready (rs := [4]) (by kernel_rfl) (by simp) ?_
                  refine AllReadyH.cons rfl (fun K hK => ?_) AllReadyH.nil
                  go_simp
                  (with_reducible refine (h19 _ (hT.below B0)).mono ?_)
                  rintro r w16 ⟨rfl, hb16⟩
                  clear xF321_0 xF321_1 xF321_2 xF321_3 xF321_4 xF321_5 xF421_0 xF421_1 xF421_2 xF421_3 xF421_4 xF421_5
                  replace F3 := F3.keep hb16
                  replace F4 := F4.keep hb16
                  replace F11 := F11.keep hb16
                  replace F26 := F26.keep hb16
                  replace B0 := B0.trans (hb16.mono B0.size)
                  clear hb16
                  obtain ⟨xF322_0, xF322_1, xF322_2, xF322_3, xF322_4, xF322_5⟩ := F3.ce6
                  obtain ⟨xF422_0, xF422_1, xF422_2, xF422_3, xF422_4, xF422_5⟩ := F4.ce6
                  refine hK.out _ _ ?_ (fun hHeld => ?_)
                  · exact ⟨xF322_0, xF322_1, xF322_2, xF322_3, xF322_4, xF322_5, xF422_0, xF422_1, xF422_2, xF422_3, xF422_4, xF422_5⟩
                  clear hK K
                  (try dsimp only [Act.put]); (try go_frame)
                  refine wpAnyH_take (i := 5) (v := _) (by first | (simp only [List.getElem?_toArray, List.getElem?_cons_zero, List.getElem?_cons_succ]; rfl) | rfl) (by kernel_rfl) (by kernel_rfl) (by kernel_rfl) (by exact fun _ _ _ h => h) (Or.inl ⟨by rfl, by (intro w hSw; (try dsimp only at hSw); go_simp; try with_reducible rfl)⟩) (by assumption) ?_
                  (try dsimp only [Act.put]); (try go_frame)
                  refine wpAnyH_take (i := 6) (v := _) (by first | (simp only [List.getElem?_toArray, List.getElem?_cons_zero, List.getElem?_cons_succ]; rfl) | rfl) (by kernel_rfl) (by kernel_rfl) (by kernel_rfl) (by exact fun _ _ _ h => h) (Or.inl ⟨by rfl, by (intro w hSw; (try dsimp only at hSw); go_simp; try with_reducible rfl)⟩) (by assumption) ?_
                  (try dsimp only [Act.put]); (try go_frame)
                  refine wpAnyH_take (i := 7) (v := _) (by first | (simp only [List.getElem?_toArray, List.getElem?_cons_zero, List.getElem?_cons_succ]; rfl) | rfl) (by kernel_rfl) (by kernel_rfl) (by kernel_rfl) (by exact fun _ _ _ h => h) (Or.inl ⟨by rfl, by (intro w hSw; (try dsimp only at hSw); go_simp; try with_reducible rfl)⟩) (by assumption) ?_
                  (try dsimp only [Act.put]); (try go_frame)
                  obtain ⟨xF2622_0, xF2622_1, xF2622_2, xF2622_3, xF2622_4, xF2622_5⟩ := F26.ce6
                  obtain ⟨xF2622_0f, xF2622_1f, xF2622_2f, xF2622_3f, xF2622_4f, xF2622_5f⟩ := F26.fr6
                  refine wpAnyH_ready (rs := [9]) (by kernel_rfl) (by simp) ?_
                  refine AllReadyH.cons rfl (fun K hK => ?_) AllReadyH.nil
                  go_simp
                  replace F3 := ((((((F3.far 0 (.bool Qn) (Nat.ne_of_lt q_F3_F26.out)).far 1 (.string QS) (Nat.ne_of_lt q_F3_F26.out)).far 2 (.int .i64 Qe) (Nat.ne_of_lt q_F3_F26.out)).far 3 (.bool Qm) (Nat.ne_of_lt q_F3_F26.out)).far 4 (.string QT) (Nat.ne_of_lt q_F3_F26.out)).far 5 (.int .i64 Qf) (Nat.ne_of_lt q_F3_F26.out))
                  replace F4 := ((((((F4.far 0 (.bool Qn) (Nat.ne_of_lt q_F4_F26.out)).far 1 (.string QS) (Nat.ne_of_lt q_F4_F26.out)).far 2 (.int .i64 Qe) (Nat.ne_of_lt q_F4_F26.out)).far 3 (.bool Qm) (Nat.ne_of_lt q_F4_F26.out)).far 4 (.string QT) (Nat.ne_of_lt q_F4_F26.out)).far 5 (.int .i64 Qf) (Nat.ne_of_lt q_F4_F26.out))
                  replace F11 := ((((((F11.far 0 (.bool Qn) (Nat.ne_of_lt q_F11_F26.out)).far 1 (.string QS) (Nat.ne_of_lt q_F11_F26.out)).far 2 (.int .i64 Qe) (Nat.ne_of_lt q_F11_F26.out)).far 3 (.bool Qm) (Nat.ne_of_lt q_F11_F26.out)).far 4 (.string QT) (Nat.ne_of_lt q_F11_F26.out)).far 5 (.int .i64 Qf) (Nat.ne_of_lt q_F11_F26.out))
                  replace F26 : Blk (((((((w16).setCell ⟨w15.heap.size, 0, none⟩ (.bool Qn)).setCell ⟨w15.heap.size, 1, none⟩ (.string QS)).setCell ⟨w15.heap.size, 2, none⟩ (.int .i64 Qe)).setCell ⟨w15.heap.size, 3, none⟩ (.bool Qm)).setCell ⟨w15.heap.size, 4, none⟩ (.string QT)).setCell ⟨w15.heap.size, 5, none⟩ (.int .i64 Qf)) (w15.heap.size) #[.bool Qn, .string QS, .int .i64 Qe, .bool Qm, .string QT, .int .i64 Qf] 49 := ((((((F26.setAt 0 (.bool Qn)).setAt 1 (.string QS)).setAt 2 (.int .i64 Qe)).setAt 3 (.bool Qm)).setAt 4 (.string QT)).setAt 5 (.int .i64 Qf))
                  replace B0 := ((((((B0.setCell (p := ⟨w15.heap.size, 0, none⟩) q_w_F26.out (.bool Qn)).setCell (p := ⟨w15.heap.size, 1, none⟩) q_w_F26.out (.string QS)).setCell (p := ⟨w15.heap.size, 2, none⟩) q_w_F26.out (.int .i64 Qe)).setCell (p := ⟨w15.heap.size, 3, none⟩) q_w_F26.out (.bool Qm)).setCell (p := ⟨w15.heap.size, 4, none⟩) q_w_F26.out (.string QT)).setCell (p := ⟨w15.heap.size, 5, none⟩) q_w_F26.out (.int .i64 Qf))
                  clear xF322_0 xF322_1 xF322_2 xF322_3 xF322_4 xF322_5 xF422_0 xF422_1 xF422_2 xF422_3 xF422_4 xF422_5 xF2622_0 xF2622_1 xF2622_2 xF2622_3 xF2622_4 xF2622_5 xF2622_0f xF2622_1f xF2622_2f xF2622_3f xF2622_4f xF2622_5f
                  obtain ⟨xF323_0, xF323_1, xF323_2, xF323_3, xF323_4, xF323_5⟩ := F3.ce6
                  obtain ⟨xF423_0, xF423_1, xF423_2, xF423_3, xF423_4, xF423_5⟩ := F4.ce6
                  refine hK.out _ _ ?_ (fun hHeld => ?_)
                  · exact ⟨xF323_0, xF323_1, xF323_2, xF323_3, xF323_4, xF323_5, xF423_0, xF423_1, xF423_2, xF423_3, xF423_4, xF423_5⟩
                  clear hK K
                  (try dsimp only [Act.put]); (try go_frame)
                  refine wpAnyH_take (i := 10) (v := _) (by first | (simp only [List.getElem?_toArray, List.getElem?_cons_zero, List.getElem?_cons_succ]; rfl) | rfl) (by kernel_rfl) (by kernel_rfl) (by kernel_rfl) (by exact fun _ _ _ h => h) (Or.inl ⟨by rfl, by (intro w hSw; (try dsimp only at hSw); go_simp; try with_reducible rfl)⟩) (by assumption) ?_
                  (try dsimp only [Act.put]); (try go_frame)
                  refine wpAnyH_done (by kernel_rfl) ?_ _
                  try simp only [QCut]
                  clear hHeld
                  clear xF323_0 xF323_1 xF323_2 xF323_3 xF323_4 xF323_5 xF423_0 xF423_1 xF423_2 xF423_3 xF423_4 xF423_5
                  go_wp2_with fail
                  go_meet
                  exact ⟨_, by first | rfl | simp, by first | rfl | simp, F11, F26, B0⟩
              · go_simp
                clear xF319_0 xF319_1 xF319_2 xF319_3 xF319_4 xF319_5 xF419_0 xF419_1 xF419_2 xF419_3 xF419_4 xF419_5
                have q_F3_F26 : Hid (w.heap.size < w14.heap.size) := Lib.hid (by have := F3.lt; first | exact this | omega | (simp; done) | simpa using this)
                have q_F4_F26 : Hid (w.heap.size + 1 < w14.heap.size) := Lib.hid (by have := F4.lt; first | exact this | omega | (simp; done) | simpa using this)
                have q_F11_F26 : Hid (w4.heap.size < w14.heap.size) := Lib.hid (by have := F11.lt; first | exact this | omega | (simp; done) | simpa using this)
                have q_w_F26 : Hid (w.heap.size ≤ w14.heap.size) := Lib.hid (by have := B0.size; first | exact this | omega | (simp; done) | simpa using this)
                replace F3 := F3.allocd (.cells #[.bool false, .string { data := #[] }, .int .i64 0, .bool false, .string { data := #[] }, .int .i64 0] 49)
                replace F4 := F4.allocd (.cells #[.bool false, .string { data := #[] }, .int .i64 0, .bool false, .string { data := #[] }, .int .i64 0] 49)
                replace F11 := F11.allocd (.cells #[.bool false, .string { data := #[] }, .int .i64 0, .bool false, .string { data := #[] }, .int .i64 0] 49)
                have F26 := Blk.put (w14) #[.bool false, .string { data := #[] }, .int .i64 0, .bool false, .string { data := #[] }, .int .i64 0] 49
                replace B0 := B0.alloc B0.size (.cells #[.bool false, .string { data := #[] }, .int .i64 0, .bool false, .string { data := #[] }, .int .i64 0] 49)
                obtain ⟨xF320_0, xF320_1, xF320_2, xF320_3, xF320_4, xF320_5⟩ := F3.ce6
                obtain ⟨xF420_0, xF420_1, xF420_2, xF420_3, xF420_4, xF420_5⟩ := F4.ce6
                refine hK.out _ _ ?_ (fun hHeld => ?_)
                · exact ⟨xF320_0, xF320_1, xF320_2, xF320_3, xF320_4, xF320_5, xF420_0, xF420_1, xF420_2, xF420_3, xF420_4, xF420_5⟩
                clear hK K
                (try dsimp only [Act.put]); (try go_frame)
                refine wpAnyH_ready (rs := [3]) (by kernel_rfl) (by simp) ?_
                refine AllReadyH.cons rfl (fun K hK => ?_) AllReadyH.nil
                go_simp
                (with_reducible refine (h18 _).mono ?_)
                rintro r w15 ⟨rfl, hb15⟩
                clear xF320_0 xF320_1 xF320_2 xF320_3 xF320_4 xF320_5 xF420_0 xF420_1 xF420_2 xF420_3 xF420_4 xF420_5
                replace F3 := F3.keep hb15
                replace F4 := F4.keep hb15
                replace F11 := F11.keep hb15
                replace F26 := F26.keep hb15
                replace B0 := B0.trans (hb15.mono B0.size)
                clear hb15
                obtain ⟨xF321_0, xF321_1, xF321_2, xF321_3, xF321_4, xF321_5⟩ := F3.ce6
                obtain ⟨xF421_0, xF421_1, xF421_2, xF421_3, xF421_4, xF421_5⟩ := F4.ce6
                refine hK.out _ _ ?_ (fun hHeld => ?_)
                · exact ⟨xF321_0, xF321_1, xF321_2, xF321_3, xF321_4, xF321_5, xF421_0, xF421_1, xF421_2, xF421_3, xF421_4, xF421_5⟩
                clear hK K
                (try dsimp only [Act.put]); (try go_frame)
                refine wpAnyH_ready (rs := [4]) (by kernel_rfl) (by simp) ?_
                refine AllReadyH.cons rfl (fun K hK => ?_) AllReadyH.nil
                go_simp
                (with_reducible refine (h19 _ (hT.below B0)).mono ?_)
                rintro r w16 ⟨rfl, hb16⟩
                clear xF321_0 xF321_1 xF321_2 xF321_3 xF321_4 xF321_5 xF421_0 xF421_1 xF421_2 xF421_3 xF421_4 xF421_5
                replace F3 := F3.keep hb16
                replace F4 := F4.keep hb16
                replace F11 := F11.keep hb16
                replace F26 := F26.keep hb16
                replace B0 := B0.trans (hb16.mono B0.size)
                clear hb16
                obtain ⟨xF322_0, xF322_1, xF322_2, xF322_3, xF322_4, xF322_5⟩ := F3.ce6
                obtain ⟨xF422_0, xF422_1, xF422_2, xF422_3, xF422_4, xF422_5⟩ := F4.ce6
                refine hK.out _ _ ?_ (fun hHeld => ?_)
                · exact ⟨xF322_0, xF322_1, xF322_2, xF322_3, xF322_4, xF322_5, xF422_0, xF422_1, xF422_2, xF422_3, xF422_4, xF422_5⟩
                clear hK K
                (try dsimp only [Act.put]); (try go_frame)
                refine wpAnyH_take (i := 5) (v := _) (by first | (simp only [List.getElem?_toArray, List.getElem?_cons_zero, List.getElem?_cons_succ]; rfl) | rfl) (by kernel_rfl) (by kernel_rfl) (by kernel_rfl) (by exact fun _ _ _ h => h) (Or.inl ⟨by rfl, by (intro w hSw; (try dsimp only at hSw); go_simp; try with_reducible rfl)⟩) (by assumption) ?_
                (try dsimp only [Act.put]); (try go_frame)
                refine wpAnyH_take (i := 6) (v := _) (by first | (simp only [List.getElem?_toArray, List.getElem?_cons_zero, List.getElem?_cons_succ]; rfl) | rfl) (by kernel_rfl) (by kernel_rfl) (by kernel_rfl) (by exact fun _ _ _ h => h) (Or.inl ⟨by rfl, by (intro w hSw; (try dsimp only at hSw); go_simp; try with_reducible rfl)⟩) (by assumption) ?_
                (try dsimp only [Act.put]); (try go_frame)
                refine wpAnyH_take (i := 7) (v := _) (by first | (simp only [List.getElem?_toArray, List.getElem?_cons_zero, List.getElem?_cons_succ]; rfl) | rfl) (by kernel_rfl) (by kernel_rfl) (by kernel_rfl) (by exact fun _ _ _ h => h) (Or.inl ⟨by rfl, by (intro w hSw; (try dsimp only at hSw); go_simp; try with_reducible rfl)⟩) (by assumption) ?_
                (try dsimp only [Act.put]); (try go_frame)
                obtain ⟨xF2622_0, xF2622_1, xF2622_2, xF2622_3, xF2622_4, xF2622_5⟩ := F26.ce6
                obtain ⟨xF2622_0f, xF2622_1f, xF2622_2f, xF2622_3f, xF2622_4f, xF2622_5f⟩ := F26.fr6
                refine wpAnyH_ready (rs := [9]) (by kernel_rfl) (by simp) ?_
                refine AllReadyH.cons rfl (fun K hK => ?_) AllReadyH.nil
                go_simp
                replace F3 := ((((((F3.far 0 (.bool Qn) (Nat.ne_of_lt q_F3_F26.out)).far 1 (.string QS) (Nat.ne_of_lt q_F3_F26.out)).far 2 (.int .i64 Qe) (Nat.ne_of_lt q_F3_F26.out)).far 3 (.bool Qm) (Nat.ne_of_lt q_F3_F26.out)).far 4 (.string QT) (Nat.ne_of_lt q_F3_F26.out)).far 5 (.int .i64 Qf) (Nat.ne_of_lt q_F3_F26.out))
                replace F4 := ((((((F4.far 0 (.bool Qn) (Nat.ne_of_lt q_F4_F26.out)).far 1 (.string QS) (Nat.ne_of_lt q_F4_F26.out)).far 2 (.int .i64 Qe) (Nat.ne_of_lt q_F4_F26.out)).far 3 (.bool Qm) (Nat.ne_of_lt q_F4_F26.out)).far 4 (.string QT) (Nat.ne_of_lt q_F4_F26.out)).far 5 (.int .i64 Qf) (Nat.ne_of_lt q_F4_F26.out))
                replace F11 := ((((((F11.far 0 (.bool Qn) (Nat.ne_of_lt q_F11_F26.out)).far 1 (.string QS) (Nat.ne_of_lt q_F11_F26.out)).far 2 (.int .i64 Qe) (Nat.ne_of_lt q_F11_F26.out)).far 3 (.bool Qm) (Nat.ne_of_lt q_F11_F26.out)).far 4 (.string QT) (Nat.ne_of_lt q_F11_F26.out)).far 5 (.int .i64 Qf) (Nat.ne_of_lt q_F11_F26.out))
                replace F26 : Blk (((((((w16).setCell ⟨w14.heap.size, 0, none⟩ (.bool Qn)).setCell ⟨w14.heap.size, 1, none⟩ (.string QS)).setCell ⟨w14.heap.size, 2, none⟩ (.int .i64 Qe)).setCell ⟨w14.heap.size, 3, none⟩ (.bool Qm)).setCell ⟨w14.heap.size, 4, none⟩ (.string QT)).setCell ⟨w14.heap.size, 5, none⟩ (.int .i64 Qf)) (w14.heap.size) #[.bool Qn, .string QS, .int .i64 Qe, .bool Qm, .string QT, .int .i64 Qf] 49 := ((((((F26.setAt 0 (.bool Qn)).setAt 1 (.string QS)).setAt 2 (.int .i64 Qe)).setAt 3 (.bool Qm)).setAt 4 (.string QT)).setAt 5 (.int .i64 Qf))
                replace B0 := ((((((B0.setCell (p := ⟨w14.heap.size, 0, none⟩) q_w_F26.out (.bool Qn)).setCell (p := ⟨w14.heap.size, 1, none⟩) q_w_F26.out (.string QS)).setCell (p := ⟨w14.heap.size, 2, none⟩) q_w_F26.out (.int .i64 Qe)).setCell (p := ⟨w14.heap.size, 3, none⟩) q_w_F26.out (.bool Qm)).setCell (p := ⟨w14.heap.size, 4, none⟩) q_w_F26.out (.string QT)).setCell (p := ⟨w14.heap.size, 5, none⟩) q_w_F26.out (.int .i64 Qf))
                clear xF322_0 xF322_1 xF322_2 xF322_3 xF322_4 xF322_5 xF422_0 xF422_1 xF422_2 xF422_3 xF422_4 xF422_5 xF2622_0 xF2622_1 xF2622_2 xF2622_3 xF2622_4 xF2622_5 xF2622_0f xF2622_1f xF2622_2f xF2622_3f xF2622_4f xF2622_5f
                obtain ⟨xF323_0, xF323_1, xF323_2, xF323_3, xF323_4, xF323_5⟩ := F3.ce6
                obtain ⟨xF423_0, xF423_1, xF423_2, xF423_3, xF423_4, xF423_5⟩ := F4.ce6
                refine hK.out _ _ ?_ (fun hHeld => ?_)
                · exact ⟨xF323_0, xF323_1, xF323_2, xF323_3, xF323_4, xF323_5, xF423_0, xF423_1, xF423_2, xF423_3, xF423_4, xF423_5⟩
                clear hK K
                (try dsimp only [Act.put]); (try go_frame)
                refine wpAnyH_take (i := 10) (v := _) (by first | (simp only [List.getElem?_toArray, List.getElem?_cons_zero, List.getElem?_cons_succ]; rfl) | rfl) (by kernel_rfl) (by kernel_rfl) (by kernel_rfl) (by exact fun _ _ _ h => h) (Or.inl ⟨by rfl, by (intro w hSw; (try dsimp only at hSw); go_simp; try with_reducible rfl)⟩) (by assumption) ?_
                (try dsimp only [Act.put]); (try go_frame)
                refine wpAnyH_done (by kernel_rfl) ?_ _
                try simp only [QCut]
                clear hHeld
                clear xF323_0 xF323_1 xF323_2 xF323_3 xF323_4 xF323_5 xF423_0 xF423_1 xF423_2 xF423_3 xF423_4 xF423_5
                go_wp2_with fail
                go_meet
                exact ⟨_, by first | rfl | simp, by first | rfl | simp, F11, F26, B0⟩
            · go_simp
              clear xF317_0 xF317_1 xF317_2 xF317_3 xF317_4 xF317_5 xF417_0 xF417_1 xF417_2 xF417_3 xF417_4 xF417_5
              have q_F3_F26 : Hid (w.heap.size < v4.heap.size) := Lib.hid (by have := F3.lt; first | exact this | omega | (simp; done) | simpa using this)
              have q_F4_F26 : Hid (w.heap.size + 1 < v4.heap.size) := Lib.hid (by have := F4.lt; first | exact this | omega | (simp; done) | simpa using this)
              have q_F11_F26 : Hid (w4.heap.size < v4.heap.size) := Lib.hid (by have := F11.lt; first | exact this | omega | (simp; done) | simpa using this)
              have q_w_F26 : Hid (w.heap.size ≤ v4.heap.size) := Lib.hid (by have := B0.size; first | exact this | omega | (simp; done) | simpa using this)
              replace F3 := F3.allocd (.cells #[.bool false, .string { data := #[] }, .int .i64 0, .bool false, .string { data := #[] }, .int .i64 0] 49)
              replace F4 := F4.allocd (.cells #[.bool false, .string { data := #[] }, .int .i64 0, .bool false, .string { data := #[] }, .int .i64 0] 49)
              replace F11 := F11.allocd (.cells #[.bool false, .string { data := #[] }, .int .i64 0, .bool false, .string { data := #[] }, .int .i64 0] 49)
              have F26 := Blk.put ((v4).drew) #[.bool false, .string { data := #[] }, .int .i64 0, .bool false, .string { data := #[] }, .int .i64 0] 49
              rw [show ((v4).drew).heap.size = v4.heap.size by simp] at F26
              replace B0 := B0.alloc B0.size (.cells #[.bool false, .string { data := #[] }, .int .i64 0, .bool false, .string { data := #[] }, .int .i64 0] 49)
              obtain ⟨xF319_0, xF319_1, xF319_2, xF319_3, xF319_4, xF319_5⟩ := F3.ce6
              obtain ⟨xF419_0, xF419_1, xF419_2, xF419_3, xF419_4, xF419_5⟩ := F4.ce6
              refine hK.out _ _ ?_ (fun hHeld => ?_)
              · exact ⟨xF319_0, xF319_1, xF319_2, xF319_3, xF319_4, xF319_5, xF419_0, xF419_1, xF419_2, xF419_3, xF419_4, xF419_5⟩
              clear hK K
              (try dsimp only [Act.put]); (try go_frame)
              refine wpAnyH_ready (rs := [1]) (by kernel_rfl) (by simp) ?_
              refine AllReadyH.cons rfl (fun K hK => ?_) AllReadyH.nil
              go_simp
              (with_reducible refine (h16 _).mono ?_)
              rintro r w14 ⟨rfl, hb14⟩
              clear xF319_0 xF319_1 xF319_2 xF319_3 xF319_4 xF319_5 xF419_0 xF419_1 xF419_2 xF419_3 xF419_4 xF419_5
              replace F3 := F3.keep hb14
              replace F4 := F4.keep hb14
              replace F11 := F11.keep hb14
              replace F26 := F26.keep hb14
              replace B0 := B0.trans (hb14.mono B0.size)
              clear hb14
              obtain ⟨xF320_0, xF320_1, xF320_2, xF320_3, xF320_4, xF320_5⟩ := F3.ce6
              obtain ⟨xF420_0, xF420_1, xF420_2, xF420_3, xF420_4, xF420_5⟩ := F4.ce6
              refine hK.out _ _ ?_ (fun hHeld => ?_)
              · exact ⟨xF320_0, xF320_1, xF320_2, xF320_3, xF320_4, xF320_5, xF420_0, xF420_1, xF420_2, xF420_3, xF420_4, xF420_5⟩
              clear hK K
              (try dsimp only [Act.put]); (try go_frame)
              refine wpAnyH_ready (rs := [3]) (by kernel_rfl) (by simp) ?_
              refine AllReadyH.cons rfl (fun K hK => ?_) AllReadyH.nil
              go_simp
              (with_reducible refine (h18 _).mono ?_)
              rintro r w15 ⟨rfl, hb15⟩
              clear xF320_0 xF320_1 xF320_2 xF320_3 xF320_4 xF320_5 xF420_0 xF420_1 xF420_2 xF420_3 xF420_4 xF420_5
              replace F3 := F3.keep hb15
              replace F4 := F4.keep hb15
              replace F11 := F11.keep hb15
              replace F26 := F26.keep hb15
              replace B0 := B0.trans (hb15.mono B0.size)
              clear hb15
              obtain ⟨xF321_0, xF321_1, xF321_2, xF321_3, xF321_4, xF321_5⟩ := F3.ce6
              obtain ⟨xF421_0, xF421_1, xF421_2, xF421_3, xF421_4, xF421_5⟩ := F4.ce6
              refine hK.out _ _ ?_ (fun hHeld => ?_)
              · exact ⟨xF321_0, xF321_1, xF321_2, xF321_3, xF321_4, xF321_5, xF421_0, xF421_1, xF421_2, xF421_3, xF421_4, xF421_5⟩
              clear hK K
              (try dsimp only [Act.put]); (try go_frame)
              refine wpAnyH_ready (rs := [4]) (by kernel_rfl) (by simp) ?_
              refine AllReadyH.cons rfl (fun K hK => ?_) AllReadyH.nil
              go_simp
              (with_reducible refine (h19 _ (hT.below B0)).mono ?_)
              rintro r w16 ⟨rfl, hb16⟩
              clear xF321_0 xF321_1 xF321_2 xF321_3 xF321_4 xF321_5 xF421_0 xF421_1 xF421_2 xF421_3 xF421_4 xF421_5
              replace F3 := F3.keep hb16
              replace F4 := F4.keep hb16
              replace F11 := F11.keep hb16
              replace F26 := F26.keep hb16
              replace B0 := B0.trans (hb16.mono B0.size)
              clear hb16
              obtain ⟨xF322_0, xF322_1, xF322_2, xF322_3, xF322_4, xF322_5⟩ := F3.ce6
              obtain ⟨xF422_0, xF422_1, xF422_2, xF422_3, xF422_4, xF422_5⟩ := F4.ce6
              refine hK.out _ _ ?_ (fun hHeld => ?_)
              · exact ⟨xF322_0, xF322_1, xF322_2, xF322_3, xF322_4, xF322_5, xF422_0, xF422_1, xF422_2, xF422_3, xF422_4, xF422_5⟩
              clear hK K
              (try dsimp only [Act.put]); (try go_frame)
              refine wpAnyH_take (i := 5) (v := _) (by first | (simp only [List.getElem?_toArray, List.getElem?_cons_zero, List.getElem?_cons_succ]; rfl) | rfl) (by kernel_rfl) (by kernel_rfl) (by kernel_rfl) (by exact fun _ _ _ h => h) (Or.inl ⟨by rfl, by (intro w hSw; (try dsimp only at hSw); go_simp; try with_reducible rfl)⟩) (by assumption) ?_
              (try dsimp only [Act.put]); (try go_frame)
              refine wpAnyH_take (i := 6) (v := _) (by first | (simp only [List.getElem?_toArray, List.getElem?_cons_zero, List.getElem?_cons_succ]; rfl) | rfl) (by kernel_rfl) (by kernel_rfl) (by kernel_rfl) (by exact fun _ _ _ h => h) (Or.inl ⟨by rfl, by (intro w hSw; (try dsimp only at hSw); go_simp; try with_reducible rfl)⟩) (by assumption) ?_
              (try dsimp only [Act.put]); (try go_frame)
              refine wpAnyH_take (i := 7) (v := _) (by first | (simp only [List.getElem?_toArray, List.getElem?_cons_zero, List.getElem?_cons_succ]; rfl) | rfl) (by kernel_rfl) (by kernel_rfl) (by kernel_rfl) (by exact fun _ _ _ h => h) (Or.inl ⟨by rfl, by (intro w hSw; (try dsimp only at hSw); go_simp; try with_reducible rfl)⟩) (by assumption) ?_
              (try dsimp only [Act.put]); (try go_frame)
              obtain ⟨xF2622_0, xF2622_1, xF2622_2, xF2622_3, xF2622_4, xF2622_5⟩ := F26.ce6
              obtain ⟨xF2622_0f, xF2622_1f, xF2622_2f, xF2622_3f, xF2622_4f, xF2622_5f⟩ := F26.fr6
              refine wpAnyH_ready (rs := [9]) (by kernel_rfl) (by simp) ?_
              refine AllReadyH.cons rfl (fun K hK => ?_) AllReadyH.nil
              go_simp
              replace F3 := ((((((F3.far 0 (.bool Qn) (Nat.ne_of_lt q_F3_F26.out)).far 1 (.string QS) (Nat.ne_of_lt q_F3_F26.out)).far 2 (.int .i64 Qe) (Nat.ne_of_lt q_F3_F26.out)).far 3 (.bool Qm) (Nat.ne_of_lt q_F3_F26.out)).far 4 (.string QT) (Nat.ne_of_lt q_F3_F26.out)).far 5 (.int .i64 Qf) (Nat.ne_of_lt q_F3_F26.out))
              replace F4 := ((((((F4.far 0 (.bool Qn) (Nat.ne_of_lt q_F4_F26.out)).far 1 (.string QS) (Nat.ne_of_lt q_F4_F26.out)).far 2 (.int .i64 Qe) (Nat.ne_of_lt q_F4_F26.out)).far 3 (.bool Qm) (Nat.ne_of_lt q_F4_F26.out)).far 4 (.string QT) (Nat.ne_of_lt q_F4_F26.out)).far 5 (.int .i64 Qf) (Nat.ne_of_lt q_F4_F26.out))
              replace F11 := ((((((F11.far 0 (.bool Qn) (Nat.ne_of_lt q_F11_F26.out)).far 1 (.string QS) (Nat.ne_of_lt q_F11_F26.out)).far 2 (.int .i64 Qe) (Nat.ne_of_lt q_F11_F26.out)).far 3 (.bool Qm) (Nat.ne_of_lt q_F11_F26.out)).far 4 (.string QT) (Nat.ne_of_lt q_F11_F26.out)).far 5 (.int .i64 Qf) (Nat.ne_of_lt q_F11_F26.out))
              replace F26 : Blk (((((((w16).setCell ⟨v4.heap.size, 0, none⟩ (.bool Qn)).setCell ⟨v4.heap.size, 1, none⟩ (.string QS)).setCell ⟨v4.heap.size, 2, none⟩ (.int .i64 Qe)).setCell ⟨v4.heap.size, 3, none⟩ (.bool Qm)).setCell ⟨v4.heap.size, 4, none⟩ (.string QT)).setCell ⟨v4.heap.size, 5, none⟩ (.int .i64 Qf)) (v4.heap.size) #[.bool Qn, .string QS, .int .i64 Qe, .bool Qm, .string QT, .int .i64 Qf] 49 := ((((((F26.setAt 0 (.bool Qn)).setAt 1 (.string QS)).setAt 2 (.int .i64 Qe)).setAt 3 (.bool Qm)).setAt 4 (.string QT)).setAt 5 (.int .i64 Qf))
              replace B0 := ((((((B0.setCell (p := ⟨v4.heap.size, 0, none⟩) q_w_F26.out (.bool Qn)).setCell (p := ⟨v4.heap.size, 1, none⟩) q_w_F26.out (.string QS)).setCell (p := ⟨v4.heap.size, 2, none⟩) q_w_F26.out (.int .i64 Qe)).setCell (p := ⟨v4.heap.size, 3, none⟩) q_w_F26.out (.bool Qm)).setCell (p := ⟨v4.heap.size, 4, none⟩) q_w_F26.out (.string QT)).setCell (p := ⟨v4.heap.size, 5, none⟩) q_w_F26.out (.int .i64 Qf))
              clear xF322_0 xF322_1 xF322_2 xF322_3 xF322_4 xF322_5 xF422_0 xF422_1 xF422_2 xF422_3 xF422_4 xF422_5 xF2622_0 xF2622_1 xF2622_2 xF2622_3 xF2622_4 xF2622_5 xF2622_0f xF2622_1f xF2622_2f xF2622_3f xF2622_4f xF2622_5f
              obtain ⟨xF323_0, xF323_1, xF323_2, xF323_3, xF323_4, xF323_5⟩ := F3.ce6
              obtain ⟨xF423_0, xF423_1, xF423_2, xF423_3, xF423_4, xF423_5⟩ := F4.ce6
              refine hK.out _ _ ?_ (fun hHeld => ?_)
              · exact ⟨xF323_0, xF323_1, xF323_2, xF323_3, xF323_4, xF323_5, xF423_0, xF423_1, xF423_2, xF423_3, xF423_4, xF423_5⟩
              clear hK K
              (try dsimp only [Act.put]); (try go_frame)
              refine wpAnyH_take (i := 10) (v := _) (by first | (simp only [List.getElem?_toArray, List.getElem?_cons_zero, List.getElem?_cons_succ]; rfl) | rfl) (by kernel_rfl) (by kernel_rfl) (by kernel_rfl) (by exact fun _ _ _ h => h) (Or.inl ⟨by rfl, by (intro w hSw; (try dsimp only at hSw); go_simp; try with_reducible rfl)⟩) (by assumption) ?_
              (try dsimp only [Act.put]); (try go_frame)
              refine wpAnyH_done (by kernel_rfl) ?_ _
              try simp only [QCut]
              clear hHeld
              clear xF323_0 xF323_1 xF323_2 xF323_3 xF323_4 xF323_5 xF423_0 xF423_1 xF423_2 xF423_3 xF423_4 xF423_5
              go_wp2_with fail
              go_meet
              exact ⟨_, by first | rfl | simp, by first | rfl | simp, F11, F26, B0⟩
          case rest =>
            clear B0
            clear F3
            clear F4
            clear F11
            obtain ⟨S26, rfl, rfl, F11, F26, B0⟩ := hcut
            generalize wc = v5 at *
            go_wp2_with fail
            refine wp_region_any (by kernel_rfl) ?_
            obtain ⟨xF2618_0, xF2618_1, xF2618_2, xF2618_3, xF2618_4, xF2618_5⟩ := F26.ce6
            obtain ⟨xF1118_0, xF1118_1, xF1118_2, xF1118_3, xF1118_4, xF1118_5⟩ := F11.ce6
            have hHeld : (fun w' : World => w'.cell? ⟨S26, 0, none⟩ = some (.bool Qn) ∧ w'.cell? ⟨S26, 1, none⟩ = some (.string QS) ∧ w'.cell? ⟨S26, 2, none⟩ = some (.int .i64 Qe) ∧ w'.cell? ⟨S26, 3, none⟩ = some (.bool Qm) ∧ w'.cell? ⟨S26, 4, none⟩ = some (.string QT) ∧ w'.cell? ⟨S26, 5, none⟩ = some (.int .i64 Qf) ∧ w'.cell? ⟨w4.heap.size, 0, none⟩ = some (.bool Pn) ∧ w'.cell? ⟨w4.heap.size, 1, none⟩ = some (.string PS) ∧ w'.cell? ⟨w4.heap.size, 2, none⟩ = some (.int .i64 Pe) ∧ w'.cell? ⟨w4.heap.size, 3, none⟩ = some (.bool Pm) ∧ w'.cell? ⟨w4.heap.size, 4, none⟩ = some (.string PT) ∧ w'.cell? ⟨w4.heap.size, 5, none⟩ = some (.int .i64 Pf)) (v5).drew := ⟨xF2618_0, xF2618_1, xF2618_2, xF2618_3, xF2618_4, xF2618_5, xF1118_0, xF1118_1, xF1118_2, xF1118_3, xF1118_4, xF1118_5⟩
            refine wpAny_of_held (S := fun w' : World => w'.cell? ⟨S26, 0, none⟩ = some (.bool Qn) ∧ w'.cell? ⟨S26, 1, none⟩ = some (.string QS) ∧ w'.cell? ⟨S26, 2, none⟩ = some (.int .i64 Qe) ∧ w'.cell? ⟨S26, 3, none⟩ = some (.bool Qm) ∧ w'.cell? ⟨S26, 4, none⟩ = some (.string QT) ∧ w'.cell? ⟨S26, 5, none⟩ = some (.int .i64 Qf) ∧ w'.cell? ⟨w4.heap.size, 0, none⟩ = some (.bool Pn) ∧ w'.cell? ⟨w4.heap.size, 1, none⟩ = some (.string PS) ∧ w'.cell? ⟨w4.heap.size, 2, none⟩ = some (.int .i64 Pe) ∧ w'.cell? ⟨w4.heap.size, 3, none⟩ = some (.bool Pm) ∧ w'.cell? ⟨w4.heap.size, 4, none⟩ = some (.string PT) ∧ w'.cell? ⟨w4.heap.size, 5, none⟩ = some (.int .i64 Pf)) _ _ _ _ ?_
            replace F11 := F11.drew
            replace F26 := F26.drew
            replace B0 := B0.drew
            refine wpAnyH_take (i := 0) (v := _) (by first | (simp only [List.getElem?_toArray, List.getElem?_cons_zero]; rfl) | rfl) (by kernel_rfl) (by kernel_rfl) (by kernel_rfl) (by exact fun _ _ _ h => h) (Or.inl ⟨by rfl, by (intro w hSw; (try dsimp only at hSw); go_simp; try with_reducible rfl)⟩) (by assumption) ?_
            (try dsimp only [Act.put]); (try go_frame)
            refine wpAnyH_take (i := 1) (v := _) (by first | (simp only [List.getElem?_toArray, List.getElem?_cons_zero, List.getElem?_cons_succ]; rfl) | rfl) (by kernel_rfl) (by kernel_rfl) (by kernel_rfl) (by exact fun _ _ _ h => h) (Or.inl ⟨by rfl, by (intro w hSw; (try dsimp only at hSw); go_simp; try with_reducible rfl)⟩) (by assumption) ?_
            (try dsimp only [Act.put]); (try go_frame)
            refine wpAnyH_ready (rs := [2]) (by kernel_rfl) (by simp) ?_
            refine AllReadyH.cons rfl (fun K hK => ?_) AllReadyH.nil
            go_simp
            obtain ⟨zF260, zF261, zF262, zF263, zF264, zF265⟩ := (F26.allocd (.cells #[.int .i64 Pr, .int .i64 Qr] 26)).ce6
            obtain ⟨zF110, zF111, zF112, zF113, zF114, zF115⟩ := (F11.allocd (.cells #[.int .i64 Pr, .int .i64 Qr] 26)).ce6
            clear xF2618_0 xF2618_1 xF2618_2 xF2618_3 xF2618_4 xF2618_5 xF1118_0 xF1118_1 xF1118_2 xF1118_3 xF1118_4 xF1118_5
            refine hK.out _ _ ?_ (fun hHeld => ?_)
            · exact ⟨zF260, zF261, zF262, zF263, zF264, zF265, zF110, zF111, zF112, zF113, zF114, zF115⟩
            clear hK K
            (try dsimp only [Act.put]); (try go_frame)
            clear zF260 zF261 zF262 zF263 zF264 zF265 zF110 zF111 zF112 zF113 zF114 zF115
            refine wpAnyH_ready (rs := [3]) (by kernel_rfl) (by simp) ?_
            refine AllReadyH.cons rfl (fun K hK => ?_) AllReadyH.nil
            go_simp
            (with_reducible refine (o4 _).mono ?_)
            rintro r w90 ⟨rfl, hb90⟩
            replace F11 := F11.keep hb90
            replace F26 := F26.keep hb90
            replace B0 := B0.trans (hb90.mono B0.size)
            clear hb90
            obtain ⟨xF2620_0, xF2620_1, xF2620_2, xF2620_3, xF2620_4, xF2620_5⟩ := F26.ce6
            obtain ⟨xF1120_0, xF1120_1, xF1120_2, xF1120_3, xF1120_4, xF1120_5⟩ := F11.ce6
            refine hK.out _ _ ?_ (fun hHeld => ?_)
            · exact ⟨xF2620_0, xF2620_1, xF2620_2, xF2620_3, xF2620_4, xF2620_5, xF1120_0, xF1120_1, xF1120_2, xF1120_3, xF1120_4, xF1120_5⟩
            clear hK K
            (try dsimp only [Act.put]); (try go_frame)
            refine wpAnyH_take (i := 4) (v := _) (by first | (simp only [List.getElem?_toArray, List.getElem?_cons_zero, List.getElem?_cons_succ]; rfl) | rfl) (by kernel_rfl) (by kernel_rfl) (by kernel_rfl) (by exact fun _ _ _ h => h) (Or.inl ⟨by rfl, by (intro w hSw; (try dsimp only at hSw); go_simp; try with_reducible rfl)⟩) (by assumption) ?_
            (try dsimp only [Act.put]); (try go_frame)
            refine wpAnyH_take (i := 5) (v := _) (by first | (simp only [List.getElem?_toArray, List.getElem?_cons_zero, List.getElem?_cons_succ]; rfl) | rfl) (by kernel_rfl) (by kernel_rfl) (by kernel_rfl) (by exact fun _ _ _ h => h) (Or.inl ⟨by rfl, by (intro w hSw; (try dsimp only at hSw); go_simp; try with_reducible rfl)⟩) (by assumption) ?_
            (try dsimp only [Act.put]); (try go_frame)
            cases O4
            · clear K4
              refine wpAnyH_take (i := 6) (v := undef) (by first | (simp only [List.getElem?_toArray, List.getElem?_cons_zero, List.getElem?_cons_succ]; rfl) | rfl) (by kernel_rfl) (by kernel_rfl) (by kernel_rfl) (by exact fun _ _ _ h => h) (Or.inr ⟨by rfl, by rfl⟩) (by assumption) ?_
              (try dsimp only [Act.put]); (try go_frame)
              refine wpAnyH_take (i := 7) (v := undef) (by first | (simp only [List.getElem?_toArray, List.getElem?_cons_zero, List.getElem?_cons_succ]; rfl) | rfl) (by kernel_rfl) (by kernel_rfl) (by kernel_rfl) (by exact fun _ _ _ h => h) (Or.inr ⟨by rfl, by rfl⟩) (by assumption) ?_
              (try dsimp only [Act.put]); (try go_frame)
              refine wpAnyH_take (i := 8) (v := undef) (by first | (simp only [List.getElem?_toArray, List.getElem?_cons_zero, List.getElem?_cons_succ]; rfl) | rfl) (by kernel_rfl) (by kernel_rfl) (by kernel_rfl) (by exact fun _ _ _ h => h) (Or.inr ⟨by rfl, by rfl⟩) (by assumption) ?_
              (try dsimp only [Act.put]); (try go_frame)
              refine wpAnyH_take (i := 9) (v := undef) (by first | (simp only [List.getElem?_toArray, List.getElem?_cons_zero, List.getElem?_cons_succ]; rfl) | rfl) (by kernel_rfl) (by kernel_rfl) (by kernel_rfl) (by exact fun _ _ _ h => h) (Or.inr ⟨by rfl, by rfl⟩) (by assumption) ?_
              (try dsimp only [Act.put]); (try go_frame)
              refine wpAnyH_take (i := 10) (v := _) (by first | (simp only [List.getElem?_toArray, List.getElem?_cons_zero, List.getElem?_cons_succ]; rfl) | rfl) (by kernel_rfl) (by kernel_rfl) (by kernel_rfl) (by exact fun _ _ _ h => h) (Or.inl ⟨by rfl, by (intro w hSw; (try dsimp only at hSw); go_simp; try with_reducible rfl)⟩) (by assumption) ?_
              (try dsimp only [Act.put]); (try go_frame)
              refine wpAnyH_take (i := 11) (v := _) (by first | (simp only [List.getElem?_toArray, List.getElem?_cons_zero, List.getElem?_cons_succ]; rfl) | rfl) (by kernel_rfl) (by kernel_rfl) (by kernel_rfl) (by exact fun _ _ _ h => h) (Or.inl ⟨by rfl, by (intro w hSw; (try dsimp only at hSw); go_simp; try with_reducible rfl)⟩) (by assumption) ?_
              (try dsimp only [Act.put]); (try go_frame)
              refine wpAnyH_done (by kernel_rfl) ?_ _
              try simp only [QCut]
              clear hHeld
              clear xF2620_0 xF2620_1 xF2620_2 xF2620_3 xF2620_4 xF2620_5 xF1120_0 xF1120_1 xF1120_2 xF1120_3 xF1120_4 xF1120_5
              go_wp2
              go_ret
              exact ⟨rfl, B0⟩
            · obtain ⟨rfl, rfl, rfl, rfl, rfl, rfl⟩ := K4.out rfl
              clear K4
              refine wpAnyH_take (i := 6) (v := _) (by first | (simp only [List.getElem?_toArray, List.getElem?_cons_zero, List.getElem?_cons_succ]; rfl) | rfl) (by kernel_rfl) (by kernel_rfl) (by kernel_rfl) (by exact fun _ _ _ h => h) (Or.inl ⟨by rfl, by (intro w hSw; (try dsimp only at hSw); go_simp; try with_reducible rfl)⟩) (by assumption) ?_
              (try dsimp only [Act.put]); (try go_frame)
              refine wpAnyH_take (i := 7) (v := _) (by first | (simp only [List.getElem?_toArray, List.getElem?_cons_zero, List.getElem?_cons_succ]; rfl) | rfl) (by kernel_rfl) (by kernel_rfl) (by kernel_rfl) (by exact fun _ _ _ h => h) (Or.inl ⟨by rfl, by (intro w hSw; (try dsimp only at hSw); go_simp; try with_reducible rfl)⟩) (by assumption) ?_
              (try dsimp only [Act.put]); (try go_frame)
              refine wpAnyH_ready (rs := [8]) (by kernel_rfl) (by simp) ?_
              refine AllReadyH.cons rfl (fun K hK => ?_) AllReadyH.nil
              go_simp
              (with_reducible refine (h20 _).mono ?_)
              rintro r w91 ⟨rfl, hb91⟩
              clear xF2620_0 xF2620_1 xF2620_2 xF2620_3 xF2620_4 xF2620_5 xF1120_0 xF1120_1 xF1120_2 xF1120_3 xF1120_4 xF1120_5
              replace F11 := F11.keep hb91
              replace F26 := F26.keep hb91
              replace B0 := B0.trans (hb91.mono B0.size)
              clear hb91
              obtain ⟨xF2621_0, xF2621_1, xF2621_2, xF2621_3, xF2621_4, xF2621_5⟩ := F26.ce6
              obtain ⟨xF1121_0, xF1121_1, xF1121_2, xF1121_3, xF1121_4, xF1121_5⟩ := F11.ce6
              refine hK.out _ _ ?_ (fun hHeld => ?_)
              · exact ⟨xF2621_0, xF2621_1, xF2621_2, xF2621_3, xF2621_4, xF2621_5, xF1121_0, xF1121_1, xF1121_2, xF1121_3, xF1121_4, xF1121_5⟩
              clear hK K
              (try dsimp only [Act.put]); (try go_frame)
              refine wpAnyH_take (i := 9) (v := _) (by first | (simp only [List.getElem?_toArray, List.getElem?_cons_zero, List.getElem?_cons_succ]; rfl) | rfl) (by kernel_rfl) (by kernel_rfl) (by kernel_rfl) (by exact fun _ _ _ h => h) (Or.inl ⟨by rfl, by (intro w hSw; (try dsimp only at hSw); go_simp; try with_reducible rfl)⟩) (by assumption) ?_
              (try dsimp only [Act.put]); (try go_frame)
              refine wpAnyH_take (i := 10) (v := _) (by first | (simp only [List.getElem?_toArray, List.getElem?_cons_zero, List.getElem?_cons_succ]; rfl) | rfl) (by kernel_rfl) (by kernel_rfl) (by kernel_rfl) (by exact fun _ _ _ h => h) (Or.inl ⟨by rfl, by (intro w hSw; (try dsimp only at hSw); go_simp; try with_reducible rfl)⟩) (by assumption) ?_
              (try dsimp only [Act.put]); (try go_frame)
              refine wpAnyH_take (i := 11) (v := _) (by first | (simp only [List.getElem?_toArray, List.getElem?_cons_zero, List.getElem?_cons_succ]; rfl) | rfl) (by kernel_rfl) (by kernel_rfl) (by kernel_rfl) (by exact fun _ _ _ h => h) (Or.inl ⟨by rfl, by (intro w hSw; (try dsimp only at hSw); go_simp; try with_reducible rfl)⟩) (by assumption) ?_
              (try dsimp only [Act.put]); (try go_frame)
              refine wpAnyH_done (by kernel_rfl) ?_ _
              try simp only [QCut]
              clear hHeld
              clear xF2621_0 xF2621_1 xF2621_2 xF2621_3 xF2621_4 xF2621_5 xF1121_0 xF1121_1 xF1121_2 xF1121_3 xF1121_4 xF1121_5
              go_wp2
              go_ret
              exact ⟨rfl, B0⟩

end Go.Proofs.YtgcifpjhhoalmaaDoor
