/- filigreelaw06.GaussParts. -/
import Derived.Test.YtgcifpjhhoalmaaDoorGL
import Derived.Test.YtgcifpjhhoalmaaDoorHF
namespace Go.Proofs.YtgcifpjhhoalmaaDoor
open Go Go.RowKit Go.PlainAid Fil

set_option maxRecDepth 100000 in
set_option maxHeartbeats 8000000 in
theorem parts_w (o q : Option GY) (a : GR) (b : GR) (P : GY × Int) (N : DY × Int) (X : DY × Int) (Y : DY × Int) (Z : DY × Int) (D : DY × Int) (C : DY × Int) (A : GY) (Q : GY × Int) (J : DY × Int) (K : DY × Int) (S : DY × Int) (E_P : x2 GY.zero gMul o q = P) (E_N : gNorm P.1 = N) (E_X : x1 DY.zero gNorm o = X) (E_Y : x1 DY.zero gNorm q = Y) (E_Z : yMul X.1 Y.1 = Z) (E_D : x2 DY.zero gDot o q = D) (E_C : x2 DY.zero gCross o q = C) (E_A : xU gConj o = A) (E_Q : x2 GY.zero gMul (some A) q = Q) (E_J : yMul D.1 D.1 = J) (E_K : yMul C.1 C.1 = K) (E_S : yAdd J.1 K.1 = S) (w : World) (ho : Rep a o) (hq : Rep b q) (hT : Tab w) :
    Calls Tryd.prog 7 #[.agg #[.bool a.n, .string a.s, .int .i64 a.e, .bool a.m, .string a.t, .int .i64 a.f], .agg #[.bool b.n, .string b.s, .int .i64 b.e, .bool b.m, .string b.t, .int .i64 b.f]] w fun r w' => r = .returned (.bool true) ∧ Below w.heap.size w w' := by
  have ok_P : P.1.ok := E_P ▸ x2_ok gMul_ok _ _
  have ok_N : N.1.ok := E_N ▸ gNorm_ok _
  have ok_X : X.1.ok := E_X ▸ x1D_ok gNorm_ok _
  have ok_Y : Y.1.ok := E_Y ▸ x1D_ok gNorm_ok _
  have ok_Z : Z.1.ok := E_Z ▸ yMul_ok _ _
  have ok_D : D.1.ok := E_D ▸ x2D_ok gDot_ok _ _
  have ok_C : C.1.ok := E_C ▸ x2D_ok gCross_ok _ _
  have ok_A : A.ok := E_A ▸ xU_ok (fun _ h => gConj_ok h) ho
  have ok_Q : Q.1.ok := E_Q ▸ x2_ok gMul_ok _ _
  have ok_J : J.1.ok := E_J ▸ yMul_ok _ _
  have ok_K : K.1.ok := E_K ▸ yMul_ok _ _
  have hw := fun W hW => l6awake_any W hW
  have h1 := fun W hW => gmul_x a b o q W ho hq hW
  rw [E_P] at h1
  have h2 := fun W hW => gnorm P.1 W ok_P hW
  rw [E_N] at h2
  have h3 := fun W hW => gnorm_x a o W ho hW
  rw [E_X] at h3
  have h4 := fun W hW => gnorm_x b q W hq hW
  rw [E_Y] at h4
  have h5 := fun W hW => cmul X.1 Y.1 W ok_X ok_Y hW
  rw [E_Z] at h5
  have o1 := fun Bk W h => l6all_5 P.2 N.2 X.2 Y.2 Z.2 Bk W h
  have h6 := fun W hW => gdot_x a b o q W ho hq hW
  rw [E_D] at h6
  have h7 := fun W hW => gcross_x a b o q W ho hq hW
  rw [E_C] at h7
  have h8 := fun W => gconj_x a o W ho
  rw [E_A] at h8
  have h9 := fun W hW => gmul_x A.raw b (some A) q W (Rep.out ok_A) hq hW
  rw [E_Q] at h9
  have o2 := fun Bk W h => l6all_3 D.2 C.2 Q.2 Bk W h
  have h10 := fun W hW => cmul D.1 D.1 W ok_D ok_D hW
  rw [E_J] at h10
  have h11 := fun W hW => cmul C.1 C.1 W ok_C ok_C hW
  rw [E_K] at h11
  have h12 := fun W hW => cadd J.1 K.1 W ok_J ok_K hW
  rw [E_S] at h12
  have o3 := fun Bk W h => l6all_8 D.2 C.2 X.2 Y.2 Z.2 J.2 K.2 S.2 Bk W h
  have f1 : oks [P.2, N.2, X.2, Y.2, Z.2] = true → Z.1.n = N.1.n ∧ bstr Z.1.x = bstr N.1.x ∧ Z.1.e = N.1.e := fun h => by
    rw [oks_cons, oks_cons, oks_cons, oks_cons, oks_cons] at h
    obtain ⟨e1, e2, e3, e4, e5, -⟩ := h
    subst E_P; subst E_N; subst E_X; subst E_Y; subst E_Z
    obtain ⟨A', B', rfl, rfl⟩ := x2_some e1
    have := parts_1 ho.1 hq.1 e1 e2 e3 e4 e5
    exact ⟨congrArg DY.n this, congrArg (fun d => bstr d.x) this, congrArg DY.e this⟩
  have f2 : oks [D.2, C.2, Q.2] = true → Q.1.re.n = D.1.n ∧ bstr Q.1.re.x = bstr D.1.x ∧ Q.1.re.e = D.1.e ∧ Q.1.im.n = C.1.n ∧ bstr Q.1.im.x = bstr C.1.x ∧ Q.1.im.e = C.1.e := fun h => by
    rw [oks_cons, oks_cons, oks_cons] at h
    obtain ⟨e1, e2, e3, -⟩ := h
    subst E_A; subst E_D; subst E_C; subst E_Q
    obtain ⟨A', B', rfl, rfl⟩ := x2_some e1
    have := parts_2 ho.1 hq.1 e1 e2 e3
    exact ⟨congrArg (fun g => g.re.n) this, congrArg (fun g => bstr g.re.x) this, congrArg (fun g => g.re.e) this, congrArg (fun g => g.im.n) this, congrArg (fun g => bstr g.im.x) this, congrArg (fun g => g.im.e) this⟩
  have f3 : oks [D.2, C.2, X.2, Y.2, Z.2, J.2, K.2, S.2] = true → S.1.n = Z.1.n ∧ bstr S.1.x = bstr Z.1.x ∧ S.1.e = Z.1.e := fun h => by
    rw [oks_cons, oks_cons, oks_cons, oks_cons, oks_cons, oks_cons, oks_cons, oks_cons] at h
    obtain ⟨e1, e2, e3, e4, e5, e6, e7, e8, -⟩ := h
    subst E_D; subst E_C; subst E_X; subst E_Y; subst E_Z; subst E_J; subst E_K; subst E_S
    obtain ⟨A', B', rfl, rfl⟩ := x2_some e1
    have := (parts_3 ho.1 hq.1 e1 e2 e3 e4 e5 e6 e7 e8).symm
    exact ⟨congrArg DY.n this, congrArg (fun d => bstr d.x) this, congrArg DY.e this⟩
  generalize oks [P.2, N.2, X.2, Y.2, Z.2] = O1 at *
  generalize oks [D.2, C.2, Q.2] = O2 at *
  generalize oks [D.2, C.2, X.2, Y.2, Z.2, J.2, K.2, S.2] = O3 at *
  clear ho hq
  clear E_P E_N E_X E_Y E_Z E_D E_C E_A E_Q E_J E_K E_S ok_P ok_N ok_X ok_Y ok_Z ok_D ok_C ok_A ok_Q ok_J ok_K
  obtain ⟨an, aS, ae, am, aT, af⟩ := a
  obtain ⟨bn, bS, be, bm, bT, bf⟩ := b
  obtain ⟨⟨⟨Pn, PX, Pe⟩, ⟨Pm, PY, Pf⟩⟩, Pr⟩ := P
  obtain ⟨⟨Nn, NX, Ne⟩, Nr⟩ := N
  obtain ⟨⟨Xn, XX, Xe⟩, Xr⟩ := X
  obtain ⟨⟨Yn, YX, Ye⟩, Yr⟩ := Y
  obtain ⟨⟨Zn, ZX, Ze⟩, Zr⟩ := Z
  obtain ⟨⟨Dn, DX, De⟩, Dr⟩ := D
  obtain ⟨⟨Cn, CX, Ce⟩, Cr⟩ := C
  obtain ⟨⟨An, AX, Ae⟩, ⟨Am, AY, Af⟩⟩ := A
  obtain ⟨⟨⟨Qn, QX, Qe⟩, ⟨Qm, QY, Qf⟩⟩, Qr⟩ := Q
  obtain ⟨⟨Jn, JX, Je⟩, Jr⟩ := J
  obtain ⟨⟨Kn, KX, Ke⟩, Kr⟩ := K
  obtain ⟨⟨Sn, SX, Se⟩, Sr⟩ := S
  dsimp only at *
  try dsimp only [GY.raw, DY.raw] at *
  generalize bstr PX = PS at *
  generalize bstr PY = PT at *
  generalize bstr NX = NS at *
  generalize bstr XX = XS at *
  generalize bstr YX = YS at *
  generalize bstr ZX = ZS at *
  generalize bstr DX = DS at *
  generalize bstr CX = CS at *
  generalize bstr AX = AS at *
  generalize bstr AY = AT at *
  generalize bstr QX = QS at *
  generalize bstr QY = QT at *
  generalize bstr JX = JS at *
  generalize bstr KX = KS at *
  generalize bstr SX = SS at *
  have K1 := Lib.hid f1
  have K2 := Lib.hid f2
  have K3 := Lib.hid f3
  clear f1 f2 f3
  go_enter Tryd.func7, Tryd.ntmps7
  have B0 := Below.refl w.heap.size w
  have F2 := Blk.put (w) #[.bool an, .string aS, .int .i64 ae, .bool am, .string aT, .int .i64 af] 49
  replace B0 := B0.alloc B0.size (.cells #[.bool an, .string aS, .int .i64 ae, .bool am, .string aT, .int .i64 af] 49)
  replace F2 := F2.allocd (.cells #[.bool bn, .string bS, .int .i64 be, .bool bm, .string bT, .int .i64 bf] 49)
  have F3 := Blk.put ((w).alloc (.cells #[.bool an, .string aS, .int .i64 ae, .bool am, .string aT, .int .i64 af] 49)) #[.bool bn, .string bS, .int .i64 be, .bool bm, .string bT, .int .i64 bf] 49
  rw [show ((w).alloc (.cells #[.bool an, .string aS, .int .i64 ae, .bool am, .string aT, .int .i64 af] 49)).heap.size = w.heap.size + 1 by simp] at F3
  replace B0 := B0.alloc B0.size (.cells #[.bool bn, .string bS, .int .i64 be, .bool bm, .string bT, .int .i64 bf] 49)
  go_wp2_with fail
  (with_reducible refine (hw _ (hT.below B0)).mono ?_)
  rintro r w1 ⟨rfl, hb1⟩
  replace F2 := F2.keep hb1
  replace F3 := F3.keep hb1
  replace B0 := B0.trans (hb1.mono B0.size)
  clear hb1
  obtain ⟨xF21_0, xF21_1, xF21_2, xF21_3, xF21_4, xF21_5⟩ := F2.ce6
  obtain ⟨xF31_0, xF31_1, xF31_2, xF31_3, xF31_4, xF31_5⟩ := F3.ce6
  go_wp2_with fail
  (with_reducible refine (h1 _ (hT.below B0)).mono ?_)
  rintro r w2 ⟨rfl, hb2⟩
  clear xF21_0 xF21_1 xF21_2 xF21_3 xF21_4 xF21_5 xF31_0 xF31_1 xF31_2 xF31_3 xF31_4 xF31_5
  replace F2 := F2.keep hb2
  replace F3 := F3.keep hb2
  replace B0 := B0.trans (hb2.mono B0.size)
  clear hb2
  replace F2 := F2.allocd (.cells #[.bool Pn, .string PS, .int .i64 Pe, .bool Pm, .string PT, .int .i64 Pf] 49)
  replace F3 := F3.allocd (.cells #[.bool Pn, .string PS, .int .i64 Pe, .bool Pm, .string PT, .int .i64 Pf] 49)
  have F5 := Blk.put (w2) #[.bool Pn, .string PS, .int .i64 Pe, .bool Pm, .string PT, .int .i64 Pf] 49
  replace B0 := B0.alloc B0.size (.cells #[.bool Pn, .string PS, .int .i64 Pe, .bool Pm, .string PT, .int .i64 Pf] 49)
  obtain ⟨xF52_0, xF52_1, xF52_2, xF52_3, xF52_4, xF52_5⟩ := F5.ce6
  go_wp2_with fail
  (with_reducible refine (h2 _ (hT.below B0)).mono ?_)
  rintro r w3 ⟨rfl, hb3⟩
  clear xF52_0 xF52_1 xF52_2 xF52_3 xF52_4 xF52_5
  replace F2 := F2.keep hb3
  replace F3 := F3.keep hb3
  replace F5 := F5.keep hb3
  replace B0 := B0.trans (hb3.mono B0.size)
  clear hb3
  replace F2 := F2.allocd (.cells #[.bool Nn, .string NS, .int .i64 Ne] 24)
  replace F3 := F3.allocd (.cells #[.bool Nn, .string NS, .int .i64 Ne] 24)
  clear F5
  have F7 := Blk.put (w3) #[.bool Nn, .string NS, .int .i64 Ne] 24
  replace B0 := B0.alloc B0.size (.cells #[.bool Nn, .string NS, .int .i64 Ne] 24)
  obtain ⟨xF23_0, xF23_1, xF23_2, xF23_3, xF23_4, xF23_5⟩ := F2.ce6
  go_wp2_with fail
  (with_reducible refine (h3 _ (hT.below B0)).mono ?_)
  rintro r w4 ⟨rfl, hb4⟩
  clear xF23_0 xF23_1 xF23_2 xF23_3 xF23_4 xF23_5
  replace F2 := F2.keep hb4
  replace F3 := F3.keep hb4
  replace F7 := F7.keep hb4
  replace B0 := B0.trans (hb4.mono B0.size)
  clear hb4
  replace F2 := F2.allocd (.cells #[.bool Xn, .string XS, .int .i64 Xe] 24)
  replace F3 := F3.allocd (.cells #[.bool Xn, .string XS, .int .i64 Xe] 24)
  replace F7 := F7.allocd (.cells #[.bool Xn, .string XS, .int .i64 Xe] 24)
  have F9 := Blk.put (w4) #[.bool Xn, .string XS, .int .i64 Xe] 24
  replace B0 := B0.alloc B0.size (.cells #[.bool Xn, .string XS, .int .i64 Xe] 24)
  obtain ⟨xF34_0, xF34_1, xF34_2, xF34_3, xF34_4, xF34_5⟩ := F3.ce6
  go_wp2_with fail
  (with_reducible refine (h4 _ (hT.below B0)).mono ?_)
  rintro r w5 ⟨rfl, hb5⟩
  clear xF34_0 xF34_1 xF34_2 xF34_3 xF34_4 xF34_5
  replace F2 := F2.keep hb5
  replace F3 := F3.keep hb5
  replace F7 := F7.keep hb5
  replace F9 := F9.keep hb5
  replace B0 := B0.trans (hb5.mono B0.size)
  clear hb5
  replace F2 := F2.allocd (.cells #[.bool Yn, .string YS, .int .i64 Ye] 24)
  replace F3 := F3.allocd (.cells #[.bool Yn, .string YS, .int .i64 Ye] 24)
  replace F7 := F7.allocd (.cells #[.bool Yn, .string YS, .int .i64 Ye] 24)
  replace F9 := F9.allocd (.cells #[.bool Yn, .string YS, .int .i64 Ye] 24)
  have F11 := Blk.put (w5) #[.bool Yn, .string YS, .int .i64 Ye] 24
  replace B0 := B0.alloc B0.size (.cells #[.bool Yn, .string YS, .int .i64 Ye] 24)
  obtain ⟨xF95_0, xF95_1, xF95_2⟩ := F9.ce3
  obtain ⟨xF115_0, xF115_1, xF115_2⟩ := F11.ce3
  go_wp2_with fail
  (with_reducible refine (h5 _ (hT.below B0)).mono ?_)
  rintro r w6 ⟨rfl, hb6⟩
  clear xF95_0 xF95_1 xF95_2 xF115_0 xF115_1 xF115_2
  replace F2 := F2.keep hb6
  replace F3 := F3.keep hb6
  replace F7 := F7.keep hb6
  replace F9 := F9.keep hb6
  replace F11 := F11.keep hb6
  replace B0 := B0.trans (hb6.mono B0.size)
  clear hb6
  replace F2 := F2.allocd (.cells #[.bool Zn, .string ZS, .int .i64 Ze] 24)
  replace F3 := F3.allocd (.cells #[.bool Zn, .string ZS, .int .i64 Ze] 24)
  replace F7 := F7.allocd (.cells #[.bool Zn, .string ZS, .int .i64 Ze] 24)
  clear F9
  clear F11
  have F13 := Blk.put (w6) #[.bool Zn, .string ZS, .int .i64 Ze] 24
  replace B0 := B0.alloc B0.size (.cells #[.bool Zn, .string ZS, .int .i64 Ze] 24)
  go_upto_region 8 with fail
  go_cut [64] (fun s64 wx => s64 = .bool false ∧ Blk wx (w.heap.size) #[.bool an, .string aS, .int .i64 ae, .bool am, .string aT, .int .i64 af] 49 ∧ Blk wx (w.heap.size + 1) #[.bool bn, .string bS, .int .i64 be, .bool bm, .string bT, .int .i64 bf] 49 ∧ Blk wx (w3.heap.size) #[.bool Nn, .string NS, .int .i64 Ne] 24 ∧ Blk wx (w6.heap.size) #[.bool Zn, .string ZS, .int .i64 Ze] 24 ∧ Below w.heap.size w wx)
  case first =>
    go_wp2_with fail
    (with_reducible refine (o1 _ _ (by simp)).mono ?_)
    rintro r w7 ⟨rfl, hb7⟩
    replace F2 := F2.keep hb7
    replace F3 := F3.keep hb7
    replace F7 := F7.keep hb7
    replace F13 := F13.keep hb7
    replace B0 := B0.trans (hb7.mono B0.size)
    clear hb7
    cases O1
    · clear K1
      go_wp2_with fail
      go_meet
      exact ⟨by first | rfl | simp, F2, F3, F7, F13, B0⟩
    · obtain ⟨rfl, rfl, rfl⟩ := K1.out rfl
      clear K1
      obtain ⟨xF77_0, xF77_1, xF77_2⟩ := F7.ce3
      obtain ⟨xF137_0, xF137_1, xF137_2⟩ := F13.ce3
      go_wp2_with fail
      go_meet
      exact ⟨by first | rfl | simp, F2, F3, F7, F13, B0⟩
  case rest =>
    clear B0
    clear F2
    clear F3
    clear F7
    clear F13
    obtain ⟨rfl, F2, F3, F7, F13, B0⟩ := hcut
    generalize wc = v1 at *
    obtain ⟨xF27_0, xF27_1, xF27_2, xF27_3, xF27_4, xF27_5⟩ := F2.ce6
    obtain ⟨xF37_0, xF37_1, xF37_2, xF37_3, xF37_4, xF37_5⟩ := F3.ce6
    go_wp2_with fail
    (with_reducible refine (h6 _ (hT.below B0)).mono ?_)
    rintro r w7 ⟨rfl, hb7⟩
    clear xF27_0 xF27_1 xF27_2 xF27_3 xF27_4 xF27_5 xF37_0 xF37_1 xF37_2 xF37_3 xF37_4 xF37_5
    replace F2 := F2.keep hb7
    replace F3 := F3.keep hb7
    replace F7 := F7.keep hb7
    replace F13 := F13.keep hb7
    replace B0 := B0.trans (hb7.mono B0.size)
    clear hb7
    replace F2 := F2.allocd (.cells #[.bool Dn, .string DS, .int .i64 De] 24)
    replace F3 := F3.allocd (.cells #[.bool Dn, .string DS, .int .i64 De] 24)
    clear F7
    replace F13 := F13.allocd (.cells #[.bool Dn, .string DS, .int .i64 De] 24)
    have F15 := Blk.put (w7) #[.bool Dn, .string DS, .int .i64 De] 24
    replace B0 := B0.alloc B0.size (.cells #[.bool Dn, .string DS, .int .i64 De] 24)
    obtain ⟨xF28_0, xF28_1, xF28_2, xF28_3, xF28_4, xF28_5⟩ := F2.ce6
    obtain ⟨xF38_0, xF38_1, xF38_2, xF38_3, xF38_4, xF38_5⟩ := F3.ce6
    go_wp2_with fail
    (with_reducible refine (h7 _ (hT.below B0)).mono ?_)
    rintro r w8 ⟨rfl, hb8⟩
    clear xF28_0 xF28_1 xF28_2 xF28_3 xF28_4 xF28_5 xF38_0 xF38_1 xF38_2 xF38_3 xF38_4 xF38_5
    replace F2 := F2.keep hb8
    replace F3 := F3.keep hb8
    replace F13 := F13.keep hb8
    replace F15 := F15.keep hb8
    replace B0 := B0.trans (hb8.mono B0.size)
    clear hb8
    replace F2 := F2.allocd (.cells #[.bool Cn, .string CS, .int .i64 Ce] 24)
    replace F3 := F3.allocd (.cells #[.bool Cn, .string CS, .int .i64 Ce] 24)
    replace F13 := F13.allocd (.cells #[.bool Cn, .string CS, .int .i64 Ce] 24)
    replace F15 := F15.allocd (.cells #[.bool Cn, .string CS, .int .i64 Ce] 24)
    have F16 := Blk.put (w8) #[.bool Cn, .string CS, .int .i64 Ce] 24
    replace B0 := B0.alloc B0.size (.cells #[.bool Cn, .string CS, .int .i64 Ce] 24)
    go_upto_region 12 with fail
    go_cut [17, 18] (fun s17 s18 wx => ∃ S17, s17 = .pointer (some ⟨S17, 0, none⟩) ∧ s18 = .int .i64 Qr ∧ Blk wx (w6.heap.size) #[.bool Zn, .string ZS, .int .i64 Ze] 24 ∧ Blk wx (w7.heap.size) #[.bool Dn, .string DS, .int .i64 De] 24 ∧ Blk wx (w8.heap.size) #[.bool Cn, .string CS, .int .i64 Ce] 24 ∧ Blk wx S17 #[.bool Qn, .string QS, .int .i64 Qe, .bool Qm, .string QT, .int .i64 Qf] 49 ∧ Below w.heap.size w wx)
    case first =>
      go_wp2_with fail
      refine wp_region_any (by kernel_rfl) ?_
      obtain ⟨xF29_0, xF29_1, xF29_2, xF29_3, xF29_4, xF29_5⟩ := F2.ce6
      obtain ⟨xF39_0, xF39_1, xF39_2, xF39_3, xF39_4, xF39_5⟩ := F3.ce6
      have hHeld : (fun w' : World => w'.cell? ⟨w.heap.size, 0, none⟩ = some (.bool an) ∧ w'.cell? ⟨w.heap.size, 1, none⟩ = some (.string aS) ∧ w'.cell? ⟨w.heap.size, 2, none⟩ = some (.int .i64 ae) ∧ w'.cell? ⟨w.heap.size, 3, none⟩ = some (.bool am) ∧ w'.cell? ⟨w.heap.size, 4, none⟩ = some (.string aT) ∧ w'.cell? ⟨w.heap.size, 5, none⟩ = some (.int .i64 af) ∧ w'.cell? ⟨w.heap.size + 1, 0, none⟩ = some (.bool bn) ∧ w'.cell? ⟨w.heap.size + 1, 1, none⟩ = some (.string bS) ∧ w'.cell? ⟨w.heap.size + 1, 2, none⟩ = some (.int .i64 be) ∧ w'.cell? ⟨w.heap.size + 1, 3, none⟩ = some (.bool bm) ∧ w'.cell? ⟨w.heap.size + 1, 4, none⟩ = some (.string bT) ∧ w'.cell? ⟨w.heap.size + 1, 5, none⟩ = some (.int .i64 bf)) ((w8).alloc (.cells #[.bool Cn, .string CS, .int .i64 Ce] 24)).drew := ⟨xF29_0, xF29_1, xF29_2, xF29_3, xF29_4, xF29_5, xF39_0, xF39_1, xF39_2, xF39_3, xF39_4, xF39_5⟩
      refine wpAny_of_held (S := fun w' : World => w'.cell? ⟨w.heap.size, 0, none⟩ = some (.bool an) ∧ w'.cell? ⟨w.heap.size, 1, none⟩ = some (.string aS) ∧ w'.cell? ⟨w.heap.size, 2, none⟩ = some (.int .i64 ae) ∧ w'.cell? ⟨w.heap.size, 3, none⟩ = some (.bool am) ∧ w'.cell? ⟨w.heap.size, 4, none⟩ = some (.string aT) ∧ w'.cell? ⟨w.heap.size, 5, none⟩ = some (.int .i64 af) ∧ w'.cell? ⟨w.heap.size + 1, 0, none⟩ = some (.bool bn) ∧ w'.cell? ⟨w.heap.size + 1, 1, none⟩ = some (.string bS) ∧ w'.cell? ⟨w.heap.size + 1, 2, none⟩ = some (.int .i64 be) ∧ w'.cell? ⟨w.heap.size + 1, 3, none⟩ = some (.bool bm) ∧ w'.cell? ⟨w.heap.size + 1, 4, none⟩ = some (.string bT) ∧ w'.cell? ⟨w.heap.size + 1, 5, none⟩ = some (.int .i64 bf)) _ _ _ _ ?_
      replace F2 := F2.drew
      replace F3 := F3.drew
      replace F13 := F13.drew
      replace F15 := F15.drew
      replace F16 := F16.drew
      replace B0 := B0.drew
      refine wpAnyH_take (i := 0) (v := _) (by first | (simp only [List.getElem?_toArray, List.getElem?_cons_zero]; rfl) | rfl) (by kernel_rfl) (by kernel_rfl) (by kernel_rfl) (by exact fun _ _ _ h => h) (Or.inl ⟨by rfl, by (intro w hSw; (try dsimp only at hSw); go_simp; try with_reducible rfl)⟩) (by assumption) ?_
      (try dsimp only [Act.put]); (try go_frame)
      refine wpAnyH_take (i := 2) (v := _) (by first | (simp only [List.getElem?_toArray, List.getElem?_cons_zero, List.getElem?_cons_succ]; rfl) | rfl) (by kernel_rfl) (by kernel_rfl) (by kernel_rfl) (by exact fun _ _ _ h => h) (Or.inl ⟨by rfl, by (intro w hSw; (try dsimp only at hSw); go_simp; try with_reducible rfl)⟩) (by assumption) ?_
      (try dsimp only [Act.put]); (try go_frame)
      refine wpAnyH_ready (rs := [1, 7]) (by kernel_rfl) (by simp) ?_
      refine AllReadyH.cons rfl (fun K hK => ?_) (AllReadyH.cons rfl (fun K hK => ?_) AllReadyH.nil)
      · go_simp
        (with_reducible refine (h8 _).mono ?_)
        rintro r w9 ⟨rfl, hb9⟩
        clear xF29_0 xF29_1 xF29_2 xF29_3 xF29_4 xF29_5 xF39_0 xF39_1 xF39_2 xF39_3 xF39_4 xF39_5
        replace F2 := F2.keep hb9
        replace F3 := F3.keep hb9
        replace F13 := F13.keep hb9
        replace F15 := F15.keep hb9
        replace F16 := F16.keep hb9
        replace B0 := B0.trans (hb9.mono B0.size)
        clear hb9
        obtain ⟨xF211_0, xF211_1, xF211_2, xF211_3, xF211_4, xF211_5⟩ := F2.ce6
        obtain ⟨xF311_0, xF311_1, xF311_2, xF311_3, xF311_4, xF311_5⟩ := F3.ce6
        refine hK.out _ _ ?_ (fun hHeld => ?_)
        · exact ⟨xF211_0, xF211_1, xF211_2, xF211_3, xF211_4, xF211_5, xF311_0, xF311_1, xF311_2, xF311_3, xF311_4, xF311_5⟩
        clear hK K
        (try dsimp only [Act.put]); (try go_frame)
        refine wpAnyH_ready (rs := [3, 7]) (by kernel_rfl) (by simp) ?_
        refine AllReadyH.cons rfl (fun K hK => ?_) (AllReadyH.cons rfl (fun K hK => ?_) AllReadyH.nil)
        · go_simp
          (with_reducible refine (h9 _ (hT.below B0)).mono ?_)
          rintro r w10 ⟨rfl, hb10⟩
          clear xF211_0 xF211_1 xF211_2 xF211_3 xF211_4 xF211_5 xF311_0 xF311_1 xF311_2 xF311_3 xF311_4 xF311_5
          replace F2 := F2.keep hb10
          replace F3 := F3.keep hb10
          replace F13 := F13.keep hb10
          replace F15 := F15.keep hb10
          replace F16 := F16.keep hb10
          replace B0 := B0.trans (hb10.mono B0.size)
          clear hb10
          obtain ⟨xF212_0, xF212_1, xF212_2, xF212_3, xF212_4, xF212_5⟩ := F2.ce6
          obtain ⟨xF312_0, xF312_1, xF312_2, xF312_3, xF312_4, xF312_5⟩ := F3.ce6
          refine hK.out _ _ ?_ (fun hHeld => ?_)
          · exact ⟨xF212_0, xF212_1, xF212_2, xF212_3, xF212_4, xF212_5, xF312_0, xF312_1, xF312_2, xF312_3, xF312_4, xF312_5⟩
          clear hK K
          (try dsimp only [Act.put]); (try go_frame)
          refine wpAnyH_take (i := 4) (v := _) (by first | (simp only [List.getElem?_toArray, List.getElem?_cons_zero, List.getElem?_cons_succ]; rfl) | rfl) (by kernel_rfl) (by kernel_rfl) (by kernel_rfl) (by exact fun _ _ _ h => h) (Or.inl ⟨by rfl, by (intro w hSw; (try dsimp only at hSw); go_simp; try with_reducible rfl)⟩) (by assumption) ?_
          (try dsimp only [Act.put]); (try go_frame)
          refine wpAnyH_take (i := 5) (v := _) (by first | (simp only [List.getElem?_toArray, List.getElem?_cons_zero, List.getElem?_cons_succ]; rfl) | rfl) (by kernel_rfl) (by kernel_rfl) (by kernel_rfl) (by exact fun _ _ _ h => h) (Or.inl ⟨by rfl, by (intro w hSw; (try dsimp only at hSw); go_simp; try with_reducible rfl)⟩) (by assumption) ?_
          (try dsimp only [Act.put]); (try go_frame)
          refine wpAnyH_take (i := 6) (v := _) (by first | (simp only [List.getElem?_toArray, List.getElem?_cons_zero, List.getElem?_cons_succ]; rfl) | rfl) (by kernel_rfl) (by kernel_rfl) (by kernel_rfl) (by exact fun _ _ _ h => h) (Or.inl ⟨by rfl, by (intro w hSw; (try dsimp only at hSw); go_simp; try with_reducible rfl)⟩) (by assumption) ?_
          (try dsimp only [Act.put]); (try go_frame)
          refine wpAnyH_ready (rs := [7]) (by kernel_rfl) (by simp) ?_
          refine AllReadyH.cons rfl (fun K hK => ?_) AllReadyH.nil
          go_simp
          obtain ⟨zF20, zF21, zF22, zF23, zF24, zF25⟩ := (F2.allocd (.cells #[.bool false, .string { data := #[] }, .int .i64 0, .bool false, .string { data := #[] }, .int .i64 0] 49)).ce6
          obtain ⟨zF30, zF31, zF32, zF33, zF34, zF35⟩ := (F3.allocd (.cells #[.bool false, .string { data := #[] }, .int .i64 0, .bool false, .string { data := #[] }, .int .i64 0] 49)).ce6
          clear xF212_0 xF212_1 xF212_2 xF212_3 xF212_4 xF212_5 xF312_0 xF312_1 xF312_2 xF312_3 xF312_4 xF312_5
          refine hK.out _ _ ?_ (fun hHeld => ?_)
          · exact ⟨zF20, zF21, zF22, zF23, zF24, zF25, zF30, zF31, zF32, zF33, zF34, zF35⟩
          clear hK K
          (try dsimp only [Act.put]); (try go_frame)
          clear zF20 zF21 zF22 zF23 zF24 zF25 zF30 zF31 zF32 zF33 zF34 zF35
          refine wpAnyH_ready (rs := [8]) (by kernel_rfl) (by simp) ?_
          refine AllReadyH.cons rfl (fun K hK => ?_) AllReadyH.nil
          go_simp
          have q_w_F17 : Hid (w.heap.size ≤ w10.heap.size) := Lib.hid (by have := B0.size; first | exact this | omega | (simp; done) | simpa using this)
          replace F2 := F2.allocd (.cells #[.bool Qn, .string QS, .int .i64 Qe, .bool Qm, .string QT, .int .i64 Qf] 49)
          replace F3 := F3.allocd (.cells #[.bool Qn, .string QS, .int .i64 Qe, .bool Qm, .string QT, .int .i64 Qf] 49)
          replace F13 := F13.allocd (.cells #[.bool Qn, .string QS, .int .i64 Qe, .bool Qm, .string QT, .int .i64 Qf] 49)
          replace F15 := F15.allocd (.cells #[.bool Qn, .string QS, .int .i64 Qe, .bool Qm, .string QT, .int .i64 Qf] 49)
          replace F16 := F16.allocd (.cells #[.bool Qn, .string QS, .int .i64 Qe, .bool Qm, .string QT, .int .i64 Qf] 49)
          have F17 := Blk.put (w10) #[.bool Qn, .string QS, .int .i64 Qe, .bool Qm, .string QT, .int .i64 Qf] 49
          replace B0 := B0.alloc B0.size (.cells #[.bool Qn, .string QS, .int .i64 Qe, .bool Qm, .string QT, .int .i64 Qf] 49)
          obtain ⟨xF213_0, xF213_1, xF213_2, xF213_3, xF213_4, xF213_5⟩ := F2.ce6
          obtain ⟨xF313_0, xF313_1, xF313_2, xF313_3, xF313_4, xF313_5⟩ := F3.ce6
          refine hK.out _ _ ?_ (fun hHeld => ?_)
          · exact ⟨xF213_0, xF213_1, xF213_2, xF213_3, xF213_4, xF213_5, xF313_0, xF313_1, xF313_2, xF313_3, xF313_4, xF313_5⟩
          clear hK K
          (try dsimp only [Act.put]); (try go_frame)
          refine wpAnyH_take (i := 9) (v := _) (by first | (simp only [List.getElem?_toArray, List.getElem?_cons_zero, List.getElem?_cons_succ]; rfl) | rfl) (by kernel_rfl) (by kernel_rfl) (by kernel_rfl) (by exact fun _ _ _ h => h) (Or.inl ⟨by rfl, by (intro w hSw; (try dsimp only at hSw); go_simp; try with_reducible rfl)⟩) (by assumption) ?_
          (try dsimp only [Act.put]); (try go_frame)
          refine wpAnyH_done (by kernel_rfl) ?_ _
          try simp only [QCut]
          clear hHeld
          clear xF213_0 xF213_1 xF213_2 xF213_3 xF213_4 xF213_5 xF313_0 xF313_1 xF313_2 xF313_3 xF313_4 xF313_5
          go_wp2_with fail
          go_meet
          exact ⟨_, by first | rfl | simp, by first | rfl | simp, F13, F15, F16, F17, B0⟩
        · go_simp
          clear xF211_0 xF211_1 xF211_2 xF211_3 xF211_4 xF211_5 xF311_0 xF311_1 xF311_2 xF311_3 xF311_4 xF311_5
          have q_F2_F17 : Hid (w.heap.size < w9.heap.size) := Lib.hid (by have := F2.lt; first | exact this | omega | (simp; done) | simpa using this)
          have q_F3_F17 : Hid (w.heap.size + 1 < w9.heap.size) := Lib.hid (by have := F3.lt; first | exact this | omega | (simp; done) | simpa using this)
          have q_F13_F17 : Hid (w6.heap.size < w9.heap.size) := Lib.hid (by have := F13.lt; first | exact this | omega | (simp; done) | simpa using this)
          have q_F15_F17 : Hid (w7.heap.size < w9.heap.size) := Lib.hid (by have := F15.lt; first | exact this | omega | (simp; done) | simpa using this)
          have q_F16_F17 : Hid (w8.heap.size < w9.heap.size) := Lib.hid (by have := F16.lt; first | exact this | omega | (simp; done) | simpa using this)
          have q_w_F17 : Hid (w.heap.size ≤ w9.heap.size) := Lib.hid (by have := B0.size; first | exact this | omega | (simp; done) | simpa using this)
          replace F2 := F2.allocd (.cells #[.bool false, .string { data := #[] }, .int .i64 0, .bool false, .string { data := #[] }, .int .i64 0] 49)
          replace F3 := F3.allocd (.cells #[.bool false, .string { data := #[] }, .int .i64 0, .bool false, .string { data := #[] }, .int .i64 0] 49)
          replace F13 := F13.allocd (.cells #[.bool false, .string { data := #[] }, .int .i64 0, .bool false, .string { data := #[] }, .int .i64 0] 49)
          replace F15 := F15.allocd (.cells #[.bool false, .string { data := #[] }, .int .i64 0, .bool false, .string { data := #[] }, .int .i64 0] 49)
          replace F16 := F16.allocd (.cells #[.bool false, .string { data := #[] }, .int .i64 0, .bool false, .string { data := #[] }, .int .i64 0] 49)
          have F17 := Blk.put (w9) #[.bool false, .string { data := #[] }, .int .i64 0, .bool false, .string { data := #[] }, .int .i64 0] 49
          replace B0 := B0.alloc B0.size (.cells #[.bool false, .string { data := #[] }, .int .i64 0, .bool false, .string { data := #[] }, .int .i64 0] 49)
          obtain ⟨xF212_0, xF212_1, xF212_2, xF212_3, xF212_4, xF212_5⟩ := F2.ce6
          obtain ⟨xF312_0, xF312_1, xF312_2, xF312_3, xF312_4, xF312_5⟩ := F3.ce6
          refine hK.out _ _ ?_ (fun hHeld => ?_)
          · exact ⟨xF212_0, xF212_1, xF212_2, xF212_3, xF212_4, xF212_5, xF312_0, xF312_1, xF312_2, xF312_3, xF312_4, xF312_5⟩
          clear hK K
          (try dsimp only [Act.put]); (try go_frame)
          refine wpAnyH_ready (rs := [3]) (by kernel_rfl) (by simp) ?_
          refine AllReadyH.cons rfl (fun K hK => ?_) AllReadyH.nil
          go_simp
          (with_reducible refine (h9 _ (hT.below B0)).mono ?_)
          rintro r w10 ⟨rfl, hb10⟩
          clear xF212_0 xF212_1 xF212_2 xF212_3 xF212_4 xF212_5 xF312_0 xF312_1 xF312_2 xF312_3 xF312_4 xF312_5
          replace F2 := F2.keep hb10
          replace F3 := F3.keep hb10
          replace F13 := F13.keep hb10
          replace F15 := F15.keep hb10
          replace F16 := F16.keep hb10
          replace F17 := F17.keep hb10
          replace B0 := B0.trans (hb10.mono B0.size)
          clear hb10
          obtain ⟨xF213_0, xF213_1, xF213_2, xF213_3, xF213_4, xF213_5⟩ := F2.ce6
          obtain ⟨xF313_0, xF313_1, xF313_2, xF313_3, xF313_4, xF313_5⟩ := F3.ce6
          refine hK.out _ _ ?_ (fun hHeld => ?_)
          · exact ⟨xF213_0, xF213_1, xF213_2, xF213_3, xF213_4, xF213_5, xF313_0, xF313_1, xF313_2, xF313_3, xF313_4, xF313_5⟩
          clear hK K
          (try dsimp only [Act.put]); (try go_frame)
          refine wpAnyH_take (i := 4) (v := _) (by first | (simp only [List.getElem?_toArray, List.getElem?_cons_zero, List.getElem?_cons_succ]; rfl) | rfl) (by kernel_rfl) (by kernel_rfl) (by kernel_rfl) (by exact fun _ _ _ h => h) (Or.inl ⟨by rfl, by (intro w hSw; (try dsimp only at hSw); go_simp; try with_reducible rfl)⟩) (by assumption) ?_
          (try dsimp only [Act.put]); (try go_frame)
          refine wpAnyH_take (i := 5) (v := _) (by first | (simp only [List.getElem?_toArray, List.getElem?_cons_zero, List.getElem?_cons_succ]; rfl) | rfl) (by kernel_rfl) (by kernel_rfl) (by kernel_rfl) (by exact fun _ _ _ h => h) (Or.inl ⟨by rfl, by (intro w hSw; (try dsimp only at hSw); go_simp; try with_reducible rfl)⟩) (by assumption) ?_
          (try dsimp only [Act.put]); (try go_frame)
          refine wpAnyH_take (i := 6) (v := _) (by first | (simp only [List.getElem?_toArray, List.getElem?_cons_zero, List.getElem?_cons_succ]; rfl) | rfl) (by kernel_rfl) (by kernel_rfl) (by kernel_rfl) (by exact fun _ _ _ h => h) (Or.inl ⟨by rfl, by (intro w hSw; (try dsimp only at hSw); go_simp; try with_reducible rfl)⟩) (by assumption) ?_
          (try dsimp only [Act.put]); (try go_frame)
          obtain ⟨xF1713_0, xF1713_1, xF1713_2, xF1713_3, xF1713_4, xF1713_5⟩ := F17.ce6
          obtain ⟨xF1713_0f, xF1713_1f, xF1713_2f, xF1713_3f, xF1713_4f, xF1713_5f⟩ := F17.fr6
          refine wpAnyH_ready (rs := [8]) (by kernel_rfl) (by simp) ?_
          refine AllReadyH.cons rfl (fun K hK => ?_) AllReadyH.nil
          go_simp
          replace F2 := ((((((F2.far 0 (.bool Qn) (Nat.ne_of_lt q_F2_F17.out)).far 1 (.string QS) (Nat.ne_of_lt q_F2_F17.out)).far 2 (.int .i64 Qe) (Nat.ne_of_lt q_F2_F17.out)).far 3 (.bool Qm) (Nat.ne_of_lt q_F2_F17.out)).far 4 (.string QT) (Nat.ne_of_lt q_F2_F17.out)).far 5 (.int .i64 Qf) (Nat.ne_of_lt q_F2_F17.out))
          replace F3 := ((((((F3.far 0 (.bool Qn) (Nat.ne_of_lt q_F3_F17.out)).far 1 (.string QS) (Nat.ne_of_lt q_F3_F17.out)).far 2 (.int .i64 Qe) (Nat.ne_of_lt q_F3_F17.out)).far 3 (.bool Qm) (Nat.ne_of_lt q_F3_F17.out)).far 4 (.string QT) (Nat.ne_of_lt q_F3_F17.out)).far 5 (.int .i64 Qf) (Nat.ne_of_lt q_F3_F17.out))
          replace F13 := ((((((F13.far 0 (.bool Qn) (Nat.ne_of_lt q_F13_F17.out)).far 1 (.string QS) (Nat.ne_of_lt q_F13_F17.out)).far 2 (.int .i64 Qe) (Nat.ne_of_lt q_F13_F17.out)).far 3 (.bool Qm) (Nat.ne_of_lt q_F13_F17.out)).far 4 (.string QT) (Nat.ne_of_lt q_F13_F17.out)).far 5 (.int .i64 Qf) (Nat.ne_of_lt q_F13_F17.out))
          replace F15 := ((((((F15.far 0 (.bool Qn) (Nat.ne_of_lt q_F15_F17.out)).far 1 (.string QS) (Nat.ne_of_lt q_F15_F17.out)).far 2 (.int .i64 Qe) (Nat.ne_of_lt q_F15_F17.out)).far 3 (.bool Qm) (Nat.ne_of_lt q_F15_F17.out)).far 4 (.string QT) (Nat.ne_of_lt q_F15_F17.out)).far 5 (.int .i64 Qf) (Nat.ne_of_lt q_F15_F17.out))
          replace F16 := ((((((F16.far 0 (.bool Qn) (Nat.ne_of_lt q_F16_F17.out)).far 1 (.string QS) (Nat.ne_of_lt q_F16_F17.out)).far 2 (.int .i64 Qe) (Nat.ne_of_lt q_F16_F17.out)).far 3 (.bool Qm) (Nat.ne_of_lt q_F16_F17.out)).far 4 (.string QT) (Nat.ne_of_lt q_F16_F17.out)).far 5 (.int .i64 Qf) (Nat.ne_of_lt q_F16_F17.out))
          replace F17 : Blk (((((((w10).setCell ⟨w9.heap.size, 0, none⟩ (.bool Qn)).setCell ⟨w9.heap.size, 1, none⟩ (.string QS)).setCell ⟨w9.heap.size, 2, none⟩ (.int .i64 Qe)).setCell ⟨w9.heap.size, 3, none⟩ (.bool Qm)).setCell ⟨w9.heap.size, 4, none⟩ (.string QT)).setCell ⟨w9.heap.size, 5, none⟩ (.int .i64 Qf)) (w9.heap.size) #[.bool Qn, .string QS, .int .i64 Qe, .bool Qm, .string QT, .int .i64 Qf] 49 := ((((((F17.setAt 0 (.bool Qn)).setAt 1 (.string QS)).setAt 2 (.int .i64 Qe)).setAt 3 (.bool Qm)).setAt 4 (.string QT)).setAt 5 (.int .i64 Qf))
          replace B0 := ((((((B0.setCell (p := ⟨w9.heap.size, 0, none⟩) q_w_F17.out (.bool Qn)).setCell (p := ⟨w9.heap.size, 1, none⟩) q_w_F17.out (.string QS)).setCell (p := ⟨w9.heap.size, 2, none⟩) q_w_F17.out (.int .i64 Qe)).setCell (p := ⟨w9.heap.size, 3, none⟩) q_w_F17.out (.bool Qm)).setCell (p := ⟨w9.heap.size, 4, none⟩) q_w_F17.out (.string QT)).setCell (p := ⟨w9.heap.size, 5, none⟩) q_w_F17.out (.int .i64 Qf))
          clear xF213_0 xF213_1 xF213_2 xF213_3 xF213_4 xF213_5 xF313_0 xF313_1 xF313_2 xF313_3 xF313_4 xF313_5 xF1713_0 xF1713_1 xF1713_2 xF1713_3 xF1713_4 xF1713_5 xF1713_0f xF1713_1f xF1713_2f xF1713_3f xF1713_4f xF1713_5f
          obtain ⟨xF214_0, xF214_1, xF214_2, xF214_3, xF214_4, xF214_5⟩ := F2.ce6
          obtain ⟨xF314_0, xF314_1, xF314_2, xF314_3, xF314_4, xF314_5⟩ := F3.ce6
          refine hK.out _ _ ?_ (fun hHeld => ?_)
          · exact ⟨xF214_0, xF214_1, xF214_2, xF214_3, xF214_4, xF214_5, xF314_0, xF314_1, xF314_2, xF314_3, xF314_4, xF314_5⟩
          clear hK K
          (try dsimp only [Act.put]); (try go_frame)
          refine wpAnyH_take (i := 9) (v := _) (by first | (simp only [List.getElem?_toArray, List.getElem?_cons_zero, List.getElem?_cons_succ]; rfl) | rfl) (by kernel_rfl) (by kernel_rfl) (by kernel_rfl) (by exact fun _ _ _ h => h) (Or.inl ⟨by rfl, by (intro w hSw; (try dsimp only at hSw); go_simp; try with_reducible rfl)⟩) (by assumption) ?_
          (try dsimp only [Act.put]); (try go_frame)
          refine wpAnyH_done (by kernel_rfl) ?_ _
          try simp only [QCut]
          clear hHeld
          clear xF214_0 xF214_1 xF214_2 xF214_3 xF214_4 xF214_5 xF314_0 xF314_1 xF314_2 xF314_3 xF314_4 xF314_5
          go_wp2_with fail
          go_meet
          exact ⟨_, by first | rfl | simp, by first | rfl | simp, F13, F15, F16, F17, B0⟩
      · go_simp
        clear xF29_0 xF29_1 xF29_2 xF29_3 xF29_4 xF29_5 xF39_0 xF39_1 xF39_2 xF39_3 xF39_4 xF39_5
        have q_F2_F17 : Hid (w.heap.size < w8.heap.size + 1) := Lib.hid (by have := F2.lt; first | exact this | omega | (simp; done) | simpa using this)
        have q_F3_F17 : Hid (w.heap.size + 1 < w8.heap.size + 1) := Lib.hid (by have := F3.lt; first | exact this | omega | (simp; done) | simpa using this)
        have q_F13_F17 : Hid (w6.heap.size < w8.heap.size + 1) := Lib.hid (by have := F13.lt; first | exact this | omega | (simp; done) | simpa using this)
        have q_F15_F17 : Hid (w7.heap.size < w8.heap.size + 1) := Lib.hid (by have := F15.lt; first | exact this | omega | (simp; done) | simpa using this)
        have q_F16_F17 : Hid (w8.heap.size < w8.heap.size + 1) := Lib.hid (by have := F16.lt; first | exact this | omega | (simp; done) | simpa using this)
        have q_w_F17 : Hid (w.heap.size ≤ w8.heap.size + 1) := Lib.hid (by have := B0.size; first | exact this | omega | (simp; done) | simpa using this)
        replace F2 := F2.allocd (.cells #[.bool false, .string { data := #[] }, .int .i64 0, .bool false, .string { data := #[] }, .int .i64 0] 49)
        replace F3 := F3.allocd (.cells #[.bool false, .string { data := #[] }, .int .i64 0, .bool false, .string { data := #[] }, .int .i64 0] 49)
        replace F13 := F13.allocd (.cells #[.bool false, .string { data := #[] }, .int .i64 0, .bool false, .string { data := #[] }, .int .i64 0] 49)
        replace F15 := F15.allocd (.cells #[.bool false, .string { data := #[] }, .int .i64 0, .bool false, .string { data := #[] }, .int .i64 0] 49)
        replace F16 := F16.allocd (.cells #[.bool false, .string { data := #[] }, .int .i64 0, .bool false, .string { data := #[] }, .int .i64 0] 49)
        have F17 := Blk.put (((w8).alloc (.cells #[.bool Cn, .string CS, .int .i64 Ce] 24)).drew) #[.bool false, .string { data := #[] }, .int .i64 0, .bool false, .string { data := #[] }, .int .i64 0] 49
        rw [show (((w8).alloc (.cells #[.bool Cn, .string CS, .int .i64 Ce] 24)).drew).heap.size = w8.heap.size + 1 by simp] at F17
        replace B0 := B0.alloc B0.size (.cells #[.bool false, .string { data := #[] }, .int .i64 0, .bool false, .string { data := #[] }, .int .i64 0] 49)
        obtain ⟨xF211_0, xF211_1, xF211_2, xF211_3, xF211_4, xF211_5⟩ := F2.ce6
        obtain ⟨xF311_0, xF311_1, xF311_2, xF311_3, xF311_4, xF311_5⟩ := F3.ce6
        refine hK.out _ _ ?_ (fun hHeld => ?_)
        · exact ⟨xF211_0, xF211_1, xF211_2, xF211_3, xF211_4, xF211_5, xF311_0, xF311_1, xF311_2, xF311_3, xF311_4, xF311_5⟩
        clear hK K
        (try dsimp only [Act.put]); (try go_frame)
        refine wpAnyH_ready (rs := [1]) (by kernel_rfl) (by simp) ?_
        refine AllReadyH.cons rfl (fun K hK => ?_) AllReadyH.nil
        go_simp
        (with_reducible refine (h8 _).mono ?_)
        rintro r w9 ⟨rfl, hb9⟩
        clear xF211_0 xF211_1 xF211_2 xF211_3 xF211_4 xF211_5 xF311_0 xF311_1 xF311_2 xF311_3 xF311_4 xF311_5
        replace F2 := F2.keep hb9
        replace F3 := F3.keep hb9
        replace F13 := F13.keep hb9
        replace F15 := F15.keep hb9
        replace F16 := F16.keep hb9
        replace F17 := F17.keep hb9
        replace B0 := B0.trans (hb9.mono B0.size)
        clear hb9
        obtain ⟨xF212_0, xF212_1, xF212_2, xF212_3, xF212_4, xF212_5⟩ := F2.ce6
        obtain ⟨xF312_0, xF312_1, xF312_2, xF312_3, xF312_4, xF312_5⟩ := F3.ce6
        refine hK.out _ _ ?_ (fun hHeld => ?_)
        · exact ⟨xF212_0, xF212_1, xF212_2, xF212_3, xF212_4, xF212_5, xF312_0, xF312_1, xF312_2, xF312_3, xF312_4, xF312_5⟩
        clear hK K
        (try dsimp only [Act.put]); (try go_frame)
        refine wpAnyH_ready (rs := [3]) (by kernel_rfl) (by simp) ?_
        refine AllReadyH.cons rfl (fun K hK => ?_) AllReadyH.nil
        go_simp
        (with_reducible refine (h9 _ (hT.below B0)).mono ?_)
        rintro r w10 ⟨rfl, hb10⟩
        clear xF212_0 xF212_1 xF212_2 xF212_3 xF212_4 xF212_5 xF312_0 xF312_1 xF312_2 xF312_3 xF312_4 xF312_5
        replace F2 := F2.keep hb10
        replace F3 := F3.keep hb10
        replace F13 := F13.keep hb10
        replace F15 := F15.keep hb10
        replace F16 := F16.keep hb10
        replace F17 := F17.keep hb10
        replace B0 := B0.trans (hb10.mono B0.size)
        clear hb10
        obtain ⟨xF213_0, xF213_1, xF213_2, xF213_3, xF213_4, xF213_5⟩ := F2.ce6
        obtain ⟨xF313_0, xF313_1, xF313_2, xF313_3, xF313_4, xF313_5⟩ := F3.ce6
        refine hK.out _ _ ?_ (fun hHeld => ?_)
        · exact ⟨xF213_0, xF213_1, xF213_2, xF213_3, xF213_4, xF213_5, xF313_0, xF313_1, xF313_2, xF313_3, xF313_4, xF313_5⟩
        clear hK K
        (try dsimp only [Act.put]); (try go_frame)
        refine wpAnyH_take (i := 4) (v := _) (by first | (simp only [List.getElem?_toArray, List.getElem?_cons_zero, List.getElem?_cons_succ]; rfl) | rfl) (by kernel_rfl) (by kernel_rfl) (by kernel_rfl) (by exact fun _ _ _ h => h) (Or.inl ⟨by rfl, by (intro w hSw; (try dsimp only at hSw); go_simp; try with_reducible rfl)⟩) (by assumption) ?_
        (try dsimp only [Act.put]); (try go_frame)
        refine wpAnyH_take (i := 5) (v := _) (by first | (simp only [List.getElem?_toArray, List.getElem?_cons_zero, List.getElem?_cons_succ]; rfl) | rfl) (by kernel_rfl) (by kernel_rfl) (by kernel_rfl) (by exact fun _ _ _ h => h) (Or.inl ⟨by rfl, by (intro w hSw; (try dsimp only at hSw); go_simp; try with_reducible rfl)⟩) (by assumption) ?_
        (try dsimp only [Act.put]); (try go_frame)
        refine wpAnyH_take (i := 6) (v := _) (by first | (simp only [List.getElem?_toArray, List.getElem?_cons_zero, List.getElem?_cons_succ]; rfl) | rfl) (by kernel_rfl) (by kernel_rfl) (by kernel_rfl) (by exact fun _ _ _ h => h) (Or.inl ⟨by rfl, by (intro w hSw; (try dsimp only at hSw); go_simp; try with_reducible rfl)⟩) (by assumption) ?_
        (try dsimp only [Act.put]); (try go_frame)
        obtain ⟨xF1713_0, xF1713_1, xF1713_2, xF1713_3, xF1713_4, xF1713_5⟩ := F17.ce6
        obtain ⟨xF1713_0f, xF1713_1f, xF1713_2f, xF1713_3f, xF1713_4f, xF1713_5f⟩ := F17.fr6
        refine wpAnyH_ready (rs := [8]) (by kernel_rfl) (by simp) ?_
        refine AllReadyH.cons rfl (fun K hK => ?_) AllReadyH.nil
        go_simp
        replace F2 := ((((((F2.far 0 (.bool Qn) (Nat.ne_of_lt q_F2_F17.out)).far 1 (.string QS) (Nat.ne_of_lt q_F2_F17.out)).far 2 (.int .i64 Qe) (Nat.ne_of_lt q_F2_F17.out)).far 3 (.bool Qm) (Nat.ne_of_lt q_F2_F17.out)).far 4 (.string QT) (Nat.ne_of_lt q_F2_F17.out)).far 5 (.int .i64 Qf) (Nat.ne_of_lt q_F2_F17.out))
        replace F3 := ((((((F3.far 0 (.bool Qn) (Nat.ne_of_lt q_F3_F17.out)).far 1 (.string QS) (Nat.ne_of_lt q_F3_F17.out)).far 2 (.int .i64 Qe) (Nat.ne_of_lt q_F3_F17.out)).far 3 (.bool Qm) (Nat.ne_of_lt q_F3_F17.out)).far 4 (.string QT) (Nat.ne_of_lt q_F3_F17.out)).far 5 (.int .i64 Qf) (Nat.ne_of_lt q_F3_F17.out))
        replace F13 := ((((((F13.far 0 (.bool Qn) (Nat.ne_of_lt q_F13_F17.out)).far 1 (.string QS) (Nat.ne_of_lt q_F13_F17.out)).far 2 (.int .i64 Qe) (Nat.ne_of_lt q_F13_F17.out)).far 3 (.bool Qm) (Nat.ne_of_lt q_F13_F17.out)).far 4 (.string QT) (Nat.ne_of_lt q_F13_F17.out)).far 5 (.int .i64 Qf) (Nat.ne_of_lt q_F13_F17.out))
        replace F15 := ((((((F15.far 0 (.bool Qn) (Nat.ne_of_lt q_F15_F17.out)).far 1 (.string QS) (Nat.ne_of_lt q_F15_F17.out)).far 2 (.int .i64 Qe) (Nat.ne_of_lt q_F15_F17.out)).far 3 (.bool Qm) (Nat.ne_of_lt q_F15_F17.out)).far 4 (.string QT) (Nat.ne_of_lt q_F15_F17.out)).far 5 (.int .i64 Qf) (Nat.ne_of_lt q_F15_F17.out))
        replace F16 := ((((((F16.far 0 (.bool Qn) (Nat.ne_of_lt q_F16_F17.out)).far 1 (.string QS) (Nat.ne_of_lt q_F16_F17.out)).far 2 (.int .i64 Qe) (Nat.ne_of_lt q_F16_F17.out)).far 3 (.bool Qm) (Nat.ne_of_lt q_F16_F17.out)).far 4 (.string QT) (Nat.ne_of_lt q_F16_F17.out)).far 5 (.int .i64 Qf) (Nat.ne_of_lt q_F16_F17.out))
        replace F17 : Blk (((((((w10).setCell ⟨w8.heap.size + 1, 0, none⟩ (.bool Qn)).setCell ⟨w8.heap.size + 1, 1, none⟩ (.string QS)).setCell ⟨w8.heap.size + 1, 2, none⟩ (.int .i64 Qe)).setCell ⟨w8.heap.size + 1, 3, none⟩ (.bool Qm)).setCell ⟨w8.heap.size + 1, 4, none⟩ (.string QT)).setCell ⟨w8.heap.size + 1, 5, none⟩ (.int .i64 Qf)) (w8.heap.size + 1) #[.bool Qn, .string QS, .int .i64 Qe, .bool Qm, .string QT, .int .i64 Qf] 49 := ((((((F17.setAt 0 (.bool Qn)).setAt 1 (.string QS)).setAt 2 (.int .i64 Qe)).setAt 3 (.bool Qm)).setAt 4 (.string QT)).setAt 5 (.int .i64 Qf))
        replace B0 := ((((((B0.setCell (p := ⟨w8.heap.size + 1, 0, none⟩) q_w_F17.out (.bool Qn)).setCell (p := ⟨w8.heap.size + 1, 1, none⟩) q_w_F17.out (.string QS)).setCell (p := ⟨w8.heap.size + 1, 2, none⟩) q_w_F17.out (.int .i64 Qe)).setCell (p := ⟨w8.heap.size + 1, 3, none⟩) q_w_F17.out (.bool Qm)).setCell (p := ⟨w8.heap.size + 1, 4, none⟩) q_w_F17.out (.string QT)).setCell (p := ⟨w8.heap.size + 1, 5, none⟩) q_w_F17.out (.int .i64 Qf))
        clear xF213_0 xF213_1 xF213_2 xF213_3 xF213_4 xF213_5 xF313_0 xF313_1 xF313_2 xF313_3 xF313_4 xF313_5 xF1713_0 xF1713_1 xF1713_2 xF1713_3 xF1713_4 xF1713_5 xF1713_0f xF1713_1f xF1713_2f xF1713_3f xF1713_4f xF1713_5f
        obtain ⟨xF214_0, xF214_1, xF214_2, xF214_3, xF214_4, xF214_5⟩ := F2.ce6
        obtain ⟨xF314_0, xF314_1, xF314_2, xF314_3, xF314_4, xF314_5⟩ := F3.ce6
        refine hK.out _ _ ?_ (fun hHeld => ?_)
        · exact ⟨xF214_0, xF214_1, xF214_2, xF214_3, xF214_4, xF214_5, xF314_0, xF314_1, xF314_2, xF314_3, xF314_4, xF314_5⟩
        clear hK K
        (try dsimp only [Act.put]); (try go_frame)
        refine wpAnyH_take (i := 9) (v := _) (by first | (simp only [List.getElem?_toArray, List.getElem?_cons_zero, List.getElem?_cons_succ]; rfl) | rfl) (by kernel_rfl) (by kernel_rfl) (by kernel_rfl) (by exact fun _ _ _ h => h) (Or.inl ⟨by rfl, by (intro w hSw; (try dsimp only at hSw); go_simp; try with_reducible rfl)⟩) (by assumption) ?_
        (try dsimp only [Act.put]); (try go_frame)
        refine wpAnyH_done (by kernel_rfl) ?_ _
        try simp only [QCut]
        clear hHeld
        clear xF214_0 xF214_1 xF214_2 xF214_3 xF214_4 xF214_5 xF314_0 xF314_1 xF314_2 xF314_3 xF314_4 xF314_5
        go_wp2_with fail
        go_meet
        exact ⟨_, by first | rfl | simp, by first | rfl | simp, F13, F15, F16, F17, B0⟩
    case rest =>
      clear B0
      clear F2
      clear F3
      clear F13
      clear F15
      clear F16
      obtain ⟨S17, rfl, rfl, F13, F15, F16, F17, B0⟩ := hcut
      generalize wc = v2 at *
      go_upto_region 13 with fail
      go_cut [95] (fun s95 wx => s95 = .bool false ∧ Blk wx (w6.heap.size) #[.bool Zn, .string ZS, .int .i64 Ze] 24 ∧ Blk wx (w7.heap.size) #[.bool Dn, .string DS, .int .i64 De] 24 ∧ Blk wx (w8.heap.size) #[.bool Cn, .string CS, .int .i64 Ce] 24 ∧ Blk wx (S17) #[.bool Qn, .string QS, .int .i64 Qe, .bool Qm, .string QT, .int .i64 Qf] 49 ∧ Below w.heap.size w wx)
      case first =>
        go_wp2_with fail
        (with_reducible refine (o2 _ _ (by simp)).mono ?_)
        rintro r w9 ⟨rfl, hb9⟩
        replace F13 := F13.keep hb9
        replace F15 := F15.keep hb9
        replace F16 := F16.keep hb9
        replace F17 := F17.keep hb9
        replace B0 := B0.trans (hb9.mono B0.size)
        clear hb9
        cases O2
        · clear K2
          go_wp2_with fail
          go_meet
          exact ⟨by first | rfl | simp, F13, F15, F16, F17, B0⟩
        · obtain ⟨rfl, rfl, rfl, rfl, rfl, rfl⟩ := K2.out rfl
          clear K2
          obtain ⟨xF1711_0, xF1711_1, xF1711_2, xF1711_3, xF1711_4, xF1711_5⟩ := F17.ce6
          obtain ⟨xF1511_0, xF1511_1, xF1511_2⟩ := F15.ce3
          obtain ⟨xF1611_0, xF1611_1, xF1611_2⟩ := F16.ce3
          go_wp2_with fail
          go_meet
          exact ⟨by first | rfl | simp, F13, F15, F16, F17, B0⟩
      case rest =>
        clear B0
        clear F13
        clear F15
        clear F16
        clear F17
        obtain ⟨rfl, F13, F15, F16, F17, B0⟩ := hcut
        generalize wc = v3 at *
        obtain ⟨xF1511_0, xF1511_1, xF1511_2⟩ := F15.ce3
        go_wp2_with fail
        (with_reducible refine (h10 _ (hT.below B0)).mono ?_)
        rintro r w9 ⟨rfl, hb9⟩
        clear xF1511_0 xF1511_1 xF1511_2
        replace F13 := F13.keep hb9
        replace F15 := F15.keep hb9
        replace F16 := F16.keep hb9
        replace F17 := F17.keep hb9
        replace B0 := B0.trans (hb9.mono B0.size)
        clear hb9
        replace F13 := F13.allocd (.cells #[.bool Jn, .string JS, .int .i64 Je] 24)
        clear F15
        replace F16 := F16.allocd (.cells #[.bool Jn, .string JS, .int .i64 Je] 24)
        clear F17
        have F19 := Blk.put (w9) #[.bool Jn, .string JS, .int .i64 Je] 24
        replace B0 := B0.alloc B0.size (.cells #[.bool Jn, .string JS, .int .i64 Je] 24)
        obtain ⟨xF1612_0, xF1612_1, xF1612_2⟩ := F16.ce3
        go_wp2_with fail
        (with_reducible refine (h11 _ (hT.below B0)).mono ?_)
        rintro r w10 ⟨rfl, hb10⟩
        clear xF1612_0 xF1612_1 xF1612_2
        replace F13 := F13.keep hb10
        replace F16 := F16.keep hb10
        replace F19 := F19.keep hb10
        replace B0 := B0.trans (hb10.mono B0.size)
        clear hb10
        replace F13 := F13.allocd (.cells #[.bool Kn, .string KS, .int .i64 Ke] 24)
        clear F16
        replace F19 := F19.allocd (.cells #[.bool Kn, .string KS, .int .i64 Ke] 24)
        have F20 := Blk.put (w10) #[.bool Kn, .string KS, .int .i64 Ke] 24
        replace B0 := B0.alloc B0.size (.cells #[.bool Kn, .string KS, .int .i64 Ke] 24)
        obtain ⟨xF1913_0, xF1913_1, xF1913_2⟩ := F19.ce3
        obtain ⟨xF2013_0, xF2013_1, xF2013_2⟩ := F20.ce3
        go_wp2_with fail
        (with_reducible refine (h12 _ (hT.below B0)).mono ?_)
        rintro r w11 ⟨rfl, hb11⟩
        clear xF1913_0 xF1913_1 xF1913_2 xF2013_0 xF2013_1 xF2013_2
        replace F13 := F13.keep hb11
        replace F19 := F19.keep hb11
        replace F20 := F20.keep hb11
        replace B0 := B0.trans (hb11.mono B0.size)
        clear hb11
        replace F13 := F13.allocd (.cells #[.bool Sn, .string SS, .int .i64 Se] 24)
        clear F19
        clear F20
        have F22 := Blk.put (w11) #[.bool Sn, .string SS, .int .i64 Se] 24
        replace B0 := B0.alloc B0.size (.cells #[.bool Sn, .string SS, .int .i64 Se] 24)
        go_wp2_with fail
        (with_reducible refine (o3 _ _ (by simp)).mono ?_)
        rintro r w12 ⟨rfl, hb12⟩
        replace F13 := F13.keep hb12
        replace F22 := F22.keep hb12
        replace B0 := B0.trans (hb12.mono B0.size)
        clear hb12
        cases O3
        · clear K3
          go_wp2
          go_ret
          exact ⟨rfl, B0⟩
        · obtain ⟨rfl, rfl, rfl⟩ := K3.out rfl
          clear K3
          obtain ⟨xF2215_0, xF2215_1, xF2215_2⟩ := F22.ce3
          obtain ⟨xF1315_0, xF1315_1, xF1315_2⟩ := F13.ce3
          go_wp2
          go_ret
          exact ⟨rfl, B0⟩

end Go.Proofs.YtgcifpjhhoalmaaDoor
