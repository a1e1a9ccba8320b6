/- The walk over filigreelaw03.DyadRing: its later parts. -/
import Derived.Test.YtgcifpjhhoalmaaDoorBN
import Derived.Test.YtgcifpjhhoalmaaDoorBF
namespace Go.Proofs.YtgcifpjhhoalmaaDoor
open Go Go.RowKit Go.PlainAid Fil

/-- the code from a region on -/
def headOf : Code → Nat
  | .region n _ _ => n
  | .seq a _ => headOf a
  | _ => 0
def tailAt (k : Nat) : Code → Code
  | .seq a b => if headOf a = k then .seq a b else tailAt k b
  | c => c

/-- what the walk knows between its parts -/
def RingF (w wx : World) (S : Nat) (an : Bool) (sa : ByteArray) (ae : Int) (bn : Bool) (sb : ByteArray) (be : Int) (cn : Bool) (sc : ByteArray) (ce : Int) (sn : Bool) (ss : ByteArray) (se : Int) : Prop :=
  DyAt wx w.heap.size an sa ae ∧ DyAt wx (w.heap.size + 1) bn sb be ∧ DyAt wx (w.heap.size + 1 + 1) cn sc ce ∧ DyAt wx S sn ss se ∧ Below w.heap.size w wx

theorem l3all_3_at (a b c : Int) (Bk : Nat) (W : World) (h : W.heap.size = Bk) :
    Calls Tryd.prog 93 #[.slice (some ⟨Bk, 0, none⟩) 3 3] (W.alloc (.cells #[.int .i64 a, .int .i64 b, .int .i64 c] 26)) fun r w' => r = .returned (.bool (oks [a, b, c])) ∧ Below W.heap.size W w' := by
  subst h; exact l3all_3 a b c W
theorem l3all_5_at (a b c d e : Int) (Bk : Nat) (W : World) (h : W.heap.size = Bk) :
    Calls Tryd.prog 93 #[.slice (some ⟨Bk, 0, none⟩) 5 5] (W.alloc (.cells #[.int .i64 a, .int .i64 b, .int .i64 c, .int .i64 d, .int .i64 e] 26)) fun r w' => r = .returned (.bool (oks [a, b, c, d, e])) ∧ Below W.heap.size W w' := by
  subst h; exact l3all_5 a b c d e W


set_option maxRecDepth 1000000 in
set_option maxHeartbeats 16000000 in
theorem ring_rest2 (A B C : DY) (f : Int) (w : World) (hA : A.ok) (hB : B.ok) (hC : C.ok) (hf1 : -9223372036854775808 ≤ f) (hf2 : f ≤ 9223372036854775807) (hT : Tab w) (v3 : World) (S : Nat) (Da : DyAt v3 w.heap.size A.n (bstr A.x) A.e) (Db : DyAt v3 (w.heap.size + 1) B.n (bstr B.x) B.e) (Dc : DyAt v3 (w.heap.size + 1 + 1) C.n (bstr C.x) C.e) (Ds : DyAt v3 S (yAdd A B).1.n (bstr (yAdd A B).1.x) (yAdd A B).1.e) (B0 : Below w.heap.size w v3) (u7 u8 u11 u12 u13 u14 u15 u16 u17 u18 u19 u20 u21 u22 u23 u24 u25 u26 u27 u28 u29 u30 u31 u32 u33 u34 u35 u36 u37 u38 u39 u40 u41 u42 u43 u44 u45 u46 u47 u48 u49 u50 u51 u52 u53 u54 u55 u56 u57 u58 u59 u60 u61 u62 u63 u64 u65 u66 u67 u68 u69 u70 u71 u72 u73 u74 u75 u76 u77 u78 u79 u80 u81 u82 u83 u84 u85 u86 u87 u88 u89 u90 u91 u92 u93 u94 u95 u96 u97 u98 u99 u100 u101 u102 u103 u104 u105 u106 u107 u108 u109 u110 u111 u112 u113 u114 u115 u116 u117 u118 u119 u120 u121 u122 u123 u124 u125 u126 u127 u128 u129 u130 u131 u132 u133 u134 u135 u136 u137 u138 u139 u140 u141 u142 u143 u144 u145 u146 u147 u148 u149 u150 u151 u152 u153 u154 u155 u156 u157 u158 u159 u160 u161 u162 u163 u164 u165 u166 u167 u168 u169 u170 u171 u172 u173 u174 u175 u176 u177 u178 u179 u180 u181 u182 u183 u184 u185 u186 u187 u188 u189 u190 u191 u192 u193 u194 u195 u196 u197 u198 u199 u200 u201 u202 u203 u204 u205 u206 u207 u208 u209 u210 u211 u212 u213 u214 u215 u216 u217 u218 u219 u220 u221 u222 u223 u224 u225 u226 u227 u228 u229 u230 : Value) :
    Code.wp Tryd.prog (tailAt 21 (Tryd.f16.body.getD .skip)) (bodyPost Tryd.prog Tryd.f16 fun r w' => r = .returned (.bool true) ∧ Below w.heap.size w w') ⟨#[.agg #[.bool A.n, .string (bstr A.x), .int .i64 A.e], .agg #[.bool B.n, .string (bstr B.x), .int .i64 B.e], .agg #[.bool C.n, .string (bstr C.x), .int .i64 C.e], .int .i64 f, .pointer (some ⟨w.heap.size, 0, none⟩), .pointer (some ⟨w.heap.size + 1, 0, none⟩), .pointer (some ⟨w.heap.size + 1 + 1, 0, none⟩), u7, u8, .pointer (some ⟨S, 0, none⟩), .int .i64 (yAdd A B).2, u11, u12, u13, u14, u15, u16, u17, u18, u19, u20, u21, u22, u23, u24, u25, u26, u27, u28, u29, u30, u31, u32, u33, u34, u35, u36, u37, u38, u39, u40, u41, u42, u43, u44, u45, u46, u47, u48, u49, u50, u51, u52, u53, u54, u55, u56, u57, u58, u59, u60, u61, u62, u63, u64, u65, u66, u67, u68, u69, u70, u71, u72, u73, u74, u75, u76, u77, u78, u79, u80, u81, u82, u83, u84, u85, u86, u87, u88, u89, u90, u91, u92, u93, u94, u95, u96, u97, u98, u99, u100, u101, u102, u103, u104, u105, u106, u107, u108, u109, u110, u111, u112, u113, u114, u115, u116, u117, u118, u119, u120, u121, u122, u123, u124, u125, u126, u127, u128, u129, u130, u131, u132, u133, u134, u135, u136, u137, u138, u139, u140, u141, u142, u143, u144, u145, u146, u147, u148, u149, u150, u151, u152, u153, u154, u155, u156, u157, u158, u159, u160, u161, u162, u163, u164, u165, u166, u167, u168, u169, u170, u171, u172, u173, u174, u175, u176, u177, u178, u179, u180, u181, u182, u183, u184, u185, u186, u187, u188, u189, u190, u191, u192, u193, u194, u195, u196, u197, u198, u199, u200, u201, u202, u203, u204, u205, u206, u207, u208, u209, u210, u211, u212, u213, u214, u215, u216, u217, u218, u219, u220, u221, u222, u223, u224, u225, u226, u227, u228, u229, u230], []⟩ v3 := by
  have hSo := yAdd_ok A B
  have h8 := fun W hW => cmul (yAdd A B).1 C W hSo hC hW
  have h9 := fun W hW => cmul A C W hA hC hW
  have h10 := fun W hW => cmul B C W hB hC hW
  have h11 := fun W hW => cadd (yMul A C).1 (yMul B C).1 W (yMul_ok A C) (yMul_ok B C) hW
  have HXz := fun p1 p2 p3 p4 p5 => yDistr hA hB hC p1 p2 p3 p4 p5
  have h12 := fun W hW => cfloor A f W hA hW
  have h13 := fun W hW => cof 1 f W hW (by omega) (by omega) hf1 hf2
  have hLo := yFloor_ok hA f
  have h14 := fun W hW => cadd (yFloor A f).1 (mkD 1 f) W hLo (mkD_ok 1 f) hW
  have h15 := fun W => ccmp (yFloor A f).1 A W hLo hA
  have h16 := fun W => ccmp (yAdd (yFloor A f).1 (mkD 1 f)).1 A W (yAdd_ok _ _) hA
  have HLz := fun p1 p2 => yFloor_end (f := f) hA p1 p2
  have hLn : (yFloor A f).1 = DY.zero ∨ f ≤ (yFloor A f).1.e → ((yFloor A f).1.n = false ∧ (yFloor A f).1.x = 0 ∧ (yFloor A f).1.e = 0) ∨ (f ≤ (yFloor A f).1.e ∧ (bstr (yFloor A f).1.x).toList.isEmpty = false ∧ (bstr (yFloor A f).1.x).toList ≠ []) := fun h => by
    by_cases h0 : (yFloor A f).1.x = 0
    · left
      have hk : okD (yFloor A f).1.n (yFloor A f).1.x (yFloor A f).1.e := hLo
      rw [h0] at hk
      obtain ⟨k1, k2⟩ := okD.nil hk
      exact ⟨k1, h0, k2⟩
    · right
      rcases h with h | h
      · exact absurd (by rw [h]; rfl) h0
      · exact ⟨h, bstr_ne h0⟩
  dsimp only at h13
  obtain ⟨RS, hRS⟩ : ∃ RS, RS = yAdd A B := ⟨_, rfl⟩
  rw [← hRS] at hSo h8 HXz Ds
  rw [← hRS]
  obtain ⟨RX, hRX⟩ : ∃ RX, RX = yMul RS.1 C := ⟨_, rfl⟩
  obtain ⟨RU, hRU⟩ : ∃ RU, RU = yMul A C := ⟨_, rfl⟩
  obtain ⟨RV, hRV⟩ : ∃ RV, RV = yMul B C := ⟨_, rfl⟩
  rw [← hRX] at h8 HXz
  rw [← hRU] at h9 h11 HXz
  rw [← hRV] at h10 h11 HXz
  obtain ⟨RY, hRY⟩ : ∃ RY, RY = yAdd RU.1 RV.1 := ⟨_, rfl⟩
  rw [← hRY] at h11 HXz
  obtain ⟨RL, hRL⟩ : ∃ RL, RL = yFloor A f := ⟨_, rfl⟩
  obtain ⟨RO, hRO⟩ : ∃ RO, RO = mkD 1 f := ⟨_, rfl⟩
  rw [← hRL] at h12 hLo h14 h15 h16 HLz hLn
  rw [← hRO] at h13 h14 h16 HLz
  obtain ⟨RN, hRN⟩ : ∃ RN, RN = yAdd RL.1 RO := ⟨_, rfl⟩
  rw [← hRN] at h14 h16 HLz
  have HX : Hid (oks [RS.2, RX.2, RU.2, RV.2, RY.2] = true → RX.1.n = RY.1.n ∧ bstr RX.1.x = bstr RY.1.x ∧ RX.1.e = RY.1.e) := Lib.hid fun h => by
    simp only [oks, List.all_cons, List.all_nil, Bool.and_eq_true, beq_iff_eq, Bool.and_true] at h
    obtain ⟨p1, p2, p3, p4, p5⟩ := h
    have := HXz p1 p2 p3 p4 p5
    rw [this]; exact ⟨rfl, rfl, rfl⟩
  obtain ⟨eo, heo⟩ : ∃ eo, eo = mkR 1 f := ⟨_, rfl⟩
  rw [← heo] at h13
  have HL : Hid (oks [RL.2, eo, RN.2] = true → yCmp RL.1 A ≤ 0 ∧ 0 < yCmp RN.1 A ∧ ((RL.1.n = false ∧ bstr RL.1.x = { data := #[] } ∧ RL.1.e = 0) ∨ (f ≤ RL.1.e ∧ (bstr RL.1.x).toList.isEmpty = false ∧ (bstr RL.1.x).toList ≠ []))) := Lib.hid fun h => by
    simp only [oks, List.all_cons, List.all_nil, Bool.and_eq_true, beq_iff_eq, Bool.and_true] at h
    obtain ⟨p1, p2, p3⟩ := h
    obtain ⟨k1, k2, k3⟩ := HLz p1 p3
    refine ⟨k1, k2, ?_⟩
    rcases hLn k3 with ⟨z1, z2, z3⟩ | z
    · exact .inl ⟨z1, by rw [z2, bstr_zero], z3⟩
    · exact .inr z
  have hall5 := fun Bk W h => l3all_5_at RS.2 RX.2 RU.2 RV.2 RY.2 Bk W h
  have hallE := fun Bk W h => l3all_3_at RL.2 eo RN.2 Bk W h
  clear HXz HLz hLn hSo hLo hRS hRX hRU hRV hRY hRL hRO hRN heo hA hB hC hf1 hf2
  generalize yCmp RL.1 A = M1 at *
  generalize yCmp RN.1 A = M2 at *
  obtain ⟨an, xa, ae⟩ := A
  obtain ⟨bn, xb, be⟩ := B
  obtain ⟨cn, xc, ce⟩ := C
  obtain ⟨⟨sn, xs, se⟩, es⟩ := RS
  obtain ⟨⟨xn, xx, xe⟩, e1⟩ := RX
  obtain ⟨⟨un, xu, ue⟩, e2⟩ := RU
  obtain ⟨⟨vn, xv, ve⟩, e3⟩ := RV
  obtain ⟨⟨yn, xy, ye⟩, e4⟩ := RY
  obtain ⟨⟨ln, xl, le⟩, ef⟩ := RL
  obtain ⟨on, xo, oe⟩ := RO
  obtain ⟨⟨nn, xn9, ne⟩, en⟩ := RN
  dsimp only at *
  generalize bstr xa = sa at *
  generalize bstr xb = sb at *
  generalize bstr xc = sc at *
  generalize bstr xs = ss at *
  generalize bstr xx = sx at *
  generalize bstr xu = su at *
  generalize bstr xv = sv at *
  generalize bstr xy = sy at *
  generalize bstr xl = sl at *
  generalize bstr xo = so at *
  generalize bstr xn9 = sn9 at *
  have lDa := Da.lt
  have lDb := Db.lt
  have lDc := Dc.lt
  have lDs := Ds.lt
  conv => arg 2; whnf
  obtain ⟨xDs0, xDs1, xDs2, -, -, -⟩ := id Ds
  obtain ⟨xDc0, xDc1, xDc2, -, -, -⟩ := id Dc
  go_wp2_with fail
  (with_reducible refine (h8 _ (hT.below B0)).mono ?_)
  rintro r wf1 ⟨rfl, hb1⟩
  clear xDs0 xDs1 xDs2
  clear xDc0 xDc1 xDc2
  clear lDa lDb lDc lDs
  replace Da := Da.keep hb1
  replace Db := Db.keep hb1
  replace Dc := Dc.keep hb1
  replace Ds := Ds.keep hb1
  replace B0 := B0.trans (hb1.mono B0.size)
  clear hb1
  have lDa := Da.lt
  have lDb := Db.lt
  have lDc := Dc.lt
  have lDs := Ds.lt
  replace Da := Da.allocd (.cells #[.bool xn, .string sx, .int .i64 xe] 24)
  replace Db := Db.allocd (.cells #[.bool xn, .string sx, .int .i64 xe] 24)
  replace Dc := Dc.allocd (.cells #[.bool xn, .string sx, .int .i64 xe] 24)
  replace Ds := Ds.allocd (.cells #[.bool xn, .string sx, .int .i64 xe] 24)
  have Dx := DyAt.put wf1 xn sx xe
  replace B0 := B0.alloc B0.size (.cells #[.bool xn, .string sx, .int .i64 xe] 24)
  have lDx := Dx.lt
  obtain ⟨xDa0, xDa1, xDa2, -, -, -⟩ := id Da
  obtain ⟨xDc0, xDc1, xDc2, -, -, -⟩ := id Dc
  go_wp2_with fail
  (with_reducible refine (h9 _ (hT.below B0)).mono ?_)
  rintro r wf2 ⟨rfl, hb2⟩
  clear xDa0 xDa1 xDa2
  clear xDc0 xDc1 xDc2
  clear lDa lDb lDc lDs lDx
  replace Da := Da.keep hb2
  replace Db := Db.keep hb2
  replace Dc := Dc.keep hb2
  replace Ds := Ds.keep hb2
  replace Dx := Dx.keep hb2
  replace B0 := B0.trans (hb2.mono B0.size)
  clear hb2
  have lDa := Da.lt
  have lDb := Db.lt
  have lDc := Dc.lt
  have lDs := Ds.lt
  have lDx := Dx.lt
  replace Da := Da.allocd (.cells #[.bool un, .string su, .int .i64 ue] 24)
  replace Db := Db.allocd (.cells #[.bool un, .string su, .int .i64 ue] 24)
  replace Dc := Dc.allocd (.cells #[.bool un, .string su, .int .i64 ue] 24)
  replace Ds := Ds.allocd (.cells #[.bool un, .string su, .int .i64 ue] 24)
  replace Dx := Dx.allocd (.cells #[.bool un, .string su, .int .i64 ue] 24)
  have Du := DyAt.put wf2 un su ue
  replace B0 := B0.alloc B0.size (.cells #[.bool un, .string su, .int .i64 ue] 24)
  have lDu := Du.lt
  obtain ⟨xDb0, xDb1, xDb2, -, -, -⟩ := id Db
  obtain ⟨xDc0, xDc1, xDc2, -, -, -⟩ := id Dc
  go_wp2_with fail
  (with_reducible refine (h10 _ (hT.below B0)).mono ?_)
  rintro r wf3 ⟨rfl, hb3⟩
  clear xDb0 xDb1 xDb2
  clear xDc0 xDc1 xDc2
  clear lDa lDb lDc lDs lDx lDu
  replace Da := Da.keep hb3
  replace Db := Db.keep hb3
  replace Dc := Dc.keep hb3
  replace Ds := Ds.keep hb3
  replace Dx := Dx.keep hb3
  replace Du := Du.keep hb3
  replace B0 := B0.trans (hb3.mono B0.size)
  clear hb3
  have lDa := Da.lt
  have lDb := Db.lt
  have lDc := Dc.lt
  have lDs := Ds.lt
  have lDx := Dx.lt
  have lDu := Du.lt
  replace Da := Da.allocd (.cells #[.bool vn, .string sv, .int .i64 ve] 24)
  replace Db := Db.allocd (.cells #[.bool vn, .string sv, .int .i64 ve] 24)
  replace Dc := Dc.allocd (.cells #[.bool vn, .string sv, .int .i64 ve] 24)
  replace Ds := Ds.allocd (.cells #[.bool vn, .string sv, .int .i64 ve] 24)
  replace Dx := Dx.allocd (.cells #[.bool vn, .string sv, .int .i64 ve] 24)
  replace Du := Du.allocd (.cells #[.bool vn, .string sv, .int .i64 ve] 24)
  have Dv := DyAt.put wf3 vn sv ve
  replace B0 := B0.alloc B0.size (.cells #[.bool vn, .string sv, .int .i64 ve] 24)
  have lDv := Dv.lt
  obtain ⟨xDu0, xDu1, xDu2, -, -, -⟩ := id Du
  obtain ⟨xDv0, xDv1, xDv2, -, -, -⟩ := id Dv
  go_wp2_with fail
  (with_reducible refine (h11 _ (hT.below B0)).mono ?_)
  rintro r wf4 ⟨rfl, hb4⟩
  clear xDu0 xDu1 xDu2
  clear xDv0 xDv1 xDv2
  clear lDa lDb lDc lDs lDx lDu lDv
  replace Da := Da.keep hb4
  replace Db := Db.keep hb4
  replace Dc := Dc.keep hb4
  replace Ds := Ds.keep hb4
  replace Dx := Dx.keep hb4
  replace Du := Du.keep hb4
  replace Dv := Dv.keep hb4
  replace B0 := B0.trans (hb4.mono B0.size)
  clear hb4
  have lDa := Da.lt
  have lDb := Db.lt
  have lDc := Dc.lt
  have lDs := Ds.lt
  have lDx := Dx.lt
  have lDu := Du.lt
  have lDv := Dv.lt
  replace Da := Da.allocd (.cells #[.bool yn, .string sy, .int .i64 ye] 24)
  replace Db := Db.allocd (.cells #[.bool yn, .string sy, .int .i64 ye] 24)
  replace Dc := Dc.allocd (.cells #[.bool yn, .string sy, .int .i64 ye] 24)
  replace Ds := Ds.allocd (.cells #[.bool yn, .string sy, .int .i64 ye] 24)
  replace Dx := Dx.allocd (.cells #[.bool yn, .string sy, .int .i64 ye] 24)
  replace Du := Du.allocd (.cells #[.bool yn, .string sy, .int .i64 ye] 24)
  replace Dv := Dv.allocd (.cells #[.bool yn, .string sy, .int .i64 ye] 24)
  have Dy := DyAt.put wf4 yn sy ye
  replace B0 := B0.alloc B0.size (.cells #[.bool yn, .string sy, .int .i64 ye] 24)
  have lDy := Dy.lt
  go_upto_region 25 with fail
  go_cut [178] (fun s178 wx => s178 = .bool false ∧ RingF w wx S an sa ae bn sb be cn sc ce sn ss se)
  case first =>
    clear Du Dv lDu lDv
    cases hO : oks [es, e1, e2, e3, e4]
    · rw [hO] at hall5
      clear hO
      obtain ⟨xDx0, xDx1, xDx2, -, -, -⟩ := id Dx
      obtain ⟨xDy0, xDy1, xDy2, -, -, -⟩ := id Dy
      go_wp2_with fail
      (with_reducible refine (hall5 _ _ (by simp)).mono ?_)
      rintro r wg1 ⟨rfl, hc1⟩
      clear xDx0 xDx1 xDx2
      clear xDy0 xDy1 xDy2
      clear lDa lDb lDc lDs lDx lDy
      replace Da := Da.keep hc1
      replace Db := Db.keep hc1
      replace Dc := Dc.keep hc1
      replace Ds := Ds.keep hc1
      replace Dx := Dx.keep hc1
      replace Dy := Dy.keep hc1
      replace B0 := B0.trans (hc1.mono B0.size)
      clear hc1
      have lDa := Da.lt
      have lDb := Db.lt
      have lDc := Dc.lt
      have lDs := Ds.lt
      have lDx := Dx.lt
      have lDy := Dy.lt
      go_wp2_with fail
      go_meet
      exact ⟨by first | rfl | simp, Da, Db, Dc, Ds, B0⟩
    · obtain ⟨q1, q2, q3⟩ := HX.out hO
      rw [hO] at hall5
      subst q1
      subst q2
      subst q3
      clear hO
      obtain ⟨xDx0, xDx1, xDx2, -, -, -⟩ := id Dx
      obtain ⟨xDy0, xDy1, xDy2, -, -, -⟩ := id Dy
      go_wp2_with fail
      (with_reducible refine (hall5 _ _ (by simp)).mono ?_)
      rintro r wg1 ⟨rfl, hc1⟩
      clear xDx0 xDx1 xDx2
      clear xDy0 xDy1 xDy2
      clear lDa lDb lDc lDs lDx lDy
      replace Da := Da.keep hc1
      replace Db := Db.keep hc1
      replace Dc := Dc.keep hc1
      replace Ds := Ds.keep hc1
      replace Dx := Dx.keep hc1
      replace Dy := Dy.keep hc1
      replace B0 := B0.trans (hc1.mono B0.size)
      clear hc1
      have lDa := Da.lt
      have lDb := Db.lt
      have lDc := Dc.lt
      have lDs := Ds.lt
      have lDx := Dx.lt
      have lDy := Dy.lt
      obtain ⟨xDx0, xDx1, xDx2, -, -, -⟩ := id Dx
      obtain ⟨xDy0, xDy1, xDy2, -, -, -⟩ := id Dy
      go_wp2_with fail
      go_meet
      exact ⟨by first | rfl | simp, Da, Db, Dc, Ds, B0⟩
  case rest =>
    clear Da Db Dc Ds Dx Du Dv Dy B0 lDa lDb lDc lDs lDx lDu lDv lDy
    obtain ⟨rfl, Da, Db, Dc, Ds, B0⟩ := hcut
    have lDa := Da.lt
    clear Db Dc Ds
    generalize wc = v4 at *
    obtain ⟨xDa0, xDa1, xDa2, -, -, -⟩ := id Da
    go_wp2_with fail
    (with_reducible refine (h12 _ (hT.below B0)).mono ?_)
    rintro r wh1 ⟨rfl, hb1⟩
    clear xDa0 xDa1 xDa2
    clear lDa
    replace Da := Da.keep hb1
    replace B0 := B0.trans (hb1.mono B0.size)
    clear hb1
    have lDa := Da.lt
    replace Da := Da.allocd (.cells #[.bool ln, .string sl, .int .i64 le] 24)
    have Dl := DyAt.put wh1 ln sl le
    replace B0 := B0.alloc B0.size (.cells #[.bool ln, .string sl, .int .i64 le] 24)
    have lDl := Dl.lt
    go_wp2_with fail
    (with_reducible refine (h13 _ (hT.below B0)).mono ?_)
    rintro r wh2 ⟨rfl, hb2⟩
    clear lDa lDl
    replace Da := Da.keep hb2
    replace Dl := Dl.keep hb2
    replace B0 := B0.trans (hb2.mono B0.size)
    clear hb2
    have lDa := Da.lt
    have lDl := Dl.lt
    replace Da := Da.allocd (.cells #[.bool on, .string so, .int .i64 oe] 24)
    replace Dl := Dl.allocd (.cells #[.bool on, .string so, .int .i64 oe] 24)
    have Do := DyAt.put wh2 on so oe
    replace B0 := B0.alloc B0.size (.cells #[.bool on, .string so, .int .i64 oe] 24)
    have lDo := Do.lt
    obtain ⟨xDl0, xDl1, xDl2, -, -, -⟩ := id Dl
    obtain ⟨xDo0, xDo1, xDo2, -, -, -⟩ := id Do
    go_wp2_with fail
    (with_reducible refine (h14 _ (hT.below B0)).mono ?_)
    rintro r wh3 ⟨rfl, hb3⟩
    clear xDl0 xDl1 xDl2
    clear xDo0 xDo1 xDo2
    clear lDa lDl lDo
    replace Da := Da.keep hb3
    replace Dl := Dl.keep hb3
    replace Do := Do.keep hb3
    replace B0 := B0.trans (hb3.mono B0.size)
    clear hb3
    have lDa := Da.lt
    have lDl := Dl.lt
    have lDo := Do.lt
    replace Da := Da.allocd (.cells #[.bool nn, .string sn9, .int .i64 ne] 24)
    replace Dl := Dl.allocd (.cells #[.bool nn, .string sn9, .int .i64 ne] 24)
    replace Do := Do.allocd (.cells #[.bool nn, .string sn9, .int .i64 ne] 24)
    have Dn := DyAt.put wh3 nn sn9 ne
    replace B0 := B0.alloc B0.size (.cells #[.bool nn, .string sn9, .int .i64 ne] 24)
    have lDn := Dn.lt
    clear Do lDo
    cases hO : oks [ef, eo, en]
    · rw [hO] at hallE
      clear hO
      go_wp2_with fail
      (with_reducible refine (hallE _ _ (by simp)).mono ?_)
      rintro r wi1 ⟨rfl, hc1⟩
      clear lDa lDl lDn
      replace Da := Da.keep hc1
      replace Dl := Dl.keep hc1
      replace Dn := Dn.keep hc1
      replace B0 := B0.trans (hc1.mono B0.size)
      clear hc1
      have lDa := Da.lt
      have lDl := Dl.lt
      have lDn := Dn.lt
      go_wp2
      go_ret
      exact ⟨rfl, B0⟩
    · obtain ⟨q1, q2, q3⟩ := HL.out hO
      rw [hO] at hallE
      clear hO
      have m1 : decide (M1 ≤ 0) = true := decide_eq_true q1
      have m2 : decide (0 < M2) = true := decide_eq_true q2
      rcases q3 with ⟨z1, z2, z3⟩ | ⟨z1, z2, z3⟩
      · subst z1
        subst z2
        subst z3
        clear q1 q2
        go_wp2_with fail
        (with_reducible refine (hallE _ _ (by simp)).mono ?_)
        rintro r wi1 ⟨rfl, hc1⟩
        clear lDa lDl lDn
        replace Da := Da.keep hc1
        replace Dl := Dl.keep hc1
        replace Dn := Dn.keep hc1
        replace B0 := B0.trans (hc1.mono B0.size)
        clear hc1
        have lDa := Da.lt
        have lDl := Dl.lt
        have lDn := Dn.lt
        obtain ⟨xDl0, xDl1, xDl2, -, -, -⟩ := id Dl
        obtain ⟨xDa0, xDa1, xDa2, -, -, -⟩ := id Da
        go_wp2_with fail
        (with_reducible refine (h15 _).mono ?_)
        rintro r wj1 ⟨rfl, hb1⟩
        clear xDl0 xDl1 xDl2
        clear xDa0 xDa1 xDa2
        clear lDa lDl lDn
        replace Da := Da.keep hb1
        replace Dl := Dl.keep hb1
        replace Dn := Dn.keep hb1
        replace B0 := B0.trans (hb1.mono B0.size)
        clear hb1
        have lDa := Da.lt
        have lDl := Dl.lt
        have lDn := Dn.lt
        obtain ⟨xDn0, xDn1, xDn2, -, -, -⟩ := id Dn
        obtain ⟨xDa0, xDa1, xDa2, -, -, -⟩ := id Da
        go_wp2_with fail
        (with_reducible refine (h16 _).mono ?_)
        rintro r wj2 ⟨rfl, hb2⟩
        clear xDn0 xDn1 xDn2
        clear xDa0 xDa1 xDa2
        clear lDa lDl lDn
        replace Da := Da.keep hb2
        replace Dl := Dl.keep hb2
        replace Dn := Dn.keep hb2
        replace B0 := B0.trans (hb2.mono B0.size)
        clear hb2
        have lDa := Da.lt
        have lDl := Dl.lt
        have lDn := Dn.lt
        obtain ⟨xDl0, xDl1, xDl2, -, -, -⟩ := id Dl
        go_wp2
        go_ret
        exact ⟨by first | rfl | simp, B0⟩
      · have m3 : decide (f ≤ le) = true := decide_eq_true z1
        clear q1 q2
        go_wp2_with fail
        (with_reducible refine (hallE _ _ (by simp)).mono ?_)
        rintro r wi1 ⟨rfl, hc1⟩
        clear lDa lDl lDn
        replace Da := Da.keep hc1
        replace Dl := Dl.keep hc1
        replace Dn := Dn.keep hc1
        replace B0 := B0.trans (hc1.mono B0.size)
        clear hc1
        have lDa := Da.lt
        have lDl := Dl.lt
        have lDn := Dn.lt
        obtain ⟨xDl0, xDl1, xDl2, -, -, -⟩ := id Dl
        obtain ⟨xDa0, xDa1, xDa2, -, -, -⟩ := id Da
        go_wp2_with fail
        (with_reducible refine (h15 _).mono ?_)
        rintro r wj1 ⟨rfl, hb1⟩
        clear xDl0 xDl1 xDl2
        clear xDa0 xDa1 xDa2
        clear lDa lDl lDn
        replace Da := Da.keep hb1
        replace Dl := Dl.keep hb1
        replace Dn := Dn.keep hb1
        replace B0 := B0.trans (hb1.mono B0.size)
        clear hb1
        have lDa := Da.lt
        have lDl := Dl.lt
        have lDn := Dn.lt
        obtain ⟨xDn0, xDn1, xDn2, -, -, -⟩ := id Dn
        obtain ⟨xDa0, xDa1, xDa2, -, -, -⟩ := id Da
        go_wp2_with fail
        (with_reducible refine (h16 _).mono ?_)
        rintro r wj2 ⟨rfl, hb2⟩
        clear xDn0 xDn1 xDn2
        clear xDa0 xDa1 xDa2
        clear lDa lDl lDn
        replace Da := Da.keep hb2
        replace Dl := Dl.keep hb2
        replace Dn := Dn.keep hb2
        replace B0 := B0.trans (hb2.mono B0.size)
        clear hb2
        have lDa := Da.lt
        have lDl := Dl.lt
        have lDn := Dn.lt
        obtain ⟨xDl0, xDl1, xDl2, -, -, -⟩ := id Dl
        go_wp2
        go_ret
        exact ⟨by first | rfl | simp, B0⟩

set_option maxRecDepth 1000000 in
set_option maxHeartbeats 16000000 in
theorem ring_rest1 (A B C : DY) (f : Int) (w : World) (hA : A.ok) (hB : B.ok) (hC : C.ok) (hf1 : -9223372036854775808 ≤ f) (hf2 : f ≤ 9223372036854775807) (hT : Tab w) (v1 : World) (S : Nat) (Da : DyAt v1 w.heap.size A.n (bstr A.x) A.e) (Db : DyAt v1 (w.heap.size + 1) B.n (bstr B.x) B.e) (Dc : DyAt v1 (w.heap.size + 1 + 1) C.n (bstr C.x) C.e) (Ds : DyAt v1 S (yAdd A B).1.n (bstr (yAdd A B).1.x) (yAdd A B).1.e) (B0 : Below w.heap.size w v1) (u7 u8 u11 u12 u13 u14 u15 u16 u17 u18 u19 u20 u21 u22 u23 u24 u25 u26 u27 u28 u29 u30 u31 u32 u33 u34 u35 u36 u37 u38 u39 u40 u41 u42 u43 u44 u45 u46 u47 u48 u49 u50 u51 u52 u53 u54 u55 u56 u57 u58 u59 u60 u61 u62 u63 u64 u65 u66 u67 u68 u69 u70 u71 u72 u73 u74 u75 u76 u77 u78 u79 u80 u81 u82 u83 u84 u85 u86 u87 u88 u89 u90 u91 u92 u93 u94 u95 u96 u97 u98 u99 u100 u101 u102 u103 u104 u105 u106 u107 u108 u109 u110 u111 u112 u113 u114 u115 u116 u117 u118 u119 u120 u121 u122 u123 u124 u125 u126 u127 u128 u129 u130 u131 u132 u133 u134 u135 u136 u137 u138 u139 u140 u141 u142 u143 u144 u145 u146 u147 u148 u149 u150 u151 u152 u153 u154 u155 u156 u157 u158 u159 u160 u161 u162 u163 u164 u165 u166 u167 u168 u169 u170 u171 u172 u173 u174 u175 u176 u177 u178 u179 u180 u181 u182 u183 u184 u185 u186 u187 u188 u189 u190 u191 u192 u193 u194 u195 u196 u197 u198 u199 u200 u201 u202 u203 u204 u205 u206 u207 u208 u209 u210 u211 u212 u213 u214 u215 u216 u217 u218 u219 u220 u221 u222 u223 u224 u225 u226 u227 u228 u229 u230 : Value) :
    Code.wp Tryd.prog (tailAt 13 (Tryd.f16.body.getD .skip)) (bodyPost Tryd.prog Tryd.f16 fun r w' => r = .returned (.bool true) ∧ Below w.heap.size w w') ⟨#[.agg #[.bool A.n, .string (bstr A.x), .int .i64 A.e], .agg #[.bool B.n, .string (bstr B.x), .int .i64 B.e], .agg #[.bool C.n, .string (bstr C.x), .int .i64 C.e], .int .i64 f, .pointer (some ⟨w.heap.size, 0, none⟩), .pointer (some ⟨w.heap.size + 1, 0, none⟩), .pointer (some ⟨w.heap.size + 1 + 1, 0, none⟩), u7, u8, .pointer (some ⟨S, 0, none⟩), .int .i64 (yAdd A B).2, u11, u12, u13, u14, u15, u16, u17, u18, u19, u20, u21, u22, u23, u24, u25, u26, u27, u28, u29, u30, u31, u32, u33, u34, u35, u36, u37, u38, u39, u40, u41, u42, u43, u44, u45, u46, u47, u48, u49, u50, u51, u52, u53, u54, u55, u56, u57, u58, u59, u60, u61, u62, u63, u64, u65, u66, u67, u68, u69, u70, u71, u72, u73, u74, u75, u76, u77, u78, u79, u80, u81, u82, u83, u84, u85, u86, u87, u88, u89, u90, u91, u92, u93, u94, u95, u96, u97, u98, u99, u100, u101, u102, u103, u104, u105, u106, u107, u108, u109, u110, u111, u112, u113, u114, u115, u116, u117, u118, u119, u120, u121, u122, u123, u124, u125, u126, u127, u128, u129, u130, u131, u132, u133, u134, u135, u136, u137, u138, u139, u140, u141, u142, u143, u144, u145, u146, u147, u148, u149, u150, u151, u152, u153, u154, u155, u156, u157, u158, u159, u160, u161, u162, u163, u164, u165, u166, u167, u168, u169, u170, u171, u172, u173, u174, u175, u176, u177, u178, u179, u180, u181, u182, u183, u184, u185, u186, u187, u188, u189, u190, u191, u192, u193, u194, u195, u196, u197, u198, u199, u200, u201, u202, u203, u204, u205, u206, u207, u208, u209, u210, u211, u212, u213, u214, u215, u216, u217, u218, u219, u220, u221, u222, u223, u224, u225, u226, u227, u228, u229, u230], []⟩ v1 := by
  have hSo := yAdd_ok A B
  have H5z : (yAdd A B).2 = 0 → ∀ W, Tab W → Calls Tryd.prog 68 #[.agg #[.bool (yAdd A B).1.n, .string (bstr (yAdd A B).1.x), .int .i64 (yAdd A B).1.e], .agg #[.bool B.n, .string (bstr B.x), .int .i64 B.e]] W fun r w' => r = .returned (.tuple #[.agg #[.bool A.n, .string (bstr A.x), .int .i64 A.e], .int .i64 0]) ∧ Below W.heap.size W w' := fun h W hW => by
    have h9 := csub (yAdd A B).1 B W hSo hB hW
    rw [ySub_back hA hB h] at h9
    exact h9
  have h6 := fun W hW => csub A B W hA hB hW
  have h7 := fun W => ccmp A B W hA hB
  have hsd := fun W => csign (ySub A B).1 W (ySub_ok A B)
  have HDz := fun h => ySub_sign hA hB h
  have HR := Lib.hid (ring_rest2 A B C f w hA hB hC hf1 hf2 hT)
  obtain ⟨RS, hRS⟩ : ∃ RS, RS = yAdd A B := ⟨_, rfl⟩
  obtain ⟨RD, hRD⟩ : ∃ RD, RD = ySub A B := ⟨_, rfl⟩
  rw [← hRS] at hSo H5z HR Ds
  rw [← hRS]
  rw [← hRD] at h6 hsd HDz
  have H5 := Lib.hid H5z
  have HD := Lib.hid HDz
  clear H5z HDz hSo hRS hRD hA hB hC hf1 hf2
  generalize yCmp A B = N at *
  generalize RD.1.z.sign = ZD at *
  obtain ⟨an, xa, ae⟩ := A
  obtain ⟨bn, xb, be⟩ := B
  obtain ⟨cn, xc, ce⟩ := C
  obtain ⟨⟨sn, xs, se⟩, es⟩ := RS
  obtain ⟨⟨dn, xd, de⟩, ed⟩ := RD
  dsimp only at *
  generalize bstr xa = sa at *
  generalize bstr xb = sb at *
  generalize bstr xc = sc at *
  generalize bstr xs = ss at *
  generalize bstr xd = sd at *
  have lDa := Da.lt
  have lDb := Db.lt
  have lDc := Dc.lt
  have lDs := Ds.lt
  conv => arg 2; whnf
  go_upto_if 105 with fail
  go_cut [17, 18] (fun s17 s18 wx => RingF w wx S an sa ae bn sb be cn sc ce sn ss se)
  case first =>
    by_cases hes : es = 0
    · have h5 := H5.out hes
      subst hes
      obtain ⟨xDs0, xDs1, xDs2, -, -, -⟩ := id Ds
      obtain ⟨xDb0, xDb1, xDb2, -, -, -⟩ := id Db
      go_wp2_with fail
      (with_reducible refine (h5 _ (hT.below B0)).mono ?_)
      rintro r wb1 ⟨rfl, hb1⟩
      clear xDs0 xDs1 xDs2
      clear xDb0 xDb1 xDb2
      clear lDa lDb lDc lDs
      replace Da := Da.keep hb1
      replace Db := Db.keep hb1
      replace Dc := Dc.keep hb1
      replace Ds := Ds.keep hb1
      replace B0 := B0.trans (hb1.mono B0.size)
      clear hb1
      have lDa := Da.lt
      have lDb := Db.lt
      have lDc := Dc.lt
      have lDs := Ds.lt
      replace Da := Da.allocd (.cells #[.bool an, .string sa, .int .i64 ae] 24)
      replace Db := Db.allocd (.cells #[.bool an, .string sa, .int .i64 ae] 24)
      replace Dc := Dc.allocd (.cells #[.bool an, .string sa, .int .i64 ae] 24)
      replace Ds := Ds.allocd (.cells #[.bool an, .string sa, .int .i64 ae] 24)
      have Dk := DyAt.put wb1 an sa ae
      replace B0 := B0.alloc B0.size (.cells #[.bool an, .string sa, .int .i64 ae] 24)
      have lDk := Dk.lt
      obtain ⟨xDk0, xDk1, xDk2, -, -, -⟩ := id Dk
      obtain ⟨xDa0, xDa1, xDa2, -, -, -⟩ := id Da
      go_wp2_with fail
      clear xDk0 xDk1 xDk2
      clear xDa0 xDa1 xDa2
      go_meet
      exact ⟨Da, Db, Dc, Ds, B0⟩
    · have hes4 : (es == 0) = false := by simpa using hes
      clear hes
      go_wp2_with fail
      go_meet
      exact ⟨Da, Db, Dc, Ds, B0⟩
  case rest =>
    clear Da Db Dc Ds B0 lDa lDb lDc lDs
    obtain ⟨Da, Db, Dc, Ds, B0⟩ := hcut
    have lDa := Da.lt
    have lDb := Db.lt
    have lDc := Dc.lt
    have lDs := Ds.lt
    generalize wc = v2 at *
    obtain ⟨xDa0, xDa1, xDa2, -, -, -⟩ := id Da
    obtain ⟨xDb0, xDb1, xDb2, -, -, -⟩ := id Db
    go_wp2_with fail
    (with_reducible refine (h6 _ (hT.below B0)).mono ?_)
    rintro r wd1 ⟨rfl, hb1⟩
    clear xDa0 xDa1 xDa2
    clear xDb0 xDb1 xDb2
    clear lDa lDb lDc lDs
    replace Da := Da.keep hb1
    replace Db := Db.keep hb1
    replace Dc := Dc.keep hb1
    replace Ds := Ds.keep hb1
    replace B0 := B0.trans (hb1.mono B0.size)
    clear hb1
    have lDa := Da.lt
    have lDb := Db.lt
    have lDc := Dc.lt
    have lDs := Ds.lt
    replace Da := Da.allocd (.cells #[.bool dn, .string sd, .int .i64 de] 24)
    replace Db := Db.allocd (.cells #[.bool dn, .string sd, .int .i64 de] 24)
    replace Dc := Dc.allocd (.cells #[.bool dn, .string sd, .int .i64 de] 24)
    replace Ds := Ds.allocd (.cells #[.bool dn, .string sd, .int .i64 de] 24)
    have Dd := DyAt.put wd1 dn sd de
    replace B0 := B0.alloc B0.size (.cells #[.bool dn, .string sd, .int .i64 de] 24)
    have lDd := Dd.lt
    obtain ⟨xDa0, xDa1, xDa2, -, -, -⟩ := id Da
    obtain ⟨xDb0, xDb1, xDb2, -, -, -⟩ := id Db
    go_wp2_with fail
    (with_reducible refine (h7 _).mono ?_)
    rintro r wd2 ⟨rfl, hb2⟩
    clear xDa0 xDa1 xDa2
    clear xDb0 xDb1 xDb2
    clear lDa lDb lDc lDs lDd
    replace Da := Da.keep hb2
    replace Db := Db.keep hb2
    replace Dc := Dc.keep hb2
    replace Ds := Ds.keep hb2
    replace Dd := Dd.keep hb2
    replace B0 := B0.trans (hb2.mono B0.size)
    clear hb2
    have lDa := Da.lt
    have lDb := Db.lt
    have lDc := Dc.lt
    have lDs := Ds.lt
    have lDd := Dd.lt
    go_upto_region 19 with fail
    go_cut [142] (fun s142 wx => s142 = .bool false ∧ RingF w wx S an sa ae bn sb be cn sc ce sn ss se)
    case first =>
      by_cases hed : ed = 0
      · have hN := HD.out hed
        subst hed
        subst hN
        obtain ⟨xDd0, xDd1, xDd2, -, -, -⟩ := id Dd
        go_wp2_with fail
        (with_reducible refine (hsd _).mono ?_)
        rintro r we1 ⟨rfl, hb1⟩
        clear xDd0 xDd1 xDd2
        clear lDa lDb lDc lDs lDd
        replace Da := Da.keep hb1
        replace Db := Db.keep hb1
        replace Dc := Dc.keep hb1
        replace Ds := Ds.keep hb1
        replace Dd := Dd.keep hb1
        replace B0 := B0.trans (hb1.mono B0.size)
        clear hb1
        have lDa := Da.lt
        have lDb := Db.lt
        have lDc := Dc.lt
        have lDs := Ds.lt
        have lDd := Dd.lt
        go_wp2_with fail
        go_meet
        exact ⟨by first | rfl | simp, Da, Db, Dc, Ds, B0⟩
      · have hed4 : (ed == 0) = false := by simpa using hed
        clear hed
        go_wp2_with fail
        go_meet
        exact ⟨by first | rfl | simp, Da, Db, Dc, Ds, B0⟩
    case rest =>
      clear Da Db Dc Ds Dd B0 lDa lDb lDc lDs lDd
      obtain ⟨rfl, Da, Db, Dc, Ds, B0⟩ := hcut
      go_step
      go_step
      go_step
      go_step
      go_step
      exact HR.out _ _ Da Db Dc Ds B0 _ _ _ _ _ _ _ _ _ _ _ _ _ _ _ _ _ _ _ _ _ _ _ _ _ _ _ _ _ _ _ _ _ _ _ _ _ _ _ _ _ _ _ _ _ _ _ _ _ _ _ _ _ _ _ _ _ _ _ _ _ _ _ _ _ _ _ _ _ _ _ _ _ _ _ _ _ _ _ _ _ _ _ _ _ _ _ _ _ _ _ _ _ _ _ _ _ _ _ _ _ _ _ _ _ _ _ _ _ _ _ _ _ _ _ _ _ _ _ _ _ _ _ _ _ _ _ _ _ _ _ _ _ _ _ _ _ _ _ _ _ _ _ _ _ _ _ _ _ _ _ _ _ _ _ _ _ _ _ _ _ _ _ _ _ _ _ _ _ _ _ _ _ _ _ _ _ _ _ _ _ _ _ _ _ _ _ _ _ _ _ _ _ _ _ _ _ _ _ _ _ _ _ _ _ _ _ _ _ _ _ _ _ _ _ _ _ _ _ _ _ _

set_option maxRecDepth 1000000 in
set_option maxHeartbeats 16000000 in
theorem ring_ok (A B C : DY) (f : Int) (w : World) (hA : A.ok) (hB : B.ok) (hC : C.ok) (hf1 : -9223372036854775808 ≤ f) (hf2 : f ≤ 9223372036854775807) (hT : Tab w) :
    Calls Tryd.prog 16 #[.agg #[.bool A.n, .string (bstr A.x), .int .i64 A.e], .agg #[.bool B.n, .string (bstr B.x), .int .i64 B.e], .agg #[.bool C.n, .string (bstr C.x), .int .i64 C.e], .int .i64 f] w fun r w' => r = .returned (.bool true) ∧ Below w.heap.size w w' := by
  have hca := fun W => ccheck A W hA
  have hcb := fun W => ccheck B W hB
  have hcc := fun W => ccheck C W hC
  have hall3 := fun W => l3all_3 0 0 0 W
  rw [show oks [0, 0, 0] = true from rfl] at hall3
  have h1 := fun W hW => cadd A B W hA hB hW
  have h2 := fun W hW => cadd B A W hB hA hW
  rw [yAdd_comm B A] at h2
  have h3 := fun W hW => cmul A B W hA hB hW
  have h4 := fun W hW => cmul B A W hB hA hW
  rw [yMul_comm B A] at h4
  have hPo := yMul_ok A B
  have hsp := fun W => csign (yMul A B).1 W hPo
  have hsa := fun W => csign A W hA
  have hsb := fun W => csign B W hB
  have HPz := fun h => yMul_zero hA hB h
  have HR := Lib.hid (ring_rest1 A B C f w hA hB hC hf1 hf2 hT)
  obtain ⟨RS, hRS⟩ : ∃ RS, RS = yAdd A B := ⟨_, rfl⟩
  obtain ⟨RP, hRP⟩ : ∃ RP, RP = yMul A B := ⟨_, rfl⟩
  rw [← hRS] at h1 h2 HR
  rw [← hRP] at h3 h4 hPo hsp HPz
  have HP := Lib.hid HPz
  clear HPz hPo hRS hRP hA hB hC hf1 hf2
  generalize RP.1.z.sign = ZP at *
  generalize A.z.sign = ZA at *
  generalize B.z.sign = ZB at *
  obtain ⟨an, xa, ae⟩ := A
  obtain ⟨bn, xb, be⟩ := B
  obtain ⟨cn, xc, ce⟩ := C
  obtain ⟨⟨sn, xs, se⟩, es⟩ := RS
  obtain ⟨⟨pn, xp, pe⟩, ep⟩ := RP
  dsimp only at *
  generalize bstr xa = sa at *
  generalize bstr xb = sb at *
  generalize bstr xc = sc at *
  generalize bstr xs = ss at *
  generalize bstr xp = sp at *
  have Da := DyAt.put w an sa ae
  have Dax := Da.allocd (.cells #[.bool bn, .string sb, .int .i64 be] 24)
  have Daxx := Dax.allocd (.cells #[.bool cn, .string sc, .int .i64 ce] 24)
  have Db := DyAt.put (w.alloc (.cells #[.bool an, .string sa, .int .i64 ae] 24)) bn sb be
  rw [show (w.alloc (.cells #[.bool an, .string sa, .int .i64 ae] 24)).heap.size = w.heap.size + 1 by simp] at Db
  have Dbx := Db.allocd (.cells #[.bool cn, .string sc, .int .i64 ce] 24)
  have Dc := DyAt.put ((w.alloc (.cells #[.bool an, .string sa, .int .i64 ae] 24)).alloc (.cells #[.bool bn, .string sb, .int .i64 be] 24)) cn sc ce
  rw [show ((w.alloc (.cells #[.bool an, .string sa, .int .i64 ae] 24)).alloc (.cells #[.bool bn, .string sb, .int .i64 be] 24)).heap.size = w.heap.size + 1 + 1 by simp] at Dc
  have B0 := (((Below.refl w.heap.size w).alloc (Nat.le_refl _) (.cells #[.bool an, .string sa, .int .i64 ae] 24)).alloc (by simp) (.cells #[.bool bn, .string sb, .int .i64 be] 24)).alloc (by simp; omega) (.cells #[.bool cn, .string sc, .int .i64 ce] 24)
  clear Da Dax Db
  have Da := Daxx
  have Db := Dbx
  clear Daxx Dbx
  go_enter Tryd.func16, Tryd.ntmps16
  go_wp2_with fail
  (with_reducible refine (awake_any _ (hT.below B0)).mono ?_)
  rintro r wq1 ⟨rfl, hb1⟩
  replace Da := Da.keep hb1
  replace Db := Db.keep hb1
  replace Dc := Dc.keep hb1
  replace B0 := B0.trans (hb1.mono B0.size)
  clear hb1
  have lDa := Da.lt
  have lDb := Db.lt
  have lDc := Dc.lt
  obtain ⟨xDa0, xDa1, xDa2, -, -, -⟩ := id Da
  obtain ⟨xDb0, xDb1, xDb2, -, -, -⟩ := id Db
  obtain ⟨xDc0, xDc1, xDc2, -, -, -⟩ := id Dc
  go_wp2_with fail
  refine wp_region_cut 6 (by kernel_rfl) (by kernel_rfl) ?_
  rintro W rfl
  simp only [List.take_succ_cons, List.take_zero, List.drop_succ_cons, List.drop_zero]
  have hHeld : (fun w' : World => w'.cell? ⟨w.heap.size, 0, none⟩ = some (.bool an) ∧ w'.cell? ⟨w.heap.size, 1, none⟩ = some (.string sa) ∧ w'.cell? ⟨w.heap.size, 2, none⟩ = some (.int .i64 ae) ∧ w'.cell? ⟨w.heap.size + 1, 0, none⟩ = some (.bool bn) ∧ w'.cell? ⟨w.heap.size + 1, 1, none⟩ = some (.string sb) ∧ w'.cell? ⟨w.heap.size + 1, 2, none⟩ = some (.int .i64 be) ∧ w'.cell? ⟨w.heap.size + 1 + 1, 0, none⟩ = some (.bool cn) ∧ w'.cell? ⟨w.heap.size + 1 + 1, 1, none⟩ = some (.string sc) ∧ w'.cell? ⟨w.heap.size + 1 + 1, 2, none⟩ = some (.int .i64 ce)) (wq1).drew := ⟨xDa0, xDa1, xDa2, xDb0, xDb1, xDb2, xDc0, xDc1, xDc2⟩
  refine wpAny_of_held (S := fun w' : World => w'.cell? ⟨w.heap.size, 0, none⟩ = some (.bool an) ∧ w'.cell? ⟨w.heap.size, 1, none⟩ = some (.string sa) ∧ w'.cell? ⟨w.heap.size, 2, none⟩ = some (.int .i64 ae) ∧ w'.cell? ⟨w.heap.size + 1, 0, none⟩ = some (.bool bn) ∧ w'.cell? ⟨w.heap.size + 1, 1, none⟩ = some (.string sb) ∧ w'.cell? ⟨w.heap.size + 1, 2, none⟩ = some (.int .i64 be) ∧ w'.cell? ⟨w.heap.size + 1 + 1, 0, none⟩ = some (.bool cn) ∧ w'.cell? ⟨w.heap.size + 1 + 1, 1, none⟩ = some (.string sc) ∧ w'.cell? ⟨w.heap.size + 1 + 1, 2, none⟩ = some (.int .i64 ce)) _ _ _ _ ?_
  replace B0 := B0.drew
  replace Da := Da.drew
  replace Db := Db.drew
  replace Dc := Dc.drew
  refine wpAnyH_take (i := 0) (v := _) (by first | (simp only [List.getElem?_toArray, List.getElem?_cons_zero]; rfl) | rfl) (by kernel_rfl) (by kernel_rfl) (by kernel_rfl) (by exact fun _ _ _ h => h) (Or.inl ⟨by rfl, by (intro w hSw; (try dsimp only at hSw); go_simp; try with_reducible rfl)⟩) (by assumption) ?_
  (try dsimp only [Act.put]); (try go_frame)
  refine wpAnyH_take (i := 2) (v := _) (by first | (simp only [List.getElem?_toArray, List.getElem?_cons_zero, List.getElem?_cons_succ]; rfl) | rfl) (by kernel_rfl) (by kernel_rfl) (by kernel_rfl) (by exact fun _ _ _ h => h) (Or.inl ⟨by rfl, by (intro w hSw; (try dsimp only at hSw); go_simp; try with_reducible rfl)⟩) (by assumption) ?_
  (try dsimp only [Act.put]); (try go_frame)
  refine wpAnyH_take (i := 4) (v := _) (by first | (simp only [List.getElem?_toArray, List.getElem?_cons_zero, List.getElem?_cons_succ]; rfl) | rfl) (by kernel_rfl) (by kernel_rfl) (by kernel_rfl) (by exact fun _ _ _ h => h) (Or.inl ⟨by rfl, by (intro w hSw; (try dsimp only at hSw); go_simp; try with_reducible rfl)⟩) (by assumption) ?_
  (try dsimp only [Act.put]); (try go_frame)
  refine wpAnyH_ready (rs := [1]) (by kernel_rfl) (by simp) ?_
  refine AllReadyH.cons rfl (fun K hK => ?_) AllReadyH.nil
  go_simp
  (with_reducible refine (hca _).mono ?_)
  rintro r wr0 ⟨rfl, hc0⟩
  clear xDa0 xDa1 xDa2
  clear xDb0 xDb1 xDb2
  clear xDc0 xDc1 xDc2
  clear lDa lDb lDc
  replace Da := Da.keep hc0
  replace Db := Db.keep hc0
  replace Dc := Dc.keep hc0
  replace B0 := B0.trans (hc0.mono B0.size)
  clear hc0
  have lDa := Da.lt
  have lDb := Db.lt
  have lDc := Dc.lt
  obtain ⟨xDa0, xDa1, xDa2, -, -, -⟩ := id Da
  obtain ⟨xDb0, xDb1, xDb2, -, -, -⟩ := id Db
  obtain ⟨xDc0, xDc1, xDc2, -, -, -⟩ := id Dc
  refine hK.out _ _ ?_ (fun hHeld => ?_)
  · exact ⟨xDa0, xDa1, xDa2, xDb0, xDb1, xDb2, xDc0, xDc1, xDc2⟩
  clear hK K
  (try dsimp only [Act.put]); (try go_frame)
  refine wpAnyH_ready (rs := [3]) (by kernel_rfl) (by simp) ?_
  refine AllReadyH.cons rfl (fun K hK => ?_) AllReadyH.nil
  go_simp
  (with_reducible refine (hcb _).mono ?_)
  rintro r wr1 ⟨rfl, hc1⟩
  clear xDa0 xDa1 xDa2
  clear xDb0 xDb1 xDb2
  clear xDc0 xDc1 xDc2
  clear lDa lDb lDc
  replace Da := Da.keep hc1
  replace Db := Db.keep hc1
  replace Dc := Dc.keep hc1
  replace B0 := B0.trans (hc1.mono B0.size)
  clear hc1
  have lDa := Da.lt
  have lDb := Db.lt
  have lDc := Dc.lt
  obtain ⟨xDa0, xDa1, xDa2, -, -, -⟩ := id Da
  obtain ⟨xDb0, xDb1, xDb2, -, -, -⟩ := id Db
  obtain ⟨xDc0, xDc1, xDc2, -, -, -⟩ := id Dc
  refine hK.out _ _ ?_ (fun hHeld => ?_)
  · exact ⟨xDa0, xDa1, xDa2, xDb0, xDb1, xDb2, xDc0, xDc1, xDc2⟩
  clear hK K
  (try dsimp only [Act.put]); (try go_frame)
  refine wpAnyH_ready (rs := [5]) (by kernel_rfl) (by simp) ?_
  refine AllReadyH.cons rfl (fun K hK => ?_) AllReadyH.nil
  go_simp
  (with_reducible refine (hcc _).mono ?_)
  rintro r wr2 ⟨rfl, hc2⟩
  clear xDa0 xDa1 xDa2
  clear xDb0 xDb1 xDb2
  clear xDc0 xDc1 xDc2
  clear lDa lDb lDc
  replace Da := Da.keep hc2
  replace Db := Db.keep hc2
  replace Dc := Dc.keep hc2
  replace B0 := B0.trans (hc2.mono B0.size)
  clear hc2
  have lDa := Da.lt
  have lDb := Db.lt
  have lDc := Dc.lt
  obtain ⟨xDa0, xDa1, xDa2, -, -, -⟩ := id Da
  obtain ⟨xDb0, xDb1, xDb2, -, -, -⟩ := id Db
  obtain ⟨xDc0, xDc1, xDc2, -, -, -⟩ := id Dc
  refine hK.out _ _ ?_ (fun hHeld => ?_)
  · exact ⟨xDa0, xDa1, xDa2, xDb0, xDb1, xDb2, xDc0, xDc1, xDc2⟩
  clear hK K
  (try dsimp only [Act.put]); (try go_frame)
  refine wpAnyH_done (by kernel_rfl) ?_ _
  try simp only [QCut]
  clear hHeld
  clear xDa0 xDa1 xDa2
  clear xDb0 xDb1 xDb2
  clear xDc0 xDc1 xDc2
  go_wp2_with fail
  (with_reducible refine (hall3 _).mono ?_)
  rintro r wr3 ⟨rfl, hc3⟩
  clear lDa lDb lDc
  replace Da := Da.keep hc3
  replace Db := Db.keep hc3
  replace Dc := Dc.keep hc3
  replace B0 := B0.trans (hc3.mono B0.size)
  clear hc3
  have lDa := Da.lt
  have lDb := Db.lt
  have lDc := Dc.lt
  obtain ⟨xDa0, xDa1, xDa2, -, -, -⟩ := id Da
  obtain ⟨xDb0, xDb1, xDb2, -, -, -⟩ := id Db
  go_wp2_with fail
  (with_reducible refine (h1 _ (hT.below B0)).mono ?_)
  rintro r wq2 ⟨rfl, hb2⟩
  clear xDa0 xDa1 xDa2
  clear xDb0 xDb1 xDb2
  clear lDa lDb lDc
  replace Da := Da.keep hb2
  replace Db := Db.keep hb2
  replace Dc := Dc.keep hb2
  replace B0 := B0.trans (hb2.mono B0.size)
  clear hb2
  have lDa := Da.lt
  have lDb := Db.lt
  have lDc := Dc.lt
  replace Da := Da.allocd (.cells #[.bool sn, .string ss, .int .i64 se] 24)
  replace Db := Db.allocd (.cells #[.bool sn, .string ss, .int .i64 se] 24)
  replace Dc := Dc.allocd (.cells #[.bool sn, .string ss, .int .i64 se] 24)
  have Ds := DyAt.put wq2 sn ss se
  replace B0 := B0.alloc B0.size (.cells #[.bool sn, .string ss, .int .i64 se] 24)
  have lDs := Ds.lt
  obtain ⟨xDa0, xDa1, xDa2, -, -, -⟩ := id Da
  obtain ⟨xDb0, xDb1, xDb2, -, -, -⟩ := id Db
  go_wp2_with fail
  (with_reducible refine (h2 _ (hT.below B0)).mono ?_)
  rintro r wq3 ⟨rfl, hb3⟩
  clear xDa0 xDa1 xDa2
  clear xDb0 xDb1 xDb2
  clear lDa lDb lDc lDs
  replace Da := Da.keep hb3
  replace Db := Db.keep hb3
  replace Dc := Dc.keep hb3
  replace Ds := Ds.keep hb3
  replace B0 := B0.trans (hb3.mono B0.size)
  clear hb3
  have lDa := Da.lt
  have lDb := Db.lt
  have lDc := Dc.lt
  have lDs := Ds.lt
  replace Da := Da.allocd (.cells #[.bool sn, .string ss, .int .i64 se] 24)
  replace Db := Db.allocd (.cells #[.bool sn, .string ss, .int .i64 se] 24)
  replace Dc := Dc.allocd (.cells #[.bool sn, .string ss, .int .i64 se] 24)
  replace Ds := Ds.allocd (.cells #[.bool sn, .string ss, .int .i64 se] 24)
  have Dt := DyAt.put wq3 sn ss se
  replace B0 := B0.alloc B0.size (.cells #[.bool sn, .string ss, .int .i64 se] 24)
  have lDt := Dt.lt
  obtain ⟨xDa0, xDa1, xDa2, -, -, -⟩ := id Da
  obtain ⟨xDb0, xDb1, xDb2, -, -, -⟩ := id Db
  go_wp2_with fail
  (with_reducible refine (h3 _ (hT.below B0)).mono ?_)
  rintro r wq4 ⟨rfl, hb4⟩
  clear xDa0 xDa1 xDa2
  clear xDb0 xDb1 xDb2
  clear lDa lDb lDc lDs lDt
  replace Da := Da.keep hb4
  replace Db := Db.keep hb4
  replace Dc := Dc.keep hb4
  replace Ds := Ds.keep hb4
  replace Dt := Dt.keep hb4
  replace B0 := B0.trans (hb4.mono B0.size)
  clear hb4
  have lDa := Da.lt
  have lDb := Db.lt
  have lDc := Dc.lt
  have lDs := Ds.lt
  have lDt := Dt.lt
  replace Da := Da.allocd (.cells #[.bool pn, .string sp, .int .i64 pe] 24)
  replace Db := Db.allocd (.cells #[.bool pn, .string sp, .int .i64 pe] 24)
  replace Dc := Dc.allocd (.cells #[.bool pn, .string sp, .int .i64 pe] 24)
  replace Ds := Ds.allocd (.cells #[.bool pn, .string sp, .int .i64 pe] 24)
  replace Dt := Dt.allocd (.cells #[.bool pn, .string sp, .int .i64 pe] 24)
  have Dp := DyAt.put wq4 pn sp pe
  replace B0 := B0.alloc B0.size (.cells #[.bool pn, .string sp, .int .i64 pe] 24)
  have lDp := Dp.lt
  obtain ⟨xDa0, xDa1, xDa2, -, -, -⟩ := id Da
  obtain ⟨xDb0, xDb1, xDb2, -, -, -⟩ := id Db
  go_wp2_with fail
  (with_reducible refine (h4 _ (hT.below B0)).mono ?_)
  rintro r wq5 ⟨rfl, hb5⟩
  clear xDa0 xDa1 xDa2
  clear xDb0 xDb1 xDb2
  clear lDa lDb lDc lDs lDt lDp
  replace Da := Da.keep hb5
  replace Db := Db.keep hb5
  replace Dc := Dc.keep hb5
  replace Ds := Ds.keep hb5
  replace Dt := Dt.keep hb5
  replace Dp := Dp.keep hb5
  replace B0 := B0.trans (hb5.mono B0.size)
  clear hb5
  have lDa := Da.lt
  have lDb := Db.lt
  have lDc := Dc.lt
  have lDs := Ds.lt
  have lDt := Dt.lt
  have lDp := Dp.lt
  replace Da := Da.allocd (.cells #[.bool pn, .string sp, .int .i64 pe] 24)
  replace Db := Db.allocd (.cells #[.bool pn, .string sp, .int .i64 pe] 24)
  replace Dc := Dc.allocd (.cells #[.bool pn, .string sp, .int .i64 pe] 24)
  replace Ds := Ds.allocd (.cells #[.bool pn, .string sp, .int .i64 pe] 24)
  replace Dt := Dt.allocd (.cells #[.bool pn, .string sp, .int .i64 pe] 24)
  replace Dp := Dp.allocd (.cells #[.bool pn, .string sp, .int .i64 pe] 24)
  have Dq := DyAt.put wq5 pn sp pe
  replace B0 := B0.alloc B0.size (.cells #[.bool pn, .string sp, .int .i64 pe] 24)
  have lDq := Dq.lt
  obtain ⟨xDs0, xDs1, xDs2, -, -, -⟩ := id Ds
  obtain ⟨xDt0, xDt1, xDt2, -, -, -⟩ := id Dt
  obtain ⟨xDp0, xDp1, xDp2, -, -, -⟩ := id Dp
  obtain ⟨xDq0, xDq1, xDq2, -, -, -⟩ := id Dq
  go_upto_region 11 with fail
  clear xDs0 xDs1 xDs2
  clear xDt0 xDt1 xDt2
  clear xDp0 xDp1 xDp2
  clear xDq0 xDq1 xDq2
  go_cut [103] (fun s103 wx => s103 = .bool false ∧ RingF w wx wq2.heap.size an sa ae bn sb be cn sc ce sn ss se)
  case first =>
    clear lDt lDq Dt Dq
    by_cases hep : ep = 0
    · subst hep
      have HP9 := HP.out rfl
      by_cases hsa0 : ZA = 0
      · subst hsa0
        have HPz : ZP = 0 := HP9.2 (.inl rfl)
        subst HPz
        clear HP9
        have wlt : True := trivial
        clear wlt
        obtain ⟨xDp0, xDp1, xDp2, -, -, -⟩ := id Dp
        obtain ⟨xDa0, xDa1, xDa2, -, -, -⟩ := id Da
        obtain ⟨xDb0, xDb1, xDb2, -, -, -⟩ := id Db
        refine wp_region_any (by kernel_rfl) ?_
        have hHeld : (fun w' : World => w'.cell? ⟨wq4.heap.size, 0, none⟩ = some (.bool pn) ∧ w'.cell? ⟨wq4.heap.size, 1, none⟩ = some (.string sp) ∧ w'.cell? ⟨wq4.heap.size, 2, none⟩ = some (.int .i64 pe) ∧ w'.cell? ⟨w.heap.size, 0, none⟩ = some (.bool an) ∧ w'.cell? ⟨w.heap.size, 1, none⟩ = some (.string sa) ∧ w'.cell? ⟨w.heap.size, 2, none⟩ = some (.int .i64 ae) ∧ w'.cell? ⟨w.heap.size + 1, 0, none⟩ = some (.bool bn) ∧ w'.cell? ⟨w.heap.size + 1, 1, none⟩ = some (.string sb) ∧ w'.cell? ⟨w.heap.size + 1, 2, none⟩ = some (.int .i64 be)) _ := ⟨xDp0, xDp1, xDp2, xDa0, xDa1, xDa2, xDb0, xDb1, xDb2⟩
        refine wpAny_of_held (S := fun w' : World => w'.cell? ⟨wq4.heap.size, 0, none⟩ = some (.bool pn) ∧ w'.cell? ⟨wq4.heap.size, 1, none⟩ = some (.string sp) ∧ w'.cell? ⟨wq4.heap.size, 2, none⟩ = some (.int .i64 pe) ∧ w'.cell? ⟨w.heap.size, 0, none⟩ = some (.bool an) ∧ w'.cell? ⟨w.heap.size, 1, none⟩ = some (.string sa) ∧ w'.cell? ⟨w.heap.size, 2, none⟩ = some (.int .i64 ae) ∧ w'.cell? ⟨w.heap.size + 1, 0, none⟩ = some (.bool bn) ∧ w'.cell? ⟨w.heap.size + 1, 1, none⟩ = some (.string sb) ∧ w'.cell? ⟨w.heap.size + 1, 2, none⟩ = some (.int .i64 be)) _ _ _ _ ?_
        replace B0 := B0.drew
        replace Da := Da.drew
        replace Db := Db.drew
        replace Dc := Dc.drew
        replace Ds := Ds.drew
        replace Dp := Dp.drew
        refine wpAnyH_take (i := 0) (v := _) (by first | (simp only [List.getElem?_toArray, List.getElem?_cons_zero]; rfl) | rfl) (by kernel_rfl) (by kernel_rfl) (by kernel_rfl) (by exact fun _ _ _ h => h) (Or.inl ⟨by rfl, by (intro w hSw; (try dsimp only at hSw); go_simp; try with_reducible rfl)⟩) (by assumption) ?_
        (try dsimp only [Act.put]); (try go_frame)
        refine wpAnyH_take (i := 1) (v := _) (by first | (simp only [List.getElem?_toArray, List.getElem?_cons_zero, List.getElem?_cons_succ]; rfl) | rfl) (by kernel_rfl) (by kernel_rfl) (by kernel_rfl) (by exact fun _ _ _ h => h) (Or.inl ⟨by rfl, by (intro w hSw; (try dsimp only at hSw); go_simp; try with_reducible rfl)⟩) (by assumption) ?_
        (try dsimp only [Act.put]); (try go_frame)
        refine wpAnyH_take (i := 2) (v := _) (by first | (simp only [List.getElem?_toArray, List.getElem?_cons_zero, List.getElem?_cons_succ]; rfl) | rfl) (by kernel_rfl) (by kernel_rfl) (by kernel_rfl) (by exact fun _ _ _ h => h) (Or.inl ⟨by rfl, by (intro w hSw; (try dsimp only at hSw); go_simp; try with_reducible rfl)⟩) (by assumption) ?_
        (try dsimp only [Act.put]); (try go_frame)
        refine wpAnyH_take (i := 3) (v := _) (by first | (simp only [List.getElem?_toArray, List.getElem?_cons_zero, List.getElem?_cons_succ]; rfl) | rfl) (by kernel_rfl) (by kernel_rfl) (by kernel_rfl) (by exact fun _ _ _ h => h) (Or.inl ⟨by rfl, by (intro w hSw; (try dsimp only at hSw); go_simp; try with_reducible rfl)⟩) (by assumption) ?_
        (try dsimp only [Act.put]); (try go_frame)
        refine wpAnyH_take (i := 6) (v := _) (by first | (simp only [List.getElem?_toArray, List.getElem?_cons_zero, List.getElem?_cons_succ]; rfl) | rfl) (by kernel_rfl) (by kernel_rfl) (by kernel_rfl) (by exact fun _ _ _ h => h) (Or.inl ⟨by rfl, by (intro w hSw; (try dsimp only at hSw); go_simp; try with_reducible rfl)⟩) (by assumption) ?_
        (try dsimp only [Act.put]); (try go_frame)
        refine wpAnyH_ready (rs := [4]) (by kernel_rfl) (by simp) ?_
        refine AllReadyH.cons rfl (fun K hK => ?_) AllReadyH.nil
        go_simp
        (with_reducible refine (hsp _).mono ?_)
        rintro r wr0 ⟨rfl, hc0⟩
        clear xDp0 xDp1 xDp2
        clear xDa0 xDa1 xDa2
        clear xDb0 xDb1 xDb2
        clear lDa lDb lDc lDs lDp
        replace Da := Da.keep hc0
        replace Db := Db.keep hc0
        replace Dc := Dc.keep hc0
        replace Ds := Ds.keep hc0
        replace Dp := Dp.keep hc0
        replace B0 := B0.trans (hc0.mono B0.size)
        clear hc0
        have lDa := Da.lt
        have lDb := Db.lt
        have lDc := Dc.lt
        have lDs := Ds.lt
        have lDp := Dp.lt
        obtain ⟨xDp0, xDp1, xDp2, -, -, -⟩ := id Dp
        obtain ⟨xDa0, xDa1, xDa2, -, -, -⟩ := id Da
        obtain ⟨xDb0, xDb1, xDb2, -, -, -⟩ := id Db
        refine hK.out _ _ ?_ (fun hHeld => ?_)
        · exact ⟨xDp0, xDp1, xDp2, xDa0, xDa1, xDa2, xDb0, xDb1, xDb2⟩
        clear hK K
        (try dsimp only [Act.put]); (try go_frame)
        refine wpAnyH_take (i := 5) (v := _) (by first | (simp only [List.getElem?_toArray, List.getElem?_cons_zero, List.getElem?_cons_succ]; rfl) | rfl) (by kernel_rfl) (by kernel_rfl) (by kernel_rfl) (by exact fun _ _ _ h => h) (Or.inl ⟨by rfl, by (intro w hSw; (try dsimp only at hSw); go_simp; try with_reducible rfl)⟩) (by assumption) ?_
        (try dsimp only [Act.put]); (try go_frame)
        refine wpAnyH_ready (rs := [7]) (by kernel_rfl) (by simp) ?_
        refine AllReadyH.cons rfl (fun K hK => ?_) AllReadyH.nil
        go_simp
        (with_reducible refine (hsa _).mono ?_)
        rintro r wr1 ⟨rfl, hc1⟩
        clear xDp0 xDp1 xDp2
        clear xDa0 xDa1 xDa2
        clear xDb0 xDb1 xDb2
        clear lDa lDb lDc lDs lDp
        replace Da := Da.keep hc1
        replace Db := Db.keep hc1
        replace Dc := Dc.keep hc1
        replace Ds := Ds.keep hc1
        replace Dp := Dp.keep hc1
        replace B0 := B0.trans (hc1.mono B0.size)
        clear hc1
        have lDa := Da.lt
        have lDb := Db.lt
        have lDc := Dc.lt
        have lDs := Ds.lt
        have lDp := Dp.lt
        obtain ⟨xDp0, xDp1, xDp2, -, -, -⟩ := id Dp
        obtain ⟨xDa0, xDa1, xDa2, -, -, -⟩ := id Da
        obtain ⟨xDb0, xDb1, xDb2, -, -, -⟩ := id Db
        refine hK.out _ _ ?_ (fun hHeld => ?_)
        · exact ⟨xDp0, xDp1, xDp2, xDa0, xDa1, xDa2, xDb0, xDb1, xDb2⟩
        clear hK K
        (try dsimp only [Act.put]); (try go_frame)
        refine wpAnyH_take (i := 8) (v := _) (by first | (simp only [List.getElem?_toArray, List.getElem?_cons_zero, List.getElem?_cons_succ]; rfl) | rfl) (by kernel_rfl) (by kernel_rfl) (by kernel_rfl) (by exact fun _ _ _ h => h) (Or.inl ⟨by rfl, by (intro w hSw; (try dsimp only at hSw); go_simp; try with_reducible rfl)⟩) (by assumption) ?_
        (try dsimp only [Act.put]); (try go_frame)
        refine wpAnyH_take (i := 9) (v := _) (by first | (simp only [List.getElem?_toArray, List.getElem?_cons_zero, List.getElem?_cons_succ]; rfl) | rfl) (by kernel_rfl) (by kernel_rfl) (by kernel_rfl) (by exact fun _ _ _ h => h) (Or.inl ⟨by rfl, by (intro w hSw; (try dsimp only at hSw); go_simp; try with_reducible rfl)⟩) (by assumption) ?_
        (try dsimp only [Act.put]); (try go_frame)
        refine wpAnyH_take (i := 10) (v := undef) (by first | (simp only [List.getElem?_toArray, List.getElem?_cons_zero, List.getElem?_cons_succ]; rfl) | rfl) (by kernel_rfl) (by kernel_rfl) (by kernel_rfl) (by exact fun _ _ _ h => h) (Or.inr ⟨by rfl, by rfl⟩) (by assumption) ?_
        (try dsimp only [Act.put]); (try go_frame)
        refine wpAnyH_take (i := 11) (v := undef) (by first | (simp only [List.getElem?_toArray, List.getElem?_cons_zero, List.getElem?_cons_succ]; rfl) | rfl) (by kernel_rfl) (by kernel_rfl) (by kernel_rfl) (by exact fun _ _ _ h => h) (Or.inr ⟨by rfl, by rfl⟩) (by assumption) ?_
        (try dsimp only [Act.put]); (try go_frame)
        refine wpAnyH_take (i := 12) (v := undef) (by first | (simp only [List.getElem?_toArray, List.getElem?_cons_zero, List.getElem?_cons_succ]; rfl) | rfl) (by kernel_rfl) (by kernel_rfl) (by kernel_rfl) (by exact fun _ _ _ h => h) (Or.inr ⟨by rfl, by rfl⟩) (by assumption) ?_
        (try dsimp only [Act.put]); (try go_frame)
        refine wpAnyH_take (i := 13) (v := _) (by first | (simp only [List.getElem?_toArray, List.getElem?_cons_zero, List.getElem?_cons_succ]; rfl) | rfl) (by kernel_rfl) (by kernel_rfl) (by kernel_rfl) (by exact fun _ _ _ h => h) (Or.inl ⟨by rfl, by (intro w hSw; (try dsimp only at hSw); go_simp; try with_reducible rfl)⟩) (by assumption) ?_
        (try dsimp only [Act.put]); (try go_frame)
        refine wpAnyH_take (i := 14) (v := _) (by first | (simp only [List.getElem?_toArray, List.getElem?_cons_zero, List.getElem?_cons_succ]; rfl) | rfl) (by kernel_rfl) (by kernel_rfl) (by kernel_rfl) (by exact fun _ _ _ h => h) (Or.inl ⟨by rfl, by (intro w hSw; (try dsimp only at hSw); go_simp; try with_reducible rfl)⟩) (by assumption) ?_
        (try dsimp only [Act.put]); (try go_frame)
        refine wpAnyH_take (i := 15) (v := _) (by first | (simp only [List.getElem?_toArray, List.getElem?_cons_zero, List.getElem?_cons_succ]; rfl) | rfl) (by kernel_rfl) (by kernel_rfl) (by kernel_rfl) (by exact fun _ _ _ h => h) (Or.inl ⟨by rfl, by (intro w hSw; (try dsimp only at hSw); go_simp; try with_reducible rfl)⟩) (by assumption) ?_
        (try dsimp only [Act.put]); (try go_frame)
        refine wpAnyH_done (by kernel_rfl) ?_ _
        try simp only [QCut]
        go_wp2_with fail
        go_meet
        exact ⟨by first | rfl | simp, Da, Db, Dc, Ds, B0⟩
      · have hza : (ZA == 0) = false := by simpa using hsa0
        have hzb : (ZP == 0) = (ZB == 0) := by
          rw [Bool.eq_iff_iff, beq_iff_eq, beq_iff_eq, HP9]
          constructor
          · rintro (h | h)
            · exact absurd h hsa0
            · exact h
          · exact fun h => .inr h
        clear HP9 hsa0
        have wlt : True := trivial
        clear wlt
        obtain ⟨xDp0, xDp1, xDp2, -, -, -⟩ := id Dp
        obtain ⟨xDa0, xDa1, xDa2, -, -, -⟩ := id Da
        obtain ⟨xDb0, xDb1, xDb2, -, -, -⟩ := id Db
        refine wp_region_any (by kernel_rfl) ?_
        have hHeld : (fun w' : World => w'.cell? ⟨wq4.heap.size, 0, none⟩ = some (.bool pn) ∧ w'.cell? ⟨wq4.heap.size, 1, none⟩ = some (.string sp) ∧ w'.cell? ⟨wq4.heap.size, 2, none⟩ = some (.int .i64 pe) ∧ w'.cell? ⟨w.heap.size, 0, none⟩ = some (.bool an) ∧ w'.cell? ⟨w.heap.size, 1, none⟩ = some (.string sa) ∧ w'.cell? ⟨w.heap.size, 2, none⟩ = some (.int .i64 ae) ∧ w'.cell? ⟨w.heap.size + 1, 0, none⟩ = some (.bool bn) ∧ w'.cell? ⟨w.heap.size + 1, 1, none⟩ = some (.string sb) ∧ w'.cell? ⟨w.heap.size + 1, 2, none⟩ = some (.int .i64 be)) _ := ⟨xDp0, xDp1, xDp2, xDa0, xDa1, xDa2, xDb0, xDb1, xDb2⟩
        refine wpAny_of_held (S := fun w' : World => w'.cell? ⟨wq4.heap.size, 0, none⟩ = some (.bool pn) ∧ w'.cell? ⟨wq4.heap.size, 1, none⟩ = some (.string sp) ∧ w'.cell? ⟨wq4.heap.size, 2, none⟩ = some (.int .i64 pe) ∧ w'.cell? ⟨w.heap.size, 0, none⟩ = some (.bool an) ∧ w'.cell? ⟨w.heap.size, 1, none⟩ = some (.string sa) ∧ w'.cell? ⟨w.heap.size, 2, none⟩ = some (.int .i64 ae) ∧ w'.cell? ⟨w.heap.size + 1, 0, none⟩ = some (.bool bn) ∧ w'.cell? ⟨w.heap.size + 1, 1, none⟩ = some (.string sb) ∧ w'.cell? ⟨w.heap.size + 1, 2, none⟩ = some (.int .i64 be)) _ _ _ _ ?_
        replace B0 := B0.drew
        replace Da := Da.drew
        replace Db := Db.drew
        replace Dc := Dc.drew
        replace Ds := Ds.drew
        replace Dp := Dp.drew
        refine wpAnyH_take (i := 0) (v := _) (by first | (simp only [List.getElem?_toArray, List.getElem?_cons_zero]; rfl) | rfl) (by kernel_rfl) (by kernel_rfl) (by kernel_rfl) (by exact fun _ _ _ h => h) (Or.inl ⟨by rfl, by (intro w hSw; (try dsimp only at hSw); go_simp; try with_reducible rfl)⟩) (by assumption) ?_
        (try dsimp only [Act.put]); (try go_frame)
        refine wpAnyH_take (i := 1) (v := _) (by first | (simp only [List.getElem?_toArray, List.getElem?_cons_zero, List.getElem?_cons_succ]; rfl) | rfl) (by kernel_rfl) (by kernel_rfl) (by kernel_rfl) (by exact fun _ _ _ h => h) (Or.inl ⟨by rfl, by (intro w hSw; (try dsimp only at hSw); go_simp; try with_reducible rfl)⟩) (by assumption) ?_
        (try dsimp only [Act.put]); (try go_frame)
        refine wpAnyH_take (i := 2) (v := _) (by first | (simp only [List.getElem?_toArray, List.getElem?_cons_zero, List.getElem?_cons_succ]; rfl) | rfl) (by kernel_rfl) (by kernel_rfl) (by kernel_rfl) (by exact fun _ _ _ h => h) (Or.inl ⟨by rfl, by (intro w hSw; (try dsimp only at hSw); go_simp; try with_reducible rfl)⟩) (by assumption) ?_
        (try dsimp only [Act.put]); (try go_frame)
        refine wpAnyH_take (i := 3) (v := _) (by first | (simp only [List.getElem?_toArray, List.getElem?_cons_zero, List.getElem?_cons_succ]; rfl) | rfl) (by kernel_rfl) (by kernel_rfl) (by kernel_rfl) (by exact fun _ _ _ h => h) (Or.inl ⟨by rfl, by (intro w hSw; (try dsimp only at hSw); go_simp; try with_reducible rfl)⟩) (by assumption) ?_
        (try dsimp only [Act.put]); (try go_frame)
        refine wpAnyH_take (i := 6) (v := _) (by first | (simp only [List.getElem?_toArray, List.getElem?_cons_zero, List.getElem?_cons_succ]; rfl) | rfl) (by kernel_rfl) (by kernel_rfl) (by kernel_rfl) (by exact fun _ _ _ h => h) (Or.inl ⟨by rfl, by (intro w hSw; (try dsimp only at hSw); go_simp; try with_reducible rfl)⟩) (by assumption) ?_
        (try dsimp only [Act.put]); (try go_frame)
        refine wpAnyH_ready (rs := [4]) (by kernel_rfl) (by simp) ?_
        refine AllReadyH.cons rfl (fun K hK => ?_) AllReadyH.nil
        go_simp
        (with_reducible refine (hsp _).mono ?_)
        rintro r wr0 ⟨rfl, hc0⟩
        clear xDp0 xDp1 xDp2
        clear xDa0 xDa1 xDa2
        clear xDb0 xDb1 xDb2
        clear lDa lDb lDc lDs lDp
        replace Da := Da.keep hc0
        replace Db := Db.keep hc0
        replace Dc := Dc.keep hc0
        replace Ds := Ds.keep hc0
        replace Dp := Dp.keep hc0
        replace B0 := B0.trans (hc0.mono B0.size)
        clear hc0
        have lDa := Da.lt
        have lDb := Db.lt
        have lDc := Dc.lt
        have lDs := Ds.lt
        have lDp := Dp.lt
        obtain ⟨xDp0, xDp1, xDp2, -, -, -⟩ := id Dp
        obtain ⟨xDa0, xDa1, xDa2, -, -, -⟩ := id Da
        obtain ⟨xDb0, xDb1, xDb2, -, -, -⟩ := id Db
        refine hK.out _ _ ?_ (fun hHeld => ?_)
        · exact ⟨xDp0, xDp1, xDp2, xDa0, xDa1, xDa2, xDb0, xDb1, xDb2⟩
        clear hK K
        (try dsimp only [Act.put]); (try go_frame)
        refine wpAnyH_take (i := 5) (v := _) (by first | (simp only [List.getElem?_toArray, List.getElem?_cons_zero, List.getElem?_cons_succ]; rfl) | rfl) (by kernel_rfl) (by kernel_rfl) (by kernel_rfl) (by exact fun _ _ _ h => h) (Or.inl ⟨by rfl, by (intro w hSw; (try dsimp only at hSw); go_simp; try with_reducible rfl)⟩) (by assumption) ?_
        (try dsimp only [Act.put]); (try go_frame)
        refine wpAnyH_ready (rs := [7]) (by kernel_rfl) (by simp) ?_
        refine AllReadyH.cons rfl (fun K hK => ?_) AllReadyH.nil
        go_simp
        (with_reducible refine (hsa _).mono ?_)
        rintro r wr1 ⟨rfl, hc1⟩
        clear xDp0 xDp1 xDp2
        clear xDa0 xDa1 xDa2
        clear xDb0 xDb1 xDb2
        clear lDa lDb lDc lDs lDp
        replace Da := Da.keep hc1
        replace Db := Db.keep hc1
        replace Dc := Dc.keep hc1
        replace Ds := Ds.keep hc1
        replace Dp := Dp.keep hc1
        replace B0 := B0.trans (hc1.mono B0.size)
        clear hc1
        have lDa := Da.lt
        have lDb := Db.lt
        have lDc := Dc.lt
        have lDs := Ds.lt
        have lDp := Dp.lt
        obtain ⟨xDp0, xDp1, xDp2, -, -, -⟩ := id Dp
        obtain ⟨xDa0, xDa1, xDa2, -, -, -⟩ := id Da
        obtain ⟨xDb0, xDb1, xDb2, -, -, -⟩ := id Db
        refine hK.out _ _ ?_ (fun hHeld => ?_)
        · exact ⟨xDp0, xDp1, xDp2, xDa0, xDa1, xDa2, xDb0, xDb1, xDb2⟩
        clear hK K
        (try dsimp only [Act.put]); (try go_frame)
        refine wpAnyH_take (i := 8) (v := _) (by first | (simp only [List.getElem?_toArray, List.getElem?_cons_zero, List.getElem?_cons_succ]; rfl) | rfl) (by kernel_rfl) (by kernel_rfl) (by kernel_rfl) (by exact fun _ _ _ h => h) (Or.inl ⟨by rfl, by (intro w hSw; (try dsimp only at hSw); go_simp; try with_reducible rfl)⟩) (by assumption) ?_
        (try dsimp only [Act.put]); (try go_frame)
        refine wpAnyH_take (i := 9) (v := _) (by first | (simp only [List.getElem?_toArray, List.getElem?_cons_zero, List.getElem?_cons_succ]; rfl) | rfl) (by kernel_rfl) (by kernel_rfl) (by kernel_rfl) (by exact fun _ _ _ h => h) (Or.inl ⟨by rfl, by (intro w hSw; (try dsimp only at hSw); go_simp; try with_reducible rfl)⟩) (by assumption) ?_
        (try dsimp only [Act.put]); (try go_frame)
        refine wpAnyH_take (i := 10) (v := _) (by first | (simp only [List.getElem?_toArray, List.getElem?_cons_zero, List.getElem?_cons_succ]; rfl) | rfl) (by kernel_rfl) (by kernel_rfl) (by kernel_rfl) (by exact fun _ _ _ h => h) (Or.inl ⟨by rfl, by (intro w hSw; (try dsimp only at hSw); go_simp; try with_reducible rfl)⟩) (by assumption) ?_
        (try dsimp only [Act.put]); (try go_frame)
        refine wpAnyH_ready (rs := [11]) (by kernel_rfl) (by simp) ?_
        refine AllReadyH.cons rfl (fun K hK => ?_) AllReadyH.nil
        go_simp
        (with_reducible refine (hsb _).mono ?_)
        rintro r wr2 ⟨rfl, hc2⟩
        clear xDp0 xDp1 xDp2
        clear xDa0 xDa1 xDa2
        clear xDb0 xDb1 xDb2
        clear lDa lDb lDc lDs lDp
        replace Da := Da.keep hc2
        replace Db := Db.keep hc2
        replace Dc := Dc.keep hc2
        replace Ds := Ds.keep hc2
        replace Dp := Dp.keep hc2
        replace B0 := B0.trans (hc2.mono B0.size)
        clear hc2
        have lDa := Da.lt
        have lDb := Db.lt
        have lDc := Dc.lt
        have lDs := Ds.lt
        have lDp := Dp.lt
        obtain ⟨xDp0, xDp1, xDp2, -, -, -⟩ := id Dp
        obtain ⟨xDa0, xDa1, xDa2, -, -, -⟩ := id Da
        obtain ⟨xDb0, xDb1, xDb2, -, -, -⟩ := id Db
        refine hK.out _ _ ?_ (fun hHeld => ?_)
        · exact ⟨xDp0, xDp1, xDp2, xDa0, xDa1, xDa2, xDb0, xDb1, xDb2⟩
        clear hK K
        (try dsimp only [Act.put]); (try go_frame)
        refine wpAnyH_take (i := 12) (v := _) (by first | (simp only [List.getElem?_toArray, List.getElem?_cons_zero, List.getElem?_cons_succ]; rfl) | rfl) (by kernel_rfl) (by kernel_rfl) (by kernel_rfl) (by exact fun _ _ _ h => h) (Or.inl ⟨by rfl, by (intro w hSw; (try dsimp only at hSw); go_simp; try with_reducible rfl)⟩) (by assumption) ?_
        (try dsimp only [Act.put]); (try go_frame)
        refine wpAnyH_take (i := 13) (v := _) (by first | (simp only [List.getElem?_toArray, List.getElem?_cons_zero, List.getElem?_cons_succ]; rfl) | rfl) (by kernel_rfl) (by kernel_rfl) (by kernel_rfl) (by exact fun _ _ _ h => h) (Or.inl ⟨by rfl, by (intro w hSw; (try dsimp only at hSw); go_simp; try with_reducible rfl)⟩) (by assumption) ?_
        (try dsimp only [Act.put]); (try go_frame)
        refine wpAnyH_take (i := 14) (v := _) (by first | (simp only [List.getElem?_toArray, List.getElem?_cons_zero, List.getElem?_cons_succ]; rfl) | rfl) (by kernel_rfl) (by kernel_rfl) (by kernel_rfl) (by exact fun _ _ _ h => h) (Or.inl ⟨by rfl, by (intro w hSw; (try dsimp only at hSw); go_simp; try with_reducible rfl)⟩) (by assumption) ?_
        (try dsimp only [Act.put]); (try go_frame)
        refine wpAnyH_take (i := 15) (v := _) (by first | (simp only [List.getElem?_toArray, List.getElem?_cons_zero, List.getElem?_cons_succ]; rfl) | rfl) (by kernel_rfl) (by kernel_rfl) (by kernel_rfl) (by exact fun _ _ _ h => h) (Or.inl ⟨by rfl, by (intro w hSw; (try dsimp only at hSw); go_simp; try with_reducible rfl)⟩) (by assumption) ?_
        (try dsimp only [Act.put]); (try go_frame)
        refine wpAnyH_done (by kernel_rfl) ?_ _
        try simp only [QCut]
        go_wp2_with fail
        go_meet
        exact ⟨by first | rfl | simp, Da, Db, Dc, Ds, B0⟩
    · have hep4 : (ep == 0) = false := by simpa using hep
      clear hep
      have wlt : True := trivial
      clear wlt
      obtain ⟨xDp0, xDp1, xDp2, -, -, -⟩ := id Dp
      obtain ⟨xDa0, xDa1, xDa2, -, -, -⟩ := id Da
      obtain ⟨xDb0, xDb1, xDb2, -, -, -⟩ := id Db
      refine wp_region_any (by kernel_rfl) ?_
      have hHeld : (fun w' : World => w'.cell? ⟨wq4.heap.size, 0, none⟩ = some (.bool pn) ∧ w'.cell? ⟨wq4.heap.size, 1, none⟩ = some (.string sp) ∧ w'.cell? ⟨wq4.heap.size, 2, none⟩ = some (.int .i64 pe) ∧ w'.cell? ⟨w.heap.size, 0, none⟩ = some (.bool an) ∧ w'.cell? ⟨w.heap.size, 1, none⟩ = some (.string sa) ∧ w'.cell? ⟨w.heap.size, 2, none⟩ = some (.int .i64 ae) ∧ w'.cell? ⟨w.heap.size + 1, 0, none⟩ = some (.bool bn) ∧ w'.cell? ⟨w.heap.size + 1, 1, none⟩ = some (.string sb) ∧ w'.cell? ⟨w.heap.size + 1, 2, none⟩ = some (.int .i64 be)) _ := ⟨xDp0, xDp1, xDp2, xDa0, xDa1, xDa2, xDb0, xDb1, xDb2⟩
      refine wpAny_of_held (S := fun w' : World => w'.cell? ⟨wq4.heap.size, 0, none⟩ = some (.bool pn) ∧ w'.cell? ⟨wq4.heap.size, 1, none⟩ = some (.string sp) ∧ w'.cell? ⟨wq4.heap.size, 2, none⟩ = some (.int .i64 pe) ∧ w'.cell? ⟨w.heap.size, 0, none⟩ = some (.bool an) ∧ w'.cell? ⟨w.heap.size, 1, none⟩ = some (.string sa) ∧ w'.cell? ⟨w.heap.size, 2, none⟩ = some (.int .i64 ae) ∧ w'.cell? ⟨w.heap.size + 1, 0, none⟩ = some (.bool bn) ∧ w'.cell? ⟨w.heap.size + 1, 1, none⟩ = some (.string sb) ∧ w'.cell? ⟨w.heap.size + 1, 2, none⟩ = some (.int .i64 be)) _ _ _ _ ?_
      replace B0 := B0.drew
      replace Da := Da.drew
      replace Db := Db.drew
      replace Dc := Dc.drew
      replace Ds := Ds.drew
      replace Dp := Dp.drew
      refine wpAnyH_take (i := 0) (v := _) (by first | (simp only [List.getElem?_toArray, List.getElem?_cons_zero]; rfl) | rfl) (by kernel_rfl) (by kernel_rfl) (by kernel_rfl) (by exact fun _ _ _ h => h) (Or.inl ⟨by rfl, by (intro w hSw; (try dsimp only at hSw); go_simp; try with_reducible rfl)⟩) (by assumption) ?_
      (try dsimp only [Act.put]); (try go_frame)
      refine wpAnyH_take (i := 1) (v := _) (by first | (simp only [List.getElem?_toArray, List.getElem?_cons_zero, List.getElem?_cons_succ]; rfl) | rfl) (by kernel_rfl) (by kernel_rfl) (by kernel_rfl) (by exact fun _ _ _ h => h) (Or.inl ⟨by rfl, by (intro w hSw; (try dsimp only at hSw); go_simp; try with_reducible rfl)⟩) (by assumption) ?_
      (try dsimp only [Act.put]); (try go_frame)
      refine wpAnyH_take (i := 2) (v := _) (by first | (simp only [List.getElem?_toArray, List.getElem?_cons_zero, List.getElem?_cons_succ]; rfl) | rfl) (by kernel_rfl) (by kernel_rfl) (by kernel_rfl) (by exact fun _ _ _ h => h) (Or.inl ⟨by rfl, by (intro w hSw; (try dsimp only at hSw); go_simp; try with_reducible rfl)⟩) (by assumption) ?_
      (try dsimp only [Act.put]); (try go_frame)
      refine wpAnyH_take (i := 3) (v := undef) (by first | (simp only [List.getElem?_toArray, List.getElem?_cons_zero, List.getElem?_cons_succ]; rfl) | rfl) (by kernel_rfl) (by kernel_rfl) (by kernel_rfl) (by exact fun _ _ _ h => h) (Or.inr ⟨by rfl, by rfl⟩) (by assumption) ?_
      (try dsimp only [Act.put]); (try go_frame)
      refine wpAnyH_take (i := 4) (v := undef) (by first | (simp only [List.getElem?_toArray, List.getElem?_cons_zero, List.getElem?_cons_succ]; rfl) | rfl) (by kernel_rfl) (by kernel_rfl) (by kernel_rfl) (by exact fun _ _ _ h => h) (Or.inr ⟨by rfl, by rfl⟩) (by assumption) ?_
      (try dsimp only [Act.put]); (try go_frame)
      refine wpAnyH_take (i := 5) (v := undef) (by first | (simp only [List.getElem?_toArray, List.getElem?_cons_zero, List.getElem?_cons_succ]; rfl) | rfl) (by kernel_rfl) (by kernel_rfl) (by kernel_rfl) (by exact fun _ _ _ h => h) (Or.inr ⟨by rfl, by rfl⟩) (by assumption) ?_
      (try dsimp only [Act.put]); (try go_frame)
      refine wpAnyH_take (i := 6) (v := undef) (by first | (simp only [List.getElem?_toArray, List.getElem?_cons_zero, List.getElem?_cons_succ]; rfl) | rfl) (by kernel_rfl) (by kernel_rfl) (by kernel_rfl) (by exact fun _ _ _ h => h) (Or.inr ⟨by rfl, by rfl⟩) (by assumption) ?_
      (try dsimp only [Act.put]); (try go_frame)
      refine wpAnyH_take (i := 7) (v := undef) (by first | (simp only [List.getElem?_toArray, List.getElem?_cons_zero, List.getElem?_cons_succ]; rfl) | rfl) (by kernel_rfl) (by kernel_rfl) (by kernel_rfl) (by exact fun _ _ _ h => h) (Or.inr ⟨by rfl, by rfl⟩) (by assumption) ?_
      (try dsimp only [Act.put]); (try go_frame)
      refine wpAnyH_take (i := 8) (v := undef) (by first | (simp only [List.getElem?_toArray, List.getElem?_cons_zero, List.getElem?_cons_succ]; rfl) | rfl) (by kernel_rfl) (by kernel_rfl) (by kernel_rfl) (by exact fun _ _ _ h => h) (Or.inr ⟨by rfl, by rfl⟩) (by assumption) ?_
      (try dsimp only [Act.put]); (try go_frame)
      refine wpAnyH_take (i := 9) (v := undef) (by first | (simp only [List.getElem?_toArray, List.getElem?_cons_zero, List.getElem?_cons_succ]; rfl) | rfl) (by kernel_rfl) (by kernel_rfl) (by kernel_rfl) (by exact fun _ _ _ h => h) (Or.inr ⟨by rfl, by rfl⟩) (by assumption) ?_
      (try dsimp only [Act.put]); (try go_frame)
      refine wpAnyH_take (i := 10) (v := undef) (by first | (simp only [List.getElem?_toArray, List.getElem?_cons_zero, List.getElem?_cons_succ]; rfl) | rfl) (by kernel_rfl) (by kernel_rfl) (by kernel_rfl) (by exact fun _ _ _ h => h) (Or.inr ⟨by rfl, by rfl⟩) (by assumption) ?_
      (try dsimp only [Act.put]); (try go_frame)
      refine wpAnyH_take (i := 11) (v := undef) (by first | (simp only [List.getElem?_toArray, List.getElem?_cons_zero, List.getElem?_cons_succ]; rfl) | rfl) (by kernel_rfl) (by kernel_rfl) (by kernel_rfl) (by exact fun _ _ _ h => h) (Or.inr ⟨by rfl, by rfl⟩) (by assumption) ?_
      (try dsimp only [Act.put]); (try go_frame)
      refine wpAnyH_take (i := 12) (v := undef) (by first | (simp only [List.getElem?_toArray, List.getElem?_cons_zero, List.getElem?_cons_succ]; rfl) | rfl) (by kernel_rfl) (by kernel_rfl) (by kernel_rfl) (by exact fun _ _ _ h => h) (Or.inr ⟨by rfl, by rfl⟩) (by assumption) ?_
      (try dsimp only [Act.put]); (try go_frame)
      refine wpAnyH_take (i := 13) (v := undef) (by first | (simp only [List.getElem?_toArray, List.getElem?_cons_zero, List.getElem?_cons_succ]; rfl) | rfl) (by kernel_rfl) (by kernel_rfl) (by kernel_rfl) (by exact fun _ _ _ h => h) (Or.inr ⟨by rfl, by rfl⟩) (by assumption) ?_
      (try dsimp only [Act.put]); (try go_frame)
      refine wpAnyH_take (i := 14) (v := undef) (by first | (simp only [List.getElem?_toArray, List.getElem?_cons_zero, List.getElem?_cons_succ]; rfl) | rfl) (by kernel_rfl) (by kernel_rfl) (by kernel_rfl) (by exact fun _ _ _ h => h) (Or.inr ⟨by rfl, by rfl⟩) (by assumption) ?_
      (try dsimp only [Act.put]); (try go_frame)
      refine wpAnyH_take (i := 15) (v := _) (by first | (simp only [List.getElem?_toArray, List.getElem?_cons_zero, List.getElem?_cons_succ]; rfl) | rfl) (by kernel_rfl) (by kernel_rfl) (by kernel_rfl) (by exact fun _ _ _ h => h) (Or.inl ⟨by rfl, by (intro w hSw; (try dsimp only at hSw); go_simp; try with_reducible rfl)⟩) (by assumption) ?_
      (try dsimp only [Act.put]); (try go_frame)
      refine wpAnyH_done (by kernel_rfl) ?_ _
      try simp only [QCut]
      go_wp2_with fail
      go_meet
      exact ⟨by first | rfl | simp, Da, Db, Dc, Ds, B0⟩
  case rest =>
    clear Da Db Dc Ds Dt Dp Dq B0 lDa lDb lDc lDs lDt lDp lDq
    obtain ⟨rfl, Da, Db, Dc, Ds, B0⟩ := hcut
    go_step
    go_step
    go_step
    go_step
    go_step
    exact HR.out _ _ Da Db Dc Ds B0 _ _ _ _ _ _ _ _ _ _ _ _ _ _ _ _ _ _ _ _ _ _ _ _ _ _ _ _ _ _ _ _ _ _ _ _ _ _ _ _ _ _ _ _ _ _ _ _ _ _ _ _ _ _ _ _ _ _ _ _ _ _ _ _ _ _ _ _ _ _ _ _ _ _ _ _ _ _ _ _ _ _ _ _ _ _ _ _ _ _ _ _ _ _ _ _ _ _ _ _ _ _ _ _ _ _ _ _ _ _ _ _ _ _ _ _ _ _ _ _ _ _ _ _ _ _ _ _ _ _ _ _ _ _ _ _ _ _ _ _ _ _ _ _ _ _ _ _ _ _ _ _ _ _ _ _ _ _ _ _ _ _ _ _ _ _ _ _ _ _ _ _ _ _ _ _ _ _ _ _ _ _ _ _ _ _ _ _ _ _ _ _ _ _ _ _ _ _ _ _ _ _ _ _ _ _ _ _ _ _ _ _ _ _ _ _ _ _ _ _ _ _
end Go.Proofs.YtgcifpjhhoalmaaDoor
