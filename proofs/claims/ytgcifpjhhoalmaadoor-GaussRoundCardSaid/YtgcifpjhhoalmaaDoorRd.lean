/- filigreelaw06.GaussRound. -/
import Derived.Test.YtgcifpjhhoalmaaDoorGR
import Derived.Test.YtgcifpjhhoalmaaDoorHF
namespace Go.Proofs.YtgcifpjhhoalmaaDoor
open Go Go.RowKit Go.PlainAid Fil

theorem tl_inj {a b : ByteArray} (h : a.toList = b.toList) : a = b := by
  obtain ⟨⟨l⟩⟩ := a
  obtain ⟨⟨m⟩⟩ := b
  simp at h
  rw [h]

/-- the code from a region on -/
def headOf : Code → Nat
  | .region n _ _ => n
  | .seq a _ => headOf a
  | _ => 0
def tailAt (k : Nat) : Code → Code
  | .seq a b => if headOf a = k then .seq a b else tailAt k b
  | c => c

set_option maxRecDepth 1000000 in
set_option maxHeartbeats 16000000 in
theorem round_r (og oc od : Option GY) (qr qs : Option DY) (g : GR) (c : GR) (r : DRw) (d : GR) (s : DRw) (W1 : Bool × Int) (W2 : Bool × Int) (W3 : Bool × Int) (X1 : Int × Int) (X2 : Int × Int) (X3 : Int × Int) (E_W1 : xDisc gWithin oc qr od qs = W1) (E_W2 : xDisc gWithin od qs oc qr = W2) (E_W3 : xDisc gWithin oc qr oc qr = W3) (E_X1 : x3 0 gSide og oc od = X1) (E_X2 : x3 0 gSide oc od og = X2) (E_X3 : x3 0 gSide oc og od = X3) (I1 I2 A1 : Bool × Int) (w : World) (hg : Rep g og) (hc : Rep c oc) (hr : RepD r qr) (hd : Rep d od) (hs : RepD s qs) (hT : Tab w) (v1 : World) (F5 : Blk v1 (w.heap.size) #[.bool g.n, .string g.s, .int .i64 g.e, .bool g.m, .string g.t, .int .i64 g.f] 49) (F6 : Blk v1 (w.heap.size + 1) #[.bool c.n, .string c.s, .int .i64 c.e, .bool c.m, .string c.t, .int .i64 c.f] 49) (F7 : Blk v1 (w.heap.size + 1 + 1) #[.bool r.n, .string r.s, .int .i64 r.e] 24) (F8 : Blk v1 (w.heap.size + 1 + 1 + 1) #[.bool d.n, .string d.s, .int .i64 d.e, .bool d.m, .string d.t, .int .i64 d.f] 49) (F9 : Blk v1 (w.heap.size + 1 + 1 + 1 + 1) #[.bool s.n, .string s.s, .int .i64 s.e] 24) (B0 : Below w.heap.size w v1) (u10 u21 u22 u23 u24 u25 u26 u27 u28 u29 u30 u31 u32 u33 u34 u35 u36 u37 u38 u39 u40 u41 u42 u43 u44 u45 u46 u47 u48 u49 u50 u51 u52 u53 u54 u55 u56 u57 u58 u59 u60 u61 u62 u63 u64 u65 u66 u67 u68 u69 u70 u71 u72 u73 u74 u75 u76 u77 u78 u79 u80 u81 u82 u83 u84 u85 u86 u87 u88 u89 u90 u91 u92 u93 u94 u95 u96 u97 u98 u99 u100 u101 u102 u103 u104 u105 u106 u107 u108 u109 u110 u111 u112 u113 u114 u115 u116 u117 u118 u119 u120 u121 u122 u123 u124 u125 u126 u127 u128 u129 u130 u131 u132 u133 u134 u135 u136 u137 u138 u139 u140 u141 u142 u143 u144 u145 u146 u147 u148 u149 u150 u151 u152 u153 u154 u155 u156 u157 u158 u159 u160 u161 u162 u163 u164 u165 u166 u167 u168 u169 u170 u171 u172 u173 u174 u175 u176 u177 u178 u179 : Value) :
    Code.wp Tryd.prog (tailAt 10 (Tryd.f15.body.getD .skip)) (bodyPost Tryd.prog Tryd.f15 fun r w' => r = .returned (.bool true) ∧ Below w.heap.size w w') ⟨#[.agg #[.bool g.n, .string g.s, .int .i64 g.e, .bool g.m, .string g.t, .int .i64 g.f], .agg #[.bool c.n, .string c.s, .int .i64 c.e, .bool c.m, .string c.t, .int .i64 c.f], .agg #[.bool r.n, .string r.s, .int .i64 r.e], .agg #[.bool d.n, .string d.s, .int .i64 d.e, .bool d.m, .string d.t, .int .i64 d.f], .agg #[.bool s.n, .string s.s, .int .i64 s.e], .pointer (some ⟨w.heap.size, 0, none⟩), .pointer (some ⟨w.heap.size + 1, 0, none⟩), .pointer (some ⟨w.heap.size + 1 + 1, 0, none⟩), .pointer (some ⟨w.heap.size + 1 + 1 + 1, 0, none⟩), .pointer (some ⟨w.heap.size + 1 + 1 + 1 + 1, 0, none⟩), u10, .bool I1.1, .int .i64 I1.2, .bool I2.1, .int .i64 I2.2, .bool W1.1, .int .i64 W1.2, .bool W2.1, .int .i64 W2.2, .bool A1.1, .int .i64 A1.2, u21, u22, u23, u24, u25, u26, u27, u28, u29, u30, u31, u32, u33, u34, u35, u36, u37, u38, u39, u40, u41, u42, u43, u44, u45, u46, u47, u48, u49, u50, u51, u52, u53, u54, u55, u56, u57, u58, u59, u60, u61, u62, u63, u64, u65, u66, u67, u68, u69, u70, u71, u72, u73, u74, u75, u76, u77, u78, u79, u80, u81, u82, u83, u84, u85, u86, u87, u88, u89, u90, u91, u92, u93, u94, u95, u96, u97, u98, u99, u100, u101, u102, u103, u104, u105, u106, u107, u108, u109, u110, u111, u112, u113, u114, u115, u116, u117, u118, u119, u120, u121, u122, u123, u124, u125, u126, u127, u128, u129, u130, u131, u132, u133, u134, u135, u136, u137, u138, u139, u140, u141, u142, u143, u144, u145, u146, u147, u148, u149, u150, u151, u152, u153, u154, u155, u156, u157, u158, u159, u160, u161, u162, u163, u164, u165, u166, u167, u168, u169, u170, u171, u172, u173, u174, u175, u176, u177, u178, u179], []⟩ v1 := by
  have o4 := fun Bk W h => l6all_2 W1.2 W2.2 Bk W h
  have h6 := fun W hW => gwithin_x c r c r oc qr oc qr W hc hr hc hr hW
  rw [E_W3] at h6
  have h7 := fun W hW => gside_x g c d og oc od W hg hc hd hW
  rw [E_X1] at h7
  have h8 := fun W hW => gside_x c d g oc od og W hc hd hg hW
  rw [E_X2] at h8
  have h9 := fun W hW => gside_x c g d oc og od W hc hg hd hW
  rw [E_X3] at h9
  have o5 := fun Bk W h => l6all_3 X1.2 X2.2 X3.2 Bk W h
  have f4 : oks [W1.2, W2.2] = true → ((W1.1 = true ∧ W2.1 = true) ↔ (c = d ∧ r = s)) := fun h => by
    simp only [oks_cons] at h
    obtain ⟨e1, e2, -⟩ := h
    subst E_W1; subst E_W2
    exact round_4 hc hd hr hs e1 e2
  have f5 : W3.2 = 0 → W3.1 = true := fun h => by
    subst E_W3
    exact round_5 hc hr h
  have f6 : oks [X1.2, X2.2, X3.2] = true → X2.1 = X1.1 ∧ X3.1 = -X1.1 := fun h => by
    simp only [oks_cons] at h
    obtain ⟨e1, e2, e3, -⟩ := h
    subst E_X1; subst E_X2; subst E_X3
    exact round_6 hg hc hd e1 e2 e3
  have f7 : X1.1 = -1 ∨ X1.1 = 0 ∨ X1.1 = 1 := by subst E_X1; exact side_or _ _ _
  generalize oks [W1.2, W2.2] = O4 at *
  generalize oks [X1.2, X2.2, X3.2] = O5 at *

  clear hg hc hd hr hs
  clear E_W1 E_W2 E_W3 E_X1 E_X2 E_X3
  obtain ⟨gn, gS, ge, gm, gT, gf⟩ := g
  obtain ⟨cn, cS, ce, cm, cT, cf⟩ := c
  obtain ⟨rn, rS, re⟩ := r
  obtain ⟨dn, dS, de, dm, dT, df⟩ := d
  obtain ⟨sn, sS, se⟩ := s
  obtain ⟨W1n, W1r⟩ := W1
  obtain ⟨W2n, W2r⟩ := W2
  obtain ⟨W3n, W3r⟩ := W3
  obtain ⟨X1n, X1r⟩ := X1
  obtain ⟨X2n, X2r⟩ := X2
  obtain ⟨X3n, X3r⟩ := X3
  dsimp only at *
  rw [GR.mk.injEq, DRw.mk.injEq] at f4
  have K4 := Lib.hid f4
  have K5 := Lib.hid f5
  have K6 := Lib.hid f6
  have K7 := Lib.hid f7
  clear f4 f5 f6 f7
  conv => arg 2; whnf
  go_upto_region 10 with fail
  go_cut [127] (fun s127 wx => s127 = .bool false ∧ Blk wx (w.heap.size) #[.bool gn, .string gS, .int .i64 ge, .bool gm, .string gT, .int .i64 gf] 49 ∧ Blk wx (w.heap.size + 1) #[.bool cn, .string cS, .int .i64 ce, .bool cm, .string cT, .int .i64 cf] 49 ∧ Blk wx (w.heap.size + 1 + 1) #[.bool rn, .string rS, .int .i64 re] 24 ∧ Blk wx (w.heap.size + 1 + 1 + 1) #[.bool dn, .string dS, .int .i64 de, .bool dm, .string dT, .int .i64 df] 49 ∧ Blk wx (w.heap.size + 1 + 1 + 1 + 1) #[.bool sn, .string sS, .int .i64 se] 24 ∧ Below w.heap.size w wx)
  case first =>
    cases O4
    · clear K4
      go_wp2_with fail
      (with_reducible refine (o4 _ _ (by simp)).mono ?_)
      rintro r w7 ⟨rfl, hb7⟩
      replace F5 := F5.keep hb7
      replace F6 := F6.keep hb7
      replace F7 := F7.keep hb7
      replace F8 := F8.keep hb7
      replace F9 := F9.keep hb7
      replace B0 := B0.trans (hb7.mono B0.size)
      clear hb7
      go_wp2_with fail
      go_meet
      exact ⟨by first | rfl | simp, F5, F6, F7, F8, F9, B0⟩
    · have k4 := K4.out rfl
      clear K4
      cases W1n
      · cases W2n
        · by_cases h9 : dn = cn
          · subst h9
            by_cases h9 : dS = cS
            · subst h9
              by_cases h9 : de = ce
              · subst h9
                by_cases h9 : dm = cm
                · subst h9
                  by_cases h9 : dT = cT
                  · subst h9
                    by_cases h9 : df = cf
                    · subst h9
                      by_cases h9 : sn = rn
                      · subst h9
                        by_cases h9 : sS = rS
                        · subst h9
                          by_cases h9 : se = re
                          · subst h9
                            exact absurd (k4.2 ⟨⟨rfl, rfl, rfl, rfl, rfl, rfl⟩, rfl, rfl, rfl⟩) (by decide)
                          · have h9' : ¬ (re = se) := fun h => h9 h.symm
                            clear k4
                            go_wp2_with fail
                            (with_reducible refine (o4 _ _ (by simp)).mono ?_)
                            rintro r w7 ⟨rfl, hb7⟩
                            replace F5 := F5.keep hb7
                            replace F6 := F6.keep hb7
                            replace F7 := F7.keep hb7
                            replace F8 := F8.keep hb7
                            replace F9 := F9.keep hb7
                            replace B0 := B0.trans (hb7.mono B0.size)
                            clear hb7
                            obtain ⟨xF68_0, xF68_1, xF68_2, xF68_3, xF68_4, xF68_5⟩ := F6.ce6
                            obtain ⟨xF88_0, xF88_1, xF88_2, xF88_3, xF88_4, xF88_5⟩ := F8.ce6
                            obtain ⟨xF78_0, xF78_1, xF78_2⟩ := F7.ce3
                            obtain ⟨xF98_0, xF98_1, xF98_2⟩ := F9.ce3
                            go_wp2_with fail
                            go_meet
                            exact ⟨by first | rfl | simp, F5, F6, F7, F8, F9, B0⟩
                        · have h9' : ¬ (rS.toList = sS.toList) := fun h => h9 (tl_inj h).symm
                          clear k4
                          go_wp2_with fail
                          (with_reducible refine (o4 _ _ (by simp)).mono ?_)
                          rintro r w7 ⟨rfl, hb7⟩
                          replace F5 := F5.keep hb7
                          replace F6 := F6.keep hb7
                          replace F7 := F7.keep hb7
                          replace F8 := F8.keep hb7
                          replace F9 := F9.keep hb7
                          replace B0 := B0.trans (hb7.mono B0.size)
                          clear hb7
                          obtain ⟨xF68_0, xF68_1, xF68_2, xF68_3, xF68_4, xF68_5⟩ := F6.ce6
                          obtain ⟨xF88_0, xF88_1, xF88_2, xF88_3, xF88_4, xF88_5⟩ := F8.ce6
                          obtain ⟨xF78_0, xF78_1, xF78_2⟩ := F7.ce3
                          obtain ⟨xF98_0, xF98_1, xF98_2⟩ := F9.ce3
                          go_wp2_with fail
                          go_meet
                          exact ⟨by first | rfl | simp, F5, F6, F7, F8, F9, B0⟩
                      · have h9' : ¬ (rn = sn) := fun h => h9 h.symm
                        clear k4
                        go_wp2_with fail
                        (with_reducible refine (o4 _ _ (by simp)).mono ?_)
                        rintro r w7 ⟨rfl, hb7⟩
                        replace F5 := F5.keep hb7
                        replace F6 := F6.keep hb7
                        replace F7 := F7.keep hb7
                        replace F8 := F8.keep hb7
                        replace F9 := F9.keep hb7
                        replace B0 := B0.trans (hb7.mono B0.size)
                        clear hb7
                        obtain ⟨xF68_0, xF68_1, xF68_2, xF68_3, xF68_4, xF68_5⟩ := F6.ce6
                        obtain ⟨xF88_0, xF88_1, xF88_2, xF88_3, xF88_4, xF88_5⟩ := F8.ce6
                        obtain ⟨xF78_0, xF78_1, xF78_2⟩ := F7.ce3
                        obtain ⟨xF98_0, xF98_1, xF98_2⟩ := F9.ce3
                        go_wp2_with fail
                        go_meet
                        exact ⟨by first | rfl | simp, F5, F6, F7, F8, F9, B0⟩
                    · have h9' : ¬ (cf = df) := fun h => h9 h.symm
                      clear k4
                      go_wp2_with fail
                      (with_reducible refine (o4 _ _ (by simp)).mono ?_)
                      rintro r w7 ⟨rfl, hb7⟩
                      replace F5 := F5.keep hb7
                      replace F6 := F6.keep hb7
                      replace F7 := F7.keep hb7
                      replace F8 := F8.keep hb7
                      replace F9 := F9.keep hb7
                      replace B0 := B0.trans (hb7.mono B0.size)
                      clear hb7
                      obtain ⟨xF68_0, xF68_1, xF68_2, xF68_3, xF68_4, xF68_5⟩ := F6.ce6
                      obtain ⟨xF88_0, xF88_1, xF88_2, xF88_3, xF88_4, xF88_5⟩ := F8.ce6
                      obtain ⟨xF78_0, xF78_1, xF78_2⟩ := F7.ce3
                      obtain ⟨xF98_0, xF98_1, xF98_2⟩ := F9.ce3
                      go_wp2_with fail
                      go_meet
                      exact ⟨by first | rfl | simp, F5, F6, F7, F8, F9, B0⟩
                  · have h9' : ¬ (cT.toList = dT.toList) := fun h => h9 (tl_inj h).symm
                    clear k4
                    go_wp2_with fail
                    (with_reducible refine (o4 _ _ (by simp)).mono ?_)
                    rintro r w7 ⟨rfl, hb7⟩
                    replace F5 := F5.keep hb7
                    replace F6 := F6.keep hb7
                    replace F7 := F7.keep hb7
                    replace F8 := F8.keep hb7
                    replace F9 := F9.keep hb7
                    replace B0 := B0.trans (hb7.mono B0.size)
                    clear hb7
                    obtain ⟨xF68_0, xF68_1, xF68_2, xF68_3, xF68_4, xF68_5⟩ := F6.ce6
                    obtain ⟨xF88_0, xF88_1, xF88_2, xF88_3, xF88_4, xF88_5⟩ := F8.ce6
                    obtain ⟨xF78_0, xF78_1, xF78_2⟩ := F7.ce3
                    obtain ⟨xF98_0, xF98_1, xF98_2⟩ := F9.ce3
                    go_wp2_with fail
                    go_meet
                    exact ⟨by first | rfl | simp, F5, F6, F7, F8, F9, B0⟩
                · have h9' : ¬ (cm = dm) := fun h => h9 h.symm
                  clear k4
                  go_wp2_with fail
                  (with_reducible refine (o4 _ _ (by simp)).mono ?_)
                  rintro r w7 ⟨rfl, hb7⟩
                  replace F5 := F5.keep hb7
                  replace F6 := F6.keep hb7
                  replace F7 := F7.keep hb7
                  replace F8 := F8.keep hb7
                  replace F9 := F9.keep hb7
                  replace B0 := B0.trans (hb7.mono B0.size)
                  clear hb7
                  obtain ⟨xF68_0, xF68_1, xF68_2, xF68_3, xF68_4, xF68_5⟩ := F6.ce6
                  obtain ⟨xF88_0, xF88_1, xF88_2, xF88_3, xF88_4, xF88_5⟩ := F8.ce6
                  obtain ⟨xF78_0, xF78_1, xF78_2⟩ := F7.ce3
                  obtain ⟨xF98_0, xF98_1, xF98_2⟩ := F9.ce3
                  go_wp2_with fail
                  go_meet
                  exact ⟨by first | rfl | simp, F5, F6, F7, F8, F9, B0⟩
              · have h9' : ¬ (ce = de) := fun h => h9 h.symm
                clear k4
                go_wp2_with fail
                (with_reducible refine (o4 _ _ (by simp)).mono ?_)
                rintro r w7 ⟨rfl, hb7⟩
                replace F5 := F5.keep hb7
                replace F6 := F6.keep hb7
                replace F7 := F7.keep hb7
                replace F8 := F8.keep hb7
                replace F9 := F9.keep hb7
                replace B0 := B0.trans (hb7.mono B0.size)
                clear hb7
                obtain ⟨xF68_0, xF68_1, xF68_2, xF68_3, xF68_4, xF68_5⟩ := F6.ce6
                obtain ⟨xF88_0, xF88_1, xF88_2, xF88_3, xF88_4, xF88_5⟩ := F8.ce6
                obtain ⟨xF78_0, xF78_1, xF78_2⟩ := F7.ce3
                obtain ⟨xF98_0, xF98_1, xF98_2⟩ := F9.ce3
                go_wp2_with fail
                go_meet
                exact ⟨by first | rfl | simp, F5, F6, F7, F8, F9, B0⟩
            · have h9' : ¬ (cS.toList = dS.toList) := fun h => h9 (tl_inj h).symm
              clear k4
              go_wp2_with fail
              (with_reducible refine (o4 _ _ (by simp)).mono ?_)
              rintro r w7 ⟨rfl, hb7⟩
              replace F5 := F5.keep hb7
              replace F6 := F6.keep hb7
              replace F7 := F7.keep hb7
              replace F8 := F8.keep hb7
              replace F9 := F9.keep hb7
              replace B0 := B0.trans (hb7.mono B0.size)
              clear hb7
              obtain ⟨xF68_0, xF68_1, xF68_2, xF68_3, xF68_4, xF68_5⟩ := F6.ce6
              obtain ⟨xF88_0, xF88_1, xF88_2, xF88_3, xF88_4, xF88_5⟩ := F8.ce6
              obtain ⟨xF78_0, xF78_1, xF78_2⟩ := F7.ce3
              obtain ⟨xF98_0, xF98_1, xF98_2⟩ := F9.ce3
              go_wp2_with fail
              go_meet
              exact ⟨by first | rfl | simp, F5, F6, F7, F8, F9, B0⟩
          · have h9' : ¬ (cn = dn) := fun h => h9 h.symm
            clear k4
            go_wp2_with fail
            (with_reducible refine (o4 _ _ (by simp)).mono ?_)
            rintro r w7 ⟨rfl, hb7⟩
            replace F5 := F5.keep hb7
            replace F6 := F6.keep hb7
            replace F7 := F7.keep hb7
            replace F8 := F8.keep hb7
            replace F9 := F9.keep hb7
            replace B0 := B0.trans (hb7.mono B0.size)
            clear hb7
            obtain ⟨xF68_0, xF68_1, xF68_2, xF68_3, xF68_4, xF68_5⟩ := F6.ce6
            obtain ⟨xF88_0, xF88_1, xF88_2, xF88_3, xF88_4, xF88_5⟩ := F8.ce6
            obtain ⟨xF78_0, xF78_1, xF78_2⟩ := F7.ce3
            obtain ⟨xF98_0, xF98_1, xF98_2⟩ := F9.ce3
            go_wp2_with fail
            go_meet
            exact ⟨by first | rfl | simp, F5, F6, F7, F8, F9, B0⟩
        · by_cases h9 : dn = cn
          · subst h9
            by_cases h9 : dS = cS
            · subst h9
              by_cases h9 : de = ce
              · subst h9
                by_cases h9 : dm = cm
                · subst h9
                  by_cases h9 : dT = cT
                  · subst h9
                    by_cases h9 : df = cf
                    · subst h9
                      by_cases h9 : sn = rn
                      · subst h9
                        by_cases h9 : sS = rS
                        · subst h9
                          by_cases h9 : se = re
                          · subst h9
                            exact absurd (k4.2 ⟨⟨rfl, rfl, rfl, rfl, rfl, rfl⟩, rfl, rfl, rfl⟩) (by decide)
                          · have h9' : ¬ (re = se) := fun h => h9 h.symm
                            clear k4
                            go_wp2_with fail
                            (with_reducible refine (o4 _ _ (by simp)).mono ?_)
                            rintro r w7 ⟨rfl, hb7⟩
                            replace F5 := F5.keep hb7
                            replace F6 := F6.keep hb7
                            replace F7 := F7.keep hb7
                            replace F8 := F8.keep hb7
                            replace F9 := F9.keep hb7
                            replace B0 := B0.trans (hb7.mono B0.size)
                            clear hb7
                            obtain ⟨xF68_0, xF68_1, xF68_2, xF68_3, xF68_4, xF68_5⟩ := F6.ce6
                            obtain ⟨xF88_0, xF88_1, xF88_2, xF88_3, xF88_4, xF88_5⟩ := F8.ce6
                            obtain ⟨xF78_0, xF78_1, xF78_2⟩ := F7.ce3
                            obtain ⟨xF98_0, xF98_1, xF98_2⟩ := F9.ce3
                            go_wp2_with fail
                            go_meet
                            exact ⟨by first | rfl | simp, F5, F6, F7, F8, F9, B0⟩
                        · have h9' : ¬ (rS.toList = sS.toList) := fun h => h9 (tl_inj h).symm
                          clear k4
                          go_wp2_with fail
                          (with_reducible refine (o4 _ _ (by simp)).mono ?_)
                          rintro r w7 ⟨rfl, hb7⟩
                          replace F5 := F5.keep hb7
                          replace F6 := F6.keep hb7
                          replace F7 := F7.keep hb7
                          replace F8 := F8.keep hb7
                          replace F9 := F9.keep hb7
                          replace B0 := B0.trans (hb7.mono B0.size)
                          clear hb7
                          obtain ⟨xF68_0, xF68_1, xF68_2, xF68_3, xF68_4, xF68_5⟩ := F6.ce6
                          obtain ⟨xF88_0, xF88_1, xF88_2, xF88_3, xF88_4, xF88_5⟩ := F8.ce6
                          obtain ⟨xF78_0, xF78_1, xF78_2⟩ := F7.ce3
                          obtain ⟨xF98_0, xF98_1, xF98_2⟩ := F9.ce3
                          go_wp2_with fail
                          go_meet
                          exact ⟨by first | rfl | simp, F5, F6, F7, F8, F9, B0⟩
                      · have h9' : ¬ (rn = sn) := fun h => h9 h.symm
                        clear k4
                        go_wp2_with fail
                        (with_reducible refine (o4 _ _ (by simp)).mono ?_)
                        rintro r w7 ⟨rfl, hb7⟩
                        replace F5 := F5.keep hb7
                        replace F6 := F6.keep hb7
                        replace F7 := F7.keep hb7
                        replace F8 := F8.keep hb7
                        replace F9 := F9.keep hb7
                        replace B0 := B0.trans (hb7.mono B0.size)
                        clear hb7
                        obtain ⟨xF68_0, xF68_1, xF68_2, xF68_3, xF68_4, xF68_5⟩ := F6.ce6
                        obtain ⟨xF88_0, xF88_1, xF88_2, xF88_3, xF88_4, xF88_5⟩ := F8.ce6
                        obtain ⟨xF78_0, xF78_1, xF78_2⟩ := F7.ce3
                        obtain ⟨xF98_0, xF98_1, xF98_2⟩ := F9.ce3
                        go_wp2_with fail
                        go_meet
                        exact ⟨by first | rfl | simp, F5, F6, F7, F8, F9, B0⟩
                    · have h9' : ¬ (cf = df) := fun h => h9 h.symm
                      clear k4
                      go_wp2_with fail
                      (with_reducible refine (o4 _ _ (by simp)).mono ?_)
                      rintro r w7 ⟨rfl, hb7⟩
                      replace F5 := F5.keep hb7
                      replace F6 := F6.keep hb7
                      replace F7 := F7.keep hb7
                      replace F8 := F8.keep hb7
                      replace F9 := F9.keep hb7
                      replace B0 := B0.trans (hb7.mono B0.size)
                      clear hb7
                      obtain ⟨xF68_0, xF68_1, xF68_2, xF68_3, xF68_4, xF68_5⟩ := F6.ce6
                      obtain ⟨xF88_0, xF88_1, xF88_2, xF88_3, xF88_4, xF88_5⟩ := F8.ce6
                      obtain ⟨xF78_0, xF78_1, xF78_2⟩ := F7.ce3
                      obtain ⟨xF98_0, xF98_1, xF98_2⟩ := F9.ce3
                      go_wp2_with fail
                      go_meet
                      exact ⟨by first | rfl | simp, F5, F6, F7, F8, F9, B0⟩
                  · have h9' : ¬ (cT.toList = dT.toList) := fun h => h9 (tl_inj h).symm
                    clear k4
                    go_wp2_with fail
                    (with_reducible refine (o4 _ _ (by simp)).mono ?_)
                    rintro r w7 ⟨rfl, hb7⟩
                    replace F5 := F5.keep hb7
                    replace F6 := F6.keep hb7
                    replace F7 := F7.keep hb7
                    replace F8 := F8.keep hb7
                    replace F9 := F9.keep hb7
                    replace B0 := B0.trans (hb7.mono B0.size)
                    clear hb7
                    obtain ⟨xF68_0, xF68_1, xF68_2, xF68_3, xF68_4, xF68_5⟩ := F6.ce6
                    obtain ⟨xF88_0, xF88_1, xF88_2, xF88_3, xF88_4, xF88_5⟩ := F8.ce6
                    obtain ⟨xF78_0, xF78_1, xF78_2⟩ := F7.ce3
                    obtain ⟨xF98_0, xF98_1, xF98_2⟩ := F9.ce3
                    go_wp2_with fail
                    go_meet
                    exact ⟨by first | rfl | simp, F5, F6, F7, F8, F9, B0⟩
                · have h9' : ¬ (cm = dm) := fun h => h9 h.symm
                  clear k4
                  go_wp2_with fail
                  (with_reducible refine (o4 _ _ (by simp)).mono ?_)
                  rintro r w7 ⟨rfl, hb7⟩
                  replace F5 := F5.keep hb7
                  replace F6 := F6.keep hb7
                  replace F7 := F7.keep hb7
                  replace F8 := F8.keep hb7
                  replace F9 := F9.keep hb7
                  replace B0 := B0.trans (hb7.mono B0.size)
                  clear hb7
                  obtain ⟨xF68_0, xF68_1, xF68_2, xF68_3, xF68_4, xF68_5⟩ := F6.ce6
                  obtain ⟨xF88_0, xF88_1, xF88_2, xF88_3, xF88_4, xF88_5⟩ := F8.ce6
                  obtain ⟨xF78_0, xF78_1, xF78_2⟩ := F7.ce3
                  obtain ⟨xF98_0, xF98_1, xF98_2⟩ := F9.ce3
                  go_wp2_with fail
                  go_meet
                  exact ⟨by first | rfl | simp, F5, F6, F7, F8, F9, B0⟩
              · have h9' : ¬ (ce = de) := fun h => h9 h.symm
                clear k4
                go_wp2_with fail
                (with_reducible refine (o4 _ _ (by simp)).mono ?_)
                rintro r w7 ⟨rfl, hb7⟩
                replace F5 := F5.keep hb7
                replace F6 := F6.keep hb7
                replace F7 := F7.keep hb7
                replace F8 := F8.keep hb7
                replace F9 := F9.keep hb7
                replace B0 := B0.trans (hb7.mono B0.size)
                clear hb7
                obtain ⟨xF68_0, xF68_1, xF68_2, xF68_3, xF68_4, xF68_5⟩ := F6.ce6
                obtain ⟨xF88_0, xF88_1, xF88_2, xF88_3, xF88_4, xF88_5⟩ := F8.ce6
                obtain ⟨xF78_0, xF78_1, xF78_2⟩ := F7.ce3
                obtain ⟨xF98_0, xF98_1, xF98_2⟩ := F9.ce3
                go_wp2_with fail
                go_meet
                exact ⟨by first | rfl | simp, F5, F6, F7, F8, F9, B0⟩
            · have h9' : ¬ (cS.toList = dS.toList) := fun h => h9 (tl_inj h).symm
              clear k4
              go_wp2_with fail
              (with_reducible refine (o4 _ _ (by simp)).mono ?_)
              rintro r w7 ⟨rfl, hb7⟩
              replace F5 := F5.keep hb7
              replace F6 := F6.keep hb7
              replace F7 := F7.keep hb7
              replace F8 := F8.keep hb7
              replace F9 := F9.keep hb7
              replace B0 := B0.trans (hb7.mono B0.size)
              clear hb7
              obtain ⟨xF68_0, xF68_1, xF68_2, xF68_3, xF68_4, xF68_5⟩ := F6.ce6
              obtain ⟨xF88_0, xF88_1, xF88_2, xF88_3, xF88_4, xF88_5⟩ := F8.ce6
              obtain ⟨xF78_0, xF78_1, xF78_2⟩ := F7.ce3
              obtain ⟨xF98_0, xF98_1, xF98_2⟩ := F9.ce3
              go_wp2_with fail
              go_meet
              exact ⟨by first | rfl | simp, F5, F6, F7, F8, F9, B0⟩
          · have h9' : ¬ (cn = dn) := fun h => h9 h.symm
            clear k4
            go_wp2_with fail
            (with_reducible refine (o4 _ _ (by simp)).mono ?_)
            rintro r w7 ⟨rfl, hb7⟩
            replace F5 := F5.keep hb7
            replace F6 := F6.keep hb7
            replace F7 := F7.keep hb7
            replace F8 := F8.keep hb7
            replace F9 := F9.keep hb7
            replace B0 := B0.trans (hb7.mono B0.size)
            clear hb7
            obtain ⟨xF68_0, xF68_1, xF68_2, xF68_3, xF68_4, xF68_5⟩ := F6.ce6
            obtain ⟨xF88_0, xF88_1, xF88_2, xF88_3, xF88_4, xF88_5⟩ := F8.ce6
            obtain ⟨xF78_0, xF78_1, xF78_2⟩ := F7.ce3
            obtain ⟨xF98_0, xF98_1, xF98_2⟩ := F9.ce3
            go_wp2_with fail
            go_meet
            exact ⟨by first | rfl | simp, F5, F6, F7, F8, F9, B0⟩
      · cases W2n
        · by_cases h9 : dn = cn
          · subst h9
            by_cases h9 : dS = cS
            · subst h9
              by_cases h9 : de = ce
              · subst h9
                by_cases h9 : dm = cm
                · subst h9
                  by_cases h9 : dT = cT
                  · subst h9
                    by_cases h9 : df = cf
                    · subst h9
                      by_cases h9 : sn = rn
                      · subst h9
                        by_cases h9 : sS = rS
                        · subst h9
                          by_cases h9 : se = re
                          · subst h9
                            exact absurd (k4.2 ⟨⟨rfl, rfl, rfl, rfl, rfl, rfl⟩, rfl, rfl, rfl⟩) (by decide)
                          · have h9' : ¬ (re = se) := fun h => h9 h.symm
                            clear k4
                            go_wp2_with fail
                            (with_reducible refine (o4 _ _ (by simp)).mono ?_)
                            rintro r w7 ⟨rfl, hb7⟩
                            replace F5 := F5.keep hb7
                            replace F6 := F6.keep hb7
                            replace F7 := F7.keep hb7
                            replace F8 := F8.keep hb7
                            replace F9 := F9.keep hb7
                            replace B0 := B0.trans (hb7.mono B0.size)
                            clear hb7
                            obtain ⟨xF68_0, xF68_1, xF68_2, xF68_3, xF68_4, xF68_5⟩ := F6.ce6
                            obtain ⟨xF88_0, xF88_1, xF88_2, xF88_3, xF88_4, xF88_5⟩ := F8.ce6
                            obtain ⟨xF78_0, xF78_1, xF78_2⟩ := F7.ce3
                            obtain ⟨xF98_0, xF98_1, xF98_2⟩ := F9.ce3
                            go_wp2_with fail
                            go_meet
                            exact ⟨by first | rfl | simp, F5, F6, F7, F8, F9, B0⟩
                        · have h9' : ¬ (rS.toList = sS.toList) := fun h => h9 (tl_inj h).symm
                          clear k4
                          go_wp2_with fail
                          (with_reducible refine (o4 _ _ (by simp)).mono ?_)
                          rintro r w7 ⟨rfl, hb7⟩
                          replace F5 := F5.keep hb7
                          replace F6 := F6.keep hb7
                          replace F7 := F7.keep hb7
                          replace F8 := F8.keep hb7
                          replace F9 := F9.keep hb7
                          replace B0 := B0.trans (hb7.mono B0.size)
                          clear hb7
                          obtain ⟨xF68_0, xF68_1, xF68_2, xF68_3, xF68_4, xF68_5⟩ := F6.ce6
                          obtain ⟨xF88_0, xF88_1, xF88_2, xF88_3, xF88_4, xF88_5⟩ := F8.ce6
                          obtain ⟨xF78_0, xF78_1, xF78_2⟩ := F7.ce3
                          obtain ⟨xF98_0, xF98_1, xF98_2⟩ := F9.ce3
                          go_wp2_with fail
                          go_meet
                          exact ⟨by first | rfl | simp, F5, F6, F7, F8, F9, B0⟩
                      · have h9' : ¬ (rn = sn) := fun h => h9 h.symm
                        clear k4
                        go_wp2_with fail
                        (with_reducible refine (o4 _ _ (by simp)).mono ?_)
                        rintro r w7 ⟨rfl, hb7⟩
                        replace F5 := F5.keep hb7
                        replace F6 := F6.keep hb7
                        replace F7 := F7.keep hb7
                        replace F8 := F8.keep hb7
                        replace F9 := F9.keep hb7
                        replace B0 := B0.trans (hb7.mono B0.size)
                        clear hb7
                        obtain ⟨xF68_0, xF68_1, xF68_2, xF68_3, xF68_4, xF68_5⟩ := F6.ce6
                        obtain ⟨xF88_0, xF88_1, xF88_2, xF88_3, xF88_4, xF88_5⟩ := F8.ce6
                        obtain ⟨xF78_0, xF78_1, xF78_2⟩ := F7.ce3
                        obtain ⟨xF98_0, xF98_1, xF98_2⟩ := F9.ce3
                        go_wp2_with fail
                        go_meet
                        exact ⟨by first | rfl | simp, F5, F6, F7, F8, F9, B0⟩
                    · have h9' : ¬ (cf = df) := fun h => h9 h.symm
                      clear k4
                      go_wp2_with fail
                      (with_reducible refine (o4 _ _ (by simp)).mono ?_)
                      rintro r w7 ⟨rfl, hb7⟩
                      replace F5 := F5.keep hb7
                      replace F6 := F6.keep hb7
                      replace F7 := F7.keep hb7
                      replace F8 := F8.keep hb7
                      replace F9 := F9.keep hb7
                      replace B0 := B0.trans (hb7.mono B0.size)
                      clear hb7
                      obtain ⟨xF68_0, xF68_1, xF68_2, xF68_3, xF68_4, xF68_5⟩ := F6.ce6
                      obtain ⟨xF88_0, xF88_1, xF88_2, xF88_3, xF88_4, xF88_5⟩ := F8.ce6
                      obtain ⟨xF78_0, xF78_1, xF78_2⟩ := F7.ce3
                      obtain ⟨xF98_0, xF98_1, xF98_2⟩ := F9.ce3
                      go_wp2_with fail
                      go_meet
                      exact ⟨by first | rfl | simp, F5, F6, F7, F8, F9, B0⟩
                  · have h9' : ¬ (cT.toList = dT.toList) := fun h => h9 (tl_inj h).symm
                    clear k4
                    go_wp2_with fail
                    (with_reducible refine (o4 _ _ (by simp)).mono ?_)
                    rintro r w7 ⟨rfl, hb7⟩
                    replace F5 := F5.keep hb7
                    replace F6 := F6.keep hb7
                    replace F7 := F7.keep hb7
                    replace F8 := F8.keep hb7
                    replace F9 := F9.keep hb7
                    replace B0 := B0.trans (hb7.mono B0.size)
                    clear hb7
                    obtain ⟨xF68_0, xF68_1, xF68_2, xF68_3, xF68_4, xF68_5⟩ := F6.ce6
                    obtain ⟨xF88_0, xF88_1, xF88_2, xF88_3, xF88_4, xF88_5⟩ := F8.ce6
                    obtain ⟨xF78_0, xF78_1, xF78_2⟩ := F7.ce3
                    obtain ⟨xF98_0, xF98_1, xF98_2⟩ := F9.ce3
                    go_wp2_with fail
                    go_meet
                    exact ⟨by first | rfl | simp, F5, F6, F7, F8, F9, B0⟩
                · have h9' : ¬ (cm = dm) := fun h => h9 h.symm
                  clear k4
                  go_wp2_with fail
                  (with_reducible refine (o4 _ _ (by simp)).mono ?_)
                  rintro r w7 ⟨rfl, hb7⟩
                  replace F5 := F5.keep hb7
                  replace F6 := F6.keep hb7
                  replace F7 := F7.keep hb7
                  replace F8 := F8.keep hb7
                  replace F9 := F9.keep hb7
                  replace B0 := B0.trans (hb7.mono B0.size)
                  clear hb7
                  obtain ⟨xF68_0, xF68_1, xF68_2, xF68_3, xF68_4, xF68_5⟩ := F6.ce6
                  obtain ⟨xF88_0, xF88_1, xF88_2, xF88_3, xF88_4, xF88_5⟩ := F8.ce6
                  obtain ⟨xF78_0, xF78_1, xF78_2⟩ := F7.ce3
                  obtain ⟨xF98_0, xF98_1, xF98_2⟩ := F9.ce3
                  go_wp2_with fail
                  go_meet
                  exact ⟨by first | rfl | simp, F5, F6, F7, F8, F9, B0⟩
              · have h9' : ¬ (ce = de) := fun h => h9 h.symm
                clear k4
                go_wp2_with fail
                (with_reducible refine (o4 _ _ (by simp)).mono ?_)
                rintro r w7 ⟨rfl, hb7⟩
                replace F5 := F5.keep hb7
                replace F6 := F6.keep hb7
                replace F7 := F7.keep hb7
                replace F8 := F8.keep hb7
                replace F9 := F9.keep hb7
                replace B0 := B0.trans (hb7.mono B0.size)
                clear hb7
                obtain ⟨xF68_0, xF68_1, xF68_2, xF68_3, xF68_4, xF68_5⟩ := F6.ce6
                obtain ⟨xF88_0, xF88_1, xF88_2, xF88_3, xF88_4, xF88_5⟩ := F8.ce6
                obtain ⟨xF78_0, xF78_1, xF78_2⟩ := F7.ce3
                obtain ⟨xF98_0, xF98_1, xF98_2⟩ := F9.ce3
                go_wp2_with fail
                go_meet
                exact ⟨by first | rfl | simp, F5, F6, F7, F8, F9, B0⟩
            · have h9' : ¬ (cS.toList = dS.toList) := fun h => h9 (tl_inj h).symm
              clear k4
              go_wp2_with fail
              (with_reducible refine (o4 _ _ (by simp)).mono ?_)
              rintro r w7 ⟨rfl, hb7⟩
              replace F5 := F5.keep hb7
              replace F6 := F6.keep hb7
              replace F7 := F7.keep hb7
              replace F8 := F8.keep hb7
              replace F9 := F9.keep hb7
              replace B0 := B0.trans (hb7.mono B0.size)
              clear hb7
              obtain ⟨xF68_0, xF68_1, xF68_2, xF68_3, xF68_4, xF68_5⟩ := F6.ce6
              obtain ⟨xF88_0, xF88_1, xF88_2, xF88_3, xF88_4, xF88_5⟩ := F8.ce6
              obtain ⟨xF78_0, xF78_1, xF78_2⟩ := F7.ce3
              obtain ⟨xF98_0, xF98_1, xF98_2⟩ := F9.ce3
              go_wp2_with fail
              go_meet
              exact ⟨by first | rfl | simp, F5, F6, F7, F8, F9, B0⟩
          · have h9' : ¬ (cn = dn) := fun h => h9 h.symm
            clear k4
            go_wp2_with fail
            (with_reducible refine (o4 _ _ (by simp)).mono ?_)
            rintro r w7 ⟨rfl, hb7⟩
            replace F5 := F5.keep hb7
            replace F6 := F6.keep hb7
            replace F7 := F7.keep hb7
            replace F8 := F8.keep hb7
            replace F9 := F9.keep hb7
            replace B0 := B0.trans (hb7.mono B0.size)
            clear hb7
            obtain ⟨xF68_0, xF68_1, xF68_2, xF68_3, xF68_4, xF68_5⟩ := F6.ce6
            obtain ⟨xF88_0, xF88_1, xF88_2, xF88_3, xF88_4, xF88_5⟩ := F8.ce6
            obtain ⟨xF78_0, xF78_1, xF78_2⟩ := F7.ce3
            obtain ⟨xF98_0, xF98_1, xF98_2⟩ := F9.ce3
            go_wp2_with fail
            go_meet
            exact ⟨by first | rfl | simp, F5, F6, F7, F8, F9, B0⟩
        · obtain ⟨⟨rfl, rfl, rfl, rfl, rfl, rfl⟩, rfl, rfl, rfl⟩ := k4.1 ⟨rfl, rfl⟩
          clear k4
          go_wp2_with fail
          (with_reducible refine (o4 _ _ (by simp)).mono ?_)
          rintro r w7 ⟨rfl, hb7⟩
          replace F5 := F5.keep hb7
          replace F6 := F6.keep hb7
          replace F7 := F7.keep hb7
          replace F8 := F8.keep hb7
          replace F9 := F9.keep hb7
          replace B0 := B0.trans (hb7.mono B0.size)
          clear hb7
          obtain ⟨xF68_0, xF68_1, xF68_2, xF68_3, xF68_4, xF68_5⟩ := F6.ce6
          obtain ⟨xF88_0, xF88_1, xF88_2, xF88_3, xF88_4, xF88_5⟩ := F8.ce6
          obtain ⟨xF78_0, xF78_1, xF78_2⟩ := F7.ce3
          obtain ⟨xF98_0, xF98_1, xF98_2⟩ := F9.ce3
          go_wp2_with fail
          go_meet
          exact ⟨by first | rfl | simp, F5, F6, F7, F8, F9, B0⟩
  case rest =>
    clear B0
    clear F5
    clear F6
    clear F7
    clear F8
    clear F9
    obtain ⟨rfl, F5, F6, F7, F8, F9, B0⟩ := hcut
    generalize wc = v2 at *
    obtain ⟨xF68_0, xF68_1, xF68_2, xF68_3, xF68_4, xF68_5⟩ := F6.ce6
    obtain ⟨xF78_0, xF78_1, xF78_2⟩ := F7.ce3
    go_wp2_with fail
    (with_reducible refine (h6 _ (hT.below B0)).mono ?_)
    rintro r w7 ⟨rfl, hb7⟩
    clear xF68_0 xF68_1 xF68_2 xF68_3 xF68_4 xF68_5 xF78_0 xF78_1 xF78_2
    replace F5 := F5.keep hb7
    replace F6 := F6.keep hb7
    replace F7 := F7.keep hb7
    replace F8 := F8.keep hb7
    replace F9 := F9.keep hb7
    replace B0 := B0.trans (hb7.mono B0.size)
    clear hb7
    go_upto_region 13 with fail
    go_cut [141] (fun s141 wx => s141 = .bool false ∧ Blk wx (w.heap.size) #[.bool gn, .string gS, .int .i64 ge, .bool gm, .string gT, .int .i64 gf] 49 ∧ Blk wx (w.heap.size + 1) #[.bool cn, .string cS, .int .i64 ce, .bool cm, .string cT, .int .i64 cf] 49 ∧ Blk wx (w.heap.size + 1 + 1 + 1) #[.bool dn, .string dS, .int .i64 de, .bool dm, .string dT, .int .i64 df] 49 ∧ Below w.heap.size w wx)
    case first =>
      by_cases h9 : W3r = 0
      · obtain rfl := K5.out h9
        clear K5
        subst h9
        go_wp2_with fail
        go_meet
        exact ⟨by first | rfl | simp, F5, F6, F8, B0⟩
      · have h8 : (W3r == 0) = false := by simpa using h9
        clear h9 K5
        go_wp2_with fail
        go_meet
        exact ⟨by first | rfl | simp, F5, F6, F8, B0⟩
    case rest =>
      clear B0
      clear F5
      clear F6
      clear F7
      clear F8
      clear F9
      obtain ⟨rfl, F5, F6, F8, B0⟩ := hcut
      generalize wc = v3 at *
      obtain ⟨xF510_0, xF510_1, xF510_2, xF510_3, xF510_4, xF510_5⟩ := F5.ce6
      obtain ⟨xF610_0, xF610_1, xF610_2, xF610_3, xF610_4, xF610_5⟩ := F6.ce6
      obtain ⟨xF810_0, xF810_1, xF810_2, xF810_3, xF810_4, xF810_5⟩ := F8.ce6
      go_wp2_with fail
      (with_reducible refine (h7 _ (hT.below B0)).mono ?_)
      rintro r w8 ⟨rfl, hb8⟩
      clear xF510_0 xF510_1 xF510_2 xF510_3 xF510_4 xF510_5 xF610_0 xF610_1 xF610_2 xF610_3 xF610_4 xF610_5 xF810_0 xF810_1 xF810_2 xF810_3 xF810_4 xF810_5
      replace F5 := F5.keep hb8
      replace F6 := F6.keep hb8
      replace F8 := F8.keep hb8
      replace B0 := B0.trans (hb8.mono B0.size)
      clear hb8
      obtain ⟨xF611_0, xF611_1, xF611_2, xF611_3, xF611_4, xF611_5⟩ := F6.ce6
      obtain ⟨xF811_0, xF811_1, xF811_2, xF811_3, xF811_4, xF811_5⟩ := F8.ce6
      obtain ⟨xF511_0, xF511_1, xF511_2, xF511_3, xF511_4, xF511_5⟩ := F5.ce6
      go_wp2_with fail
      (with_reducible refine (h8 _ (hT.below B0)).mono ?_)
      rintro r w9 ⟨rfl, hb9⟩
      clear xF611_0 xF611_1 xF611_2 xF611_3 xF611_4 xF611_5 xF811_0 xF811_1 xF811_2 xF811_3 xF811_4 xF811_5 xF511_0 xF511_1 xF511_2 xF511_3 xF511_4 xF511_5
      replace F5 := F5.keep hb9
      replace F6 := F6.keep hb9
      replace F8 := F8.keep hb9
      replace B0 := B0.trans (hb9.mono B0.size)
      clear hb9
      obtain ⟨xF612_0, xF612_1, xF612_2, xF612_3, xF612_4, xF612_5⟩ := F6.ce6
      obtain ⟨xF512_0, xF512_1, xF512_2, xF512_3, xF512_4, xF512_5⟩ := F5.ce6
      obtain ⟨xF812_0, xF812_1, xF812_2, xF812_3, xF812_4, xF812_5⟩ := F8.ce6
      go_wp2_with fail
      (with_reducible refine (h9 _ (hT.below B0)).mono ?_)
      rintro r w10 ⟨rfl, hb10⟩
      clear xF612_0 xF612_1 xF612_2 xF612_3 xF612_4 xF612_5 xF512_0 xF512_1 xF512_2 xF512_3 xF512_4 xF512_5 xF812_0 xF812_1 xF812_2 xF812_3 xF812_4 xF812_5
      replace F5 := F5.keep hb10
      replace F6 := F6.keep hb10
      replace F8 := F8.keep hb10
      replace B0 := B0.trans (hb10.mono B0.size)
      clear hb10
      go_wp2_with fail
      (with_reducible refine (o5 _ _ (by simp)).mono ?_)
      rintro r w11 ⟨rfl, hb11⟩
      clear F5
      clear F6
      clear F8
      replace B0 := B0.trans (hb11.mono B0.size)
      clear hb11
      cases O5
      · clear K6 K7
        go_wp2
        go_ret
        exact ⟨rfl, B0⟩
      · obtain ⟨rfl, rfl⟩ := K6.out rfl
        clear K6
        rcases K7.out with rfl | rfl | rfl
        · go_wp2
          go_ret
          exact ⟨rfl, B0⟩
        · go_wp2
          go_ret
          exact ⟨rfl, B0⟩
        · go_wp2
          go_ret
          exact ⟨rfl, B0⟩

set_option maxRecDepth 1000000 in
set_option maxHeartbeats 16000000 in
theorem round_w (og oc od : Option GY) (qr qs : Option DY) (g : GR) (c : GR) (r : DRw) (d : GR) (s : DRw) (I1 : Bool × Int) (I2 : Bool × Int) (W1 : Bool × Int) (W2 : Bool × Int) (A1 : Bool × Int) (W3 : Bool × Int) (X1 : Int × Int) (X2 : Int × Int) (X3 : Int × Int) (E_I1 : xIn og oc qr = I1) (E_I2 : xIn og od qs = I2) (E_W1 : xDisc gWithin oc qr od qs = W1) (E_W2 : xDisc gWithin od qs oc qr = W2) (E_A1 : xDisc gApart oc qr od qs = A1) (E_W3 : xDisc gWithin oc qr oc qr = W3) (E_X1 : x3 0 gSide og oc od = X1) (E_X2 : x3 0 gSide oc od og = X2) (E_X3 : x3 0 gSide oc og od = X3) (w : World) (hg : Rep g og) (hc : Rep c oc) (hr : RepD r qr) (hd : Rep d od) (hs : RepD s qs) (hT : Tab w) :
    Calls Tryd.prog 15 #[.agg #[.bool g.n, .string g.s, .int .i64 g.e, .bool g.m, .string g.t, .int .i64 g.f], .agg #[.bool c.n, .string c.s, .int .i64 c.e, .bool c.m, .string c.t, .int .i64 c.f], .agg #[.bool r.n, .string r.s, .int .i64 r.e], .agg #[.bool d.n, .string d.s, .int .i64 d.e, .bool d.m, .string d.t, .int .i64 d.f], .agg #[.bool s.n, .string s.s, .int .i64 s.e]] w fun r w' => r = .returned (.bool true) ∧ Below w.heap.size w w' := by
  have hw := fun W hW => l6awake_any W hW
  have h1 := fun W hW => gin_x g c r og oc qr W hg hc hr hW
  rw [E_I1] at h1
  have h2 := fun W hW => gin_x g d s og od qs W hg hd hs hW
  rw [E_I2] at h2
  have h3 := fun W hW => gwithin_x c r d s oc qr od qs W hc hr hd hs hW
  rw [E_W1] at h3
  have h4 := fun W hW => gwithin_x d s c r od qs oc qr W hd hs hc hr hW
  rw [E_W2] at h4
  have h5 := fun W hW => gapart_x c r d s oc qr od qs W hc hr hd hs hW
  rw [E_A1] at h5
  have o1 := fun Bk W h => l6all_3 I1.2 I2.2 W1.2 Bk W h
  have o2 := fun Bk W h => l6all_3 I1.2 I2.2 A1.2 Bk W h
  have o3 := fun Bk W h => l6all_2 W1.2 A1.2 Bk W h
  have HR := Lib.hid (round_r og oc od qr qs g c r d s W1 W2 W3 X1 X2 X3 E_W1 E_W2 E_W3 E_X1 E_X2 E_X3 I1 I2 A1 w hg hc hr hd hs hT)
  have f1 : oks [I1.2, I2.2, W1.2] = true → I1.1 = true → W1.1 = true → I2.1 = true := fun h k1 k2 => by
    simp only [oks_cons] at h
    obtain ⟨e1, e2, e3, -⟩ := h
    subst E_I1; subst E_I2; subst E_W1
    exact round_1 hg hc hd hr hs e1 e2 e3 k1 k2
  have f2 : oks [I1.2, I2.2, A1.2] = true → I1.1 = true → A1.1 = true → I2.1 = false := fun h k1 k2 => by
    simp only [oks_cons] at h
    obtain ⟨e1, e2, e3, -⟩ := h
    subst E_I1; subst E_I2; subst E_A1
    exact round_2 hg hc hd hr hs e1 e2 e3 k1 k2
  have f3 : oks [W1.2, A1.2] = true → W1.1 = true → A1.1 = false := fun h k1 => by
    simp only [oks_cons] at h
    obtain ⟨e1, e2, -⟩ := h
    subst E_W1; subst E_A1
    exact round_3 hc hd hr hs e1 e2 k1
  generalize oks [I1.2, I2.2, W1.2] = O1 at *
  generalize oks [I1.2, I2.2, A1.2] = O2 at *
  generalize oks [W1.2, A1.2] = O3 at *

  clear hg hc hd hr hs
  clear E_I1 E_I2 E_W1 E_W2 E_A1 E_W3 E_X1 E_X2 E_X3
  obtain ⟨gn, gS, ge, gm, gT, gf⟩ := g
  obtain ⟨cn, cS, ce, cm, cT, cf⟩ := c
  obtain ⟨rn, rS, re⟩ := r
  obtain ⟨dn, dS, de, dm, dT, df⟩ := d
  obtain ⟨sn, sS, se⟩ := s
  obtain ⟨I1n, I1r⟩ := I1
  obtain ⟨I2n, I2r⟩ := I2
  obtain ⟨W1n, W1r⟩ := W1
  obtain ⟨W2n, W2r⟩ := W2
  obtain ⟨A1n, A1r⟩ := A1
  obtain ⟨W3n, W3r⟩ := W3
  obtain ⟨X1n, X1r⟩ := X1
  obtain ⟨X2n, X2r⟩ := X2
  obtain ⟨X3n, X3r⟩ := X3
  dsimp only at *
  have K1 := Lib.hid f1
  have K2 := Lib.hid f2
  have K3 := Lib.hid f3
  clear f1 f2 f3
  go_enter Tryd.func15, Tryd.ntmps15
  have B0 := Below.refl w.heap.size w
  have F5 := Blk.put (w) #[.bool gn, .string gS, .int .i64 ge, .bool gm, .string gT, .int .i64 gf] 49
  replace B0 := B0.alloc B0.size (.cells #[.bool gn, .string gS, .int .i64 ge, .bool gm, .string gT, .int .i64 gf] 49)
  replace F5 := F5.allocd (.cells #[.bool cn, .string cS, .int .i64 ce, .bool cm, .string cT, .int .i64 cf] 49)
  have F6 := Blk.put ((w).alloc (.cells #[.bool gn, .string gS, .int .i64 ge, .bool gm, .string gT, .int .i64 gf] 49)) #[.bool cn, .string cS, .int .i64 ce, .bool cm, .string cT, .int .i64 cf] 49
  rw [show ((w).alloc (.cells #[.bool gn, .string gS, .int .i64 ge, .bool gm, .string gT, .int .i64 gf] 49)).heap.size = w.heap.size + 1 by simp] at F6
  replace B0 := B0.alloc B0.size (.cells #[.bool cn, .string cS, .int .i64 ce, .bool cm, .string cT, .int .i64 cf] 49)
  replace F5 := F5.allocd (.cells #[.bool rn, .string rS, .int .i64 re] 24)
  replace F6 := F6.allocd (.cells #[.bool rn, .string rS, .int .i64 re] 24)
  have F7 := Blk.put (((w).alloc (.cells #[.bool gn, .string gS, .int .i64 ge, .bool gm, .string gT, .int .i64 gf] 49)).alloc (.cells #[.bool cn, .string cS, .int .i64 ce, .bool cm, .string cT, .int .i64 cf] 49)) #[.bool rn, .string rS, .int .i64 re] 24
  rw [show (((w).alloc (.cells #[.bool gn, .string gS, .int .i64 ge, .bool gm, .string gT, .int .i64 gf] 49)).alloc (.cells #[.bool cn, .string cS, .int .i64 ce, .bool cm, .string cT, .int .i64 cf] 49)).heap.size = w.heap.size + 1 + 1 by simp] at F7
  replace B0 := B0.alloc B0.size (.cells #[.bool rn, .string rS, .int .i64 re] 24)
  replace F5 := F5.allocd (.cells #[.bool dn, .string dS, .int .i64 de, .bool dm, .string dT, .int .i64 df] 49)
  replace F6 := F6.allocd (.cells #[.bool dn, .string dS, .int .i64 de, .bool dm, .string dT, .int .i64 df] 49)
  replace F7 := F7.allocd (.cells #[.bool dn, .string dS, .int .i64 de, .bool dm, .string dT, .int .i64 df] 49)
  have F8 := Blk.put ((((w).alloc (.cells #[.bool gn, .string gS, .int .i64 ge, .bool gm, .string gT, .int .i64 gf] 49)).alloc (.cells #[.bool cn, .string cS, .int .i64 ce, .bool cm, .string cT, .int .i64 cf] 49)).alloc (.cells #[.bool rn, .string rS, .int .i64 re] 24)) #[.bool dn, .string dS, .int .i64 de, .bool dm, .string dT, .int .i64 df] 49
  rw [show ((((w).alloc (.cells #[.bool gn, .string gS, .int .i64 ge, .bool gm, .string gT, .int .i64 gf] 49)).alloc (.cells #[.bool cn, .string cS, .int .i64 ce, .bool cm, .string cT, .int .i64 cf] 49)).alloc (.cells #[.bool rn, .string rS, .int .i64 re] 24)).heap.size = w.heap.size + 1 + 1 + 1 by simp] at F8
  replace B0 := B0.alloc B0.size (.cells #[.bool dn, .string dS, .int .i64 de, .bool dm, .string dT, .int .i64 df] 49)
  replace F5 := F5.allocd (.cells #[.bool sn, .string sS, .int .i64 se] 24)
  replace F6 := F6.allocd (.cells #[.bool sn, .string sS, .int .i64 se] 24)
  replace F7 := F7.allocd (.cells #[.bool sn, .string sS, .int .i64 se] 24)
  replace F8 := F8.allocd (.cells #[.bool sn, .string sS, .int .i64 se] 24)
  have F9 := Blk.put (((((w).alloc (.cells #[.bool gn, .string gS, .int .i64 ge, .bool gm, .string gT, .int .i64 gf] 49)).alloc (.cells #[.bool cn, .string cS, .int .i64 ce, .bool cm, .string cT, .int .i64 cf] 49)).alloc (.cells #[.bool rn, .string rS, .int .i64 re] 24)).alloc (.cells #[.bool dn, .string dS, .int .i64 de, .bool dm, .string dT, .int .i64 df] 49)) #[.bool sn, .string sS, .int .i64 se] 24
  rw [show (((((w).alloc (.cells #[.bool gn, .string gS, .int .i64 ge, .bool gm, .string gT, .int .i64 gf] 49)).alloc (.cells #[.bool cn, .string cS, .int .i64 ce, .bool cm, .string cT, .int .i64 cf] 49)).alloc (.cells #[.bool rn, .string rS, .int .i64 re] 24)).alloc (.cells #[.bool dn, .string dS, .int .i64 de, .bool dm, .string dT, .int .i64 df] 49)).heap.size = w.heap.size + 1 + 1 + 1 + 1 by simp] at F9
  replace B0 := B0.alloc B0.size (.cells #[.bool sn, .string sS, .int .i64 se] 24)
  go_wp2_with fail
  (with_reducible refine (hw _ (hT.below B0)).mono ?_)
  rintro r w1 ⟨rfl, hb1⟩
  replace F5 := F5.keep hb1
  replace F6 := F6.keep hb1
  replace F7 := F7.keep hb1
  replace F8 := F8.keep hb1
  replace F9 := F9.keep hb1
  replace B0 := B0.trans (hb1.mono B0.size)
  clear hb1
  obtain ⟨xF51_0, xF51_1, xF51_2, xF51_3, xF51_4, xF51_5⟩ := F5.ce6
  obtain ⟨xF61_0, xF61_1, xF61_2, xF61_3, xF61_4, xF61_5⟩ := F6.ce6
  obtain ⟨xF71_0, xF71_1, xF71_2⟩ := F7.ce3
  go_wp2_with fail
  (with_reducible refine (h1 _ (hT.below B0)).mono ?_)
  rintro r w2 ⟨rfl, hb2⟩
  clear xF51_0 xF51_1 xF51_2 xF51_3 xF51_4 xF51_5 xF61_0 xF61_1 xF61_2 xF61_3 xF61_4 xF61_5 xF71_0 xF71_1 xF71_2
  replace F5 := F5.keep hb2
  replace F6 := F6.keep hb2
  replace F7 := F7.keep hb2
  replace F8 := F8.keep hb2
  replace F9 := F9.keep hb2
  replace B0 := B0.trans (hb2.mono B0.size)
  clear hb2
  obtain ⟨xF52_0, xF52_1, xF52_2, xF52_3, xF52_4, xF52_5⟩ := F5.ce6
  obtain ⟨xF82_0, xF82_1, xF82_2, xF82_3, xF82_4, xF82_5⟩ := F8.ce6
  obtain ⟨xF92_0, xF92_1, xF92_2⟩ := F9.ce3
  go_wp2_with fail
  (with_reducible refine (h2 _ (hT.below B0)).mono ?_)
  rintro r w3 ⟨rfl, hb3⟩
  clear xF52_0 xF52_1 xF52_2 xF52_3 xF52_4 xF52_5 xF82_0 xF82_1 xF82_2 xF82_3 xF82_4 xF82_5 xF92_0 xF92_1 xF92_2
  replace F5 := F5.keep hb3
  replace F6 := F6.keep hb3
  replace F7 := F7.keep hb3
  replace F8 := F8.keep hb3
  replace F9 := F9.keep hb3
  replace B0 := B0.trans (hb3.mono B0.size)
  clear hb3
  obtain ⟨xF63_0, xF63_1, xF63_2, xF63_3, xF63_4, xF63_5⟩ := F6.ce6
  obtain ⟨xF73_0, xF73_1, xF73_2⟩ := F7.ce3
  obtain ⟨xF83_0, xF83_1, xF83_2, xF83_3, xF83_4, xF83_5⟩ := F8.ce6
  obtain ⟨xF93_0, xF93_1, xF93_2⟩ := F9.ce3
  go_wp2_with fail
  (with_reducible refine (h3 _ (hT.below B0)).mono ?_)
  rintro r w4 ⟨rfl, hb4⟩
  clear xF63_0 xF63_1 xF63_2 xF63_3 xF63_4 xF63_5 xF73_0 xF73_1 xF73_2 xF83_0 xF83_1 xF83_2 xF83_3 xF83_4 xF83_5 xF93_0 xF93_1 xF93_2
  replace F5 := F5.keep hb4
  replace F6 := F6.keep hb4
  replace F7 := F7.keep hb4
  replace F8 := F8.keep hb4
  replace F9 := F9.keep hb4
  replace B0 := B0.trans (hb4.mono B0.size)
  clear hb4
  obtain ⟨xF84_0, xF84_1, xF84_2, xF84_3, xF84_4, xF84_5⟩ := F8.ce6
  obtain ⟨xF94_0, xF94_1, xF94_2⟩ := F9.ce3
  obtain ⟨xF64_0, xF64_1, xF64_2, xF64_3, xF64_4, xF64_5⟩ := F6.ce6
  obtain ⟨xF74_0, xF74_1, xF74_2⟩ := F7.ce3
  go_wp2_with fail
  (with_reducible refine (h4 _ (hT.below B0)).mono ?_)
  rintro r w5 ⟨rfl, hb5⟩
  clear xF84_0 xF84_1 xF84_2 xF84_3 xF84_4 xF84_5 xF94_0 xF94_1 xF94_2 xF64_0 xF64_1 xF64_2 xF64_3 xF64_4 xF64_5 xF74_0 xF74_1 xF74_2
  replace F5 := F5.keep hb5
  replace F6 := F6.keep hb5
  replace F7 := F7.keep hb5
  replace F8 := F8.keep hb5
  replace F9 := F9.keep hb5
  replace B0 := B0.trans (hb5.mono B0.size)
  clear hb5
  obtain ⟨xF65_0, xF65_1, xF65_2, xF65_3, xF65_4, xF65_5⟩ := F6.ce6
  obtain ⟨xF75_0, xF75_1, xF75_2⟩ := F7.ce3
  obtain ⟨xF85_0, xF85_1, xF85_2, xF85_3, xF85_4, xF85_5⟩ := F8.ce6
  obtain ⟨xF95_0, xF95_1, xF95_2⟩ := F9.ce3
  go_wp2_with fail
  (with_reducible refine (h5 _ (hT.below B0)).mono ?_)
  rintro r w6 ⟨rfl, hb6⟩
  clear xF65_0 xF65_1 xF65_2 xF65_3 xF65_4 xF65_5 xF75_0 xF75_1 xF75_2 xF85_0 xF85_1 xF85_2 xF85_3 xF85_4 xF85_5 xF95_0 xF95_1 xF95_2
  replace F5 := F5.keep hb6
  replace F6 := F6.keep hb6
  replace F7 := F7.keep hb6
  replace F8 := F8.keep hb6
  replace F9 := F9.keep hb6
  replace B0 := B0.trans (hb6.mono B0.size)
  clear hb6
  go_upto_region 8 with fail
  go_cut [108] (fun s108 wx => s108 = .bool false ∧ Blk wx (w.heap.size) #[.bool gn, .string gS, .int .i64 ge, .bool gm, .string gT, .int .i64 gf] 49 ∧ Blk wx (w.heap.size + 1) #[.bool cn, .string cS, .int .i64 ce, .bool cm, .string cT, .int .i64 cf] 49 ∧ Blk wx (w.heap.size + 1 + 1) #[.bool rn, .string rS, .int .i64 re] 24 ∧ Blk wx (w.heap.size + 1 + 1 + 1) #[.bool dn, .string dS, .int .i64 de, .bool dm, .string dT, .int .i64 df] 49 ∧ Blk wx (w.heap.size + 1 + 1 + 1 + 1) #[.bool sn, .string sS, .int .i64 se] 24 ∧ Below w.heap.size w wx)
  case first =>
    cases O1
    · cases O2
      · cases O3
        · clear K1 K2 K3
          go_wp2_with fail
          (with_reducible refine (o1 _ _ (by simp)).mono ?_)
          rintro r w7 ⟨rfl, hb7⟩
          replace F5 := F5.keep hb7
          replace F6 := F6.keep hb7
          replace F7 := F7.keep hb7
          replace F8 := F8.keep hb7
          replace F9 := F9.keep hb7
          replace B0 := B0.trans (hb7.mono B0.size)
          clear hb7
          go_wp2_with fail
          (with_reducible refine (o2 _ _ (by simp)).mono ?_)
          rintro r w8 ⟨rfl, hb8⟩
          replace F5 := F5.keep hb8
          replace F6 := F6.keep hb8
          replace F7 := F7.keep hb8
          replace F8 := F8.keep hb8
          replace F9 := F9.keep hb8
          replace B0 := B0.trans (hb8.mono B0.size)
          clear hb8
          go_wp2_with fail
          (with_reducible refine (o3 _ _ (by simp)).mono ?_)
          rintro r w9 ⟨rfl, hb9⟩
          replace F5 := F5.keep hb9
          replace F6 := F6.keep hb9
          replace F7 := F7.keep hb9
          replace F8 := F8.keep hb9
          replace F9 := F9.keep hb9
          replace B0 := B0.trans (hb9.mono B0.size)
          clear hb9
          go_wp2_with fail
          go_meet
          exact ⟨by first | rfl | simp, F5, F6, F7, F8, F9, B0⟩
        · cases W1n
          · clear K1 K2 K3
            go_wp2_with fail
            (with_reducible refine (o1 _ _ (by simp)).mono ?_)
            rintro r w7 ⟨rfl, hb7⟩
            replace F5 := F5.keep hb7
            replace F6 := F6.keep hb7
            replace F7 := F7.keep hb7
            replace F8 := F8.keep hb7
            replace F9 := F9.keep hb7
            replace B0 := B0.trans (hb7.mono B0.size)
            clear hb7
            go_wp2_with fail
            (with_reducible refine (o2 _ _ (by simp)).mono ?_)
            rintro r w8 ⟨rfl, hb8⟩
            replace F5 := F5.keep hb8
            replace F6 := F6.keep hb8
            replace F7 := F7.keep hb8
            replace F8 := F8.keep hb8
            replace F9 := F9.keep hb8
            replace B0 := B0.trans (hb8.mono B0.size)
            clear hb8
            go_wp2_with fail
            (with_reducible refine (o3 _ _ (by simp)).mono ?_)
            rintro r w9 ⟨rfl, hb9⟩
            replace F5 := F5.keep hb9
            replace F6 := F6.keep hb9
            replace F7 := F7.keep hb9
            replace F8 := F8.keep hb9
            replace F9 := F9.keep hb9
            replace B0 := B0.trans (hb9.mono B0.size)
            clear hb9
            go_wp2_with fail
            go_meet
            exact ⟨by first | rfl | simp, F5, F6, F7, F8, F9, B0⟩
          · cases A1n
            · clear K1 K2 K3
              go_wp2_with fail
              (with_reducible refine (o1 _ _ (by simp)).mono ?_)
              rintro r w7 ⟨rfl, hb7⟩
              replace F5 := F5.keep hb7
              replace F6 := F6.keep hb7
              replace F7 := F7.keep hb7
              replace F8 := F8.keep hb7
              replace F9 := F9.keep hb7
              replace B0 := B0.trans (hb7.mono B0.size)
              clear hb7
              go_wp2_with fail
              (with_reducible refine (o2 _ _ (by simp)).mono ?_)
              rintro r w8 ⟨rfl, hb8⟩
              replace F5 := F5.keep hb8
              replace F6 := F6.keep hb8
              replace F7 := F7.keep hb8
              replace F8 := F8.keep hb8
              replace F9 := F9.keep hb8
              replace B0 := B0.trans (hb8.mono B0.size)
              clear hb8
              go_wp2_with fail
              (with_reducible refine (o3 _ _ (by simp)).mono ?_)
              rintro r w9 ⟨rfl, hb9⟩
              replace F5 := F5.keep hb9
              replace F6 := F6.keep hb9
              replace F7 := F7.keep hb9
              replace F8 := F8.keep hb9
              replace F9 := F9.keep hb9
              replace B0 := B0.trans (hb9.mono B0.size)
              clear hb9
              go_wp2_with fail
              go_meet
              exact ⟨by first | rfl | simp, F5, F6, F7, F8, F9, B0⟩
            · exact absurd (K3.out rfl rfl) (by decide)
      · cases A1n
        · cases O3
          · clear K1 K2 K3
            go_wp2_with fail
            (with_reducible refine (o1 _ _ (by simp)).mono ?_)
            rintro r w7 ⟨rfl, hb7⟩
            replace F5 := F5.keep hb7
            replace F6 := F6.keep hb7
            replace F7 := F7.keep hb7
            replace F8 := F8.keep hb7
            replace F9 := F9.keep hb7
            replace B0 := B0.trans (hb7.mono B0.size)
            clear hb7
            go_wp2_with fail
            (with_reducible refine (o2 _ _ (by simp)).mono ?_)
            rintro r w8 ⟨rfl, hb8⟩
            replace F5 := F5.keep hb8
            replace F6 := F6.keep hb8
            replace F7 := F7.keep hb8
            replace F8 := F8.keep hb8
            replace F9 := F9.keep hb8
            replace B0 := B0.trans (hb8.mono B0.size)
            clear hb8
            go_wp2_with fail
            (with_reducible refine (o3 _ _ (by simp)).mono ?_)
            rintro r w9 ⟨rfl, hb9⟩
            replace F5 := F5.keep hb9
            replace F6 := F6.keep hb9
            replace F7 := F7.keep hb9
            replace F8 := F8.keep hb9
            replace F9 := F9.keep hb9
            replace B0 := B0.trans (hb9.mono B0.size)
            clear hb9
            go_wp2_with fail
            go_meet
            exact ⟨by first | rfl | simp, F5, F6, F7, F8, F9, B0⟩
          · cases W1n
            · clear K1 K2 K3
              go_wp2_with fail
              (with_reducible refine (o1 _ _ (by simp)).mono ?_)
              rintro r w7 ⟨rfl, hb7⟩
              replace F5 := F5.keep hb7
              replace F6 := F6.keep hb7
              replace F7 := F7.keep hb7
              replace F8 := F8.keep hb7
              replace F9 := F9.keep hb7
              replace B0 := B0.trans (hb7.mono B0.size)
              clear hb7
              go_wp2_with fail
              (with_reducible refine (o2 _ _ (by simp)).mono ?_)
              rintro r w8 ⟨rfl, hb8⟩
              replace F5 := F5.keep hb8
              replace F6 := F6.keep hb8
              replace F7 := F7.keep hb8
              replace F8 := F8.keep hb8
              replace F9 := F9.keep hb8
              replace B0 := B0.trans (hb8.mono B0.size)
              clear hb8
              go_wp2_with fail
              (with_reducible refine (o3 _ _ (by simp)).mono ?_)
              rintro r w9 ⟨rfl, hb9⟩
              replace F5 := F5.keep hb9
              replace F6 := F6.keep hb9
              replace F7 := F7.keep hb9
              replace F8 := F8.keep hb9
              replace F9 := F9.keep hb9
              replace B0 := B0.trans (hb9.mono B0.size)
              clear hb9
              go_wp2_with fail
              go_meet
              exact ⟨by first | rfl | simp, F5, F6, F7, F8, F9, B0⟩
            · clear K1 K2 K3
              go_wp2_with fail
              (with_reducible refine (o1 _ _ (by simp)).mono ?_)
              rintro r w7 ⟨rfl, hb7⟩
              replace F5 := F5.keep hb7
              replace F6 := F6.keep hb7
              replace F7 := F7.keep hb7
              replace F8 := F8.keep hb7
              replace F9 := F9.keep hb7
              replace B0 := B0.trans (hb7.mono B0.size)
              clear hb7
              go_wp2_with fail
              (with_reducible refine (o2 _ _ (by simp)).mono ?_)
              rintro r w8 ⟨rfl, hb8⟩
              replace F5 := F5.keep hb8
              replace F6 := F6.keep hb8
              replace F7 := F7.keep hb8
              replace F8 := F8.keep hb8
              replace F9 := F9.keep hb8
              replace B0 := B0.trans (hb8.mono B0.size)
              clear hb8
              go_wp2_with fail
              (with_reducible refine (o3 _ _ (by simp)).mono ?_)
              rintro r w9 ⟨rfl, hb9⟩
              replace F5 := F5.keep hb9
              replace F6 := F6.keep hb9
              replace F7 := F7.keep hb9
              replace F8 := F8.keep hb9
              replace F9 := F9.keep hb9
              replace B0 := B0.trans (hb9.mono B0.size)
              clear hb9
              go_wp2_with fail
              go_meet
              exact ⟨by first | rfl | simp, F5, F6, F7, F8, F9, B0⟩
        · cases I1n
          · cases O3
            · clear K1 K2 K3
              go_wp2_with fail
              (with_reducible refine (o1 _ _ (by simp)).mono ?_)
              rintro r w7 ⟨rfl, hb7⟩
              replace F5 := F5.keep hb7
              replace F6 := F6.keep hb7
              replace F7 := F7.keep hb7
              replace F8 := F8.keep hb7
              replace F9 := F9.keep hb7
              replace B0 := B0.trans (hb7.mono B0.size)
              clear hb7
              go_wp2_with fail
              (with_reducible refine (o2 _ _ (by simp)).mono ?_)
              rintro r w8 ⟨rfl, hb8⟩
              replace F5 := F5.keep hb8
              replace F6 := F6.keep hb8
              replace F7 := F7.keep hb8
              replace F8 := F8.keep hb8
              replace F9 := F9.keep hb8
              replace B0 := B0.trans (hb8.mono B0.size)
              clear hb8
              go_wp2_with fail
              (with_reducible refine (o3 _ _ (by simp)).mono ?_)
              rintro r w9 ⟨rfl, hb9⟩
              replace F5 := F5.keep hb9
              replace F6 := F6.keep hb9
              replace F7 := F7.keep hb9
              replace F8 := F8.keep hb9
              replace F9 := F9.keep hb9
              replace B0 := B0.trans (hb9.mono B0.size)
              clear hb9
              go_wp2_with fail
              go_meet
              exact ⟨by first | rfl | simp, F5, F6, F7, F8, F9, B0⟩
            · cases W1n
              · clear K1 K2 K3
                go_wp2_with fail
                (with_reducible refine (o1 _ _ (by simp)).mono ?_)
                rintro r w7 ⟨rfl, hb7⟩
                replace F5 := F5.keep hb7
                replace F6 := F6.keep hb7
                replace F7 := F7.keep hb7
                replace F8 := F8.keep hb7
                replace F9 := F9.keep hb7
                replace B0 := B0.trans (hb7.mono B0.size)
                clear hb7
                go_wp2_with fail
                (with_reducible refine (o2 _ _ (by simp)).mono ?_)
                rintro r w8 ⟨rfl, hb8⟩
                replace F5 := F5.keep hb8
                replace F6 := F6.keep hb8
                replace F7 := F7.keep hb8
                replace F8 := F8.keep hb8
                replace F9 := F9.keep hb8
                replace B0 := B0.trans (hb8.mono B0.size)
                clear hb8
                go_wp2_with fail
                (with_reducible refine (o3 _ _ (by simp)).mono ?_)
                rintro r w9 ⟨rfl, hb9⟩
                replace F5 := F5.keep hb9
                replace F6 := F6.keep hb9
                replace F7 := F7.keep hb9
                replace F8 := F8.keep hb9
                replace F9 := F9.keep hb9
                replace B0 := B0.trans (hb9.mono B0.size)
                clear hb9
                go_wp2_with fail
                go_meet
                exact ⟨by first | rfl | simp, F5, F6, F7, F8, F9, B0⟩
              · exact absurd (K3.out rfl rfl) (by decide)
          · cases I2n
            · cases O3
              · clear K1 K2 K3
                go_wp2_with fail
                (with_reducible refine (o1 _ _ (by simp)).mono ?_)
                rintro r w7 ⟨rfl, hb7⟩
                replace F5 := F5.keep hb7
                replace F6 := F6.keep hb7
                replace F7 := F7.keep hb7
                replace F8 := F8.keep hb7
                replace F9 := F9.keep hb7
                replace B0 := B0.trans (hb7.mono B0.size)
                clear hb7
                go_wp2_with fail
                (with_reducible refine (o2 _ _ (by simp)).mono ?_)
                rintro r w8 ⟨rfl, hb8⟩
                replace F5 := F5.keep hb8
                replace F6 := F6.keep hb8
                replace F7 := F7.keep hb8
                replace F8 := F8.keep hb8
                replace F9 := F9.keep hb8
                replace B0 := B0.trans (hb8.mono B0.size)
                clear hb8
                go_wp2_with fail
                (with_reducible refine (o3 _ _ (by simp)).mono ?_)
                rintro r w9 ⟨rfl, hb9⟩
                replace F5 := F5.keep hb9
                replace F6 := F6.keep hb9
                replace F7 := F7.keep hb9
                replace F8 := F8.keep hb9
                replace F9 := F9.keep hb9
                replace B0 := B0.trans (hb9.mono B0.size)
                clear hb9
                go_wp2_with fail
                go_meet
                exact ⟨by first | rfl | simp, F5, F6, F7, F8, F9, B0⟩
              · cases W1n
                · clear K1 K2 K3
                  go_wp2_with fail
                  (with_reducible refine (o1 _ _ (by simp)).mono ?_)
                  rintro r w7 ⟨rfl, hb7⟩
                  replace F5 := F5.keep hb7
                  replace F6 := F6.keep hb7
                  replace F7 := F7.keep hb7
                  replace F8 := F8.keep hb7
                  replace F9 := F9.keep hb7
                  replace B0 := B0.trans (hb7.mono B0.size)
                  clear hb7
                  go_wp2_with fail
                  (with_reducible refine (o2 _ _ (by simp)).mono ?_)
                  rintro r w8 ⟨rfl, hb8⟩
                  replace F5 := F5.keep hb8
                  replace F6 := F6.keep hb8
                  replace F7 := F7.keep hb8
                  replace F8 := F8.keep hb8
                  replace F9 := F9.keep hb8
                  replace B0 := B0.trans (hb8.mono B0.size)
                  clear hb8
                  go_wp2_with fail
                  (with_reducible refine (o3 _ _ (by simp)).mono ?_)
                  rintro r w9 ⟨rfl, hb9⟩
                  replace F5 := F5.keep hb9
                  replace F6 := F6.keep hb9
                  replace F7 := F7.keep hb9
                  replace F8 := F8.keep hb9
                  replace F9 := F9.keep hb9
                  replace B0 := B0.trans (hb9.mono B0.size)
                  clear hb9
                  go_wp2_with fail
                  go_meet
                  exact ⟨by first | rfl | simp, F5, F6, F7, F8, F9, B0⟩
                · exact absurd (K3.out rfl rfl) (by decide)
            · exact absurd (K2.out rfl rfl rfl) (by decide)
    · cases I1n
      · cases O2
        · cases O3
          · clear K1 K2 K3
            go_wp2_with fail
            (with_reducible refine (o1 _ _ (by simp)).mono ?_)
            rintro r w7 ⟨rfl, hb7⟩
            replace F5 := F5.keep hb7
            replace F6 := F6.keep hb7
            replace F7 := F7.keep hb7
            replace F8 := F8.keep hb7
            replace F9 := F9.keep hb7
            replace B0 := B0.trans (hb7.mono B0.size)
            clear hb7
            go_wp2_with fail
            (with_reducible refine (o2 _ _ (by simp)).mono ?_)
            rintro r w8 ⟨rfl, hb8⟩
            replace F5 := F5.keep hb8
            replace F6 := F6.keep hb8
            replace F7 := F7.keep hb8
            replace F8 := F8.keep hb8
            replace F9 := F9.keep hb8
            replace B0 := B0.trans (hb8.mono B0.size)
            clear hb8
            go_wp2_with fail
            (with_reducible refine (o3 _ _ (by simp)).mono ?_)
            rintro r w9 ⟨rfl, hb9⟩
            replace F5 := F5.keep hb9
            replace F6 := F6.keep hb9
            replace F7 := F7.keep hb9
            replace F8 := F8.keep hb9
            replace F9 := F9.keep hb9
            replace B0 := B0.trans (hb9.mono B0.size)
            clear hb9
            go_wp2_with fail
            go_meet
            exact ⟨by first | rfl | simp, F5, F6, F7, F8, F9, B0⟩
          · cases W1n
            · clear K1 K2 K3
              go_wp2_with fail
              (with_reducible refine (o1 _ _ (by simp)).mono ?_)
              rintro r w7 ⟨rfl, hb7⟩
              replace F5 := F5.keep hb7
              replace F6 := F6.keep hb7
              replace F7 := F7.keep hb7
              replace F8 := F8.keep hb7
              replace F9 := F9.keep hb7
              replace B0 := B0.trans (hb7.mono B0.size)
              clear hb7
              go_wp2_with fail
              (with_reducible refine (o2 _ _ (by simp)).mono ?_)
              rintro r w8 ⟨rfl, hb8⟩
              replace F5 := F5.keep hb8
              replace F6 := F6.keep hb8
              replace F7 := F7.keep hb8
              replace F8 := F8.keep hb8
              replace F9 := F9.keep hb8
              replace B0 := B0.trans (hb8.mono B0.size)
              clear hb8
              go_wp2_with fail
              (with_reducible refine (o3 _ _ (by simp)).mono ?_)
              rintro r w9 ⟨rfl, hb9⟩
              replace F5 := F5.keep hb9
              replace F6 := F6.keep hb9
              replace F7 := F7.keep hb9
              replace F8 := F8.keep hb9
              replace F9 := F9.keep hb9
              replace B0 := B0.trans (hb9.mono B0.size)
              clear hb9
              go_wp2_with fail
              go_meet
              exact ⟨by first | rfl | simp, F5, F6, F7, F8, F9, B0⟩
            · cases A1n
              · clear K1 K2 K3
                go_wp2_with fail
                (with_reducible refine (o1 _ _ (by simp)).mono ?_)
                rintro r w7 ⟨rfl, hb7⟩
                replace F5 := F5.keep hb7
                replace F6 := F6.keep hb7
                replace F7 := F7.keep hb7
                replace F8 := F8.keep hb7
                replace F9 := F9.keep hb7
                replace B0 := B0.trans (hb7.mono B0.size)
                clear hb7
                go_wp2_with fail
                (with_reducible refine (o2 _ _ (by simp)).mono ?_)
                rintro r w8 ⟨rfl, hb8⟩
                replace F5 := F5.keep hb8
                replace F6 := F6.keep hb8
                replace F7 := F7.keep hb8
                replace F8 := F8.keep hb8
                replace F9 := F9.keep hb8
                replace B0 := B0.trans (hb8.mono B0.size)
                clear hb8
                go_wp2_with fail
                (with_reducible refine (o3 _ _ (by simp)).mono ?_)
                rintro r w9 ⟨rfl, hb9⟩
                replace F5 := F5.keep hb9
                replace F6 := F6.keep hb9
                replace F7 := F7.keep hb9
                replace F8 := F8.keep hb9
                replace F9 := F9.keep hb9
                replace B0 := B0.trans (hb9.mono B0.size)
                clear hb9
                go_wp2_with fail
                go_meet
                exact ⟨by first | rfl | simp, F5, F6, F7, F8, F9, B0⟩
              · exact absurd (K3.out rfl rfl) (by decide)
        · cases A1n
          · cases O3
            · clear K1 K2 K3
              go_wp2_with fail
              (with_reducible refine (o1 _ _ (by simp)).mono ?_)
              rintro r w7 ⟨rfl, hb7⟩
              replace F5 := F5.keep hb7
              replace F6 := F6.keep hb7
              replace F7 := F7.keep hb7
              replace F8 := F8.keep hb7
              replace F9 := F9.keep hb7
              replace B0 := B0.trans (hb7.mono B0.size)
              clear hb7
              go_wp2_with fail
              (with_reducible refine (o2 _ _ (by simp)).mono ?_)
              rintro r w8 ⟨rfl, hb8⟩
              replace F5 := F5.keep hb8
              replace F6 := F6.keep hb8
              replace F7 := F7.keep hb8
              replace F8 := F8.keep hb8
              replace F9 := F9.keep hb8
              replace B0 := B0.trans (hb8.mono B0.size)
              clear hb8
              go_wp2_with fail
              (with_reducible refine (o3 _ _ (by simp)).mono ?_)
              rintro r w9 ⟨rfl, hb9⟩
              replace F5 := F5.keep hb9
              replace F6 := F6.keep hb9
              replace F7 := F7.keep hb9
              replace F8 := F8.keep hb9
              replace F9 := F9.keep hb9
              replace B0 := B0.trans (hb9.mono B0.size)
              clear hb9
              go_wp2_with fail
              go_meet
              exact ⟨by first | rfl | simp, F5, F6, F7, F8, F9, B0⟩
            · cases W1n
              · clear K1 K2 K3
                go_wp2_with fail
                (with_reducible refine (o1 _ _ (by simp)).mono ?_)
                rintro r w7 ⟨rfl, hb7⟩
                replace F5 := F5.keep hb7
                replace F6 := F6.keep hb7
                replace F7 := F7.keep hb7
                replace F8 := F8.keep hb7
                replace F9 := F9.keep hb7
                replace B0 := B0.trans (hb7.mono B0.size)
                clear hb7
                go_wp2_with fail
                (with_reducible refine (o2 _ _ (by simp)).mono ?_)
                rintro r w8 ⟨rfl, hb8⟩
                replace F5 := F5.keep hb8
                replace F6 := F6.keep hb8
                replace F7 := F7.keep hb8
                replace F8 := F8.keep hb8
                replace F9 := F9.keep hb8
                replace B0 := B0.trans (hb8.mono B0.size)
                clear hb8
                go_wp2_with fail
                (with_reducible refine (o3 _ _ (by simp)).mono ?_)
                rintro r w9 ⟨rfl, hb9⟩
                replace F5 := F5.keep hb9
                replace F6 := F6.keep hb9
                replace F7 := F7.keep hb9
                replace F8 := F8.keep hb9
                replace F9 := F9.keep hb9
                replace B0 := B0.trans (hb9.mono B0.size)
                clear hb9
                go_wp2_with fail
                go_meet
                exact ⟨by first | rfl | simp, F5, F6, F7, F8, F9, B0⟩
              · clear K1 K2 K3
                go_wp2_with fail
                (with_reducible refine (o1 _ _ (by simp)).mono ?_)
                rintro r w7 ⟨rfl, hb7⟩
                replace F5 := F5.keep hb7
                replace F6 := F6.keep hb7
                replace F7 := F7.keep hb7
                replace F8 := F8.keep hb7
                replace F9 := F9.keep hb7
                replace B0 := B0.trans (hb7.mono B0.size)
                clear hb7
                go_wp2_with fail
                (with_reducible refine (o2 _ _ (by simp)).mono ?_)
                rintro r w8 ⟨rfl, hb8⟩
                replace F5 := F5.keep hb8
                replace F6 := F6.keep hb8
                replace F7 := F7.keep hb8
                replace F8 := F8.keep hb8
                replace F9 := F9.keep hb8
                replace B0 := B0.trans (hb8.mono B0.size)
                clear hb8
                go_wp2_with fail
                (with_reducible refine (o3 _ _ (by simp)).mono ?_)
                rintro r w9 ⟨rfl, hb9⟩
                replace F5 := F5.keep hb9
                replace F6 := F6.keep hb9
                replace F7 := F7.keep hb9
                replace F8 := F8.keep hb9
                replace F9 := F9.keep hb9
                replace B0 := B0.trans (hb9.mono B0.size)
                clear hb9
                go_wp2_with fail
                go_meet
                exact ⟨by first | rfl | simp, F5, F6, F7, F8, F9, B0⟩
          · cases O3
            · clear K1 K2 K3
              go_wp2_with fail
              (with_reducible refine (o1 _ _ (by simp)).mono ?_)
              rintro r w7 ⟨rfl, hb7⟩
              replace F5 := F5.keep hb7
              replace F6 := F6.keep hb7
              replace F7 := F7.keep hb7
              replace F8 := F8.keep hb7
              replace F9 := F9.keep hb7
              replace B0 := B0.trans (hb7.mono B0.size)
              clear hb7
              go_wp2_with fail
              (with_reducible refine (o2 _ _ (by simp)).mono ?_)
              rintro r w8 ⟨rfl, hb8⟩
              replace F5 := F5.keep hb8
              replace F6 := F6.keep hb8
              replace F7 := F7.keep hb8
              replace F8 := F8.keep hb8
              replace F9 := F9.keep hb8
              replace B0 := B0.trans (hb8.mono B0.size)
              clear hb8
              go_wp2_with fail
              (with_reducible refine (o3 _ _ (by simp)).mono ?_)
              rintro r w9 ⟨rfl, hb9⟩
              replace F5 := F5.keep hb9
              replace F6 := F6.keep hb9
              replace F7 := F7.keep hb9
              replace F8 := F8.keep hb9
              replace F9 := F9.keep hb9
              replace B0 := B0.trans (hb9.mono B0.size)
              clear hb9
              go_wp2_with fail
              go_meet
              exact ⟨by first | rfl | simp, F5, F6, F7, F8, F9, B0⟩
            · cases W1n
              · clear K1 K2 K3
                go_wp2_with fail
                (with_reducible refine (o1 _ _ (by simp)).mono ?_)
                rintro r w7 ⟨rfl, hb7⟩
                replace F5 := F5.keep hb7
                replace F6 := F6.keep hb7
                replace F7 := F7.keep hb7
                replace F8 := F8.keep hb7
                replace F9 := F9.keep hb7
                replace B0 := B0.trans (hb7.mono B0.size)
                clear hb7
                go_wp2_with fail
                (with_reducible refine (o2 _ _ (by simp)).mono ?_)
                rintro r w8 ⟨rfl, hb8⟩
                replace F5 := F5.keep hb8
                replace F6 := F6.keep hb8
                replace F7 := F7.keep hb8
                replace F8 := F8.keep hb8
                replace F9 := F9.keep hb8
                replace B0 := B0.trans (hb8.mono B0.size)
                clear hb8
                go_wp2_with fail
                (with_reducible refine (o3 _ _ (by simp)).mono ?_)
                rintro r w9 ⟨rfl, hb9⟩
                replace F5 := F5.keep hb9
                replace F6 := F6.keep hb9
                replace F7 := F7.keep hb9
                replace F8 := F8.keep hb9
                replace F9 := F9.keep hb9
                replace B0 := B0.trans (hb9.mono B0.size)
                clear hb9
                go_wp2_with fail
                go_meet
                exact ⟨by first | rfl | simp, F5, F6, F7, F8, F9, B0⟩
              · exact absurd (K3.out rfl rfl) (by decide)
      · cases W1n
        · cases O2
          · cases O3
            · clear K1 K2 K3
              go_wp2_with fail
              (with_reducible refine (o1 _ _ (by simp)).mono ?_)
              rintro r w7 ⟨rfl, hb7⟩
              replace F5 := F5.keep hb7
              replace F6 := F6.keep hb7
              replace F7 := F7.keep hb7
              replace F8 := F8.keep hb7
              replace F9 := F9.keep hb7
              replace B0 := B0.trans (hb7.mono B0.size)
              clear hb7
              go_wp2_with fail
              (with_reducible refine (o2 _ _ (by simp)).mono ?_)
              rintro r w8 ⟨rfl, hb8⟩
              replace F5 := F5.keep hb8
              replace F6 := F6.keep hb8
              replace F7 := F7.keep hb8
              replace F8 := F8.keep hb8
              replace F9 := F9.keep hb8
              replace B0 := B0.trans (hb8.mono B0.size)
              clear hb8
              go_wp2_with fail
              (with_reducible refine (o3 _ _ (by simp)).mono ?_)
              rintro r w9 ⟨rfl, hb9⟩
              replace F5 := F5.keep hb9
              replace F6 := F6.keep hb9
              replace F7 := F7.keep hb9
              replace F8 := F8.keep hb9
              replace F9 := F9.keep hb9
              replace B0 := B0.trans (hb9.mono B0.size)
              clear hb9
              go_wp2_with fail
              go_meet
              exact ⟨by first | rfl | simp, F5, F6, F7, F8, F9, B0⟩
            · clear K1 K2 K3
              go_wp2_with fail
              (with_reducible refine (o1 _ _ (by simp)).mono ?_)
              rintro r w7 ⟨rfl, hb7⟩
              replace F5 := F5.keep hb7
              replace F6 := F6.keep hb7
              replace F7 := F7.keep hb7
              replace F8 := F8.keep hb7
              replace F9 := F9.keep hb7
              replace B0 := B0.trans (hb7.mono B0.size)
              clear hb7
              go_wp2_with fail
              (with_reducible refine (o2 _ _ (by simp)).mono ?_)
              rintro r w8 ⟨rfl, hb8⟩
              replace F5 := F5.keep hb8
              replace F6 := F6.keep hb8
              replace F7 := F7.keep hb8
              replace F8 := F8.keep hb8
              replace F9 := F9.keep hb8
              replace B0 := B0.trans (hb8.mono B0.size)
              clear hb8
              go_wp2_with fail
              (with_reducible refine (o3 _ _ (by simp)).mono ?_)
              rintro r w9 ⟨rfl, hb9⟩
              replace F5 := F5.keep hb9
              replace F6 := F6.keep hb9
              replace F7 := F7.keep hb9
              replace F8 := F8.keep hb9
              replace F9 := F9.keep hb9
              replace B0 := B0.trans (hb9.mono B0.size)
              clear hb9
              go_wp2_with fail
              go_meet
              exact ⟨by first | rfl | simp, F5, F6, F7, F8, F9, B0⟩
          · cases A1n
            · cases O3
              · clear K1 K2 K3
                go_wp2_with fail
                (with_reducible refine (o1 _ _ (by simp)).mono ?_)
                rintro r w7 ⟨rfl, hb7⟩
                replace F5 := F5.keep hb7
                replace F6 := F6.keep hb7
                replace F7 := F7.keep hb7
                replace F8 := F8.keep hb7
                replace F9 := F9.keep hb7
                replace B0 := B0.trans (hb7.mono B0.size)
                clear hb7
                go_wp2_with fail
                (with_reducible refine (o2 _ _ (by simp)).mono ?_)
                rintro r w8 ⟨rfl, hb8⟩
                replace F5 := F5.keep hb8
                replace F6 := F6.keep hb8
                replace F7 := F7.keep hb8
                replace F8 := F8.keep hb8
                replace F9 := F9.keep hb8
                replace B0 := B0.trans (hb8.mono B0.size)
                clear hb8
                go_wp2_with fail
                (with_reducible refine (o3 _ _ (by simp)).mono ?_)
                rintro r w9 ⟨rfl, hb9⟩
                replace F5 := F5.keep hb9
                replace F6 := F6.keep hb9
                replace F7 := F7.keep hb9
                replace F8 := F8.keep hb9
                replace F9 := F9.keep hb9
                replace B0 := B0.trans (hb9.mono B0.size)
                clear hb9
                go_wp2_with fail
                go_meet
                exact ⟨by first | rfl | simp, F5, F6, F7, F8, F9, B0⟩
              · clear K1 K2 K3
                go_wp2_with fail
                (with_reducible refine (o1 _ _ (by simp)).mono ?_)
                rintro r w7 ⟨rfl, hb7⟩
                replace F5 := F5.keep hb7
                replace F6 := F6.keep hb7
                replace F7 := F7.keep hb7
                replace F8 := F8.keep hb7
                replace F9 := F9.keep hb7
                replace B0 := B0.trans (hb7.mono B0.size)
                clear hb7
                go_wp2_with fail
                (with_reducible refine (o2 _ _ (by simp)).mono ?_)
                rintro r w8 ⟨rfl, hb8⟩
                replace F5 := F5.keep hb8
                replace F6 := F6.keep hb8
                replace F7 := F7.keep hb8
                replace F8 := F8.keep hb8
                replace F9 := F9.keep hb8
                replace B0 := B0.trans (hb8.mono B0.size)
                clear hb8
                go_wp2_with fail
                (with_reducible refine (o3 _ _ (by simp)).mono ?_)
                rintro r w9 ⟨rfl, hb9⟩
                replace F5 := F5.keep hb9
                replace F6 := F6.keep hb9
                replace F7 := F7.keep hb9
                replace F8 := F8.keep hb9
                replace F9 := F9.keep hb9
                replace B0 := B0.trans (hb9.mono B0.size)
                clear hb9
                go_wp2_with fail
                go_meet
                exact ⟨by first | rfl | simp, F5, F6, F7, F8, F9, B0⟩
            · cases I2n
              · cases O3
                · clear K1 K2 K3
                  go_wp2_with fail
                  (with_reducible refine (o1 _ _ (by simp)).mono ?_)
                  rintro r w7 ⟨rfl, hb7⟩
                  replace F5 := F5.keep hb7
                  replace F6 := F6.keep hb7
                  replace F7 := F7.keep hb7
                  replace F8 := F8.keep hb7
                  replace F9 := F9.keep hb7
                  replace B0 := B0.trans (hb7.mono B0.size)
                  clear hb7
                  go_wp2_with fail
                  (with_reducible refine (o2 _ _ (by simp)).mono ?_)
                  rintro r w8 ⟨rfl, hb8⟩
                  replace F5 := F5.keep hb8
                  replace F6 := F6.keep hb8
                  replace F7 := F7.keep hb8
                  replace F8 := F8.keep hb8
                  replace F9 := F9.keep hb8
                  replace B0 := B0.trans (hb8.mono B0.size)
                  clear hb8
                  go_wp2_with fail
                  (with_reducible refine (o3 _ _ (by simp)).mono ?_)
                  rintro r w9 ⟨rfl, hb9⟩
                  replace F5 := F5.keep hb9
                  replace F6 := F6.keep hb9
                  replace F7 := F7.keep hb9
                  replace F8 := F8.keep hb9
                  replace F9 := F9.keep hb9
                  replace B0 := B0.trans (hb9.mono B0.size)
                  clear hb9
                  go_wp2_with fail
                  go_meet
                  exact ⟨by first | rfl | simp, F5, F6, F7, F8, F9, B0⟩
                · clear K1 K2 K3
                  go_wp2_with fail
                  (with_reducible refine (o1 _ _ (by simp)).mono ?_)
                  rintro r w7 ⟨rfl, hb7⟩
                  replace F5 := F5.keep hb7
                  replace F6 := F6.keep hb7
                  replace F7 := F7.keep hb7
                  replace F8 := F8.keep hb7
                  replace F9 := F9.keep hb7
                  replace B0 := B0.trans (hb7.mono B0.size)
                  clear hb7
                  go_wp2_with fail
                  (with_reducible refine (o2 _ _ (by simp)).mono ?_)
                  rintro r w8 ⟨rfl, hb8⟩
                  replace F5 := F5.keep hb8
                  replace F6 := F6.keep hb8
                  replace F7 := F7.keep hb8
                  replace F8 := F8.keep hb8
                  replace F9 := F9.keep hb8
                  replace B0 := B0.trans (hb8.mono B0.size)
                  clear hb8
                  go_wp2_with fail
                  (with_reducible refine (o3 _ _ (by simp)).mono ?_)
                  rintro r w9 ⟨rfl, hb9⟩
                  replace F5 := F5.keep hb9
                  replace F6 := F6.keep hb9
                  replace F7 := F7.keep hb9
                  replace F8 := F8.keep hb9
                  replace F9 := F9.keep hb9
                  replace B0 := B0.trans (hb9.mono B0.size)
                  clear hb9
                  go_wp2_with fail
                  go_meet
                  exact ⟨by first | rfl | simp, F5, F6, F7, F8, F9, B0⟩
              · exact absurd (K2.out rfl rfl rfl) (by decide)
        · cases I2n
          · exact absurd (K1.out rfl rfl rfl) (by decide)
          · cases O2
            · cases O3
              · clear K1 K2 K3
                go_wp2_with fail
                (with_reducible refine (o1 _ _ (by simp)).mono ?_)
                rintro r w7 ⟨rfl, hb7⟩
                replace F5 := F5.keep hb7
                replace F6 := F6.keep hb7
                replace F7 := F7.keep hb7
                replace F8 := F8.keep hb7
                replace F9 := F9.keep hb7
                replace B0 := B0.trans (hb7.mono B0.size)
                clear hb7
                go_wp2_with fail
                (with_reducible refine (o2 _ _ (by simp)).mono ?_)
                rintro r w8 ⟨rfl, hb8⟩
                replace F5 := F5.keep hb8
                replace F6 := F6.keep hb8
                replace F7 := F7.keep hb8
                replace F8 := F8.keep hb8
                replace F9 := F9.keep hb8
                replace B0 := B0.trans (hb8.mono B0.size)
                clear hb8
                go_wp2_with fail
                (with_reducible refine (o3 _ _ (by simp)).mono ?_)
                rintro r w9 ⟨rfl, hb9⟩
                replace F5 := F5.keep hb9
                replace F6 := F6.keep hb9
                replace F7 := F7.keep hb9
                replace F8 := F8.keep hb9
                replace F9 := F9.keep hb9
                replace B0 := B0.trans (hb9.mono B0.size)
                clear hb9
                go_wp2_with fail
                go_meet
                exact ⟨by first | rfl | simp, F5, F6, F7, F8, F9, B0⟩
              · cases A1n
                · clear K1 K2 K3
                  go_wp2_with fail
                  (with_reducible refine (o1 _ _ (by simp)).mono ?_)
                  rintro r w7 ⟨rfl, hb7⟩
                  replace F5 := F5.keep hb7
                  replace F6 := F6.keep hb7
                  replace F7 := F7.keep hb7
                  replace F8 := F8.keep hb7
                  replace F9 := F9.keep hb7
                  replace B0 := B0.trans (hb7.mono B0.size)
                  clear hb7
                  go_wp2_with fail
                  (with_reducible refine (o2 _ _ (by simp)).mono ?_)
                  rintro r w8 ⟨rfl, hb8⟩
                  replace F5 := F5.keep hb8
                  replace F6 := F6.keep hb8
                  replace F7 := F7.keep hb8
                  replace F8 := F8.keep hb8
                  replace F9 := F9.keep hb8
                  replace B0 := B0.trans (hb8.mono B0.size)
                  clear hb8
                  go_wp2_with fail
                  (with_reducible refine (o3 _ _ (by simp)).mono ?_)
                  rintro r w9 ⟨rfl, hb9⟩
                  replace F5 := F5.keep hb9
                  replace F6 := F6.keep hb9
                  replace F7 := F7.keep hb9
                  replace F8 := F8.keep hb9
                  replace F9 := F9.keep hb9
                  replace B0 := B0.trans (hb9.mono B0.size)
                  clear hb9
                  go_wp2_with fail
                  go_meet
                  exact ⟨by first | rfl | simp, F5, F6, F7, F8, F9, B0⟩
                · exact absurd (K3.out rfl rfl) (by decide)
            · cases A1n
              · cases O3
                · clear K1 K2 K3
                  go_wp2_with fail
                  (with_reducible refine (o1 _ _ (by simp)).mono ?_)
                  rintro r w7 ⟨rfl, hb7⟩
                  replace F5 := F5.keep hb7
                  replace F6 := F6.keep hb7
                  replace F7 := F7.keep hb7
                  replace F8 := F8.keep hb7
                  replace F9 := F9.keep hb7
                  replace B0 := B0.trans (hb7.mono B0.size)
                  clear hb7
                  go_wp2_with fail
                  (with_reducible refine (o2 _ _ (by simp)).mono ?_)
                  rintro r w8 ⟨rfl, hb8⟩
                  replace F5 := F5.keep hb8
                  replace F6 := F6.keep hb8
                  replace F7 := F7.keep hb8
                  replace F8 := F8.keep hb8
                  replace F9 := F9.keep hb8
                  replace B0 := B0.trans (hb8.mono B0.size)
                  clear hb8
                  go_wp2_with fail
                  (with_reducible refine (o3 _ _ (by simp)).mono ?_)
                  rintro r w9 ⟨rfl, hb9⟩
                  replace F5 := F5.keep hb9
                  replace F6 := F6.keep hb9
                  replace F7 := F7.keep hb9
                  replace F8 := F8.keep hb9
                  replace F9 := F9.keep hb9
                  replace B0 := B0.trans (hb9.mono B0.size)
                  clear hb9
                  go_wp2_with fail
                  go_meet
                  exact ⟨by first | rfl | simp, F5, F6, F7, F8, F9, B0⟩
                · clear K1 K2 K3
                  go_wp2_with fail
                  (with_reducible refine (o1 _ _ (by simp)).mono ?_)
                  rintro r w7 ⟨rfl, hb7⟩
                  replace F5 := F5.keep hb7
                  replace F6 := F6.keep hb7
                  replace F7 := F7.keep hb7
                  replace F8 := F8.keep hb7
                  replace F9 := F9.keep hb7
                  replace B0 := B0.trans (hb7.mono B0.size)
                  clear hb7
                  go_wp2_with fail
                  (with_reducible refine (o2 _ _ (by simp)).mono ?_)
                  rintro r w8 ⟨rfl, hb8⟩
                  replace F5 := F5.keep hb8
                  replace F6 := F6.keep hb8
                  replace F7 := F7.keep hb8
                  replace F8 := F8.keep hb8
                  replace F9 := F9.keep hb8
                  replace B0 := B0.trans (hb8.mono B0.size)
                  clear hb8
                  go_wp2_with fail
                  (with_reducible refine (o3 _ _ (by simp)).mono ?_)
                  rintro r w9 ⟨rfl, hb9⟩
                  replace F5 := F5.keep hb9
                  replace F6 := F6.keep hb9
                  replace F7 := F7.keep hb9
                  replace F8 := F8.keep hb9
                  replace F9 := F9.keep hb9
                  replace B0 := B0.trans (hb9.mono B0.size)
                  clear hb9
                  go_wp2_with fail
                  go_meet
                  exact ⟨by first | rfl | simp, F5, F6, F7, F8, F9, B0⟩
              · exact absurd (K2.out rfl rfl rfl) (by decide)
  case rest =>
    clear B0
    clear F5
    clear F6
    clear F7
    clear F8
    clear F9
    obtain ⟨rfl, F5, F6, F7, F8, F9, B0⟩ := hcut
    generalize wc = v1 at *
    go_step
    go_step
    go_step
    go_step
    go_step
    exact HR.out _ F5 F6 F7 F8 F9 B0 _ _ _ _ _ _ _ _ _ _ _ _ _ _ _ _ _ _ _ _ _ _ _ _ _ _ _ _ _ _ _ _ _ _ _ _ _ _ _ _ _ _ _ _ _ _ _ _ _ _ _ _ _ _ _ _ _ _ _ _ _ _ _ _ _ _ _ _ _ _ _ _ _ _ _ _ _ _ _ _ _ _ _ _ _ _ _ _ _ _ _ _ _ _ _ _ _ _ _ _ _ _ _ _ _ _ _ _ _ _ _ _ _ _ _ _ _ _ _ _ _ _ _ _ _ _ _ _ _ _ _ _ _ _ _ _ _ _ _ _ _ _ _ _ _ _ _ _ _ _ _ _ _ _ _ _ _ _ _ _

end Go.Proofs.YtgcifpjhhoalmaaDoor
