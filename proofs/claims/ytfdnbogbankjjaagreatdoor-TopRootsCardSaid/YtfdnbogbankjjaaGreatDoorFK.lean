/- Merged: FH FI FJ FK -/
import Derived.Test.YtfdnbogbankjjaaGreatDoorFG

/- roots.moved. -/
namespace Go.Proofs.YtfdnbogbankjjaaGreatDoor
open Go Go.RowKit Go.PlainAid Fil

/-- the product of the distances to the other points, by floats -/
def prF (P : List CV) (k : Nat) (d : CV) : Nat → CV
 | 0 => d
 | j + 1 => if j = k then prF P k d j else cMul (prF P k d j) (cSub (P.getD k C00) (P.getD j C00))
def mvF (L P : List CV) (k : Nat) : CV :=
 let q := cQuo (atF L (P.getD k C00)) (prF P k (L.getD (L.length - 1) C00) P.length)
 let z := cSub (P.getD k C00) q
 bif rFin q then (bif rFin z then z else P.getD k C00) else P.getD k C00
theorem pair_eta (Z : CV) : (Z.1, Z.2) = Z := rfl
set_option maxRecDepth 100000 in
set_option maxHeartbeats 4000000 in
theorem c_rtmoved {B C : Nat} {v u : Value} {L P : List CV} {k : Nat} (w : World) (h : PL B w v L) (G : GP L) (hu : PL C w u P) (hP : P.length ≤ 17) (hk : k < P.length) :
  Calls Tryz.prog 59 #[v, u, .int .i64 k] w fun r w' => (∃ z y, r = .returned (.complex .f64 z y) ∧ Fl z (mvF L P k).1 ∧ Fl y (mvF L P k).2) ∧ Below w.heap.size w w' := by
 obtain ⟨a1, c1, rfl, hc1, hm1⟩ := h.slc
 obtain ⟨a2, c2, rfl, hc2, hm2⟩ := hu.slc
 obtain ⟨b2, x, y, rfl, _, hb2, hcell, hx, hy⟩ := hu.get k hk
 obtain ⟨b1, xl, yl, rfl, _, hb1, hcl, hxl, hyl⟩ := h.get (L.length - 1) (by have := G.pos; omega)
 rw [← getD_get hk] at hx hy
 rw [← getD_get (show L.length - 1 < L.length by have := G.pos; omega)] at hxl hyl
 obtain ⟨n, en⟩ : ∃ n, n = P.length := ⟨_, rfl⟩
 obtain ⟨m, em⟩ : ∃ m, m + 1 = L.length := ⟨L.length - 1, by have := G.pos; omega⟩
 have hA := fun W hW => c_pyAt W (PL.keep h hW) G hx hy
 have HF := Lib.hid (And.intro en (And.intro em (And.intro h hu)))
 rw [show L.length - 1 = m by omega] at hcl hxl hyl
 have hmv : mvF L P k = (bif rFin (cQuo (atF L (P.getD k C00)) (prF P k (L.getD m C00) n)) then (bif rFin (cSub (P.getD k C00) (cQuo (atF L (P.getD k C00)) (prF P k (L.getD m C00) n))) then (cSub (P.getD k C00) (cQuo (atF L (P.getD k C00)) (prF P k (L.getD m C00) n))) else P.getD k C00) else P.getD k C00) := by
  unfold mvF; rw [show L.length - 1 = m by omega, en]
 rw [← em] at hA hc1 ⊢
 rw [← en] at hP hk hc2 ⊢
 have hn := G.len
 rw [← em] at hn
 clear h G hu en em
 have hxy := And.intro hx hy
 generalize hZ : P.getD k C00 = Z at *
 generalize hD : L.getD m C00 = D at *
 have B0 := Below.refl w.heap.size w
 go_enter Tryz.func59, Tryz.ntmps59
 go_wp2_with fail
 refine (hA _ B0).mono ?_
 rintro r w1 ⟨⟨z1, y1, rfl, a1, b1⟩, hbb⟩
 replace B0 := B0.trans (hbb.mono B0.size)
 have hcl1 := below_cell B0 hcl
 clear hbb hA
 go_wp2
 go_loopg [9, 37] n (fun g s9 s37 wr => ∃ j x y : Nat, j ≤ n ∧ g = n - j ∧ s37 = .int .i64 j ∧ s9 = .complex .f64 x y ∧ Fl x (prF P k D j).1 ∧ Fl y (prF P k D j).2 ∧ Below w.heap.size w wr)
 case atStart => exact ⟨0, xl, yl, by omega, by omega, rfl, rfl, hxl, hyl, B0⟩
 case round =>
  clear B0
  obtain ⟨j, xd, yd, hj, hg, rfl, rfl, hxd, hyd, B0⟩ := hrel
  by_cases hjn : j < n
  ·obtain ⟨en, em, h, hu⟩ := HF.out
   have hjP : j < P.length := by omega
   obtain ⟨b', x', y', e, _, hb', hcell', hx', hy'⟩ := (hu.keep B0).get j hjP
   cases e
   rw [← getD_get hjP] at hx' hy'
   have HG := Lib.hid (And.intro hg en)
   clear hg en em h hu
   by_cases hjk : j = k
   ·have e1 : prF P k D (j + 1) = prF P k D j := if_pos hjk
    rw [← e1] at hxd hyd
    subst hjk
    go_wp2
    go_roundg (n - (j + 1))
    case measure => have := HG.out.1; omega
    case rel => exact ⟨j + 1, _, _, by omega, rfl, by go_num, rfl, hxd, hyd, B0⟩
   ·have e1 : prF P k D (j + 1) = cMul (prF P k D j) (cSub Z (P.getD j C00)) := by rw [← hZ]; exact if_neg hjk
    have hcz := below_cell B0 hcell
    have hne : (j : Int) ≠ (k : Int) := by omega
    go_wp2_with fail
    refine (c_cxSub _ hx hy hx' hy').mono ?_
    rintro r w2 ⟨⟨z2, y2, rfl, a2, b2⟩, hbb⟩
    replace B0 := B0.trans (hbb.mono B0.size)
    clear hbb
    go_wp2_with fail
    refine (c_cxMul _ hxd hyd a2 b2).mono ?_
    rintro r w3 ⟨⟨z3, y3, rfl, a3, b3⟩, hbb⟩
    replace B0 := B0.trans (hbb.mono B0.size)
    clear hbb
    go_wp2
    go_roundg (n - (j + 1))
    case measure => have := HG.out.1; omega
    case rel =>
     refine ⟨j + 1, _, _, by omega, rfl, by go_num, rfl, ?_, ?_, B0⟩
     ·rw [e1]; exact a3
     ·rw [e1]; exact b3
  ·obtain rfl : j = n := by omega
   have hcz := below_cell B0 hcell
   go_wp2_with fail
   refine (c_cxQuo _ a1 b1 hxd hyd).mono ?_
   rintro r w2 ⟨⟨z2, y2, rfl, a2, b2⟩, hbb⟩
   replace B0 := B0.trans (hbb.mono B0.size)
   clear hbb
   replace hcz := below_cell B0 hcell
   rw [pair_eta, pair_eta] at a2 b2
   generalize cQuo (atF L Z) (prF P k D j) = Q at *
   go_wp2_with fail
   refine (c_cxSub _ hx hy a2 b2).mono ?_
   rintro r w3 ⟨⟨z3, y3, rfl, a3, b3⟩, hbb⟩
   replace B0 := B0.trans (hbb.mono B0.size)
   clear hbb
   replace hcz := below_cell B0 hcell
   rw [pair_eta, pair_eta] at a3 b3
   generalize cSub Z Q = S at *
   go_wp2_with fail
   refine (c_rtfinite _ a2 b2).mono ?_
   rintro r w4 ⟨rfl, hbb⟩
   replace B0 := B0.trans (hbb.mono B0.size)
   clear hbb
   replace hcz := below_cell B0 hcell
   rw [pair_eta]
   cases hq : rFin Q
   ·rw [hq] at hmv
    go_wp2
    go_ret
    exact ⟨⟨_, _, rfl, by rw [hmv]; exact hx, by rw [hmv]; exact hy⟩, B0⟩
   ·rw [hq] at hmv
    go_wp2_with fail
    refine (c_rtfinite _ a3 b3).mono ?_
    rintro r w5 ⟨rfl, hbb⟩
    replace B0 := B0.trans (hbb.mono B0.size)
    clear hbb
    replace hcz := below_cell B0 hcell
    rw [pair_eta]
    cases hs : rFin S
    ·rw [hs] at hmv
     go_wp2
     go_ret
     exact ⟨⟨_, _, rfl, by rw [hmv]; exact hx, by rw [hmv]; exact hy⟩, B0⟩
    ·rw [hs] at hmv
     go_wp2
     go_ret
     exact ⟨⟨_, _, rfl, by rw [hmv]; exact a3, by rw [hmv]; exact b3⟩, B0⟩
end Go.Proofs.YtfdnbogbankjjaaGreatDoor

/- roots.Step, Start. -/
namespace Go.Proofs.YtfdnbogbankjjaaGreatDoor
open Go Go.RowKit Go.PlainAid Fil

def stpF (L P : List CV) : List CV := (List.range P.length).map (mvF L P)
theorem stpF_len (L P : List CV) : (stpF L P).length = P.length := len_range _ _
set_option maxRecDepth 100000 in
set_option maxHeartbeats 4000000 in
theorem c_rtStep {B C : Nat} {v u : Value} {L P : List CV} (w : World) (h : PL B w v L) (G : GP L) (hu : PL C w u P) (hP : P.length + 1 = L.length) (hf : ∀ i (hi : i < P.length), rFin P[i] = true) :
  Calls Tryz.prog 23 #[v, u] w fun r w' => (∃ v', r = .returned (.tuple #[v', .int .i64 0]) ∧ PL w.heap.size w' v' (stpF L P)) ∧ Below w.heap.size w w' := by
 obtain ⟨i0, hi, hp⟩ := Option.map_eq_some_iff.1 Tryz.info27
 have hz0 : i0.zero = some (.complex .f64 0 0) := congrArg Prod.fst hp
 have hz1 : i0.size = 1 := congrArg (fun q => q.2.1) hp
 have hz2 : i0.bytes = 16 := congrArg (fun q => q.2.2) hp
 obtain ⟨a1, c1, rfl, hc1, hm1⟩ := h.slc
 obtain ⟨a2, c2, rfl, hc2, hm2⟩ := hu.slc
 have hmay := c_rtmay w h G
 obtain ⟨n, en⟩ : ∃ n, n = P.length := ⟨_, rfl⟩
 have HF := Lib.hid (And.intro en (And.intro hP (And.intro h (And.intro hu (And.intro G hf)))))
 have hn := G.len
 have hes : stpF L P = (List.range n).map (mvF L P) := by rw [en]; rfl
 rw [← hP, ← en] at hmay hn ⊢
 rw [← en] at hc2
 rw [← hP, ← en] at hc1
 clear h G hu en hP hp hf
 have B0 := Below.refl w.heap.size w
 go_enter Tryz.func23, Tryz.ntmps23
 go_wp2_with fail
 refine hmay.mono ?_
 rintro r w1 ⟨rfl, hbb⟩
 replace B0 := B0.trans (hbb.mono B0.size)
 clear hbb hmay
 go_wp2
 go_loopg [23] n (fun g s23 wr => ∃ k : Nat, k ≤ n ∧ g = n - k ∧ s23 = .int .i64 k ∧ Below w.heap.size w wr)
 case atStart => exact ⟨0, by omega, by omega, rfl, B0⟩
 case round =>
  clear B0
  obtain ⟨k, hk, hg, rfl, B0⟩ := hrel
  by_cases hkn : k < n
  ·obtain ⟨en, hP, h, hu, G, hf⟩ := HF.out
   have hkP : k < P.length := by omega
   obtain ⟨b', x, y, e, _, hb', hcell, hx, hy⟩ := (hu.keep B0).get k hkP
   cases e
   have hz := fun W => c_rtfinite W hx hy
   rw [show (P[k].1, P[k].2) = P[k] from rfl, hf k hkP] at hz
   have HG := Lib.hid hg
   clear en hP h hu G hf hg hx hy
   go_wp2_with fail
   refine (hz _).mono ?_
   rintro r w2 ⟨rfl, hb1⟩
   replace B0 := B0.trans (hb1.mono B0.size)
   clear hb1 hz
   go_wp2
   go_roundg (n - (k + 1))
   case measure => have := HG.out; omega
   case rel => exact ⟨k + 1, by omega, rfl, by go_num, B0⟩
  ·obtain rfl : k = n := by omega
   clear hk hg hkn
   go_wp2
   go_loopg [8, 33] k (fun g s8 s33 wr => ∃ j : Nat, j ≤ k ∧ g = k - j ∧ s33 = .int .i64 j ∧ PL w.heap.size wr s8 ((List.range j).map (mvF L P)) ∧ Below w.heap.size w wr)
   case atStart => exact ⟨0, by omega, by omega, rfl, PL.nil _ _, B0⟩
   case round =>
    clear B0
    obtain ⟨j, hj, hg, rfl, hpl, B0⟩ := hrel
    by_cases hjn : j < k
    ·obtain ⟨en, hP, h, hu, G, hf⟩ := HF.out
     have hz := fun W hW => c_rtmoved W (PL.keep h hW) G (PL.keep hu hW) (by have := G.len; omega) (show j < P.length by omega)
     rw [← hP, ← en] at hz
     have HG := Lib.hid (And.intro hg en)
     clear hg en hP h hu G hf
     go_wp2_with fail
     refine (hz _ B0).mono ?_
     rintro r w2 ⟨⟨z2, y2, rfl, a2, b2⟩, hb1⟩
     replace hpl := hpl.keep hb1
     replace B0 := B0.trans (hb1.mono B0.size)
     clear hb1 hz
     obtain ⟨ps, hown, hlen, hps⟩ := hpl
     rw [len_range] at hown
     have HP := Lib.hid (And.intro hlen (And.intro hps (And.intro a2 b2)))
     have hbz := B0.size
     clear hlen hps a2 b2
     go_wp2_with (at_builtin; refine wpList_append_own _ rfl _ _ 28 rfl w.heap.size 27 i0 (.complex .f64 0 0) 1 16 Tryz.underlying28 hi hz0 hz1 hz2 rfl (by decide) _ _ _ rfl (by exact hown.alloc _) ⟨w2.heap.size, 0, none⟩ 1 1 [.complex .f64 z2 y2] rfl rfl ?c1 ?c2 ?c3 ?c4 ?c5 ?_)
     case c1 =>
      intro j u hj
      match j, hj with
      | 0, hj => simp at hj; subst hj; simp [Addr.add]
     case c2 => intro u hu; simp at hu; subst hu; rfl
     case c3 => unfold maxLen; omega
     case c4 => omega
     case c5 => simp; omega
     ·intro v' w3 hown' hgrow _
      obtain ⟨hlen, hps, a2, b2⟩ := HP.out
      have hb1 := (B0.alloc hbz (Obj.cells #[Value.complex FloatKind.f64 z2 y2] 27)).grown hgrow (by simp; omega) (fun k hk => (hown.lt k hk).1)
      have hq : PL w.heap.size w3 v' ((List.range (j + 1)).map (mvF L P)) := by
       rw [List.range_succ, List.map_append]
       exact PL.push (by rw [len_range]; exact hown') hlen hps a2 b2
      clear hown hown' hgrow hps a2 b2
      go_wp2
      go_roundg (k - (j + 1))
      case measure => have := HG.out.1; omega
      case rel => exact ⟨j + 1, by omega, rfl, by go_num, hq, hb1⟩
    ·obtain rfl : j = k := by omega
     go_wp2
     go_ret2
     exact ⟨⟨_, rfl, by rw [hes]; exact hpl⟩, B0⟩
end Go.Proofs.YtfdnbogbankjjaaGreatDoor

/- roots.Start. -/
namespace Go.Proofs.YtfdnbogbankjjaaGreatDoor
open Go Go.RowKit Go.PlainAid Fil

def W0 : CV := (some 4600877379321698714, some 4606281698874543309)
def ptF (r : FV) : Nat → CV
 | 0 => (r, some 0)
 | j + 1 => cMul (ptF r j) W0
def sF (L : List CV) : Nat → FV
 | 0 => some 0
 | i + 1 => fmax (sF L i) (cHi (L.getD i C00))
def rawF (L : List CV) (n : Nat) : FV := fop .add (some 4607182418800017408) (fop .quo (sF L n) (cHi (L.getD n C00)))
def radF (r : FV) : FV := bif fisinf r then some 4607182418800017408 else bif feq r r then r else some 4607182418800017408
def sttF (L : List CV) : List CV := (List.range (L.length - 1)).map (ptF (radF (rawF L (L.length - 1))))
theorem fl_one : Fl 4607182418800017408 (some 4607182418800017408) := fl_some (by decide) (by decide)
theorem fl_w0 : Fl 4600877379321698714 W0.1 ∧ Fl 4606281698874543309 W0.2 := ⟨fl_some (by decide) (by decide), fl_some (by decide) (by decide)⟩
set_option maxRecDepth 100000 in
set_option maxHeartbeats 8000000 in
theorem c_rtStart {B : Nat} {v : Value} {L : List CV} (w : World) (h : PL B w v L) (G : GP L) :
  Calls Tryz.prog 22 #[v] w fun r w' => (∃ v', r = .returned (.tuple #[v', .int .i64 0]) ∧ PL w.heap.size w' v' (sttF L)) ∧ Below w.heap.size w w' := by
 obtain ⟨i0, hi, hp⟩ := Option.map_eq_some_iff.1 Tryz.info27
 have hz0 : i0.zero = some (.complex .f64 0 0) := congrArg Prod.fst hp
 have hz1 : i0.size = 1 := congrArg (fun q => q.2.1) hp
 have hz2 : i0.bytes = 16 := congrArg (fun q => q.2.2) hp
 obtain ⟨a1, c1, rfl, hc1, hm1⟩ := h.slc
 have hmay := c_rtmay w h G
 obtain ⟨n, en⟩ : ∃ n, n + 1 = L.length := ⟨L.length - 1, by have := G.pos; omega⟩
 have HF := Lib.hid (And.intro en (And.intro h G))
 have hn := G.len
 have hes : sttF L = (List.range n).map (ptF (radF (rawF L n))) := by unfold sttF; rw [← en]; rfl
 rw [← en] at hmay hn hc1 ⊢
 clear h G en hp
 have B0 := Below.refl w.heap.size w
 have hcn : (n : Int) ≤ (c1 : Int) := by omega
 go_enter Tryz.func22, Tryz.ntmps22
 go_wp2_with fail
 refine hmay.mono ?_
 rintro r w1 ⟨rfl, hbb⟩
 replace B0 := B0.trans (hbb.mono B0.size)
 clear hbb hmay
 go_wp2
 go_loopg [5, 21] n (fun g s5 s21 wr => ∃ k x : Nat, k ≤ n ∧ g = n - k ∧ s21 = .int .i64 k ∧ s5 = .float .f64 x ∧ Fl x (sF L k) ∧ Below w.heap.size w wr)
 case atStart => exact ⟨0, 0, by omega, by omega, rfl, rfl, fl_zero, B0⟩
 case round =>
  clear B0
  obtain ⟨k, x, hk, hg, rfl, rfl, hx, B0⟩ := hrel
  by_cases hkn : k < n
  ·obtain ⟨en, h, G⟩ := HF.out
   have hkL : k < L.length := by omega
   obtain ⟨b', xc, yc, e, _, hb', hcell, hxc, hyc⟩ := (h.keep B0).get k hkL
   cases e
   rw [← getD_get hkL] at hxc hyc
   have HG := Lib.hid hg
   clear en h G hg
   go_wp2_with fail
   refine (c_cxHi _ hxc hyc).mono ?_
   rintro r w2 ⟨⟨z2, rfl, a2⟩, hbb⟩
   replace B0 := B0.trans (hbb.mono B0.size)
   clear hbb hxc hyc
   obtain ⟨z3, w3, e3, a3, hbb⟩ := run_fmax Tryz.prog w2 #[30, 30] 30 hx a2
   replace B0 := B0.trans (hbb.mono B0.size)
   clear hbb hx a2
   go_wp2
   go_roundg (n - (k + 1))
   case measure => have := HG.out; omega
   case rel => exact ⟨k + 1, _, by omega, rfl, by go_num, rfl, a3, B0⟩
  ·obtain rfl : k = n := by omega
   obtain ⟨en, h, G⟩ := HF.out
   have hkL : k < L.length := by omega
   obtain ⟨b', xc, yc, e, _, hb', hcell, hxc, hyc⟩ := (h.keep B0).get k hkL
   cases e
   rw [← getD_get hkL] at hxc hyc
   clear hk hg hkn en h G
   go_wp2_with fail
   refine (c_cxHi _ hxc hyc).mono ?_
   rintro r w2 ⟨⟨z2, rfl, a2⟩, hbb⟩
   replace B0 := B0.trans (hbb.mono B0.size)
   clear hbb hxc hyc
   obtain ⟨z3, w3, e3, a3, hbb⟩ := run_fop Tryz.prog w2 .quo 30 (.inr (.inr (.inr rfl))) hx a2
   replace B0 := B0.trans (hbb.mono B0.size)
   clear hbb hx a2
   obtain ⟨z4, w4, e4, a4, hbb⟩ := run_fop Tryz.prog w3 .add 30 (.inl rfl) fl_one a3
   replace B0 := B0.trans (hbb.mono B0.size)
   clear hbb a3
   replace a4 : Fl z4 (rawF L k) := a4
   generalize rawF L k = R at *
   go_wp2_with fail
   refine (cisinf _ a4).mono ?_
   rintro r w5 ⟨rfl, hbb⟩
   replace B0 := B0.trans (hbb.mono B0.size)
   clear hbb
   have hcc := c_ne a4 a4
   -- the radius and the rest
   have hrest : ∃ z5, Fl z5 (radF R) ∧ ((fisinf R = true ∧ z5 = 4607182418800017408) ∨ (fisinf R = false ∧ feq R R = true ∧ z5 = z4) ∨ (fisinf R = false ∧ feq R R = false ∧ z5 = 4607182418800017408)) := by
    unfold radF
    cases fisinf R
    ·cases feq R R
     ·exact ⟨_, fl_one, .inr (.inr ⟨rfl, rfl, rfl⟩)⟩
     ·exact ⟨_, a4, .inr (.inl ⟨rfl, rfl, rfl⟩)⟩
    ·exact ⟨_, fl_one, .inl ⟨rfl, rfl⟩⟩
   obtain ⟨z5, a5, hz5⟩ := hrest
   clear a4
   rcases hz5 with ⟨hf, rfl⟩ | ⟨hf, he, rfl⟩ | ⟨hf, he, rfl⟩
   all_goals
    (try rw [he] at hcc)
    rw [hf]
    go_wp2
    go_loopg [9, 10, 48] k (fun g s9 s10 s48 wr => ∃ j x y : Nat, j ≤ k ∧ g = k - j ∧ s48 = .int .i64 j ∧ s10 = .complex .f64 x y ∧ Fl x (ptF (radF R) j).1 ∧ Fl y (ptF (radF R) j).2 ∧ PL w.heap.size wr s9 ((List.range j).map (ptF (radF R))) ∧ Below w.heap.size w wr)
    case atStart => exact ⟨0, _, _, by omega, by omega, rfl, rfl, a5, fl_zero, PL.nil _ _, B0⟩
    case round =>
     clear B0
     obtain ⟨j, x, y, hj, hg, rfl, rfl, hx, hy, hpl, B0⟩ := hrel
     by_cases hjn : j < k
     ·have HG := Lib.hid hg
      clear hg
      obtain ⟨ps, hown, hlen, hps⟩ := hpl
      rw [len_range] at hown
      have HP := Lib.hid (And.intro hlen hps)
      have hbz := B0.size
      clear hlen hps
      go_wp2_with (at_builtin; refine wpList_append_own _ rfl _ _ 28 rfl w.heap.size 27 i0 (.complex .f64 0 0) 1 16 Tryz.underlying28 hi hz0 hz1 hz2 rfl (by decide) _ _ _ rfl (by exact hown.alloc _) ⟨wr.heap.size, 0, none⟩ 1 1 [.complex .f64 x y] rfl rfl ?c1 ?c2 ?c3 ?c4 ?c5 ?_)
      case c1 =>
       intro j u hj
       match j, hj with
       | 0, hj => simp at hj; subst hj; simp [Addr.add]
      case c2 => intro u hu; simp at hu; subst hu; rfl
      case c3 => unfold maxLen; omega
      case c4 => omega
      case c5 => simp; omega
      ·intro v' w6 hown' hgrow _
       obtain ⟨hlen, hps⟩ := HP.out
       have hb1 := (B0.alloc hbz (Obj.cells #[Value.complex FloatKind.f64 x y] 27)).grown hgrow (by simp; omega) (fun k hk => (hown.lt k hk).1)
       have hq : PL w.heap.size w6 v' ((List.range (j + 1)).map (ptF (radF R))) := by
        rw [List.range_succ, List.map_append]
        exact PL.push (by rw [len_range]; exact hown') hlen hps hx hy
       clear hown hown' hgrow hps B0
       go_wp2_with fail
       refine (c_cxMul _ hx hy fl_w0.1 fl_w0.2).mono ?_
       rintro r w7 ⟨⟨z7, y7, rfl, a7, b7⟩, hbb⟩
       replace hq := hq.keep hbb
       replace hb1 := hb1.trans (hbb.mono hb1.size)
       clear hbb
       go_wp2
       go_roundg (k - (j + 1))
       case measure => have := HG.out; omega
       case rel => exact ⟨j + 1, _, _, by omega, rfl, by go_num, rfl, a7, b7, hq, hb1⟩
     ·obtain rfl : j = k := by omega
      go_wp2
      go_ret2
      exact ⟨⟨_, rfl, by rw [hes]; exact hpl⟩, B0⟩
end Go.Proofs.YtfdnbogbankjjaaGreatDoor

/- roots.Guess, Newton. -/
namespace Go.Proofs.YtfdnbogbankjjaaGreatDoor
open Go Go.RowKit Go.PlainAid Fil

def itF (L : List CV) : Nat → List CV
 | 0 => sttF L
 | k + 1 => stpF L (itF L k)
theorem sttF_len (L : List CV) : (sttF L).length = L.length - 1 := len_range _ _
theorem itF_len (L : List CV) : ∀ k, (itF L k).length = L.length - 1
 | 0 => sttF_len L
 | k + 1 => (stpF_len _ _).trans (itF_len L k)
theorem mvF_fin {L P : List CV} {k : Nat} (hk : k < P.length) (h : ∀ i (hi : i < P.length), rFin P[i] = true) : rFin (mvF L P k) = true := by
 have hp : rFin (P.getD k C00) = true := by rw [getD_get hk]; exact h k hk
 simp only [mvF]
 cases rFin (cQuo (atF L (P.getD k C00)) (prF P k (L.getD (L.length - 1) C00) P.length))
 ·exact hp
 ·cases hs : rFin (cSub (P.getD k C00) (cQuo (atF L (P.getD k C00)) (prF P k (L.getD (L.length - 1) C00) P.length)))
  ·exact hp
  ·exact hs
theorem stpF_fin {L P : List CV} (h : ∀ i (hi : i < P.length), rFin P[i] = true) : ∀ i (hi : i < (stpF L P).length), rFin (stpF L P)[i] = true := by
 intro i hi
 have hiP : i < P.length := by rw [stpF_len] at hi; exact hi
 have e : (stpF L P)[i] = mvF L P i := by simp [stpF]
 rw [e]
 exact mvF_fin hiP h
theorem itF_fin {L : List CV} (h : ∀ i (hi : i < (sttF L).length), rFin (sttF L)[i] = true) : ∀ k i (hi : i < (itF L k).length), rFin (itF L k)[i] = true
 | 0 => h
 | k + 1 => stpF_fin (itF_fin h k)
set_option maxRecDepth 100000 in
set_option maxHeartbeats 4000000 in
theorem c_rtGuess {B : Nat} {v : Value} {L : List CV} (w : World) (h : PL B w v L) (G : GP L) (hS : ∀ i (hi : i < (sttF L).length), rFin (sttF L)[i] = true) :
  Calls Tryz.prog 8 #[v, .int .i64 64] w fun r w' => (∃ v', r = .returned (.tuple #[v', .int .i64 0]) ∧ PL w.heap.size w' v' (itF L 64)) ∧ Below w.heap.size w w' := by
 have hst := c_rtStart w h G
 have hstp := fun W C u k hW (hu : PL C W u (itF L k)) => c_rtStep W (PL.keep h hW) G hu (by rw [itF_len]; have := G.pos; omega) (itF_fin hS k)
 obtain ⟨a1, c1, rfl, hc1, hm1⟩ := h.slc
 clear h G hS
 have B0 := Below.refl w.heap.size w
 go_enter Tryz.func8, Tryz.ntmps8
 go_wp2_with fail
 refine hst.mono ?_
 rintro r w1 ⟨⟨v1, rfl, hp1⟩, hbb⟩
 replace B0 := B0.trans (hbb.mono B0.size)
 clear hbb hst
 go_wp2
 go_loopg [6, 7, 8] 64 (fun g s6 s7 s8 wr => ∃ k : Nat, k ≤ 64 ∧ g = 64 - k ∧ s8 = .int .i64 k ∧ s7 = .int .i64 0 ∧ PL w.heap.size wr s6 (itF L k) ∧ Below w.heap.size w wr)
 case atStart => exact ⟨0, by omega, by omega, rfl, rfl, hp1, B0⟩
 case round =>
  clear B0 hp1
  obtain ⟨k, hk, hg, rfl, rfl, hpl, B0⟩ := hrel
  by_cases hkn : k < 64
  ·obtain ⟨a2, c2, rfl, _⟩ := hpl.slc
   have hz := hstp _ _ _ _ B0 hpl
   have HG := Lib.hid hg
   clear hg hpl hstp
   go_wp2_with fail
   refine hz.mono ?_
   rintro r w2 ⟨⟨v2, rfl, hp2⟩, hbb⟩
   replace hp2 := hp2.mono B0.size
   replace B0 := B0.trans (hbb.mono B0.size)
   clear hbb hz
   go_wp2
   go_roundg (64 - (k + 1))
   case measure => have := HG.out; omega
   case rel => exact ⟨k + 1, by omega, rfl, by go_num, rfl, hp2, B0⟩
  ·obtain rfl : k = 64 := by omega
   go_wp2
   go_ret2
   exact ⟨⟨_, rfl, hpl⟩, B0⟩
def nwF (L : List CV) (Z : CV) : CV × Bool :=
 let q := cQuo (atF L Z) (atF (stF L) Z)
 let z := cSub Z q
 bif rFin q then (bif rFin z then (z, true) else (C00, false)) else (C00, false)
set_option maxRecDepth 100000 in
set_option maxHeartbeats 4000000 in
theorem c_rtNewton {B : Nat} {v : Value} {L : List CV} {x y : Nat} {Z : CV} (w : World) (h : PL B w v L) (G : GP L) (hL : 1 < L.length) (hx : Fl x Z.1) (hy : Fl y Z.2) (hz : rFin Z = true) :
  Calls Tryz.prog 9 #[v, .complex .f64 x y] w fun r w' => (∃ z y, r = .returned (.tuple #[.complex .f64 z y, .bool (nwF L Z).2]) ∧ Fl z (nwF L Z).1.1 ∧ Fl y (nwF L Z).1.2) ∧ Below w.heap.size w w' := by
 have hmay := c_rtmay w h G
 have hA := fun W hW => c_pyAt W (PL.keep h hW) G hx hy
 have hB := fun W hW => c_pySlopeAt W (PL.keep h hW) G hL hx hy
 have hfz := fun W => c_rtfinite W hx hy
 rw [pair_eta, hz] at hfz
 have hnw : nwF L Z = bif rFin (cQuo (atF L Z) (atF (stF L) Z)) then (bif rFin (cSub Z (cQuo (atF L Z) (atF (stF L) Z))) then (cSub Z (cQuo (atF L Z) (atF (stF L) Z)), true) else (C00, false)) else (C00, false) := rfl
 obtain ⟨a1, c1, rfl, hc1, hm1⟩ := h.slc
 clear h G hL hz
 have B0 := Below.refl w.heap.size w
 go_enter Tryz.func9, Tryz.ntmps9
 go_wp2_with fail
 refine hmay.mono ?_
 rintro r w1 ⟨rfl, hbb⟩
 replace B0 := B0.trans (hbb.mono B0.size)
 clear hbb hmay
 go_wp2_with fail
 refine (hfz _).mono ?_
 rintro r w2 ⟨rfl, hbb⟩
 replace B0 := B0.trans (hbb.mono B0.size)
 clear hbb hfz
 go_wp2_with fail
 refine (hA _ B0).mono ?_
 rintro r w3 ⟨⟨z3, y3, rfl, a3, b3⟩, hbb⟩
 replace B0 := B0.trans (hbb.mono B0.size)
 clear hbb hA
 go_wp2_with fail
 refine (hB _ B0).mono ?_
 rintro r w4 ⟨⟨z4, y4, rfl, a4, b4⟩, hbb⟩
 replace B0 := B0.trans (hbb.mono B0.size)
 clear hbb hB
 go_wp2_with fail
 refine (c_cxQuo _ a3 b3 a4 b4).mono ?_
 rintro r w5 ⟨⟨z5, y5, rfl, a5, b5⟩, hbb⟩
 replace B0 := B0.trans (hbb.mono B0.size)
 clear hbb a3 b3 a4 b4
 rw [pair_eta, pair_eta] at a5 b5
 generalize cQuo (atF L Z) (atF (stF L) Z) = Q at *
 go_wp2_with fail
 refine (c_cxSub _ hx hy a5 b5).mono ?_
 rintro r w6 ⟨⟨z6, y6, rfl, a6, b6⟩, hbb⟩
 replace B0 := B0.trans (hbb.mono B0.size)
 clear hbb
 rw [pair_eta, pair_eta] at a6 b6
 generalize cSub Z Q = S at *
 go_wp2_with fail
 refine (c_rtfinite _ a5 b5).mono ?_
 rintro r w7 ⟨rfl, hbb⟩
 replace B0 := B0.trans (hbb.mono B0.size)
 clear hbb
 rw [pair_eta]
 cases hq : rFin Q
 ·rw [hq] at hnw
  go_wp2
  go_ret2
  exact ⟨⟨_, _, by rw [hnw]; rfl, by rw [hnw]; exact fl_zero, by rw [hnw]; exact fl_zero⟩, B0⟩
 ·rw [hq] at hnw
  go_wp2_with fail
  refine (c_rtfinite _ a6 b6).mono ?_
  rintro r w8 ⟨rfl, hbb⟩
  replace B0 := B0.trans (hbb.mono B0.size)
  clear hbb
  rw [pair_eta]
  cases hs : rFin S
  ·rw [hs] at hnw
   go_wp2
   go_ret2
   exact ⟨⟨_, _, by rw [hnw]; rfl, by rw [hnw]; exact fl_zero, by rw [hnw]; exact fl_zero⟩, B0⟩
  ·rw [hs] at hnw
   go_wp2
   go_ret2
   exact ⟨⟨_, _, by rw [hnw]; rfl, by rw [hnw]; exact a6, by rw [hnw]; exact b6⟩, B0⟩
end Go.Proofs.YtfdnbogbankjjaaGreatDoor
