/- roots.All. -/
import Derived.Test.YtfdnbogbankjjaaGreatDoorFT
namespace Go.Proofs.YtfdnbogbankjjaaGreatDoor
open Go Go.RowKit Go.PlainAid Fil

theorem wd_fmax {X Y : FV} (hx : Wd X) (hy : Wd Y) : Wd (fmax X Y) := by
 cases X with
 | none => exact hx
 | some a =>
  cases Y with
  | none => exact hy
  | some b =>
   show Wd (match Ieee.double.order a b with | some .lt => some b | some .gt => some a | some .eq => some (if fs a then b else a) | none => none)
   cases Ieee.double.order a b with
   | none => exact ⟨nanB 0, nanB_fl 0⟩
   | some o =>
    cases o with
    | lt => exact hy
    | gt => exact hx
    | eq => show Wd (some (if fs a then b else a)); cases fs a; exact hx; exact hy
theorem loop_wd {T : FV → Bool} : ∀ {k : Nat} {r R : FV}, Wd r → ceLoop T k r = some R → Wd R
 | 0, r, R, hr, h => by cases h
 | k + 1, r, R, hr, h => by
  have h2 : (bif T r then some r else ceLoop T k (fop .mul r (some 4616189618054758400))) = some R := h
  cases ht : T r
  ·rw [ht] at h2; exact loop_wd (wd_fop _ _ _) h2
  ·rw [ht] at h2; cases h2; exact hr
theorem ce_wd {L : List CV} {Z : CV} {R : FV} (h : ceF L Z = some R) : Wd R := by
 simp only [ceF] at h
 cases a : rFin (atF (stF L) Z)
 ·rw [a] at h; cases h
 ·rw [a] at h
  cases b : rFin (cQuo (some 4607182418800017408, some 0) (atF (stF L) Z))
  ·rw [b] at h; cases h
  ·rw [b] at h
   cases c : (feq (atF (stF L) Z).1 (some 0) && feq (atF (stF L) Z).2 (some 0))
   ·rw [c] at h
    exact loop_wd (wd_fmax (wd_fmax (wd_fop _ _ _) (wd_fop _ _ _)) ⟨103582791429521408, fl_some (by decide) (by decide)⟩) h
   ·rw [c] at h; cases h
theorem all_take {T : List BV} {f : BV → Bool} {j : Nat} (h : j < T.length) : (T.take (j + 1)).all f = ((T.take j).all f && f T[j]) := by
 rw [List.take_succ_eq_append_getElem h, List.all_append]; simp
theorem owns_set {w : World} {B e s n b o : Nat} {v u : Value} {xs : List Value} (h : w.ownsRow B e s v n xs) (hne : ∀ k, v.ownBlock = some k → k ≠ b) : (w.setCell ⟨b, o, none⟩ u).ownsRow B e s v n xs := by
 obtain ⟨h1, h2⟩ := h
 refine ⟨h1, ?_⟩
 rcases h2 with h2 | ⟨g, cap, cur, rfl, hB, hg, r⟩
 ·exact .inl h2
 ·exact .inr ⟨g, cap, cur, rfl, hB, (Below.heap_setCell _ _ _ _ (hne g (by simp [Value.ownBlock]))).trans hg, r⟩
theorem BS.set {B b : Nat} {w : World} {v : Value} {L : List BV} (h : BS B w v L) (o : Nat) (u : Value) (hne : ∀ k, v.ownBlock = some k → k ≠ b) : BS B (w.setCell ⟨b, o, none⟩ u) v L := by
 obtain ⟨ps, h1, h2⟩ := h
 exact ⟨ps, owns_set h1 hne, h2⟩
theorem RS.set {B b : Nat} {w : World} {v : Value} {L : List (CV × Option BV)} (h : RS B w v L) (o : Nat) (u : Value) (hne : ∀ k, v.ownBlock = some k → k ≠ b) : RS B (w.setCell ⟨b, o, none⟩ u) v L := by
 obtain ⟨ps, h1, h2⟩ := h
 exact ⟨ps, owns_set h1 hne, h2⟩
theorem RS.mono {B C : Nat} {w : World} {v : Value} {L : List (CV × Option BV)} (h : RS B w v L) (hc : C ≤ B) : RS C w v L := by
 obtain ⟨ps, ⟨h1, h2⟩, h3⟩ := h
 refine ⟨ps, ⟨h1, ?_⟩, h3⟩
 rcases h2 with h2 | ⟨g, cap, cur, e, hb, r⟩
 ·exact .inl h2
 ·exact .inr ⟨g, cap, cur, e, Nat.le_trans hc hb, r⟩
theorem RS.drew {B : Nat} {w : World} {v : Value} {L : List (CV × Option BV)} (h : RS B w v L) : RS B w.drew v L := h
theorem sub_rl {Z Q : CV} (h : rFin (cSub Z Q) = true) : ∃ x y, Rl (cSub Z Q).1 x ∧ Rl (cSub Z Q).2 y := rfin_real (wd_fop _ _ _) (wd_fop _ _ _) h
theorem nw1_real {L : List CV} {Z : CV} (h : ∃ x y, Rl Z.1 x ∧ Rl Z.2 y) : ∃ x y, Rl (nw1 L Z).1 x ∧ Rl (nw1 L Z).2 y := by
 unfold nw1
 simp only [nwF]
 cases rFin (cQuo (atF L Z) (atF (stF L) Z))
 ·exact h
 ·cases hs : rFin (cSub Z (cQuo (atF L Z) (atF (stF L) Z)))
  ·exact h
  ·exact sub_rl hs
theorem nwI_real {L : List CV} {Z : CV} (h1 : Wd Z.1) (h2 : Wd Z.2) (h : rFin Z = true) : ∀ k, ∃ x y, Rl (nwI L Z k).1 x ∧ Rl (nwI L Z k).2 y
 | 0 => rfin_real h1 h2 h
 | k + 1 => nw1_real (nwI_real h1 h2 h k)
theorem fuv_fl {x : Nat} {X : FV} (h : Rl X x) : fuv X = fu x := by rw [h.1]; rfl
theorem Fl.rl {b x : Nat} {X : FV} (h : Fl b X) (k : Rl X x) : x = b := by
 obtain ⟨rfl, _⟩ := k
 exact (h.val).1.symm
/-- Apart of two good balls -/
theorem apart_good {x0 y0 r0 x1 y1 r1 a0 b0 c0 a1 b1 c1 : Nat} {b c : BV} (w : World) (h0 : Fb x0 y0 r0 b) (h1 : Fb x1 y1 r1 c) (g0 : GB b a0 b0 c0) (g1 : GB c a1 b1 c1) (hT : Tab64 w) :
  Calls Tryz.prog 11 #[.agg #[.complex .f64 x0 y0, .float .f64 r0], .agg #[.complex .f64 x1 y1, .float .f64 r1]] w fun r w' => r = .returned (.bool (apB b c)) ∧ Below w.heap.size w w' := by
 obtain ⟨hx0, hy0, hr0⟩ := h0
 obtain ⟨hx1, hy1, hr1⟩ := h1
 obtain rfl := hx0.rl g0.x
 obtain rfl := hy0.rl g0.y
 obtain rfl := hr0.rl g0.r
 obtain rfl := hx1.rl g1.x
 obtain rfl := hy1.rl g1.y
 obtain rfl := hr1.rl g1.r
 have e : apB b c = apZ (fu a0 - fu a1) (fu b0 - fu b1) (fu c0 + fu c1) := by
  unfold apB
  rw [fuv_fl g0.x, fuv_fl g0.y, fuv_fl g0.r, fuv_fl g1.x, fuv_fl g1.y, fuv_fl g1.r]
 rw [e]
 exact c_blApart w hx0 hy0 hr0 hx1 hy1 hr1 hT g0.not g1.not g0.x.fin g0.y.fin g0.r.fin g1.x.fin g1.y.fin g1.r.fin g0.x.2.2 g0.y.2.2 g0.r.2.2 g1.x.2.2 g1.y.2.2 g1.r.2.2
set_option maxRecDepth 100000 in
set_option maxHeartbeats 16000000 in
theorem c_rtAll {B : Nat} {v : Value} {L : List CV} (w : World) (h : PL B w v L) (G : GP L) (hL : 1 < L.length) (hS : ∀ i (hi : i < (sttF L).length), rFin (sttF L)[i] = true) (hT : Tab64 w) :
  Calls Tryz.prog 4 #[v] w fun r w' => (∃ v', r = .returned (.tuple #[v', .bool (decide ((saF L (itF L 64) (L.length - 1)).2.length = L.length - 1)), .int .i64 0]) ∧ RS w.heap.size w' v' (saF L (itF L 64) (L.length - 1)).1) ∧ Below w.heap.size w w' := by
 obtain ⟨i1, hi1, hp1⟩ := Option.map_eq_some_iff.1 Tryz.info32
 have hz10 : i1.zero = some (.agg #[.complex .f64 0 0, .float .f64 0]) := congrArg Prod.fst hp1
 have hz11 : i1.size = 2 := congrArg (fun q => q.2.1) hp1
 have hz12 : i1.bytes = 24 := congrArg (fun q => q.2.2) hp1
 obtain ⟨i0, hi, hp⟩ := Option.map_eq_some_iff.1 Tryz.info34
 have hz0 : i0.zero = some (.agg #[.complex .f64 0 0, .bool false, .complex .f64 0 0, .float .f64 0]) := congrArg Prod.fst hp
 have hz1 : i0.size = 4 := congrArg (fun q => q.2.1) hp
 have hz2 : i0.bytes = 48 := congrArg (fun q => q.2.2) hp
 have hst1 := fun (a : Addr) (v : Nat) (m : Mode) (W : World) => (run_store Tryz.prog W a (.float .f64 v) m rfl : (store a (.float .f64 v) m).run Tryz.prog W = stored Tryz.prog W a (.float .f64 v) m)
 have hst2 := fun (a : Addr) (u v : Nat) (m : Mode) (W : World) => (run_store Tryz.prog W a (.complex .f64 u v) m rfl : (store a (.complex .f64 u v) m).run Tryz.prog W = stored Tryz.prog W a (.complex .f64 u v) m)
 have hgs := c_rtGuess w h G hS
 obtain ⟨n, en⟩ : ∃ n, n + 1 = L.length := ⟨L.length - 1, by omega⟩
 have hPl : (itF L 64).length = n := by rw [itF_len]; omega
 have hPf := itF_fin hS 64
 generalize itF L 64 = P at *
 rw [show L.length - 1 = n by omega]
 have hn : n ≤ 16 := by have := G.len; omega
 have hLn := hL
 obtain ⟨a1, c1, rfl, hc1, hm1⟩ := h.slc
 rw [← en] at hgs hc1 ⊢
 have HF := Lib.hid (And.intro en (And.intro h (And.intro G (And.intro hL (And.intro hPl (And.intro hPf hT))))))
 clear h G hL hPf hT hS en hp hp1
 have B0 := Below.refl w.heap.size w
 go_enter Tryz.func4, Tryz.ntmps4
 go_wp2_with fail
 refine hgs.mono ?_
 rintro r w1 ⟨⟨vP, rfl, hpP⟩, hbb⟩
 replace B0 := B0.trans (hbb.mono B0.size)
 clear hbb hgs
 obtain ⟨a2, c2, rfl, hc2, hm2⟩ := hpP.slc
 have B1 := Below.refl w1.heap.size w1
 have HP := Lib.hid (And.intro hpP B0)
 clear hpP
 rw [hPl] at *
 go_wp2
 go_loopg [7, 8, 29] n (fun g s7 s8 s29 wr => ∃ k : Nat, k ≤ n ∧ g = n - k ∧ s29 = .int .i64 k ∧ RS w1.heap.size wr s7 (saF L P k).1 ∧ BS w1.heap.size wr s8 (saF L P k).2 ∧ Below w1.heap.size w1 wr)
 case atStart => exact ⟨0, by omega, by omega, rfl, RS.nil _ _, BS.nil _ _, B1⟩
 case round =>
  clear B1 B0
  obtain ⟨k, hk, hg, rfl, hout, htold, B1⟩ := hrel
  by_cases hkn : k < n
  ·obtain ⟨en, h, G, hL, hPl', hPf, hT⟩ := HF.out
   obtain ⟨hpP, B0⟩ := HP.out
   have hkP : k < P.length := by omega
   obtain ⟨b', x, y, e, _, hb', hcell, hx, hy⟩ := (hpP.keep B1).get k hkP
   cases e
   rw [← getD_get hkP] at hx hy
   have hPr : ∀ k, k < P.length → ∃ x y, Rl (nwI L (P.getD k C00) 3).1 x ∧ Rl (nwI L (P.getD k C00) 3).2 y := fun k hk => by
    obtain ⟨_, _, _, e, _, _, _, q1, q2⟩ := (hpP.keep B1).get k hk
    rw [← getD_get hk] at q1 q2
    have hf : rFin (P.getD k C00) = true := by rw [getD_get hk]; exact hPf k hk
    exact nwI_real q1.wd q2.wd hf 3
   have hzf : rFin (P.getD k C00) = true := by rw [getD_get hkP]; exact hPf k hkP
   have hPL := h.keep B0
   have hT1 := hT.below B0
   have HG := Lib.hid hg
   have HH := Lib.hid (And.intro hPL (And.intro G (And.intro hL hT1)))
   have HZ := Lib.hid (And.intro hPl' hPf)
   have HE := Lib.hid en
   clear en h G hL hPl' hPf hT hpP B0 hg hPL hT1
   obtain ⟨Z, hZ⟩ : ∃ Z, Z = P.getD k C00 := ⟨_, rfl⟩
   rw [← hZ] at hx hy hzf
   have HZZ := Lib.hid hZ
   clear hZ
   go_wp2
   go_loopg [10, 33] 3 (fun g s10 s33 wx => ∃ j x y : Nat, j ≤ 3 ∧ g = 3 - j ∧ s33 = .int .i64 j ∧ s10 = .complex .f64 x y ∧ Fl x (nwI L Z j).1 ∧ Fl y (nwI L Z j).2 ∧ RS w1.heap.size wx u7 (saF L P k).1 ∧ BS w1.heap.size wx u8 (saF L P k).2 ∧ Below w1.heap.size w1 wx)
   case atStart => exact ⟨0, x, y, by omega, by omega, rfl, rfl, hx, hy, hout, htold, B1⟩
   case round =>
    clear hout htold B1 hx hy hcell
    obtain ⟨j, x, y, hj, hg, rfl, rfl, hx, hy, hout, htold, B1⟩ := hrel
    by_cases hj3 : j < 3
    ·obtain ⟨hPL, G, hL, hT1⟩ := HH.out
     have hnw := c_rtNewton _ (hPL.keep B1) G hL hx hy (nwI_fin hzf j)
     have HJ := Lib.hid hg
     have hstep : nwI L Z (j + 1) = bif (nwF L (nwI L Z j)).2 then (nwF L (nwI L Z j)).1 else nwI L Z j := rfl
     rw [← HE.out] at hnw
     clear hPL G hL hT1 hg
     go_wp2_with fail
     refine hnw.mono ?_
     rintro r w2 ⟨⟨z2, y2, rfl, a2, b2⟩, hbb⟩
     replace hout := hout.keep hbb
     replace htold := htold.keep hbb
     replace B1 := B1.trans (hbb.mono B1.size)
     clear hbb hnw
     cases hc : (nwF L (nwI L Z j)).2
     ·rw [hc] at hstep
      replace hstep : nwI L Z (j + 1) = nwI L Z j := hstep
      go_wp2
      go_roundg (3 - (j + 1))
      case measure => have := HJ.out; omega
      case rel => exact ⟨j + 1, _, _, by omega, rfl, by go_num, rfl, by rw [hstep]; exact hx, by rw [hstep]; exact hy, hout, htold, B1⟩
     ·rw [hc] at hstep
      replace hstep : nwI L Z (j + 1) = (nwF L (nwI L Z j)).1 := hstep
      go_wp2
      go_roundg (3 - (j + 1))
      case measure => have := HJ.out; omega
      case rel => exact ⟨j + 1, _, _, by omega, rfl, by go_num, rfl, by rw [hstep]; exact a2, by rw [hstep]; exact b2, hout, htold, B1⟩
    ·obtain rfl : j = 3 := by omega
     have hz3 := hx
     have hz3y := hy
     clear hx hy hg hj hj3
     obtain ⟨hPL, G, hL, hT1⟩ := HH.out
     have hz3f := nwI_fin (L := L) hzf 3
     obtain ⟨px, py, hpx, hpy⟩ := rfin_real hz3.wd hz3y.wd hz3f
     have hy3 := hz3y
     have hpm := may_point hpx hpy
     have hgoodT := saF_good (L := L) (P := P) hPr (fun k r _ h => ce_wd h) k (by omega)
     obtain ⟨wa, rfl⟩ : ∃ q : World, q = wr := ⟨_, rfl⟩
     have F13 := Blk.put wa #[.complex .f64 x y, .bool false, .complex .f64 0 0, .float .f64 0] 34
     have hne13 : ∀ k, u7.ownBlock = some k → k ≠ wa.heap.size := by
      intro k hk
      obtain ⟨ps, p1, _⟩ := hout
      have := (p1.lt k hk).2; omega
     have hal := (Below.refl wa.heap.size wa).alloc (Nat.le_refl _) (.cells #[.complex .f64 x y, .bool false, .complex .f64 0 0, .float .f64 0] 34)
     replace hout := hout.keep hal
     replace htold := htold.keep hal
     have h13 : w1.heap.size ≤ wa.heap.size := B1.size
     replace B1 := B1.alloc B1.size (.cells #[.complex .f64 x y, .bool false, .complex .f64 0 0, .float .f64 0] 34)
     clear hal
     have hcf := c_rtCertify _ (hPL.keep B1) G hL hz3 hy3 hz3f hpm
     rw [← HE.out] at hcf
     clear hPL G hL hpm
     go_wp2_with fail
     refine hcf.mono ?_
     rintro r w5 ⟨⟨zb, yb, tb, ok, rfl, hCe⟩, hbb⟩
     replace F13 := F13.keep hbb
     replace hout := hout.keep hbb
     replace htold := htold.keep hbb
     replace B1 := B1.trans (hbb.mono B1.size)
     clear hbb hcf
     have h1314 : wa.heap.size < w5.heap.size := F13.lt
     have F14 := Blk.put w5 #[.complex .f64 zb yb, .float .f64 tb] 32
     have hal := (Below.refl w5.heap.size w5).alloc (Nat.le_refl _) (.cells #[.complex .f64 zb yb, .float .f64 tb] 32)
     replace hout := hout.keep hal
     replace htold := htold.keep hal
     replace F13 := F13.allocd (.cells #[.complex .f64 zb yb, .float .f64 tb] 32)
     replace B1 := B1.alloc B1.size (.cells #[.complex .f64 zb yb, .float .f64 tb] 32)
     clear hal
     obtain ⟨a8, c8, rfl, hc8, hm8⟩ := htold.slc
     obtain ⟨m, em⟩ : ∃ m, m = (saF L P k).2.length := ⟨_, rfl⟩
     have hmk : m ≤ k := by rw [em]; exact saF_told L P k
     rw [← em] at hc8
     rw [← em] at htold
     rw [← em]
     have HM := Lib.hid em
     clear em
     cases hce : ceF L (nwI L Z 3) with
     | none =>
      rw [hce] at hCe
      obtain rfl : ok = false := hCe
      have hrt := rtF_none (T := (saF L P k).2) (z := Z) hce
      have hEnt : (saF L P (k + 1)).1 = (saF L P k).1 ++ [(nwI L Z 3, none)] := by rw [← hrt, HZZ.out]; rfl
      have hTl : (saF L P (k + 1)).2 = (saF L P k).2 := by
       show tlF (saF L P k).2 (rtF L (saF L P k).2 (P.getD k C00)) = _
       rw [← HZZ.out, hrt]; rfl
      go_wp2
      go_loopg [15, 55] m (fun g s15 s55 wx => ∃ j : Nat, j ≤ m ∧ g = m - j ∧ s55 = .int .i64 j ∧ s15 = .bool (false) ∧ Blk wx wa.heap.size #[.complex .f64 x y, .bool false, .complex .f64 0 0, .float .f64 0] 34 ∧ Blk wx w5.heap.size #[.complex .f64 zb yb, .float .f64 tb] 32 ∧ RS w1.heap.size wx u7 (saF L P k).1 ∧ BS w1.heap.size wx (.slice a8 m c8) (saF L P k).2 ∧ Below w1.heap.size w1 wx)
      case atStart => exact ⟨0, by omega, by omega, rfl, by simp, F13, F14, hout, htold, B1⟩
      case round =>
       clear F13 F14 hout htold B1
       obtain ⟨j, hj, hg, rfl, rfl, F13, F14, hout, htold, B1⟩ := hrel
       by_cases hjm : j < m
       ·have HJ := Lib.hid hg
        clear hg
        have hjT : j < (saF L P k).2.length := by have := HM.out; omega
        obtain ⟨b', u, v, t, e, _, S, hu, hv, ht⟩ := htold.get j hjT
        cases e
        obtain ⟨xS0, xS1⟩ := S.ce2
        have hal := (Below.refl wr.heap.size wr).alloc (Nat.le_refl _) (.cells #[.complex .f64 u v, .float .f64 t] 32)
        replace F13 := F13.allocd (.cells #[.complex .f64 u v, .float .f64 t] 32)
        replace F14 := F14.allocd (.cells #[.complex .f64 u v, .float .f64 t] 32)
        replace hout := hout.keep hal
        replace htold := htold.keep hal
        replace B1 := B1.alloc B1.size (.cells #[.complex .f64 u v, .float .f64 t] 32)
        have F18 := Blk.put wr #[.complex .f64 u v, .float .f64 t] 32
        clear hal
        go_wp2
        go_roundg (m - (j + 1))
        case measure => have := HJ.out; omega
        case rel => exact ⟨j + 1, by omega, rfl, by go_num, rfl, F13, F14, hout, htold, B1⟩
       ·obtain rfl : j = m := by omega
        clear hg hj hjm
        obtain ⟨x13_0, x13_1, x13_2, x13_3⟩ := F13.ce4
        obtain ⟨ps, hown, hlen, hps⟩ := hout
        rw [saF_len] at hown
        have HQ := Lib.hid (And.intro hlen (And.intro hps htold))
        have hbz := B1.size
        clear hlen hps htold
        go_wp2_with (at_builtin; refine wpList_append_own _ rfl _ _ 23 rfl w1.heap.size 34 i0 (.agg #[.complex .f64 0 0, .bool false, .complex .f64 0 0, .float .f64 0]) 4 48 Tryz.underlying23 hi hz0 hz1 hz2 rfl (by decide) _ _ _ rfl (by exact hown.alloc _) ⟨wr.heap.size, 0, none⟩ 1 1 [.complex .f64 x y, .bool false, .complex .f64 0 0, .float .f64 0] rfl rfl ?c1 ?c2 ?c3 ?c4 ?c5 ?_)
        case c1 =>
         intro j u hj
         match j, hj with
         | 0, hj => simp at hj; subst hj; simp [Addr.add]
         | 1, hj => simp at hj; subst hj; simp [Addr.add]
         | 2, hj => simp at hj; subst hj; simp [Addr.add]
         | 3, hj => simp at hj; subst hj; simp [Addr.add]
        case c2 => intro u hu; simp at hu; rcases hu with rfl | rfl | rfl | rfl <;> rfl
        case c3 => unfold maxLen; omega
        case c4 => omega
        case c5 => simp; omega
        ·intro v' w9 hown' hgrow _
         obtain ⟨hlen, hps, htold⟩ := HQ.out
         have hb9 := (B1.alloc hbz (Obj.cells #[.complex .f64 x y, .bool false, .complex .f64 0 0, .float .f64 0] 34)).grown hgrow (by simp; omega) (fun k hk => (hown.lt k hk).1)
         have hq : RS w1.heap.size w9 v' (saF L P (k + 1)).1 := by
          have h1 : RS w1.heap.size w9 v' ((saF L P k).1 ++ [(nwI L Z 3, none)]) := RS.push (p := (x, y, false, 0, 0, 0)) (by rw [saF_len]; exact hown') hlen hps ⟨hz3, hy3, rfl⟩
          rw [hEnt]
          exact h1
         have ht2 : BS w1.heap.size w9 (.slice a8 j c8) (saF L P (k + 1)).2 := by
          obtain ⟨qs, q1, q2⟩ := htold
          rw [hTl]
          exact ⟨qs, (q1.alloc _).kept hgrow (owns_disj q1 hown (by decide)), q2⟩
         have hb9z := hb9.size
         clear hown hown' hgrow HQ
         go_wp2
         go_roundg (n - (k + 1))
         case measure => have := HG.out; omega
         case rel => exact ⟨k + 1, by omega, rfl, by go_num, hq, ht2, hb9⟩
     | some R =>
      rw [hce] at hCe
      obtain ⟨rfl, hball⟩ : ok = true ∧ Fb zb yb tb (nwI L Z 3, R) := hCe
      have hgB := ce_ball hpx.fl.wd hpy.fl.wd (ce_wd hce) hce
      have hgood := hgoodT
      go_wp2
      go_loopg [15, 55] m (fun g s15 s55 wx => ∃ j : Nat, j ≤ m ∧ g = m - j ∧ s55 = .int .i64 j ∧ s15 = .bool (((saF L P k).2.take j).all (apB (nwI L Z 3, R))) ∧ Blk wx wa.heap.size #[.complex .f64 x y, .bool false, .complex .f64 0 0, .float .f64 0] 34 ∧ Blk wx w5.heap.size #[.complex .f64 zb yb, .float .f64 tb] 32 ∧ RS w1.heap.size wx u7 (saF L P k).1 ∧ BS w1.heap.size wx (.slice a8 m c8) (saF L P k).2 ∧ Below w1.heap.size w1 wx)
      case atStart => exact ⟨0, by omega, by omega, rfl, by simp, F13, F14, hout, htold, B1⟩
      case round =>
       clear F13 F14 hout htold B1
       obtain ⟨j, hj, hg, rfl, rfl, F13, F14, hout, htold, B1⟩ := hrel
       by_cases hjm : j < m
       ·have HJ := Lib.hid hg
        clear hg
        have hjT : j < (saF L P k).2.length := by have := HM.out; omega
        obtain ⟨b', u, v, t, e, _, S, hu, hv, ht⟩ := htold.get j hjT
        cases e
        obtain ⟨xS0, xS1⟩ := S.ce2
        have hal := (Below.refl wr.heap.size wr).alloc (Nat.le_refl _) (.cells #[.complex .f64 u v, .float .f64 t] 32)
        replace F13 := F13.allocd (.cells #[.complex .f64 u v, .float .f64 t] 32)
        replace F14 := F14.allocd (.cells #[.complex .f64 u v, .float .f64 t] 32)
        replace hout := hout.keep hal
        replace htold := htold.keep hal
        replace B1 := B1.alloc B1.size (.cells #[.complex .f64 u v, .float .f64 t] 32)
        have F18 := Blk.put wr #[.complex .f64 u v, .float .f64 t] 32
        clear hal
        have hstep := all_take (f := apB (nwI L Z 3, R)) hjT
        cases hcur : ((saF L P k).2.take j).all (apB (nwI L Z 3, R))
        ·rw [hcur, Bool.false_and] at hstep
         go_wp2
         go_roundg (m - (j + 1))
         case measure => have := HJ.out; omega
         case rel => exact ⟨j + 1, by omega, rfl, by go_num, by first | (rw [hstep]; done) | simp [hstep], F13, F14, hout, htold, B1⟩
        ·rw [hcur, Bool.true_and] at hstep
         obtain ⟨x14_0, x14_1⟩ := F14.ce2
         obtain ⟨x18_0, x18_1⟩ := F18.ce2
         obtain ⟨ga, gb, gc, hgd⟩ := hgood (saF L P k).2[j] (List.getElem_mem hjT)
         obtain ⟨gd, ge, gf, hge⟩ := hgB
         have hap := apart_good _ hball ⟨hu, hv, ht⟩ hge hgd (hT1.below B1)
         clear hu hv ht
         go_wp2_with fail
         refine hap.mono ?_
         rintro r w6 ⟨rfl, hbb⟩
         replace F13 := F13.keep hbb
         replace F14 := F14.keep hbb
         replace hout := hout.keep hbb
         replace htold := htold.keep hbb
         replace B1 := B1.trans (hbb.mono B1.size)
         clear hbb hap
         go_wp2
         go_roundg (m - (j + 1))
         case measure => have := HJ.out; omega
         case rel => exact ⟨j + 1, by omega, rfl, by go_num, by first | (rw [hstep]; done) | simp [hstep], F13, F14, hout, htold, B1⟩
       ·obtain rfl : j = m := by omega
        clear hg hj hjm
        have hta : (saF L P k).2.take j = (saF L P k).2 := List.take_of_length_le (by have := HM.out; omega)
        rw [hta]
        have hrt := rtF_some (T := (saF L P k).2) (z := Z) hce
        cases hall : (saF L P k).2.all (apB (nwI L Z 3, R))
        ·rw [hall] at hrt
         replace hrt : rtF L (saF L P k).2 Z = none := hrt
         have hEnt : (saF L P (k + 1)).1 = (saF L P k).1 ++ [(nwI L Z 3, none)] := by rw [← hrt, HZZ.out]; rfl
         have hTl : (saF L P (k + 1)).2 = (saF L P k).2 := by
          show tlF (saF L P k).2 (rtF L (saF L P k).2 (P.getD k C00)) = _
          rw [← HZZ.out, hrt]; rfl
         obtain ⟨x13_0, x13_1, x13_2, x13_3⟩ := F13.ce4
         obtain ⟨ps, hown, hlen, hps⟩ := hout
         rw [saF_len] at hown
         have HQ := Lib.hid (And.intro hlen (And.intro hps htold))
         have hbz := B1.size
         clear hlen hps htold
         go_wp2_with (at_builtin; refine wpList_append_own _ rfl _ _ 23 rfl w1.heap.size 34 i0 (.agg #[.complex .f64 0 0, .bool false, .complex .f64 0 0, .float .f64 0]) 4 48 Tryz.underlying23 hi hz0 hz1 hz2 rfl (by decide) _ _ _ rfl (by exact hown.alloc _) ⟨wr.heap.size, 0, none⟩ 1 1 [.complex .f64 x y, .bool false, .complex .f64 0 0, .float .f64 0] rfl rfl ?c1 ?c2 ?c3 ?c4 ?c5 ?_)
         case c1 =>
          intro j u hj
          match j, hj with
          | 0, hj => simp at hj; subst hj; simp [Addr.add]
          | 1, hj => simp at hj; subst hj; simp [Addr.add]
          | 2, hj => simp at hj; subst hj; simp [Addr.add]
          | 3, hj => simp at hj; subst hj; simp [Addr.add]
         case c2 => intro u hu; simp at hu; rcases hu with rfl | rfl | rfl | rfl <;> rfl
         case c3 => unfold maxLen; omega
         case c4 => omega
         case c5 => simp; omega
         ·intro v' w9 hown' hgrow _
          obtain ⟨hlen, hps, htold⟩ := HQ.out
          have hb9 := (B1.alloc hbz (Obj.cells #[.complex .f64 x y, .bool false, .complex .f64 0 0, .float .f64 0] 34)).grown hgrow (by simp; omega) (fun k hk => (hown.lt k hk).1)
          have hq : RS w1.heap.size w9 v' (saF L P (k + 1)).1 := by
           have h1 : RS w1.heap.size w9 v' ((saF L P k).1 ++ [(nwI L Z 3, none)]) := RS.push (p := (x, y, false, 0, 0, 0)) (by rw [saF_len]; exact hown') hlen hps ⟨hz3, hy3, rfl⟩
           rw [hEnt]
           exact h1
          have ht2 : BS w1.heap.size w9 (.slice a8 j c8) (saF L P (k + 1)).2 := by
           obtain ⟨qs, q1, q2⟩ := htold
           rw [hTl]
           exact ⟨qs, (q1.alloc _).kept hgrow (owns_disj q1 hown (by decide)), q2⟩
          have hb9z := hb9.size
          clear hown hown' hgrow HQ
          go_wp2
          go_roundg (n - (k + 1))
          case measure => have := HG.out; omega
          case rel => exact ⟨k + 1, by omega, rfl, by go_num, hq, ht2, hb9⟩
        ·rw [hall] at hrt
         replace hrt : rtF L (saF L P k).2 Z = some (nwI L Z 3, R) := hrt
         have hEnt : (saF L P (k + 1)).1 = (saF L P k).1 ++ [(nwI L Z 3, some (nwI L Z 3, R))] := by rw [← hrt, HZZ.out]; rfl
         have hTl : (saF L P (k + 1)).2 = (saF L P k).2 ++ [(nwI L Z 3, R)] := by
          show tlF (saF L P k).2 (rtF L (saF L P k).2 (P.getD k C00)) = _
          rw [← HZZ.out, hrt]; rfl
         have hlt13 : ∀ k, u7.ownBlock = some k → k ≠ wa.heap.size := hne13
         obtain ⟨x13_0, x13_1, x13_2, x13_3⟩ := F13.ce4
         obtain ⟨x13_0f, x13_1f, x13_2f, x13_3f⟩ := F13.fr4
         obtain ⟨x14_0, x14_1⟩ := F14.ce2
         have hn14 : w5.heap.size ≠ wa.heap.size := by omega
         go_wp2_with fail
         go_region
         clear x13_0 x13_1 x13_2 x13_3 x13_0f x13_1f x13_2f x13_3f x14_0 x14_1
         have htn : ∀ k, (Value.slice a8 j c8).ownBlock = some k → k ≠ wa.heap.size := by
          intro k hk
          obtain ⟨qs, q1, _⟩ := htold
          exact fun e => owns_type q1 F13 (by decide) k hk e.symm
         replace hout := (((hout.set (b := wa.heap.size) 1 (.bool true) hlt13).set (b := wa.heap.size) 2 (.complex .f64 zb yb) hlt13).set (b := wa.heap.size) 3 (.float .f64 tb) hlt13).drew
         replace htold := (((htold.set (b := wa.heap.size) 1 (.bool true) htn).set (b := wa.heap.size) 2 (.complex .f64 zb yb) htn).set (b := wa.heap.size) 3 (.float .f64 tb) htn).drew
         replace F14 := (((F14.far 1 (.bool true) hn14).far 2 (.complex .f64 zb yb) hn14).far 3 (.float .f64 tb) hn14).drew
         replace F13 : Blk (((wr.setCell ⟨wa.heap.size, 1, none⟩ (.bool true)).setCell ⟨wa.heap.size, 2, none⟩ (.complex .f64 zb yb)).setCell ⟨wa.heap.size, 3, none⟩ (.float .f64 tb)).drew wa.heap.size #[.complex .f64 x y, .bool true, .complex .f64 zb yb, .float .f64 tb] 34 := Blk.drew (((F13.setAt 1 (.bool true)).setAt 2 (.complex .f64 zb yb)).setAt 3 (.float .f64 tb))
         replace B1 := (((B1.setCell (p := ⟨wa.heap.size, 1, none⟩) h13 (.bool true)).setCell (p := ⟨wa.heap.size, 2, none⟩) h13 (.complex .f64 zb yb)).setCell (p := ⟨wa.heap.size, 3, none⟩) h13 (.float .f64 tb)).drew
         generalize (((wr.setCell ⟨wa.heap.size, 1, none⟩ (.bool true)).setCell ⟨wa.heap.size, 2, none⟩ (.complex .f64 zb yb)).setCell ⟨wa.heap.size, 3, none⟩ (.float .f64 tb)).drew = v9 at *
         obtain ⟨x14_0, x14_1⟩ := F14.ce2
         obtain ⟨qs, qown, qlen, qps⟩ := htold
         rw [← HM.out] at qown
         have HT2 := Lib.hid (And.intro qlen qps)
         have hbz := B1.size
         clear qlen qps
         go_wp2_with (at_builtin; refine wpList_append_own _ rfl _ _ 52 rfl w1.heap.size 32 i1 (.agg #[.complex .f64 0 0, .float .f64 0]) 2 24 Tryz.underlying52 hi1 hz10 hz11 hz12 rfl (by decide) _ _ _ rfl (by exact qown.alloc _) ⟨v9.heap.size, 0, none⟩ 1 1 [.complex .f64 zb yb, .float .f64 tb] rfl rfl ?d1 ?d2 ?d3 ?d4 ?d5 ?_)
         case d1 =>
          intro j u hj
          match j, hj with
          | 0, hj => simp at hj; subst hj; simp [Addr.add]
          | 1, hj => simp at hj; subst hj; simp [Addr.add]
         case d2 => intro u hu; simp at hu; rcases hu with rfl | rfl <;> rfl
         case d3 => unfold maxLen; omega
         case d4 => omega
         case d5 => simp; omega
         ·intro v8 w7 qown' qgrow _
          obtain ⟨qlen, qps⟩ := HT2.out
          have hq8 : BS w1.heap.size w7 v8 ((saF L P k).2 ++ [(nwI L Z 3, R)]) := BS.push (by rw [← HM.out]; exact qown') qlen qps hball.1 hball.2.1 hball.2.2
          have hF13 := (F13.allocd (Obj.cells #[.complex .f64 zb yb, .float .f64 tb] 32)).grown qgrow (owns_type qown F13 (by decide))
          replace hout : RS w1.heap.size w7 u7 (saF L P k).1 := by
           obtain ⟨ps, p1, p2⟩ := hout
           exact ⟨ps, (p1.alloc _).kept qgrow (owns_disj p1 qown (by decide)), p2⟩
          have hb7 := (B1.alloc hbz (Obj.cells #[.complex .f64 zb yb, .float .f64 tb] 32)).grown qgrow (by simp; omega) (fun k hk => (qown.lt k hk).1)
          clear F13 F14 B1 qown qown' qgrow hbz htn hlt13 hne13
          have F13 := hF13
          have B1 := hb7
          have htold := hq8
          clear hF13 hb7 hq8
          obtain ⟨x13_0, x13_1, x13_2, x13_3⟩ := F13.ce4
          obtain ⟨ps, hown, hlen, hps⟩ := hout
          rw [saF_len] at hown
          have HQ := Lib.hid (And.intro hlen (And.intro hps htold))
          have hbz := B1.size
          clear hlen hps htold
          go_wp2_with (at_builtin; refine wpList_append_own _ rfl _ _ 23 rfl w1.heap.size 34 i0 (.agg #[.complex .f64 0 0, .bool false, .complex .f64 0 0, .float .f64 0]) 4 48 Tryz.underlying23 hi hz0 hz1 hz2 rfl (by decide) _ _ _ rfl (by exact hown.alloc _) ⟨w7.heap.size, 0, none⟩ 1 1 [.complex .f64 x y, .bool true, .complex .f64 zb yb, .float .f64 tb] rfl rfl ?c1 ?c2 ?c3 ?c4 ?c5 ?_)
          case c1 =>
           intro j u hj
           match j, hj with
           | 0, hj => simp at hj; subst hj; simp [Addr.add]
           | 1, hj => simp at hj; subst hj; simp [Addr.add]
           | 2, hj => simp at hj; subst hj; simp [Addr.add]
           | 3, hj => simp at hj; subst hj; simp [Addr.add]
          case c2 => intro u hu; simp at hu; rcases hu with rfl | rfl | rfl | rfl <;> rfl
          case c3 => unfold maxLen; omega
          case c4 => omega
          case c5 => simp; omega
          ·intro v' w9 hown' hgrow _
           obtain ⟨hlen, hps, htold⟩ := HQ.out
           have hb9 := (B1.alloc hbz (Obj.cells #[.complex .f64 x y, .bool true, .complex .f64 zb yb, .float .f64 tb] 34)).grown hgrow (by simp; omega) (fun k hk => (hown.lt k hk).1)
           have hq : RS w1.heap.size w9 v' (saF L P (k + 1)).1 := by
            have h1 : RS w1.heap.size w9 v' ((saF L P k).1 ++ [(nwI L Z 3, some (nwI L Z 3, R))]) := RS.push (p := (x, y, true, zb, yb, tb)) (by rw [saF_len]; exact hown') hlen hps ⟨hz3, hy3, rfl, hball⟩
            rw [hEnt]
            exact h1
           have ht2 : BS w1.heap.size w9 v8 (saF L P (k + 1)).2 := by
            obtain ⟨qs, q1, q2⟩ := htold
            rw [hTl]
            exact ⟨qs, (q1.alloc _).kept hgrow (owns_disj q1 hown (by decide)), q2⟩
           have hb9z := hb9.size
           clear hown hown' hgrow HQ
           go_wp2
           go_roundg (n - (k + 1))
           case measure => have := HG.out; omega
           case rel => exact ⟨k + 1, by omega, rfl, by go_num, hq, ht2, hb9⟩
  ·obtain rfl : k = n := by omega
   obtain ⟨a8, c8, rfl, hc8, hm8⟩ := htold.slc
   have hB := HP.out.2.trans (B1.mono HP.out.2.size)
   have hfin := hout.mono HP.out.2.size
   obtain ⟨m, em⟩ : ∃ m, m = (saF L P k).2.length := ⟨_, rfl⟩
   rw [← em]
   have HM := Lib.hid em
   clear htold em hout
   by_cases hmk : m = k
   ·subst hmk
    go_wp2
    exact bodyPost_ret (v := .tuple #[u7, .bool true, .int .i64 0]) (by simp [results, Tryz.results4, go_sem]) rfl ⟨⟨_, by rw [← HM.out]; simp, hfin⟩, hB⟩
   ·have hne : ¬ (m : Int) = (k : Int) := by omega
    go_wp2
    exact bodyPost_ret (v := .tuple #[u7, .bool false, .int .i64 0]) (by simp [results, Tryz.results4, go_sem, hne]) rfl ⟨⟨_, by rw [← HM.out]; simp [hmk], hfin⟩, hB⟩
end Go.Proofs.YtfdnbogbankjjaaGreatDoor
