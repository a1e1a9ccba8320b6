/- ratio.do; ratio.Add, Sub, Mul, Quo. -/
import Derived.Test.YtbhfnigblhfikaaGreatDoorJD
namespace Go.Proofs.YtbhfnigblhfikaaGreatDoor
open Go Go.RowKit Go.PlainAid Fil

theorem Szd.div {K : Nat} {p q : Int} (hq : q ≠ 0) (hp : Fil.dn 32 p.natAbs ≤ K) (hd : Fil.dn 32 q.natAbs ≤ K) : Szd K (Rat.divInt p q) := by
  refine ⟨?_, ?_⟩
  · rw [← norm_num p q hq, sz_abs]
    exact Nat.le_trans (dn_mono (by omega) (Nat.div_le_self _ _)) hp
  · rw [← norm_den p q hq]
    exact Nat.le_trans (dn_mono (by omega) (Nat.div_le_self _ _)) hd
theorem Szd.add {K L : Nat} {x y : Rat} (hx : Szd K x) (hy : Szd L y) : Szd (K + L + 1) (x + y) := by
  rw [← divInt_add]
  exact Szd.div (den_mul_ne x y) (dn_addI (dn_mulI hx.1 hy.den) (by have := dn_mulI hy.1 hx.den; omega)) (Nat.le_trans (dn_mulI hx.den hy.den) (by omega))
theorem Szd.sub {K L : Nat} {x y : Rat} (hx : Szd K x) (hy : Szd L y) : Szd (K + L + 1) (x - y) := by
  rw [Rat.sub_eq_add_neg]; exact hx.add hy.neg
theorem Szd.mul {K L : Nat} {x y : Rat} (hx : Szd K x) (hy : Szd L y) : Szd (K + L) (x * y) := by
  rw [← divInt_mul]
  exact Szd.div (den_mul_ne x y) (dn_mulI hx.1 hy.1) (dn_mulI hx.den hy.den)
theorem kTold_parts (z : Rat) : ∃ (n : Bool) (S T : ByteArray) (e : Int), kToldV z = .tuple #[.agg #[.bool n, .string S, .string T], .int .i64 e] := by
  unfold kToldV kA
  split
  · exact ⟨_, _, _, _, rfl⟩
  · exact ⟨_, _, _, _, rfl⟩

set_option maxRecDepth 100000 in
set_option maxHeartbeats 4000000 in
theorem kdo_sub (x y : Rat) (w : World) (hx : Fits x) (hy : Fits y) :
    Calls Tryz.prog 36 #[kA x, kA y, .func (.func 37) #[] #[]] w fun e w' => e = .returned (kToldV (x - y)) ∧ Below w.heap.size w w' := by
  have hm1 := fun W => kmay_any (sg x.num) (bstr x.num.natAbs) (bstr x.den) W (by rw [bstr_size]; have := hx.1; omega) (by rw [bstr_size]; have := hx.2; omega)
  have hm2 := fun W => kmay_any (sg y.num) (bstr y.num.natAbs) (bstr y.den) W (by rw [bstr_size]; have := hy.1; omega) (by rw [bstr_size]; have := hy.2; omega)
  rw [may_of_rat hx] at hm1
  rw [may_of_rat hy] at hm2
  have hr1 := fun W => krat_any x W hx
  have hr2 := fun W => krat_any y W hy
  unfold kA at hr1 hr2
  have sx := Lib.hid (hx.szd.mono (L := 100000000000) (by omega))
  have sy := Lib.hid (hy.szd.mono (L := 100000000000) (by omega))
  have sz := Lib.hid (Szd.mono (L := 100000000000) (hx.szd.sub hy.szd) (by omega))
  obtain ⟨tn, tS, tT, te, hV⟩ := kTold_parts (x - y)
  have htd := fun W B R => ktold_any B (x - y) W R sz.out
  rw [hV] at htd
  rw [hV]
  clear hV hx hy sz
  unfold kA
  generalize sg x.num = xn at *
  generalize bstr x.num.natAbs = xS at *
  generalize bstr x.den = xT at *
  generalize sg y.num = yn at *
  generalize bstr y.num.natAbs = yS at *
  generalize bstr y.den = yT at *
  have hb := Below.refl w.heap.size w
  go_enter Tryz.func36, Tryz.ntmps36
  have F := Blk.put (w) #[.bool xn, .string xS, .string xT] 24
  replace hb := hb.alloc hb.size (.cells #[.bool xn, .string xS, .string xT] 24)
  have q_BF : Hid (w.heap.size ≤ w.heap.size) := Lib.hid (by omega)
  replace F := F.allocd (.cells #[.bool yn, .string yS, .string yT] 24)
  have G := Blk.put (w.alloc (.cells #[.bool xn, .string xS, .string xT] 24)) #[.bool yn, .string yS, .string yT] 24
  replace hb := hb.alloc hb.size (.cells #[.bool yn, .string yS, .string yT] 24)
  rw [show (w.alloc (.cells #[.bool xn, .string xS, .string xT] 24)).heap.size = w.heap.size + 1 by simp] at G
  have q_BF_BG : Hid (w.heap.size < w.heap.size + 1) := Lib.hid (by omega)
  have q_BG : Hid (w.heap.size ≤ w.heap.size + 1) := Lib.hid (by omega)
  replace F := F.allocd (.cells #[.bool false, .string { data := #[] }, .string { data := #[] }] 24)
  replace G := G.allocd (.cells #[.bool false, .string { data := #[] }, .string { data := #[] }] 24)
  have Z := Blk.put ((w.alloc (.cells #[.bool xn, .string xS, .string xT] 24)).alloc (.cells #[.bool yn, .string yS, .string yT] 24)) #[.bool false, .string { data := #[] }, .string { data := #[] }] 24
  replace hb := hb.alloc hb.size (.cells #[.bool false, .string { data := #[] }, .string { data := #[] }] 24)
  rw [show ((w.alloc (.cells #[.bool xn, .string xS, .string xT] 24)).alloc (.cells #[.bool yn, .string yS, .string yT] 24)).heap.size = w.heap.size + 1 + 1 by simp] at Z
  have q_BF_BZ : Hid (w.heap.size < w.heap.size + 1 + 1) := Lib.hid (by omega)
  have q_BG_BZ : Hid (w.heap.size + 1 < w.heap.size + 1 + 1) := Lib.hid (by omega)
  have q_BZ : Hid (w.heap.size ≤ w.heap.size + 1 + 1) := Lib.hid (by omega)
  obtain ⟨x0, x1, x2⟩ := F.ce3
  go_wp2_with fail
  refine (hm1 _).mono ?_
  rintro r w1 ⟨rfl, hB⟩
  replace F := F.keep hB
  replace G := G.keep hB
  replace Z := Z.keep hB
  replace hb := hb.trans (hB.mono hb.size)
  clear x0 x1 x2 hB
  obtain ⟨x0, x1, x2⟩ := G.ce3
  go_wp2_with fail
  refine (hm2 _).mono ?_
  rintro r w2 ⟨rfl, hB⟩
  replace F := F.keep hB
  replace G := G.keep hB
  replace Z := Z.keep hB
  replace hb := hb.trans (hB.mono hb.size)
  clear x0 x1 x2 hB
  obtain ⟨x0, x1, x2⟩ := F.ce3
  go_upto_region 3 with fail
  clear x0 x1 x2 hm1 hm2
  go_wp2_with fail
  refine wp_region_cut 10 (by kernel_rfl) (by kernel_rfl) ?_
  rintro W rfl
  simp only [List.take_succ_cons, List.take_zero, List.drop_succ_cons, List.drop_zero]
  have hHeld : (fun w' : World => w'.cell? ⟨w.heap.size, 0, none⟩ = some (.bool xn) ∧ w'.cell? ⟨w.heap.size, 1, none⟩ = some (.string xS) ∧ w'.cell? ⟨w.heap.size, 2, none⟩ = some (.string xT) ∧ w'.cell? ⟨w.heap.size + 1, 0, none⟩ = some (.bool yn) ∧ w'.cell? ⟨w.heap.size + 1, 1, none⟩ = some (.string yS) ∧ w'.cell? ⟨w.heap.size + 1, 2, none⟩ = some (.string yT)) w2.drew := ⟨F.ce3.1, F.ce3.2.1, F.ce3.2.2, G.ce3.1, G.ce3.2.1, G.ce3.2.2⟩
  refine wpAny_of_held (S := fun w' : World => w'.cell? ⟨w.heap.size, 0, none⟩ = some (.bool xn) ∧ w'.cell? ⟨w.heap.size, 1, none⟩ = some (.string xS) ∧ w'.cell? ⟨w.heap.size, 2, none⟩ = some (.string xT) ∧ w'.cell? ⟨w.heap.size + 1, 0, none⟩ = some (.bool yn) ∧ w'.cell? ⟨w.heap.size + 1, 1, none⟩ = some (.string yS) ∧ w'.cell? ⟨w.heap.size + 1, 2, none⟩ = some (.string yT)) _ _ _ (w2.drew) ?_
  replace F : Blk (w2.drew) (w.heap.size) #[.bool xn, .string xS, .string xT] 24 := F
  replace G : Blk (w2.drew) (w.heap.size + 1) #[.bool yn, .string yS, .string yT] 24 := G
  replace Z : Blk (w2.drew) (w.heap.size + 1 + 1) #[.bool false, .string { data := #[] }, .string { data := #[] }] 24 := Z
  replace hb : Below w.heap.size w w2.drew := hb.drew
  generalize w2.drew = v1 at *
  refine wpAnyH_take (i := 0) (v := _) (by first | (simp only [List.getElem?_toArray, List.getElem?_cons_zero]; rfl) | rfl) (by kernel_rfl) (by kernel_rfl) (by kernel_rfl) (by exact fun _ _ _ h => h) (Or.inl ⟨by rfl, by (intro w hSw; (try dsimp only at hSw); go_simp; try with_reducible rfl)⟩) (by assumption) ?_
  (try dsimp only [Act.put]); (try go_frame)
  refine wpAnyH_take (i := 2) (v := _) (by first | (simp only [List.getElem?_toArray, List.getElem?_cons_zero, List.getElem?_cons_succ]; rfl) | rfl) (by kernel_rfl) (by kernel_rfl) (by kernel_rfl) (by exact fun _ _ _ h => h) (Or.inl ⟨by rfl, by (intro w hSw; (try dsimp only at hSw); go_simp; try with_reducible rfl)⟩) (by assumption) ?_
  (try dsimp only [Act.put]); (try go_frame)
  refine wpAnyH_take (i := 4) (v := _) (by first | (simp only [List.getElem?_toArray, List.getElem?_cons_zero, List.getElem?_cons_succ]; rfl) | rfl) (by kernel_rfl) (by kernel_rfl) (by kernel_rfl) (by exact fun _ _ _ h => h) (Or.inl ⟨by rfl, by (intro w hSw; (try dsimp only at hSw); go_simp; try with_reducible rfl)⟩) (by assumption) ?_
  (try dsimp only [Act.put]); (try go_frame)
  refine wpAnyH_ready (rs := [1, 3]) (by kernel_rfl) (by simp) ?_
  refine AllReadyH.cons rfl (fun K hK => ?_) (AllReadyH.cons rfl (fun K hK => ?_) AllReadyH.nil)
  · go_simp
    have R := RRoom.new v1
    have q0 : Hid (w.heap.size ≤ v1.heap.size) := Lib.hid hb.size
    have q0_BF : Hid (w.heap.size < v1.heap.size) := Lib.hid F.lt
    have q0_BG : Hid (w.heap.size + 1 < v1.heap.size) := Lib.hid G.lt
    have q0_BZ : Hid (w.heap.size + 1 + 1 < v1.heap.size) := Lib.hid Z.lt
    replace F := F.allocd (.cells #[.bool false, .slice none 0 0, .bool false, .slice none 0 0] 80)
    replace G := G.allocd (.cells #[.bool false, .slice none 0 0, .bool false, .slice none 0 0] 80)
    replace Z := Z.allocd (.cells #[.bool false, .slice none 0 0, .bool false, .slice none 0 0] 80)
    replace hb := hb.alloc hb.size (.cells #[.bool false, .slice none 0 0, .bool false, .slice none 0 0] 80)
    refine hK.out _ _ ?_ (fun hHeld => ?_)
    · exact ⟨F.ce3.1, F.ce3.2.1, F.ce3.2.2, G.ce3.1, G.ce3.2.1, G.ce3.2.2⟩
    clear hK K
    generalize v1.alloc (.cells #[.bool false, .slice none 0 0, .bool false, .slice none 0 0] 80) = v2 at *
    generalize v1.heap.size = BR at *
    have q_BR := q0
    clear q0
    have q_BF_BR := q0_BF
    clear q0_BF
    have q_BG_BR := q0_BG
    clear q0_BG
    have q_BZ_BR := q0_BZ
    clear q0_BZ
    (try dsimp only [Act.put]); (try go_frame)
    refine wpAnyH_ready (rs := [3]) (by kernel_rfl) (by simp) ?_
    refine AllReadyH.cons rfl (fun K hK => ?_) AllReadyH.nil
    go_simp
    have q_BF_BX0 : w.heap.size < v2.heap.size := F.lt
    have q_BG_BX0 : w.heap.size + 1 < v2.heap.size := G.lt
    have q_BZ_BX0 : w.heap.size + 1 + 1 < v2.heap.size := Z.lt
    have q_BR_BX0 : BR < v2.heap.size := R.lt
    have q_BX0 : w.heap.size ≤ v2.heap.size := hb.size
    refine (hr1 v2).mono ?_
    rintro r ww17 ⟨BX, rfl, X, qq, -, hB⟩
    replace F := F.keep hB
    replace G := G.keep hB
    replace Z := Z.keep hB
    replace R := R.below hB
    replace hb := hb.trans (hB.mono hb.size)
    clear hB
    have q_BX : Hid (w.heap.size ≤ BX) := Lib.hid (by omega)
    have q_BF_BX : Hid (w.heap.size < BX) := Lib.hid (by omega)
    have q_BG_BX : Hid (w.heap.size + 1 < BX) := Lib.hid (by omega)
    have q_BZ_BX : Hid (w.heap.size + 1 + 1 < BX) := Lib.hid (by omega)
    have q_BR_BX : Hid (BR < BX) := Lib.hid (by omega)
    clear qq q_BX0 q_BF_BX0 q_BG_BX0 q_BZ_BX0 q_BR_BX0
    refine hK.out _ _ ?_ (fun hHeld => ?_)
    · exact ⟨F.ce3.1, F.ce3.2.1, F.ce3.2.2, G.ce3.1, G.ce3.2.1, G.ce3.2.2⟩
    clear hK K
    (try dsimp only [Act.put]); (try go_frame)
    refine wpAnyH_ready (rs := [5]) (by kernel_rfl) (by simp) ?_
    refine AllReadyH.cons rfl (fun K hK => ?_) AllReadyH.nil
    go_simp
    have q_BF_BY0 : w.heap.size < ww17.heap.size := F.lt
    have q_BG_BY0 : w.heap.size + 1 < ww17.heap.size := G.lt
    have q_BZ_BY0 : w.heap.size + 1 + 1 < ww17.heap.size := Z.lt
    have q_BR_BY0 : BR < ww17.heap.size := R.lt
    have q_BX_BY0 : BX < ww17.heap.size := X.lt
    have q_BY0 : w.heap.size ≤ ww17.heap.size := hb.size
    refine (hr2 ww17).mono ?_
    rintro r ww36 ⟨BY, rfl, Y, qq, -, hB⟩
    replace F := F.keep hB
    replace G := G.keep hB
    replace Z := Z.keep hB
    replace R := R.below hB
    replace X := X.below hB
    replace hb := hb.trans (hB.mono hb.size)
    clear hB
    have q_BY : Hid (w.heap.size ≤ BY) := Lib.hid (by omega)
    have q_BF_BY : Hid (w.heap.size < BY) := Lib.hid (by omega)
    have q_BG_BY : Hid (w.heap.size + 1 < BY) := Lib.hid (by omega)
    have q_BZ_BY : Hid (w.heap.size + 1 + 1 < BY) := Lib.hid (by omega)
    have q_BR_BY : Hid (BR < BY) := Lib.hid (by omega)
    have q_BX_BY : Hid (BX < BY) := Lib.hid (by omega)
    clear qq q_BY0 q_BF_BY0 q_BG_BY0 q_BZ_BY0 q_BR_BY0 q_BX_BY0
    refine hK.out _ _ ?_ (fun hHeld => ?_)
    · exact ⟨F.ce3.1, F.ce3.2.1, F.ce3.2.2, G.ce3.1, G.ce3.2.1, G.ce3.2.2⟩
    clear hK K
    (try dsimp only [Act.put]); (try go_frame)
    refine wpAnyH_ready (rs := [6]) (by kernel_rfl) (by simp) ?_
    refine AllReadyH.cons rfl (fun K hK => ?_) AllReadyH.nil
    go_simp
    refine (ratsub_any BR BX BY x y ww36 R X Y (by have := q_BR_BX.out; omega) sx.out sy.out).mono ?_
    rintro r wo58 ⟨rfl, R0, hF⟩
    replace F := F.ofFar hF (by have := q_BF_BR.out; omega)
    replace G := G.ofFar hF (by have := q_BG_BR.out; omega)
    replace Z := Z.ofFar hF (by have := q_BZ_BR.out; omega)
    replace X := X.far hF (by have := q_BR_BX.out; omega)
    replace Y := Y.far hF (by have := q_BR_BY.out; omega)
    replace hb := hb.trans (hF.below q_BR.out hb.size)
    clear hF R
    have R := R0
    clear R0
    refine hK.out _ _ ?_ (fun hHeld => ?_)
    · exact ⟨F.ce3.1, F.ce3.2.1, F.ce3.2.2, G.ce3.1, G.ce3.2.1, G.ce3.2.2⟩
    clear hK K
    (try dsimp only [Act.put]); (try go_frame)
    refine wpAnyH_ready (rs := [7]) (by kernel_rfl) (by simp) ?_
    refine AllReadyH.cons rfl (fun K hK => ?_) AllReadyH.nil
    go_simp
    refine (htd wo58 BR R).mono ?_
    rintro r wt67 ⟨rfl, hB⟩
    replace F := F.keep hB
    replace G := G.keep hB
    replace Z := Z.keep hB
    replace hb := hb.trans (hB.mono hb.size)
    clear hB
    refine hK.out _ _ ?_ (fun hHeld => ?_)
    · exact ⟨F.ce3.1, F.ce3.2.1, F.ce3.2.2, G.ce3.1, G.ce3.2.1, G.ce3.2.2⟩
    clear hK K
    (try dsimp only [Act.put]); (try go_frame)
    refine wpAnyH_take (i := 8) (v := _) (by first | (simp only [List.getElem?_toArray, List.getElem?_cons_zero, List.getElem?_cons_succ]; rfl) | rfl) (by kernel_rfl) (by kernel_rfl) (by kernel_rfl) (by exact fun _ _ _ h => h) (Or.inl ⟨by rfl, by (intro w hSw; (try dsimp only at hSw); go_simp; try with_reducible rfl)⟩) (by assumption) ?_
    (try dsimp only [Act.put]); (try go_frame)
    refine wpAnyH_take (i := 9) (v := _) (by first | (simp only [List.getElem?_toArray, List.getElem?_cons_zero, List.getElem?_cons_succ]; rfl) | rfl) (by kernel_rfl) (by kernel_rfl) (by kernel_rfl) (by exact fun _ _ _ h => h) (Or.inl ⟨by rfl, by (intro w hSw; (try dsimp only at hSw); go_simp; try with_reducible rfl)⟩) (by assumption) ?_
    (try dsimp only [Act.put]); (try go_frame)
    refine wpAnyH_done (by kernel_rfl) ?_ _
    try simp only [QCut]
    obtain ⟨z0, z1, z2⟩ := Z.ce3
    obtain ⟨zf0, zf1, zf2⟩ := Z.fr3
    have G0 : Blk ((((wt67).setCell ⟨w.heap.size + 1 + 1, 0, none⟩ (.bool tn)).setCell ⟨w.heap.size + 1 + 1, 1, none⟩ (.string tS)).setCell ⟨w.heap.size + 1 + 1, 2, none⟩ (.string tT)) (w.heap.size + 1 + 1) #[.bool tn, .string tS, .string tT] 24 := ((Z.setAt 0 _).setAt 1 _).setAt 2 _
    obtain ⟨g0, g1, g2⟩ := G0.ce3
    have hbY := ((hb.setCell (p := ⟨w.heap.size + 1 + 1, 0, none⟩) q_BZ.out (.bool tn)).setCell (p := ⟨w.heap.size + 1 + 1, 1, none⟩) q_BZ.out (.string tS)).setCell (p := ⟨w.heap.size + 1 + 1, 2, none⟩) q_BZ.out (.string tT)
    have HG := Lib.hid (And.intro (And.intro g0 (And.intro g1 g2)) hbY)
    clear g0 g1 g2 hbY G0 F G Z hb hHeld
    go_wp2
    obtain ⟨⟨g0, g1, g2⟩, hbY⟩ := HG.out
    exact bodyPost_ret (v := .tuple #[.agg #[.bool tn, .string tS, .string tT], .int .i64 te]) (by simp [results, Tryz.results36, go_sem, g0, g1, g2]) rfl ⟨rfl, hbY⟩
  · go_simp
    have q_BF_BX0 : w.heap.size < v1.heap.size := F.lt
    have q_BG_BX0 : w.heap.size + 1 < v1.heap.size := G.lt
    have q_BZ_BX0 : w.heap.size + 1 + 1 < v1.heap.size := Z.lt
    have q_BX0 : w.heap.size ≤ v1.heap.size := hb.size
    refine (hr1 v1).mono ?_
    rintro r ww1 ⟨BX, rfl, X, qq, -, hB⟩
    replace F := F.keep hB
    replace G := G.keep hB
    replace Z := Z.keep hB
    replace hb := hb.trans (hB.mono hb.size)
    clear hB
    have q_BX : Hid (w.heap.size ≤ BX) := Lib.hid (by omega)
    have q_BF_BX : Hid (w.heap.size < BX) := Lib.hid (by omega)
    have q_BG_BX : Hid (w.heap.size + 1 < BX) := Lib.hid (by omega)
    have q_BZ_BX : Hid (w.heap.size + 1 + 1 < BX) := Lib.hid (by omega)
    clear qq q_BX0 q_BF_BX0 q_BG_BX0 q_BZ_BX0
    refine hK.out _ _ ?_ (fun hHeld => ?_)
    · exact ⟨F.ce3.1, F.ce3.2.1, F.ce3.2.2, G.ce3.1, G.ce3.2.1, G.ce3.2.2⟩
    clear hK K
    (try dsimp only [Act.put]); (try go_frame)
    refine wpAnyH_ready (rs := [1, 5]) (by kernel_rfl) (by simp) ?_
    refine AllReadyH.cons rfl (fun K hK => ?_) (AllReadyH.cons rfl (fun K hK => ?_) AllReadyH.nil)
    · go_simp
      have R := RRoom.new ww1
      have q0 : Hid (w.heap.size ≤ ww1.heap.size) := Lib.hid hb.size
      have q0_BF : Hid (w.heap.size < ww1.heap.size) := Lib.hid F.lt
      have q0_BG : Hid (w.heap.size + 1 < ww1.heap.size) := Lib.hid G.lt
      have q0_BZ : Hid (w.heap.size + 1 + 1 < ww1.heap.size) := Lib.hid Z.lt
      have q0_BX : Hid (BX < ww1.heap.size) := Lib.hid X.lt
      replace F := F.allocd (.cells #[.bool false, .slice none 0 0, .bool false, .slice none 0 0] 80)
      replace G := G.allocd (.cells #[.bool false, .slice none 0 0, .bool false, .slice none 0 0] 80)
      replace Z := Z.allocd (.cells #[.bool false, .slice none 0 0, .bool false, .slice none 0 0] 80)
      replace X := X.alloc (.cells #[.bool false, .slice none 0 0, .bool false, .slice none 0 0] 80)
      replace hb := hb.alloc hb.size (.cells #[.bool false, .slice none 0 0, .bool false, .slice none 0 0] 80)
      refine hK.out _ _ ?_ (fun hHeld => ?_)
      · exact ⟨F.ce3.1, F.ce3.2.1, F.ce3.2.2, G.ce3.1, G.ce3.2.1, G.ce3.2.2⟩
      clear hK K
      generalize ww1.alloc (.cells #[.bool false, .slice none 0 0, .bool false, .slice none 0 0] 80) = v2 at *
      generalize ww1.heap.size = BR at *
      have q_BR := q0
      clear q0
      have q_BF_BR := q0_BF
      clear q0_BF
      have q_BG_BR := q0_BG
      clear q0_BG
      have q_BZ_BR := q0_BZ
      clear q0_BZ
      have q_BX_BR := q0_BX
      clear q0_BX
      (try dsimp only [Act.put]); (try go_frame)
      refine wpAnyH_ready (rs := [5]) (by kernel_rfl) (by simp) ?_
      refine AllReadyH.cons rfl (fun K hK => ?_) AllReadyH.nil
      go_simp
      have q_BF_BY0 : w.heap.size < v2.heap.size := F.lt
      have q_BG_BY0 : w.heap.size + 1 < v2.heap.size := G.lt
      have q_BZ_BY0 : w.heap.size + 1 + 1 < v2.heap.size := Z.lt
      have q_BX_BY0 : BX < v2.heap.size := X.lt
      have q_BR_BY0 : BR < v2.heap.size := R.lt
      have q_BY0 : w.heap.size ≤ v2.heap.size := hb.size
      refine (hr2 v2).mono ?_
      rintro r ww20 ⟨BY, rfl, Y, qq, -, hB⟩
      replace F := F.keep hB
      replace G := G.keep hB
      replace Z := Z.keep hB
      replace X := X.below hB
      replace R := R.below hB
      replace hb := hb.trans (hB.mono hb.size)
      clear hB
      have q_BY : Hid (w.heap.size ≤ BY) := Lib.hid (by omega)
      have q_BF_BY : Hid (w.heap.size < BY) := Lib.hid (by omega)
      have q_BG_BY : Hid (w.heap.size + 1 < BY) := Lib.hid (by omega)
      have q_BZ_BY : Hid (w.heap.size + 1 + 1 < BY) := Lib.hid (by omega)
      have q_BX_BY : Hid (BX < BY) := Lib.hid (by omega)
      have q_BR_BY : Hid (BR < BY) := Lib.hid (by omega)
      clear qq q_BY0 q_BF_BY0 q_BG_BY0 q_BZ_BY0 q_BX_BY0 q_BR_BY0
      refine hK.out _ _ ?_ (fun hHeld => ?_)
      · exact ⟨F.ce3.1, F.ce3.2.1, F.ce3.2.2, G.ce3.1, G.ce3.2.1, G.ce3.2.2⟩
      clear hK K
      (try dsimp only [Act.put]); (try go_frame)
      refine wpAnyH_ready (rs := [6]) (by kernel_rfl) (by simp) ?_
      refine AllReadyH.cons rfl (fun K hK => ?_) AllReadyH.nil
      go_simp
      refine (ratsub_any BR BX BY x y ww20 R X Y (by have := q_BX_BR.out; omega) sx.out sy.out).mono ?_
      rintro r wo42 ⟨rfl, R0, hF⟩
      replace F := F.ofFar hF (by have := q_BF_BR.out; omega)
      replace G := G.ofFar hF (by have := q_BG_BR.out; omega)
      replace Z := Z.ofFar hF (by have := q_BZ_BR.out; omega)
      replace X := X.far hF (by have := q_BX_BR.out; omega)
      replace Y := Y.far hF (by have := q_BR_BY.out; omega)
      replace hb := hb.trans (hF.below q_BR.out hb.size)
      clear hF R
      have R := R0
      clear R0
      refine hK.out _ _ ?_ (fun hHeld => ?_)
      · exact ⟨F.ce3.1, F.ce3.2.1, F.ce3.2.2, G.ce3.1, G.ce3.2.1, G.ce3.2.2⟩
      clear hK K
      (try dsimp only [Act.put]); (try go_frame)
      refine wpAnyH_ready (rs := [7]) (by kernel_rfl) (by simp) ?_
      refine AllReadyH.cons rfl (fun K hK => ?_) AllReadyH.nil
      go_simp
      refine (htd wo42 BR R).mono ?_
      rintro r wt51 ⟨rfl, hB⟩
      replace F := F.keep hB
      replace G := G.keep hB
      replace Z := Z.keep hB
      replace hb := hb.trans (hB.mono hb.size)
      clear hB
      refine hK.out _ _ ?_ (fun hHeld => ?_)
      · exact ⟨F.ce3.1, F.ce3.2.1, F.ce3.2.2, G.ce3.1, G.ce3.2.1, G.ce3.2.2⟩
      clear hK K
      (try dsimp only [Act.put]); (try go_frame)
      refine wpAnyH_take (i := 8) (v := _) (by first | (simp only [List.getElem?_toArray, List.getElem?_cons_zero, List.getElem?_cons_succ]; rfl) | rfl) (by kernel_rfl) (by kernel_rfl) (by kernel_rfl) (by exact fun _ _ _ h => h) (Or.inl ⟨by rfl, by (intro w hSw; (try dsimp only at hSw); go_simp; try with_reducible rfl)⟩) (by assumption) ?_
      (try dsimp only [Act.put]); (try go_frame)
      refine wpAnyH_take (i := 9) (v := _) (by first | (simp only [List.getElem?_toArray, List.getElem?_cons_zero, List.getElem?_cons_succ]; rfl) | rfl) (by kernel_rfl) (by kernel_rfl) (by kernel_rfl) (by exact fun _ _ _ h => h) (Or.inl ⟨by rfl, by (intro w hSw; (try dsimp only at hSw); go_simp; try with_reducible rfl)⟩) (by assumption) ?_
      (try dsimp only [Act.put]); (try go_frame)
      refine wpAnyH_done (by kernel_rfl) ?_ _
      try simp only [QCut]
      obtain ⟨z0, z1, z2⟩ := Z.ce3
      obtain ⟨zf0, zf1, zf2⟩ := Z.fr3
      have G0 : Blk ((((wt51).setCell ⟨w.heap.size + 1 + 1, 0, none⟩ (.bool tn)).setCell ⟨w.heap.size + 1 + 1, 1, none⟩ (.string tS)).setCell ⟨w.heap.size + 1 + 1, 2, none⟩ (.string tT)) (w.heap.size + 1 + 1) #[.bool tn, .string tS, .string tT] 24 := ((Z.setAt 0 _).setAt 1 _).setAt 2 _
      obtain ⟨g0, g1, g2⟩ := G0.ce3
      have hbY := ((hb.setCell (p := ⟨w.heap.size + 1 + 1, 0, none⟩) q_BZ.out (.bool tn)).setCell (p := ⟨w.heap.size + 1 + 1, 1, none⟩) q_BZ.out (.string tS)).setCell (p := ⟨w.heap.size + 1 + 1, 2, none⟩) q_BZ.out (.string tT)
      have HG := Lib.hid (And.intro (And.intro g0 (And.intro g1 g2)) hbY)
      clear g0 g1 g2 hbY G0 F G Z hb hHeld
      go_wp2
      obtain ⟨⟨g0, g1, g2⟩, hbY⟩ := HG.out
      exact bodyPost_ret (v := .tuple #[.agg #[.bool tn, .string tS, .string tT], .int .i64 te]) (by simp [results, Tryz.results36, go_sem, g0, g1, g2]) rfl ⟨rfl, hbY⟩
    · go_simp
      have q_BF_BY0 : w.heap.size < ww1.heap.size := F.lt
      have q_BG_BY0 : w.heap.size + 1 < ww1.heap.size := G.lt
      have q_BZ_BY0 : w.heap.size + 1 + 1 < ww1.heap.size := Z.lt
      have q_BX_BY0 : BX < ww1.heap.size := X.lt
      have q_BY0 : w.heap.size ≤ ww1.heap.size := hb.size
      refine (hr2 ww1).mono ?_
      rintro r ww1 ⟨BY, rfl, Y, qq, -, hB⟩
      replace F := F.keep hB
      replace G := G.keep hB
      replace Z := Z.keep hB
      replace X := X.below hB
      replace hb := hb.trans (hB.mono hb.size)
      clear hB
      have q_BY : Hid (w.heap.size ≤ BY) := Lib.hid (by omega)
      have q_BF_BY : Hid (w.heap.size < BY) := Lib.hid (by omega)
      have q_BG_BY : Hid (w.heap.size + 1 < BY) := Lib.hid (by omega)
      have q_BZ_BY : Hid (w.heap.size + 1 + 1 < BY) := Lib.hid (by omega)
      have q_BX_BY : Hid (BX < BY) := Lib.hid (by omega)
      clear qq q_BY0 q_BF_BY0 q_BG_BY0 q_BZ_BY0 q_BX_BY0
      refine hK.out _ _ ?_ (fun hHeld => ?_)
      · exact ⟨F.ce3.1, F.ce3.2.1, F.ce3.2.2, G.ce3.1, G.ce3.2.1, G.ce3.2.2⟩
      clear hK K
      (try dsimp only [Act.put]); (try go_frame)
      refine wpAnyH_ready (rs := [1]) (by kernel_rfl) (by simp) ?_
      refine AllReadyH.cons rfl (fun K hK => ?_) AllReadyH.nil
      go_simp
      have R := RRoom.new ww1
      have q0 : Hid (w.heap.size ≤ ww1.heap.size) := Lib.hid hb.size
      have q0_BF : Hid (w.heap.size < ww1.heap.size) := Lib.hid F.lt
      have q0_BG : Hid (w.heap.size + 1 < ww1.heap.size) := Lib.hid G.lt
      have q0_BZ : Hid (w.heap.size + 1 + 1 < ww1.heap.size) := Lib.hid Z.lt
      have q0_BX : Hid (BX < ww1.heap.size) := Lib.hid X.lt
      have q0_BY : Hid (BY < ww1.heap.size) := Lib.hid Y.lt
      replace F := F.allocd (.cells #[.bool false, .slice none 0 0, .bool false, .slice none 0 0] 80)
      replace G := G.allocd (.cells #[.bool false, .slice none 0 0, .bool false, .slice none 0 0] 80)
      replace Z := Z.allocd (.cells #[.bool false, .slice none 0 0, .bool false, .slice none 0 0] 80)
      replace X := X.alloc (.cells #[.bool false, .slice none 0 0, .bool false, .slice none 0 0] 80)
      replace Y := Y.alloc (.cells #[.bool false, .slice none 0 0, .bool false, .slice none 0 0] 80)
      replace hb := hb.alloc hb.size (.cells #[.bool false, .slice none 0 0, .bool false, .slice none 0 0] 80)
      refine hK.out _ _ ?_ (fun hHeld => ?_)
      · exact ⟨F.ce3.1, F.ce3.2.1, F.ce3.2.2, G.ce3.1, G.ce3.2.1, G.ce3.2.2⟩
      clear hK K
      generalize ww1.alloc (.cells #[.bool false, .slice none 0 0, .bool false, .slice none 0 0] 80) = v2 at *
      generalize ww1.heap.size = BR at *
      have q_BR := q0
      clear q0
      have q_BF_BR := q0_BF
      clear q0_BF
      have q_BG_BR := q0_BG
      clear q0_BG
      have q_BZ_BR := q0_BZ
      clear q0_BZ
      have q_BX_BR := q0_BX
      clear q0_BX
      have q_BY_BR := q0_BY
      clear q0_BY
      (try dsimp only [Act.put]); (try go_frame)
      refine wpAnyH_ready (rs := [6]) (by kernel_rfl) (by simp) ?_
      refine AllReadyH.cons rfl (fun K hK => ?_) AllReadyH.nil
      go_simp
      refine (ratsub_any BR BX BY x y v2 R X Y (by have := q_BX_BR.out; omega) sx.out sy.out).mono ?_
      rintro r wo42 ⟨rfl, R0, hF⟩
      replace F := F.ofFar hF (by have := q_BF_BR.out; omega)
      replace G := G.ofFar hF (by have := q_BG_BR.out; omega)
      replace Z := Z.ofFar hF (by have := q_BZ_BR.out; omega)
      replace X := X.far hF (by have := q_BX_BR.out; omega)
      replace Y := Y.far hF (by have := q_BY_BR.out; omega)
      replace hb := hb.trans (hF.below q_BR.out hb.size)
      clear hF R
      have R := R0
      clear R0
      refine hK.out _ _ ?_ (fun hHeld => ?_)
      · exact ⟨F.ce3.1, F.ce3.2.1, F.ce3.2.2, G.ce3.1, G.ce3.2.1, G.ce3.2.2⟩
      clear hK K
      (try dsimp only [Act.put]); (try go_frame)
      refine wpAnyH_ready (rs := [7]) (by kernel_rfl) (by simp) ?_
      refine AllReadyH.cons rfl (fun K hK => ?_) AllReadyH.nil
      go_simp
      refine (htd wo42 BR R).mono ?_
      rintro r wt51 ⟨rfl, hB⟩
      replace F := F.keep hB
      replace G := G.keep hB
      replace Z := Z.keep hB
      replace hb := hb.trans (hB.mono hb.size)
      clear hB
      refine hK.out _ _ ?_ (fun hHeld => ?_)
      · exact ⟨F.ce3.1, F.ce3.2.1, F.ce3.2.2, G.ce3.1, G.ce3.2.1, G.ce3.2.2⟩
      clear hK K
      (try dsimp only [Act.put]); (try go_frame)
      refine wpAnyH_take (i := 8) (v := _) (by first | (simp only [List.getElem?_toArray, List.getElem?_cons_zero, List.getElem?_cons_succ]; rfl) | rfl) (by kernel_rfl) (by kernel_rfl) (by kernel_rfl) (by exact fun _ _ _ h => h) (Or.inl ⟨by rfl, by (intro w hSw; (try dsimp only at hSw); go_simp; try with_reducible rfl)⟩) (by assumption) ?_
      (try dsimp only [Act.put]); (try go_frame)
      refine wpAnyH_take (i := 9) (v := _) (by first | (simp only [List.getElem?_toArray, List.getElem?_cons_zero, List.getElem?_cons_succ]; rfl) | rfl) (by kernel_rfl) (by kernel_rfl) (by kernel_rfl) (by exact fun _ _ _ h => h) (Or.inl ⟨by rfl, by (intro w hSw; (try dsimp only at hSw); go_simp; try with_reducible rfl)⟩) (by assumption) ?_
      (try dsimp only [Act.put]); (try go_frame)
      refine wpAnyH_done (by kernel_rfl) ?_ _
      try simp only [QCut]
      obtain ⟨z0, z1, z2⟩ := Z.ce3
      obtain ⟨zf0, zf1, zf2⟩ := Z.fr3
      have G0 : Blk ((((wt51).setCell ⟨w.heap.size + 1 + 1, 0, none⟩ (.bool tn)).setCell ⟨w.heap.size + 1 + 1, 1, none⟩ (.string tS)).setCell ⟨w.heap.size + 1 + 1, 2, none⟩ (.string tT)) (w.heap.size + 1 + 1) #[.bool tn, .string tS, .string tT] 24 := ((Z.setAt 0 _).setAt 1 _).setAt 2 _
      obtain ⟨g0, g1, g2⟩ := G0.ce3
      have hbY := ((hb.setCell (p := ⟨w.heap.size + 1 + 1, 0, none⟩) q_BZ.out (.bool tn)).setCell (p := ⟨w.heap.size + 1 + 1, 1, none⟩) q_BZ.out (.string tS)).setCell (p := ⟨w.heap.size + 1 + 1, 2, none⟩) q_BZ.out (.string tT)
      have HG := Lib.hid (And.intro (And.intro g0 (And.intro g1 g2)) hbY)
      clear g0 g1 g2 hbY G0 F G Z hb hHeld
      go_wp2
      obtain ⟨⟨g0, g1, g2⟩, hbY⟩ := HG.out
      exact bodyPost_ret (v := .tuple #[.agg #[.bool tn, .string tS, .string tT], .int .i64 te]) (by simp [results, Tryz.results36, go_sem, g0, g1, g2]) rfl ⟨rfl, hbY⟩

end Go.Proofs.YtbhfnigblhfikaaGreatDoor
