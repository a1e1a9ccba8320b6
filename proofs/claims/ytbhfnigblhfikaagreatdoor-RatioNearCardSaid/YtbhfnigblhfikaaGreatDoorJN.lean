/- Merged: JF JI JM JN -/
import Derived.Test.YtbhfnigblhfikaaGreatDoorJE
import Derived.Test.YtbhfnigblhfikaaGreatDoorJP
import Derived.Laws.RangeAny

/- ratio.Add, Sub, Mul, Quo, Compare, New. -/
namespace Go.Proofs.YtbhfnigblhfikaaGreatDoor
open Go Go.RowKit Go.PlainAid Fil

set_option maxRecDepth 100000 in
set_option maxHeartbeats 4000000 in
theorem ksub_w (xn : Bool) (xS xT : ByteArray) (yn : Bool) (yS yT : ByteArray) (tn : Bool) (tS tT : ByteArray) (te : Int) (w : World) (hd : ∀ W : World, Calls Tryz.prog 36 #[.agg #[.bool xn, .string xS, .string xT], .agg #[.bool yn, .string yS, .string yT], .func (.func 37) #[] #[]] W fun r w' => r = .returned (.tuple #[.agg #[.bool tn, .string tS, .string tT], .int .i64 te]) ∧ Below W.heap.size W w') :
    Calls Tryz.prog 17 #[.agg #[.bool xn, .string xS, .string xT], .agg #[.bool yn, .string yS, .string yT]] w fun r w' => r = .returned (.tuple #[.agg #[.bool tn, .string tS, .string tT], .int .i64 te]) ∧ Below w.heap.size w w' := by
  go_enter Tryz.func17, Tryz.ntmps17
  have B0 := Below.refl w.heap.size w
  have F2 := Blk.put (w) #[.bool xn, .string xS, .string xT] 24
  replace B0 := B0.alloc B0.size (.cells #[.bool xn, .string xS, .string xT] 24)
  replace F2 := F2.allocd (.cells #[.bool yn, .string yS, .string yT] 24)
  have F3 := Blk.put ((w).alloc (.cells #[.bool xn, .string xS, .string xT] 24)) #[.bool yn, .string yS, .string yT] 24
  rw [show ((w).alloc (.cells #[.bool xn, .string xS, .string xT] 24)).heap.size = w.heap.size + 1 by simp] at F3
  replace B0 := B0.alloc B0.size (.cells #[.bool yn, .string yS, .string yT] 24)
  have q_w_F4 : Hid (w.heap.size ≤ w.heap.size + 1 + 1) := Lib.hid (by omega)
  replace F2 := F2.allocd (.cells #[.bool false, .string { data := #[] }, .string { data := #[] }] 24)
  replace F3 := F3.allocd (.cells #[.bool false, .string { data := #[] }, .string { data := #[] }] 24)
  have F4 := Blk.put (((w).alloc (.cells #[.bool xn, .string xS, .string xT] 24)).alloc (.cells #[.bool yn, .string yS, .string yT] 24)) #[.bool false, .string { data := #[] }, .string { data := #[] }] 24
  rw [show (((w).alloc (.cells #[.bool xn, .string xS, .string xT] 24)).alloc (.cells #[.bool yn, .string yS, .string yT] 24)).heap.size = w.heap.size + 1 + 1 by simp] at F4
  replace B0 := B0.alloc B0.size (.cells #[.bool false, .string { data := #[] }, .string { data := #[] }] 24)
  obtain ⟨xF20_0, xF20_1, xF20_2⟩ := F2.ce3
  obtain ⟨xF30_0, xF30_1, xF30_2⟩ := F3.ce3
  go_wp2_with fail
  (with_reducible refine (hd _).mono ?_)
  rintro r w1 ⟨rfl, hb1⟩
  clear xF20_0 xF20_1 xF20_2 xF30_0 xF30_1 xF30_2
  replace F2 := F2.keep hb1
  replace F3 := F3.keep hb1
  replace F4 := F4.keep hb1
  replace B0 := B0.trans (hb1.mono B0.size)
  clear hb1
  obtain ⟨xF41_0, xF41_1, xF41_2⟩ := F4.ce3
  obtain ⟨xF41_0f, xF41_1f, xF41_2f⟩ := F4.fr3
  clear F2
  clear F3
  replace F4 : Blk ((((w1).setCell ⟨w.heap.size + 1 + 1, 0, none⟩ (.bool tn)).setCell ⟨w.heap.size + 1 + 1, 1, none⟩ (.string tS)).setCell ⟨w.heap.size + 1 + 1, 2, none⟩ (.string tT)) (w.heap.size + 1 + 1) #[.bool tn, .string tS, .string tT] 24 := (((F4.setAt 0 (.bool tn)).setAt 1 (.string tS)).setAt 2 (.string tT))
  replace B0 := (((B0.setCell (p := ⟨w.heap.size + 1 + 1, 0, none⟩) q_w_F4.out (.bool tn)).setCell (p := ⟨w.heap.size + 1 + 1, 1, none⟩) q_w_F4.out (.string tS)).setCell (p := ⟨w.heap.size + 1 + 1, 2, none⟩) q_w_F4.out (.string tT))
  obtain ⟨xF42_0, xF42_1, xF42_2⟩ := F4.ce3
  go_wp2
  exact bodyPost_ret (v := .tuple #[.agg #[.bool tn, .string tS, .string tT], .int .i64 te]) (by simp [results, Tryz.results17, go_sem, xF42_0, xF42_1, xF42_2]) rfl ⟨rfl, B0⟩

theorem ksub_ok (x y : Rat) (w : World) (hx : Fits x) (hy : Fits y) : Calls Tryz.prog 17 #[kA x, kA y] w fun r w' => r = .returned (kToldV (x - y)) ∧ Below w.heap.size w w' := by
  obtain ⟨n, S, T, e, hV⟩ := kTold_parts (x - y)
  rw [hV]
  exact ksub_w _ _ _ _ _ _ _ _ _ _ w (fun W => by rw [← hV]; exact kdo_sub x y W hx hy)

set_option maxRecDepth 100000 in
set_option maxHeartbeats 4000000 in
theorem kcompare_ok (x y : Rat) (w : World) (hx : Fits x) (hy : Fits y) :
    Calls Tryz.prog 16 #[kA x, kA y] w fun e w' => e = .returned (.tuple #[.int .i64 (cmpR x y), .int .i64 0]) ∧ Below w.heap.size w w' := by
  have hm1 := fun W => kmay_any (sg x.num) (bstr x.num.natAbs) (bstr x.den) W (by rw [bstr_size]; have := hx.1; omega) (by rw [bstr_size]; have := hx.2; omega)
  have hm2 := fun W => kmay_any (sg y.num) (bstr y.num.natAbs) (bstr y.den) W (by rw [bstr_size]; have := hy.1; omega) (by rw [bstr_size]; have := hy.2; omega)
  rw [may_of_rat hx] at hm1
  rw [may_of_rat hy] at hm2
  have hr1 := fun W => krat_any x W hx
  have hr2 := fun W => krat_any y W hy
  unfold kA at hr1 hr2
  have sx := Lib.hid (hx.szd.mono (L := 100000000000) (by omega))
  have sy := Lib.hid (hy.szd.mono (L := 100000000000) (by omega))
  clear hx hy
  unfold kA
  have hcm := fun W BX BY X Y => ratcmp_any BX BY x y W X Y sx.out sy.out
  have hc1 : -1 ≤ cmpR x y ∧ cmpR x y ≤ 1 := by unfold cmpR; split <;> (try split) <;> omega
  generalize cmpR x y = c at *
  obtain ⟨hc1, hc2⟩ := hc1
  generalize sg x.num = xn at *
  generalize bstr x.num.natAbs = xS at *
  generalize bstr x.den = xT at *
  generalize sg y.num = yn at *
  generalize bstr y.num.natAbs = yS at *
  generalize bstr y.den = yT at *
  have hb := Below.refl w.heap.size w
  go_enter Tryz.func16, Tryz.ntmps16
  have F := Blk.put (w) #[.bool xn, .string xS, .string xT] 24
  replace hb := hb.alloc hb.size (.cells #[.bool xn, .string xS, .string xT] 24)
  have q_BF : Hid (w.heap.size ≤ w.heap.size) := Lib.hid (by omega)
  replace F := F.allocd (.cells #[.bool yn, .string yS, .string yT] 24)
  have G := Blk.put (w.alloc (.cells #[.bool xn, .string xS, .string xT] 24)) #[.bool yn, .string yS, .string yT] 24
  replace hb := hb.alloc hb.size (.cells #[.bool yn, .string yS, .string yT] 24)
  rw [show (w.alloc (.cells #[.bool xn, .string xS, .string xT] 24)).heap.size = w.heap.size + 1 by simp] at G
  have q_BF_BG : Hid (w.heap.size < w.heap.size + 1) := Lib.hid (by omega)
  have q_BG : Hid (w.heap.size ≤ w.heap.size + 1) := Lib.hid (by omega)
  obtain ⟨x0, x1, x2⟩ := F.ce3
  go_wp2_with fail
  refine (hm1 _).mono ?_
  rintro r w1 ⟨rfl, hB⟩
  replace F := F.keep hB
  replace G := G.keep hB
  replace hb := hb.trans (hB.mono hb.size)
  clear x0 x1 x2 hB
  obtain ⟨x0, x1, x2⟩ := G.ce3
  go_wp2_with fail
  refine (hm2 _).mono ?_
  rintro r w2 ⟨rfl, hB⟩
  replace F := F.keep hB
  replace G := G.keep hB
  replace hb := hb.trans (hB.mono hb.size)
  clear x0 x1 x2 hB
  obtain ⟨x0, x1, x2⟩ := F.ce3
  go_upto_region 3 with fail
  clear x0 x1 x2 hm1 hm2
  go_wp2_with fail
  refine wp_region_any (by kernel_rfl) ?_
  have hHeld : (fun w' : World => w'.cell? ⟨w.heap.size, 0, none⟩ = some (.bool xn) ∧ w'.cell? ⟨w.heap.size, 1, none⟩ = some (.string xS) ∧ w'.cell? ⟨w.heap.size, 2, none⟩ = some (.string xT) ∧ w'.cell? ⟨w.heap.size + 1, 0, none⟩ = some (.bool yn) ∧ w'.cell? ⟨w.heap.size + 1, 1, none⟩ = some (.string yS) ∧ w'.cell? ⟨w.heap.size + 1, 2, none⟩ = some (.string yT)) w2.drew := ⟨F.ce3.1, F.ce3.2.1, F.ce3.2.2, G.ce3.1, G.ce3.2.1, G.ce3.2.2⟩
  refine wpAny_of_held (S := fun w' : World => w'.cell? ⟨w.heap.size, 0, none⟩ = some (.bool xn) ∧ w'.cell? ⟨w.heap.size, 1, none⟩ = some (.string xS) ∧ w'.cell? ⟨w.heap.size, 2, none⟩ = some (.string xT) ∧ w'.cell? ⟨w.heap.size + 1, 0, none⟩ = some (.bool yn) ∧ w'.cell? ⟨w.heap.size + 1, 1, none⟩ = some (.string yS) ∧ w'.cell? ⟨w.heap.size + 1, 2, none⟩ = some (.string yT)) _ _ _ (w2.drew) ?_
  replace F : Blk (w2.drew) (w.heap.size) #[.bool xn, .string xS, .string xT] 24 := F
  replace G : Blk (w2.drew) (w.heap.size + 1) #[.bool yn, .string yS, .string yT] 24 := G
  replace hb : Below w.heap.size w w2.drew := hb.drew
  generalize w2.drew = v1 at *
  refine wpAnyH_take (i := 0) (v := _) (by first | (simp only [List.getElem?_toArray, List.getElem?_cons_zero]; rfl) | rfl) (by kernel_rfl) (by kernel_rfl) (by kernel_rfl) (by exact fun _ _ _ h => h) (Or.inl ⟨by rfl, by (intro w hSw; (try dsimp only at hSw); go_simp; try with_reducible rfl)⟩) (by assumption) ?_
  (try dsimp only [Act.put]); (try go_frame)
  refine wpAnyH_take (i := 2) (v := _) (by first | (simp only [List.getElem?_toArray, List.getElem?_cons_zero, List.getElem?_cons_succ]; rfl) | rfl) (by kernel_rfl) (by kernel_rfl) (by kernel_rfl) (by exact fun _ _ _ h => h) (Or.inl ⟨by rfl, by (intro w hSw; (try dsimp only at hSw); go_simp; try with_reducible rfl)⟩) (by assumption) ?_
  (try dsimp only [Act.put]); (try go_frame)
  refine wpAnyH_ready (rs := [1]) (by kernel_rfl) (by simp) ?_
  refine AllReadyH.cons rfl (fun K hK => ?_) AllReadyH.nil
  go_simp
  refine (hr1 v1).mono ?_
  rintro r ww38 ⟨BX, rfl, X, qq, -, hB⟩
  replace F := F.keep hB
  replace G := G.keep hB
  replace hb := hb.trans (hB.mono hb.size)
  clear hB qq
  refine hK.out _ _ ?_ (fun hHeld => ?_)
  · exact ⟨F.ce3.1, F.ce3.2.1, F.ce3.2.2, G.ce3.1, G.ce3.2.1, G.ce3.2.2⟩
  clear hK K
  (try dsimp only [Act.put]); (try go_frame)
  refine wpAnyH_ready (rs := [3]) (by kernel_rfl) (by simp) ?_
  refine AllReadyH.cons rfl (fun K hK => ?_) AllReadyH.nil
  go_simp
  refine (hr2 ww38).mono ?_
  rintro r ww44 ⟨BY, rfl, Y, qq, -, hB⟩
  replace F := F.keep hB
  replace G := G.keep hB
  replace X := X.below hB
  replace hb := hb.trans (hB.mono hb.size)
  clear hB qq
  refine hK.out _ _ ?_ (fun hHeld => ?_)
  · exact ⟨F.ce3.1, F.ce3.2.1, F.ce3.2.2, G.ce3.1, G.ce3.2.1, G.ce3.2.2⟩
  clear hK K
  (try dsimp only [Act.put]); (try go_frame)
  refine wpAnyH_ready (rs := [4]) (by kernel_rfl) (by simp) ?_
  refine AllReadyH.cons rfl (fun K hK => ?_) AllReadyH.nil
  go_simp
  refine (hcm ww44 BX BY X Y).mono ?_
  rintro r wz ⟨rfl, hB⟩
  replace F := F.keep hB
  replace G := G.keep hB
  replace hb := hb.trans (hB.mono hb.size)
  clear hB X Y
  refine hK.out _ _ ?_ (fun hHeld => ?_)
  · exact ⟨F.ce3.1, F.ce3.2.1, F.ce3.2.2, G.ce3.1, G.ce3.2.1, G.ce3.2.2⟩
  clear hK K
  (try dsimp only [Act.put]); (try go_frame)
  refine wpAnyH_take (i := 5) (v := _) (by first | (simp only [List.getElem?_toArray, List.getElem?_cons_zero, List.getElem?_cons_succ]; rfl) | rfl) (by kernel_rfl) (by kernel_rfl) (by kernel_rfl) (by exact fun _ _ _ h => h) (Or.inl ⟨by rfl, by (intro w hSw; (try dsimp only at hSw); go_simp; try with_reducible rfl)⟩) (by assumption) ?_
  (try dsimp only [Act.put]); (try go_frame)
  refine wpAnyH_take (i := 6) (v := _) (by first | (simp only [List.getElem?_toArray, List.getElem?_cons_zero, List.getElem?_cons_succ]; rfl) | rfl) (by kernel_rfl) (by kernel_rfl) (by kernel_rfl) (by exact fun _ _ _ h => h) (Or.inl ⟨by rfl, by (intro w hSw; (try dsimp only at hSw); go_simp; try with_reducible rfl)⟩) (by assumption) ?_
  (try dsimp only [Act.put]); (try go_frame)
  refine wpAnyH_done (by kernel_rfl) ?_ _
  try simp only [QCut]
  clear hHeld F G hr1 hr2 hcm
  rcases (show c = -1 ∨ c = 0 ∨ c = 1 by omega) with rfl | rfl | rfl
  · go_wp2
    exact bodyPost_ret (v := .tuple #[.int .i64 (-1), .int .i64 0]) (by simp [results, Tryz.results16, go_sem]) rfl ⟨rfl, hb⟩
  · go_wp2
    exact bodyPost_ret (v := .tuple #[.int .i64 (0), .int .i64 0]) (by simp [results, Tryz.results16, go_sem]) rfl ⟨rfl, hb⟩
  · go_wp2
    exact bodyPost_ret (v := .tuple #[.int .i64 (1), .int .i64 0]) (by simp [results, Tryz.results16, go_sem]) rfl ⟨rfl, hb⟩

end Go.Proofs.YtbhfnigblhfikaaGreatDoor

/- ratio.New, ratio.Text. -/
namespace Go.Proofs.YtbhfnigblhfikaaGreatDoor
open Go Go.RowKit Go.PlainAid Fil

set_option maxRecDepth 100000 in
set_option maxHeartbeats 4000000 in
theorem new_ok (N : Bool) (n d : Nat) (w : World) (h1 : Fil.dn 8 n ≤ 16384) (h2 : Fil.dn 8 d ≤ 16384) (hd : d ≠ 0) (z : Rat) (hz : z = if N then -(Rat.divInt (n : Int) (d : Int)) else Rat.divInt (n : Int) (d : Int)) :
    Calls Tryz.prog 31 #[.bool N, .string (bstr n), .string (bstr d)] w fun e w' => e = .returned (kToldV z) ∧ Below w.heap.size w w' := by
  have s1 := dn32_8 h1
  have s2 := dn32_8 h2
  have hd' : (d : Int) ≠ 0 := by omega
  have hsz : Szd 5000 (Rat.divInt (n : Int) (d : Int)) := Szd.div hd' (by rw [Int.natAbs_natCast]; omega) (by rw [Int.natAbs_natCast]; omega)
  have hzz : Szd 5000 z := by rw [hz]; cases N; exact hsz; exact hsz.neg
  have hc1 := fun W => natcheck_any (bstr n) W (by rw [bstr_size]; omega)
  have hc2 := fun W => natcheck_any (bstr d) W (by rw [bstr_size]; omega)
  rw [natB_bstr h1] at hc1
  rw [natB_bstr h2] at hc2
  have hw1 := fun W => kwhole_any n W (Nat.le_trans h1 (by omega))
  have hw2 := fun W => kwhole_any d W (Nat.le_trans h2 (by omega))
  obtain ⟨hT1, hT2⟩ := bstr_ne hd
  obtain ⟨tn, tS, tT, te, hV⟩ := kTold_parts z
  have htd := fun W B R => ktold_any B z W R (hzz.mono (by omega))
  rw [hV] at htd ⊢
  have hng := fun W B a c => ratneg_any B B (Rat.divInt (n : Int) (d : Int)) W a c (hsz.mono (by omega))
  have sp : Hid (Fil.dn 32 (n : Int).natAbs ≤ 1099511627000 ∧ Fil.dn 32 (d : Int).natAbs ≤ 1099511627000) := Lib.hid ⟨by rw [Int.natAbs_natCast]; omega, by rw [Int.natAbs_natCast]; omega⟩
  have Hz := Lib.hid (And.intro hz hd')
  clear s1 s2 hsz hzz h1 h2 hd hV hz hd'
  generalize bstr n = S at *
  generalize bstr d = T at *
  have Z := Blk.put w #[.bool false, .string { data := #[] }, .string { data := #[] }] 24
  have hb := (Below.refl w.heap.size w).alloc (Nat.le_refl _) (.cells #[.bool false, .string { data := #[] }, .string { data := #[] }] 24)
  go_enter Tryz.func31, Tryz.ntmps31
  go_wp2_with fail
  refine (hc1 _).mono ?_
  rintro r w1 ⟨rfl, hB⟩
  rw [okE_t]
  replace Z := Z.keep hB
  replace hb := hb.trans (hB.mono hb.size)
  clear hB hc1
  go_wp2_with fail
  refine (hc2 _).mono ?_
  rintro r w2 ⟨rfl, hB⟩
  rw [okE_t]
  replace Z := Z.keep hB
  replace hb := hb.trans (hB.mono hb.size)
  clear hB hc2
  have R := RRoom.new w2
  have lz := Z.lt
  have hbs := hb.size
  replace Z := Z.allocd (.cells #[.bool false, .slice none 0 0, .bool false, .slice none 0 0] 80)
  replace hb := hb.alloc hb.size (.cells #[.bool false, .slice none 0 0, .bool false, .slice none 0 0] 80)
  have lR := R.lt
  go_wp2_with fail
  refine (hw1 _).mono ?_
  rintro r w3 ⟨rfl, I1, hB⟩
  generalize (w2.alloc (.cells #[.bool false, .slice none 0 0, .bool false, .slice none 0 0] 80)) = v2 at *
  replace Z := Z.keep hB
  replace R := R.below hB
  replace hb := hb.trans (hB.mono hb.size)
  have l1 := I1.lt
  clear hB hw1
  go_wp2_with fail
  refine (hw2 _).mono ?_
  rintro r w4 ⟨rfl, I2, hB⟩
  replace Z := Z.keep hB
  replace R := R.below hB
  replace I1 := I1.below hB
  replace hb := hb.trans (hB.mono hb.size)
  clear hB hw2
  have n1 : v2.heap.size ≠ w2.heap.size := by omega
  have n2 : w3.heap.size ≠ w2.heap.size := by omega
  have nz : w.heap.size ≠ w2.heap.size := by omega
  have HN := Lib.hid (And.intro n1 (And.intro n2 (And.intro nz hbs)))
  clear n1 n2 nz lz lR l1 hbs
  go_wp2_with fail
  refine (ratsetfrac_any w2.heap.size v2.heap.size w3.heap.size (n : Int) (d : Int) w4 R I1 I2 HN.out.1 HN.out.2.1 Hz.out.2 sp.out.1 sp.out.2).mono ?_
  rintro r w5 ⟨rfl, R5, hF⟩
  replace Z := Z.ofFar hF HN.out.2.2.1
  replace hb := hb.trans (hF.below HN.out.2.2.2 hb.size)
  clear hF R I1 I2
  cases N
  · have hR : RatAt w5 w2.heap.size z := by rw [Hz.out.1]; exact R5
    clear R5 hng
    go_wp2_with fail
    refine (htd _ _ hR).mono ?_
    rintro r w6 ⟨rfl, hB⟩
    replace Z := Z.keep hB
    replace hb := hb.trans (hB.mono hb.size)
    clear hB hR htd
    obtain ⟨zf0, zf1, zf2⟩ := Z.fr3
    obtain ⟨z0, z1, z2⟩ := Z.ce3
    have G0 : Blk (((w6.setCell ⟨w.heap.size, 0, none⟩ (.bool tn)).setCell ⟨w.heap.size, 1, none⟩ (.string tS)).setCell ⟨w.heap.size, 2, none⟩ (.string tT)) w.heap.size #[.bool tn, .string tS, .string tT] 24 := ((Z.setAt 0 _).setAt 1 _).setAt 2 _
    obtain ⟨g0, g1, g2⟩ := G0.ce3
    have hbY := ((hb.setCell (p := ⟨w.heap.size, 0, none⟩) (Nat.le_refl _) (.bool tn)).setCell (p := ⟨w.heap.size, 1, none⟩) (Nat.le_refl _) (.string tS)).setCell (p := ⟨w.heap.size, 2, none⟩) (Nat.le_refl _) (.string tT)
    have HG := Lib.hid (And.intro (And.intro g0 (And.intro g1 g2)) hbY)
    clear g0 g1 g2 hbY G0 Z hb
    go_wp2
    obtain ⟨⟨g0, g1, g2⟩, hbY⟩ := HG.out
    exact bodyPost_ret (v := .tuple #[.agg #[.bool tn, .string tS, .string tT], .int .i64 te]) (by simp [results, Tryz.results31, go_sem, g0, g1, g2]) rfl ⟨rfl, hbY⟩
  · go_wp2_with fail
    refine (hng _ _ R5.room R5).mono ?_
    rintro r w6 ⟨rfl, R6, hF⟩
    have hR : RatAt w6 w2.heap.size z := by rw [Hz.out.1]; exact R6
    replace Z := Z.ofFar hF HN.out.2.2.1
    replace hb := hb.trans (hF.below HN.out.2.2.2 hb.size)
    clear R5 R6 hng hF
    go_wp2_with fail
    refine (htd _ _ hR).mono ?_
    rintro r w6 ⟨rfl, hB⟩
    replace Z := Z.keep hB
    replace hb := hb.trans (hB.mono hb.size)
    clear hB hR htd
    obtain ⟨zf0, zf1, zf2⟩ := Z.fr3
    obtain ⟨z0, z1, z2⟩ := Z.ce3
    have G0 : Blk (((w6.setCell ⟨w.heap.size, 0, none⟩ (.bool tn)).setCell ⟨w.heap.size, 1, none⟩ (.string tS)).setCell ⟨w.heap.size, 2, none⟩ (.string tT)) w.heap.size #[.bool tn, .string tS, .string tT] 24 := ((Z.setAt 0 _).setAt 1 _).setAt 2 _
    obtain ⟨g0, g1, g2⟩ := G0.ce3
    have hbY := ((hb.setCell (p := ⟨w.heap.size, 0, none⟩) (Nat.le_refl _) (.bool tn)).setCell (p := ⟨w.heap.size, 1, none⟩) (Nat.le_refl _) (.string tS)).setCell (p := ⟨w.heap.size, 2, none⟩) (Nat.le_refl _) (.string tT)
    have HG := Lib.hid (And.intro (And.intro g0 (And.intro g1 g2)) hbY)
    clear g0 g1 g2 hbY G0 Z hb
    go_wp2
    obtain ⟨⟨g0, g1, g2⟩, hbY⟩ := HG.out
    exact bodyPost_ret (v := .tuple #[.agg #[.bool tn, .string tS, .string tT], .int .i64 te]) (by simp [results, Tryz.results31, go_sem, g0, g1, g2]) rfl ⟨rfl, hbY⟩

/-- a ratio's text -/
def ktx (x : Rat) : List UInt8 := (if sg x.num then [45] else []) ++ dtx x.num.natAbs ++ (if x.den = 1 then [] else 47 :: dtx x.den)
theorem ba_append (a b : List UInt8) : (⟨a.toArray⟩ : ByteArray) ++ ⟨b.toArray⟩ = ⟨(a ++ b).toArray⟩ := by
  apply ByteArray.ext; simp
theorem one_str (d : Nat) : ((bstr d).toList = [1]) = (d = 1) := propext bstr_eq_one

end Go.Proofs.YtbhfnigblhfikaaGreatDoor

/- ratio.Text. -/
namespace Go.Proofs.YtbhfnigblhfikaaGreatDoor
open Go Go.RowKit Go.PlainAid Fil

theorem dtx_len {x K : Nat} (h : Fil.dn 32 x ≤ K) : (dtx x).length ≤ 10 * K + 1 := by
  unfold dtx
  split
  · simp
  · rw [List.length_reverse]; have := decs_len h; omega
theorem bstr_one : bstr 1 = { data := #[1] } := by
  apply ByteArray.ext
  apply Array.ext'
  show bs 1 = [1]
  unfold bs
  rw [show Fil.dn 8 1 = 1 by rw [dn8_bl]; decide]
  rfl
set_option maxRecDepth 100000 in
set_option maxHeartbeats 2000000 in
theorem ktext_ok (x : Rat) (w : World) (hx : Fits x) :
    Calls Tryz.prog 32 #[kA x] w fun e w' => e = .returned (.tuple #[.string ⟨(ktx x).toArray⟩, .int .i64 0]) ∧ Below w.heap.size w w' := by
  have hm1 := fun W => kmay_any (sg x.num) (bstr x.num.natAbs) (bstr x.den) W (by rw [bstr_size]; have := hx.1; omega) (by rw [bstr_size]; have := hx.2; omega)
  rw [may_of_rat hx] at hm1
  have hw1 := fun W => kwhole_any x.num.natAbs W (Nat.le_trans hx.1 (by omega))
  have hw2 := fun W => kwhole_any x.den W (Nat.le_trans hx.2 (by omega))
  have hs1 := fun b W I => string_any b 0 x.num.natAbs W I (Nat.le_trans (dn32_8 hx.1) (by omega))
  have hs2 := fun b W I => string_any b 0 x.den W I (Nat.le_trans (dn32_8 hx.2) (by omega))
  have z1 : (⟨(dtx x.num.natAbs).toArray⟩ : ByteArray).size ≤ 100000 := by
    have := dtx_len (dn32_8 hx.1)
    show (dtx x.num.natAbs).toArray.size ≤ 100000
    rw [List.size_toArray]; omega
  have z2 : (⟨(dtx x.den).toArray⟩ : ByteArray).size ≤ 100000 := by
    have := dtx_len (dn32_8 hx.2)
    show (dtx x.den).toArray.size ≤ 100000
    rw [List.size_toArray]; omega
  have e1 := one_str x.den
  have eT : x.den = 1 → bstr x.den = { data := #[1] } := fun h => by rw [h]; exact bstr_one
  clear hx
  unfold kA ktx
  generalize sg x.num = N at *
  generalize bstr x.num.natAbs = S at *
  generalize bstr x.den = T at *
  generalize x.num.natAbs = n at *
  generalize x.den = d at *
  obtain ⟨X1, hX1⟩ : ∃ X1 : ByteArray, X1 = ⟨(dtx n).toArray⟩ := ⟨_, rfl⟩
  obtain ⟨X2, hX2⟩ : ∃ X2 : ByteArray, X2 = ⟨(dtx d).toArray⟩ := ⟨_, rfl⟩
  rw [← hX1] at hs1 z1
  rw [← hX2] at hs2 z2
  have HX := Lib.hid (And.intro hX1 hX2)
  clear hX1 hX2
  have hb := Below.refl w.heap.size w
  by_cases hd : d = 1
  · have hT := eT hd
    rw [if_pos hd]
    clear e1 eT hd hw2 hs2
    subst hT
    cases N
    · go_enter Tryz.func32, Tryz.ntmps32
      have F := Blk.put (w) #[.bool false, .string S, .string { data := #[1] }] 24
      replace hb := hb.alloc hb.size (.cells #[.bool false, .string S, .string { data := #[1] }] 24)
      obtain ⟨x0, x1, x2⟩ := F.ce3
      go_wp2_with fail
      refine (hm1 _).mono ?_
      rintro r w1 ⟨rfl, hB⟩
      replace F := F.keep hB
      replace hb := hb.trans (hB.mono hb.size)
      clear x0 x1 x2 hB hm1
      obtain ⟨x0, x1, x2⟩ := F.ce3
      go_wp2_with fail
      refine (hw1 _).mono ?_
      rintro r w1 ⟨rfl, I1, hB⟩
      replace F := F.keep hB
      replace hb := hb.trans (hB.mono hb.size)
      clear x0 x1 x2 hB hw1
      obtain ⟨x0, x1, x2⟩ := F.ce3
      go_wp2_with fail
      refine (hs1 _ _ I1).mono ?_
      rintro r w1 ⟨rfl, hB⟩
      replace F := F.keep hB
      replace hb := hb.trans (hB.mono hb.size)
      clear x0 x1 x2 hB hs1 I1
      obtain ⟨x0, x1, x2⟩ := F.ce3
      go_wp2_with fail
      go_returns
      exact ⟨by rw [HX.out.1]; rfl, hb⟩
    · go_enter Tryz.func32, Tryz.ntmps32
      have F := Blk.put (w) #[.bool true, .string S, .string { data := #[1] }] 24
      replace hb := hb.alloc hb.size (.cells #[.bool true, .string S, .string { data := #[1] }] 24)
      obtain ⟨x0, x1, x2⟩ := F.ce3
      go_wp2_with fail
      refine (hm1 _).mono ?_
      rintro r w1 ⟨rfl, hB⟩
      replace F := F.keep hB
      replace hb := hb.trans (hB.mono hb.size)
      clear x0 x1 x2 hB hm1
      obtain ⟨x0, x1, x2⟩ := F.ce3
      go_wp2_with fail
      refine (hw1 _).mono ?_
      rintro r w1 ⟨rfl, I1, hB⟩
      replace F := F.keep hB
      replace hb := hb.trans (hB.mono hb.size)
      clear x0 x1 x2 hB hw1
      obtain ⟨x0, x1, x2⟩ := F.ce3
      go_wp2_with fail
      refine (hs1 _ _ I1).mono ?_
      rintro r w1 ⟨rfl, hB⟩
      replace F := F.keep hB
      replace hb := hb.trans (hB.mono hb.size)
      clear x0 x1 x2 hB hs1 I1
      obtain ⟨x0, x1, x2⟩ := F.ce3
      go_wp2_with fail
      go_returns
      exact ⟨by rw [HX.out.1]; simp [ba_append], hb⟩
  · have hT : ¬ T.toList = [1] := by rw [e1]; exact hd
    have hT2 : (T.toList == [1]) = false := beq_eq_false_iff_ne.2 hT
    have hT3 : (T.toList != [1]) = true := by rw [bne, hT2]; rfl
    rw [if_neg hd]
    clear e1 eT hd
    cases N
    · go_enter Tryz.func32, Tryz.ntmps32
      have F := Blk.put (w) #[.bool false, .string S, .string T] 24
      replace hb := hb.alloc hb.size (.cells #[.bool false, .string S, .string T] 24)
      obtain ⟨x0, x1, x2⟩ := F.ce3
      go_wp2_with fail
      refine (hm1 _).mono ?_
      rintro r w1 ⟨rfl, hB⟩
      replace F := F.keep hB
      replace hb := hb.trans (hB.mono hb.size)
      clear x0 x1 x2 hB hm1
      obtain ⟨x0, x1, x2⟩ := F.ce3
      go_wp2_with fail
      refine (hw1 _).mono ?_
      rintro r w1 ⟨rfl, I1, hB⟩
      replace F := F.keep hB
      replace hb := hb.trans (hB.mono hb.size)
      clear x0 x1 x2 hB hw1
      obtain ⟨x0, x1, x2⟩ := F.ce3
      go_wp2_with fail
      refine (hs1 _ _ I1).mono ?_
      rintro r w1 ⟨rfl, hB⟩
      replace F := F.keep hB
      replace hb := hb.trans (hB.mono hb.size)
      clear x0 x1 x2 hB hs1 I1
      obtain ⟨x0, x1, x2⟩ := F.ce3
      go_wp2_with fail
      refine (hw2 _).mono ?_
      rintro r w1 ⟨rfl, I1, hB⟩
      replace F := F.keep hB
      replace hb := hb.trans (hB.mono hb.size)
      clear x0 x1 x2 hB hw2
      obtain ⟨x0, x1, x2⟩ := F.ce3
      go_wp2_with fail
      refine (hs2 _ _ I1).mono ?_
      rintro r w1 ⟨rfl, hB⟩
      replace F := F.keep hB
      replace hb := hb.trans (hB.mono hb.size)
      clear x0 x1 x2 hB hs2 I1
      obtain ⟨x0, x1, x2⟩ := F.ce3
      go_wp2_with fail
      go_returns
      exact ⟨by rw [HX.out.1, HX.out.2]; simp [ba_append], hb⟩
    · go_enter Tryz.func32, Tryz.ntmps32
      have F := Blk.put (w) #[.bool true, .string S, .string T] 24
      replace hb := hb.alloc hb.size (.cells #[.bool true, .string S, .string T] 24)
      obtain ⟨x0, x1, x2⟩ := F.ce3
      go_wp2_with fail
      refine (hm1 _).mono ?_
      rintro r w1 ⟨rfl, hB⟩
      replace F := F.keep hB
      replace hb := hb.trans (hB.mono hb.size)
      clear x0 x1 x2 hB hm1
      obtain ⟨x0, x1, x2⟩ := F.ce3
      go_wp2_with fail
      refine (hw1 _).mono ?_
      rintro r w1 ⟨rfl, I1, hB⟩
      replace F := F.keep hB
      replace hb := hb.trans (hB.mono hb.size)
      clear x0 x1 x2 hB hw1
      obtain ⟨x0, x1, x2⟩ := F.ce3
      go_wp2_with fail
      refine (hs1 _ _ I1).mono ?_
      rintro r w1 ⟨rfl, hB⟩
      replace F := F.keep hB
      replace hb := hb.trans (hB.mono hb.size)
      clear x0 x1 x2 hB hs1 I1
      obtain ⟨x0, x1, x2⟩ := F.ce3
      go_wp2_with fail
      refine (hw2 _).mono ?_
      rintro r w1 ⟨rfl, I1, hB⟩
      replace F := F.keep hB
      replace hb := hb.trans (hB.mono hb.size)
      clear x0 x1 x2 hB hw2
      obtain ⟨x0, x1, x2⟩ := F.ce3
      go_wp2_with fail
      refine (hs2 _ _ I1).mono ?_
      rintro r w1 ⟨rfl, hB⟩
      replace F := F.keep hB
      replace hb := hb.trans (hB.mono hb.size)
      clear x0 x1 x2 hB hs2 I1
      obtain ⟨x0, x1, x2⟩ := F.ce3
      go_wp2_with fail
      go_returns
      exact ⟨by rw [HX.out.1, HX.out.2]; simp [ba_append], hb⟩
end Go.Proofs.YtbhfnigblhfikaaGreatDoor

/- ratio.digits. -/
namespace Go.Proofs.YtbhfnigblhfikaaGreatDoor
open Go Go.RowKit Go.PlainAid Fil

set_option maxRecDepth 100000 in
set_option maxHeartbeats 2000000 in
theorem kdigits_good (s : ByteArray) (w : World) (h0 : 0 < s.size) (h1 : s.size ≤ 1000000) (hd : ∀ (i : Nat) (h : i < s.size), 48 ≤ (s[i]'h).toNat ∧ (s[i]'h).toNat ≤ 57) (hh : (s[0]'h0).toNat = 48 → s.size = 1) (v : Int)
    (hs : ∀ W b, Room W b 0 → Calls Tryz.prog 83 #[.pointer (some ⟨b, 0, none⟩), .string s, .int .i64 10] W fun e w' => e = .returned (.tuple #[.pointer (some ⟨b, 0, none⟩), .bool true]) ∧ IntAt w' b 0 v ∧ But W w' b 0) :
    Calls Tryz.prog 81 #[.string s] w fun e w' => ∃ B, e = .returned (.tuple #[.pointer (some ⟨B, 0, none⟩), .bool true]) ∧ IntAt w' B 0 v ∧ w.heap.size ≤ B ∧ Below w.heap.size w w' := by
  have e0 := str_cons h0
  have hb0 := Below.refl w.heap.size w
  by_cases c48 : (s[0]'h0).toNat = 48
  · have t1 : (((s[0]'h0).toNat : Int) == 48) = true := by rw [c48]; rfl
    have t2 : decide (1 < (s.size : Int)) = false := by rw [hh c48]; rfl
    clear hh c48
    go_enter Tryz.func81, Tryz.ntmps81
    go_wp2_with fail
    go_loopw [5] (fun _ w' => ∃ pos : Nat, w' = w.iter s pos ∧ pos ≤ s.size) (fun _ w' => s.size - w'.iterPos w.heap.size)
    case atStart => exact ⟨0, rfl, by omega⟩
    case round =>
      obtain ⟨pos, rfl, hp0⟩ := hrel
      by_cases hp : pos < s.size
      · obtain ⟨ha, hz⟩ := hd pos hp
        have hnx : ∀ ty, (Instr.next (.pointer (some ⟨w.heap.size, 0, none⟩)) true ty).run Tryz.prog (w.iter s pos) = _ := fun ty => run_next_ascii w s pos ty hp (by omega)
        generalize (s[pos]'hp).toNat = c at *
        have t3 : decide ((c : Int) < 48) = false := decide_eq_false (by omega)
        have t4 : decide ((57 : Int) < c) = false := decide_eq_false (by omega)
        go_wp2_with fail
        go_roundw
        case rel => exact ⟨pos + 1, rfl, by omega⟩
        case measure =>
          simp
          omega
      · have hnx : ∀ ty, (Instr.next (.pointer (some ⟨w.heap.size, 0, none⟩)) true ty).run Tryz.prog (w.iter s pos) = _ := fun ty => run_next_end w s pos ty hp
        have hbi : Below w.heap.size w (w.iter s pos) := hb0.alloc (Nat.le_refl _) (.stringIter s pos)
        have hbz := hbi.size
        go_wp2_with fail
        have R := Room.new (w.iter s pos) 58 #[.bool false, .slice none 0 0] (o := 0) (by decide) (by simp)
        refine (hs _ _ R).mono ?_
        rintro r w1 ⟨rfl, I, hB⟩
        have hb := (hbi.alloc hbz (.cells #[.bool false, .slice none 0 0] 58)).trans (hB.toFar.below hbz (by simp; omega))
        go_wp2_with fail
        go_returns
        exact ⟨_, rfl, I, hbz, hb⟩
  · have t1 : (((s[0]'h0).toNat : Int) == 48) = false := by rw [beq_eq_false_iff_ne]; omega
    clear hh c48
    go_enter Tryz.func81, Tryz.ntmps81
    go_wp2_with fail
    go_loopw [5] (fun _ w' => ∃ pos : Nat, w' = w.iter s pos ∧ pos ≤ s.size) (fun _ w' => s.size - w'.iterPos w.heap.size)
    case atStart => exact ⟨0, rfl, by omega⟩
    case round =>
      obtain ⟨pos, rfl, hp0⟩ := hrel
      by_cases hp : pos < s.size
      · obtain ⟨ha, hz⟩ := hd pos hp
        have hnx : ∀ ty, (Instr.next (.pointer (some ⟨w.heap.size, 0, none⟩)) true ty).run Tryz.prog (w.iter s pos) = _ := fun ty => run_next_ascii w s pos ty hp (by omega)
        generalize (s[pos]'hp).toNat = c at *
        have t3 : decide ((c : Int) < 48) = false := decide_eq_false (by omega)
        have t4 : decide ((57 : Int) < c) = false := decide_eq_false (by omega)
        go_wp2_with fail
        go_roundw
        case rel => exact ⟨pos + 1, rfl, by omega⟩
        case measure =>
          simp
          omega
      · have hnx : ∀ ty, (Instr.next (.pointer (some ⟨w.heap.size, 0, none⟩)) true ty).run Tryz.prog (w.iter s pos) = _ := fun ty => run_next_end w s pos ty hp
        have hbi : Below w.heap.size w (w.iter s pos) := hb0.alloc (Nat.le_refl _) (.stringIter s pos)
        have hbz := hbi.size
        go_wp2_with fail
        have R := Room.new (w.iter s pos) 58 #[.bool false, .slice none 0 0] (o := 0) (by decide) (by simp)
        refine (hs _ _ R).mono ?_
        rintro r w1 ⟨rfl, I, hB⟩
        have hb := (hbi.alloc hbz (.cells #[.bool false, .slice none 0 0] 58)).trans (hB.toFar.below hbz (by simp; omega))
        go_wp2_with fail
        go_returns
        exact ⟨_, rfl, I, hbz, hb⟩

set_option maxRecDepth 100000 in
set_option maxHeartbeats 2000000 in
theorem kdigits_empty (s : ByteArray) (w : World) (h0 : s.size = 0) :
    Calls Tryz.prog 81 #[.string s] w fun e w' => e = .returned (.tuple #[.pointer none, .bool false]) ∧ Below w.heap.size w w' := by
  have e0 := str_nil h0
  have hb0 := Below.refl w.heap.size w
  go_enter Tryz.func81, Tryz.ntmps81
  go_wp2_with fail
  go_returns
  exact ⟨rfl, hb0⟩

set_option maxRecDepth 100000 in
set_option maxHeartbeats 2000000 in
theorem kdigits_nought (s : ByteArray) (w : World) (h0 : 1 < s.size) (h1 : s.size ≤ 1000000) (c48 : (s[0]'(by omega)).toNat = 48) :
    Calls Tryz.prog 81 #[.string s] w fun e w' => e = .returned (.tuple #[.pointer none, .bool false]) ∧ Below w.heap.size w w' := by
  have hp : 0 < s.size := by omega
  have e0 := str_cons hp
  have hb0 := Below.refl w.heap.size w
  have t1 : (((s[0]'hp).toNat : Int) == 48) = true := by rw [c48]; rfl
  have t2 : decide (1 < (s.size : Int)) = true := decide_eq_true (by omega)
  clear c48
  go_enter Tryz.func81, Tryz.ntmps81
  go_wp2_with fail
  go_returns
  exact ⟨rfl, hb0⟩

set_option maxRecDepth 100000 in
set_option maxHeartbeats 2000000 in
theorem kdigits_other (s : ByteArray) (w : World) (i0 : Nat) (h0 : i0 < s.size) (h1 : s.size ≤ 1000000) (hd : ∀ (i : Nat) (h : i < i0), 48 ≤ (s[i]'(by omega)).toNat ∧ (s[i]'(by omega)).toNat ≤ 57) (hbad : ¬ (48 ≤ (s[i0]'h0).toNat ∧ (s[i0]'h0).toNat ≤ 57)) (hh : (s[0]'(by omega)).toNat ≠ 48) :
    Calls Tryz.prog 81 #[.string s] w fun e w' => e = .returned (.tuple #[.pointer none, .bool false]) ∧ Below w.heap.size w w' := by
  have hz0 : 0 < s.size := by omega
  have e0 := str_cons hz0
  have hb0 := Below.refl w.heap.size w
  have t1 : (((s[0]'hz0).toNat : Int) == 48) = false := by rw [beq_eq_false_iff_ne]; omega
  clear hh
  go_enter Tryz.func81, Tryz.ntmps81
  go_wp2_with fail
  go_loopw [5] (fun _ w' => ∃ pos : Nat, w' = w.iter s pos ∧ pos ≤ i0) (fun _ w' => s.size - w'.iterPos w.heap.size)
  case atStart => exact ⟨0, rfl, by omega⟩
  case round =>
    obtain ⟨pos, rfl, hp0⟩ := hrel
    have hp : pos < s.size := by omega
    by_cases hlt : pos < i0
    · obtain ⟨ha, hz⟩ := hd pos hlt
      have hnx : ∀ ty, (Instr.next (.pointer (some ⟨w.heap.size, 0, none⟩)) true ty).run Tryz.prog (w.iter s pos) = _ := fun ty => run_next_ascii w s pos ty hp (by omega)
      generalize (s[pos]'hp).toNat = c at *
      have t3 : decide ((c : Int) < 48) = false := decide_eq_false (by omega)
      have t4 : decide ((57 : Int) < c) = false := decide_eq_false (by omega)
      go_wp2_with fail
      go_roundw
      case rel => exact ⟨pos + 1, rfl, by omega⟩
      case measure =>
        simp
        omega
    · obtain rfl : pos = i0 := by omega
      have hnx : ∀ ty, (Instr.next (.pointer (some ⟨w.heap.size, 0, none⟩)) true ty).run Tryz.prog (w.iter s pos) = _ := fun ty => run_next_any w s pos ty hp
      have hbi : ∀ q, Below w.heap.size w (w.iter s q) := fun q => hb0.alloc (Nat.le_refl _) (.stringIter s q)
      have hr : (Utf8.decode s pos).1 < 48 ∨ 57 < (Utf8.decode s pos).1 := by
        by_cases ha : (s[pos]'hp).toNat < 128
        · rw [decode_ascii s pos hp ha]; show (s[pos]'hp).toNat < 48 ∨ 57 < (s[pos]'hp).toNat; omega
        · have := (decode_high s pos hp (by omega)).1; omega
      have hle := decode_le s pos
      generalize (Utf8.decode s pos).1 = c at *
      generalize pos + (Utf8.decode s pos).2 = q at *
      clear hbad hd
      by_cases hc : c < 48
      · have t3 : decide ((c : Int) < 48) = true := decide_eq_true (by omega)
        go_wp2_with fail
        go_returns
        exact ⟨rfl, hbi q⟩
      · have t3 : decide ((c : Int) < 48) = false := decide_eq_false (by omega)
        have t4 : decide ((57 : Int) < c) = true := decide_eq_true (by omega)
        go_wp2_with fail
        go_returns
        exact ⟨rfl, hbi q⟩
end Go.Proofs.YtbhfnigblhfikaaGreatDoor
