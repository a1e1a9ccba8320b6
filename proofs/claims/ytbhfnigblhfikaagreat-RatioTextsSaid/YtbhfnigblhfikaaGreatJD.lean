/- wide.Int.GCD; ratio.May. -/
import Derived.Test.YtbhfnigblhfikaaGreatJC
namespace Go.Proofs.YtbhfnigblhfikaaGreat
open Go Go.RowKit Go.PlainAid Fil

theorem natB_bstr {x : Nat} (h : Fil.dn 8 x ≤ 16384) : natB (bstr x) = true := by
  unfold natB
  rw [bstr_size]
  by_cases hx : x = 0
  · subst hx; rw [dn_zero]; rfl
  have hp := dn_pos (k := 8) hx
  rw [bstr_bt x 0 hp]
  have ht := dg_top (k := 8) (by omega) hx
  have d1 : decide (Fil.dn 8 x ≤ 16384) = true := decide_eq_true h
  have d2 : ((dg 8 x (Fil.dn 8 x - 1 - 0) : Int) == 0) = false := by rw [beq_eq_false_iff_ne, Nat.sub_zero]; omega
  rw [d1, d2]; simp
theorem nat_of_natB {s : ByteArray} (h : natB s = true) : ∃ x, s = bstr x ∧ Fil.dn 8 x ≤ 16384 := by
  have hl : s.data.toList.length = s.size := Array.length_toList
  unfold natB at h
  simp only [Bool.and_eq_true, Bool.or_eq_true, decide_eq_true_eq, Bool.not_eq_true', beq_eq_false_iff_ne] at h
  have hc : cano s.data.toList := by
    intro hp h00
    rcases h.2 with h3 | h3
    · omega
    · apply h3
      rw [bt_get (by omega)]
      have : s[0] = s.data.toList[0] := by simp [ByteArray.getElem_eq_getElem_data]
      rw [this, h00]; rfl
  have hb := bs_nb hc
  refine ⟨nb s.data.toList, ?_, by rw [dn_nb hc, hl]; exact h.1⟩
  unfold bstr; rw [hb]
theorem bstr_eq_nil {x : Nat} : (bstr x).toList = [] ↔ x = 0 := by rw [bstr_toList, bs_eq_nil]
theorem bs_one : bs 1 = [1] := by decide
theorem bstr_eq_one {x : Nat} : (bstr x).toList = [1] ↔ x = 1 := by
  rw [bstr_toList, ← bs_one]; exact ⟨fun h => bs_inj h, fun h => by rw [h]⟩
theorem dec_one {G : Nat} (h : G ≠ 0) : (G == 1) = (cmpI (G : Int) 1 == 0) := by
  unfold cmpI
  by_cases h1 : G = 1
  · subst h1; rfl
  · rw [beq_eq_false_iff_ne.2 h1, if_neg (by omega), if_pos (by omega)]; rfl

set_option maxRecDepth 100000 in
set_option maxHeartbeats 4000000 in
theorem gcd_any (b b1 b2 x y : Nat) (w : World) (hr : Room w b 0) (h1 : IntAt w b1 0 (x : Int)) (h2 : IntAt w b2 0 (y : Int)) (n1 : b1 ≠ b) (n2 : b2 ≠ b) (sx : Fil.dn 32 x ≤ 1099511627000) (sy : Fil.dn 32 y ≤ 1099511627000) :
    Calls Tryz.prog 53 #[.pointer (some ⟨b, 0, none⟩), .pointer none, .pointer none, .pointer (some ⟨b1, 0, none⟩), .pointer (some ⟨b2, 0, none⟩)] w fun e w' => e = .returned (.pointer (some ⟨b, 0, none⟩)) ∧ IntAt w' b 0 (Nat.gcd x y : Int) ∧ But w w' b 0 := by
  obtain ⟨A1, m1, c1, x1, y1, D1⟩ := h1.cells
  obtain ⟨A2, m2, c2, x2, y2, D2⟩ := h2.cells
  rw [Int.natAbs_natCast] at D1 D2
  have l1 := h1.lt
  have l2 := h2.lt
  have hcm := fun W (a : Dig W A1 m1 c1 x) (b : Dig W A2 m2 c2 y) => common_any A1 A2 m1 c1 x m2 c2 y W a b (by rw [D1.1]; exact sx) (by rw [D2.1]; exact sy)
  have gle : Fil.dn 32 (Nat.gcd x y) ≤ 4398046511104 := by
    rcases Nat.eq_zero_or_pos y with h | h
    · rw [h, Nat.gcd_zero_right]; omega
    · exact Nat.le_trans (dn_mono (by omega) (Nat.le_of_dvd h (Nat.gcd_dvd_right _ _))) (by omega)
  have hr0 := Lib.hid hr
  have Hn := Lib.hid (And.intro n1 (And.intro n2 (And.intro l1 (And.intro l2 gle))))
  clear n1 n2 l1 l2 gle h1 h2 sx sy x1 x2
  generalize Nat.gcd x y = G at *
  go_enter Tryz.func53, Tryz.ntmps53
  go_wp2_with fail
  refine wp_region_any (by kernel_rfl) ?_
  have hHeld : (fun w' : World => w'.cell? ⟨b1, 1, none⟩ = some (.slice A1 m1 c1) ∧ w'.cell? ⟨b2, 1, none⟩ = some (.slice A2 m2 c2)) w.drew := ⟨y1, y2⟩
  refine wpAny_of_held (S := fun w' : World => w'.cell? ⟨b1, 1, none⟩ = some (.slice A1 m1 c1) ∧ w'.cell? ⟨b2, 1, none⟩ = some (.slice A2 m2 c2)) _ _ _ (w.drew) ?_
  refine wpAnyH_take (i := 0) (v := _) (by first | (simp only [List.getElem?_toArray, List.getElem?_cons_zero]; rfl) | rfl) (by kernel_rfl) (by kernel_rfl) (by kernel_rfl) (by exact fun _ _ _ h => h) (Or.inl ⟨by rfl, by (intro w hSw; (try dsimp only at hSw); go_simp; try with_reducible rfl)⟩) (by assumption) ?_
  (try dsimp only [Act.put]); (try go_frame)
  refine wpAnyH_take (i := 1) (v := _) (by first | (simp only [List.getElem?_toArray, List.getElem?_cons_zero, List.getElem?_cons_succ]; rfl) | rfl) (by kernel_rfl) (by kernel_rfl) (by kernel_rfl) (by exact fun _ _ _ h => h) (Or.inl ⟨by rfl, by (intro w hSw; (try dsimp only at hSw); go_simp; try with_reducible rfl)⟩) (by assumption) ?_
  (try dsimp only [Act.put]); (try go_frame)
  refine wpAnyH_take (i := 2) (v := _) (by first | (simp only [List.getElem?_toArray, List.getElem?_cons_zero, List.getElem?_cons_succ]; rfl) | rfl) (by kernel_rfl) (by kernel_rfl) (by kernel_rfl) (by exact fun _ _ _ h => h) (Or.inl ⟨by rfl, by (intro w hSw; (try dsimp only at hSw); go_simp; try with_reducible rfl)⟩) (by assumption) ?_
  (try dsimp only [Act.put]); (try go_frame)
  refine wpAnyH_take (i := 3) (v := _) (by first | (simp only [List.getElem?_toArray, List.getElem?_cons_zero, List.getElem?_cons_succ]; rfl) | rfl) (by kernel_rfl) (by kernel_rfl) (by kernel_rfl) (by exact fun _ _ _ h => h) (Or.inl ⟨by rfl, by (intro w hSw; (try dsimp only at hSw); go_simp; try with_reducible rfl)⟩) (by assumption) ?_
  (try dsimp only [Act.put]); (try go_frame)
  refine wpAnyH_take (i := 4) (v := _) (by first | (simp only [List.getElem?_toArray, List.getElem?_cons_zero, List.getElem?_cons_succ]; rfl) | rfl) (by kernel_rfl) (by kernel_rfl) (by kernel_rfl) (by exact fun _ _ _ h => h) (Or.inl ⟨by rfl, by (intro w hSw; (try dsimp only at hSw); go_simp; try with_reducible rfl)⟩) (by assumption) ?_
  (try dsimp only [Act.put]); (try go_frame)
  refine wpAnyH_take (i := 5) (v := _) (by first | (simp only [List.getElem?_toArray, List.getElem?_cons_zero, List.getElem?_cons_succ]; rfl) | rfl) (by kernel_rfl) (by kernel_rfl) (by kernel_rfl) (by exact fun _ _ _ h => h) (Or.inl ⟨by rfl, by (intro w hSw; (try dsimp only at hSw); go_simp; try with_reducible rfl)⟩) (by assumption) ?_
  (try dsimp only [Act.put]); (try go_frame)
  refine wpAnyH_take (i := 6) (v := _) (by first | (simp only [List.getElem?_toArray, List.getElem?_cons_zero, List.getElem?_cons_succ]; rfl) | rfl) (by kernel_rfl) (by kernel_rfl) (by kernel_rfl) (by exact fun _ _ _ h => h) (Or.inl ⟨by rfl, by (intro w hSw; (try dsimp only at hSw); go_simp; try with_reducible rfl)⟩) (by assumption) ?_
  (try dsimp only [Act.put]); (try go_frame)
  refine wpAnyH_take (i := 7) (v := _) (by first | (simp only [List.getElem?_toArray, List.getElem?_cons_zero, List.getElem?_cons_succ]; rfl) | rfl) (by kernel_rfl) (by kernel_rfl) (by kernel_rfl) (by exact fun _ _ _ h => h) (Or.inl ⟨by rfl, by (intro w hSw; (try dsimp only at hSw); go_simp; try with_reducible rfl)⟩) (by assumption) ?_
  (try dsimp only [Act.put]); (try go_frame)
  refine wpAnyH_take (i := 8) (v := _) (by first | (simp only [List.getElem?_toArray, List.getElem?_cons_zero, List.getElem?_cons_succ]; rfl) | rfl) (by kernel_rfl) (by kernel_rfl) (by kernel_rfl) (by exact fun _ _ _ h => h) (Or.inl ⟨by rfl, by (intro w hSw; (try dsimp only at hSw); go_simp; try with_reducible rfl)⟩) (by assumption) ?_
  (try dsimp only [Act.put]); (try go_frame)
  refine wpAnyH_ready (rs := [9]) (by kernel_rfl) (by simp) ?_
  refine AllReadyH.cons rfl (fun K hK => ?_) AllReadyH.nil
  go_simp
  refine (hcm w.drew D1 D2).mono ?_
  rintro r w1 ⟨A3, c3, rfl, D3, hb1⟩
  replace hb1 : Below w.heap.size w w1 := Below.undrew hb1
  have y1' := (Below.cellAt hb1 Hn.out.2.2.1 1).trans y1
  have y2' := (Below.cellAt hb1 Hn.out.2.2.2.1 1).trans y2
  refine hK.out _ _ ?_ (fun hHeld => ?_)
  · exact ⟨y1', y2'⟩
  clear hK K hcm D1 D2
  (try dsimp only [Act.put]); (try go_frame)
  refine wpAnyH_ready (rs := [10]) (by kernel_rfl) (by simp) ?_
  refine AllReadyH.cons rfl (fun K hK => ?_) AllReadyH.nil
  go_simp
  refine (laid_int b 0 false A3 _ c3 G w1 (hr.below hb1) Hn.out.2.2.2.2 D3).mono ?_
  rintro r w2 ⟨rfl, I2, B2⟩
  have y1'' := (B2.toFar.cellAt (Nat.lt_of_lt_of_le Hn.out.2.2.1 hb1.size) Hn.out.1 1).trans y1'
  have y2'' := (B2.toFar.cellAt (Nat.lt_of_lt_of_le Hn.out.2.2.2.1 hb1.size) Hn.out.2.1 1).trans y2'
  refine hK.out _ _ ?_ (fun hHeld => ?_)
  · exact ⟨y1'', y2''⟩
  clear hK K
  (try dsimp only [Act.put]); (try go_frame)
  refine wpAnyH_take (i := 11) (v := _) (by first | (simp only [List.getElem?_toArray, List.getElem?_cons_zero, List.getElem?_cons_succ]; rfl) | rfl) (by kernel_rfl) (by kernel_rfl) (by kernel_rfl) (by exact fun _ _ _ h => h) (Or.inl ⟨by rfl, by (intro w hSw; (try dsimp only at hSw); go_simp; try with_reducible rfl)⟩) (by assumption) ?_
  (try dsimp only [Act.put]); (try go_frame)
  refine wpAnyH_done (by kernel_rfl) ?_ _
  try simp only [QCut]
  go_wp2
  go_ret
  exact ⟨rfl, I2, But.after hb1 B2 hr0.out⟩

set_option maxRecDepth 100000 in
set_option maxHeartbeats 4000000 in
theorem kmay_1 (N : Bool) (S T : ByteArray) (w : World) (fS : S.size ≤ 9223372036854775807) (_fT : T.size ≤ 9223372036854775807) (hS : natB S = false) :
    Calls Tryz.prog 18 #[.agg #[.bool N, .string S, .string T]] w fun e w' => e = .returned (.bool false) ∧ Below w.heap.size w w' := by
  have hc1 := fun W => natcheck_any S W fS
  rw [hS] at hc1
  clear hS
  have F := Blk.put w #[.bool N, .string S, .string T] 24
  have hb := (Below.refl w.heap.size w).alloc (Nat.le_refl _) (.cells #[.bool N, .string S, .string T] 24)
  obtain ⟨x0, x1, x2⟩ := F.ce3
  go_enter Tryz.func18, Tryz.ntmps18
  go_wp2_with fail
  refine (hc1 _).mono ?_
  rintro r w1 ⟨rfl, hB⟩
  rw [okE_f]
  replace F := F.keep hB
  replace hb := hb.trans (hB.mono hb.size)
  clear hB x0 x1 x2
  obtain ⟨x0, x1, x2⟩ := F.ce3
  go_wp2
  go_ret
  exact ⟨rfl, hb⟩

set_option maxRecDepth 100000 in
set_option maxHeartbeats 4000000 in
theorem kmay_2 (N : Bool) (S T : ByteArray) (w : World) (fS : S.size ≤ 9223372036854775807) (fT : T.size ≤ 9223372036854775807) (hS : natB S = true) (hT : natB T = false) :
    Calls Tryz.prog 18 #[.agg #[.bool N, .string S, .string T]] w fun e w' => e = .returned (.bool false) ∧ Below w.heap.size w w' := by
  have hc1 := fun W => natcheck_any S W fS
  rw [hS] at hc1
  have hc2 := fun W => natcheck_any T W fT
  rw [hT] at hc2
  clear hS hT
  have F := Blk.put w #[.bool N, .string S, .string T] 24
  have hb := (Below.refl w.heap.size w).alloc (Nat.le_refl _) (.cells #[.bool N, .string S, .string T] 24)
  obtain ⟨x0, x1, x2⟩ := F.ce3
  go_enter Tryz.func18, Tryz.ntmps18
  go_wp2_with fail
  refine (hc1 _).mono ?_
  rintro r w1 ⟨rfl, hB⟩
  rw [okE_t]
  replace F := F.keep hB
  replace hb := hb.trans (hB.mono hb.size)
  clear hB x0 x1 x2
  obtain ⟨x0, x1, x2⟩ := F.ce3
  go_wp2_with fail
  refine (hc2 _).mono ?_
  rintro r w2 ⟨rfl, hB⟩
  rw [okE_f]
  replace F := F.keep hB
  replace hb := hb.trans (hB.mono hb.size)
  clear hB x0 x1 x2
  obtain ⟨x0, x1, x2⟩ := F.ce3
  go_wp2
  go_ret
  exact ⟨rfl, hb⟩

set_option maxRecDepth 100000 in
set_option maxHeartbeats 4000000 in
theorem kmay_3 (N : Bool) (S T : ByteArray) (w : World) (fS : S.size ≤ 9223372036854775807) (fT : T.size ≤ 9223372036854775807) (hS : natB S = true) (hT : natB T = true) (h0 : T.size = 0) :
    Calls Tryz.prog 18 #[.agg #[.bool N, .string S, .string T]] w fun e w' => e = .returned (.bool false) ∧ Below w.heap.size w w' := by
  have hc1 := fun W => natcheck_any S W fS
  rw [hS] at hc1
  have hc2 := fun W => natcheck_any T W fT
  rw [hT] at hc2
  have hT0 := str_nil h0
  clear h0
  clear hS hT
  have F := Blk.put w #[.bool N, .string S, .string T] 24
  have hb := (Below.refl w.heap.size w).alloc (Nat.le_refl _) (.cells #[.bool N, .string S, .string T] 24)
  obtain ⟨x0, x1, x2⟩ := F.ce3
  go_enter Tryz.func18, Tryz.ntmps18
  go_wp2_with fail
  refine (hc1 _).mono ?_
  rintro r w1 ⟨rfl, hB⟩
  rw [okE_t]
  replace F := F.keep hB
  replace hb := hb.trans (hB.mono hb.size)
  clear hB x0 x1 x2
  obtain ⟨x0, x1, x2⟩ := F.ce3
  go_wp2_with fail
  refine (hc2 _).mono ?_
  rintro r w2 ⟨rfl, hB⟩
  rw [okE_t]
  replace F := F.keep hB
  replace hb := hb.trans (hB.mono hb.size)
  clear hB x0 x1 x2
  obtain ⟨x0, x1, x2⟩ := F.ce3
  go_wp2
  go_ret
  exact ⟨rfl, hb⟩

set_option maxRecDepth 100000 in
set_option maxHeartbeats 4000000 in
theorem kmay_4 (N : Bool) (S T : ByteArray) (w : World) (fS : S.size ≤ 9223372036854775807) (fT : T.size ≤ 9223372036854775807) (hS : natB S = true) (hT : natB T = true) (hT1 : T.toList.isEmpty = false) (_hT2 : T.toList ≠ []) (hS0 : S.toList = []) (O : Bool) (hO : decide (T.toList = [1]) = O) :
    Calls Tryz.prog 18 #[.agg #[.bool N, .string S, .string T]] w fun e w' => e = .returned (.bool (!N && O)) ∧ Below w.heap.size w w' := by
  have hc1 := fun W => natcheck_any S W fS
  rw [hS] at hc1
  have hc2 := fun W => natcheck_any T W fT
  rw [hT] at hc2
  clear hS hT
  have F := Blk.put w #[.bool N, .string S, .string T] 24
  have hb := (Below.refl w.heap.size w).alloc (Nat.le_refl _) (.cells #[.bool N, .string S, .string T] 24)
  obtain ⟨x0, x1, x2⟩ := F.ce3
  go_enter Tryz.func18, Tryz.ntmps18
  go_wp2_with fail
  refine (hc1 _).mono ?_
  rintro r w1 ⟨rfl, hB⟩
  rw [okE_t]
  replace F := F.keep hB
  replace hb := hb.trans (hB.mono hb.size)
  clear hB x0 x1 x2
  obtain ⟨x0, x1, x2⟩ := F.ce3
  go_wp2_with fail
  refine (hc2 _).mono ?_
  rintro r w2 ⟨rfl, hB⟩
  rw [okE_t]
  replace F := F.keep hB
  replace hb := hb.trans (hB.mono hb.size)
  clear hB x0 x1 x2
  obtain ⟨x0, x1, x2⟩ := F.ce3
  cases N
  · cases O
    · have hO1 : ¬ T.toList = [1] := of_decide_eq_false hO
      go_wp2
      go_ret
      exact ⟨by first | rfl | simp_all, hb⟩
    · have hO1 : T.toList = [1] := of_decide_eq_true hO
      go_wp2
      go_ret
      exact ⟨by first | rfl | simp_all, hb⟩
  · go_wp2
    go_ret
    exact ⟨rfl, hb⟩

set_option maxRecDepth 100000 in
set_option maxHeartbeats 4000000 in
theorem kmay_5 (N : Bool) (n d : Nat) (w : World) (h1 : Fil.dn 8 n ≤ 16384) (h2 : Fil.dn 8 d ≤ 16384) (hn : n ≠ 0) (hd : d ≠ 0) :
    Calls Tryz.prog 18 #[.agg #[.bool N, .string (bstr n), .string (bstr d)]] w fun e w' => e = .returned (.bool (Nat.gcd n d == 1)) ∧ Below w.heap.size w w' := by
  have hw1 := fun W => kwhole_any n W (Nat.le_trans h1 (by omega))
  have hw2 := fun W => kwhole_any d W (Nat.le_trans h2 (by omega))
  have hS := natB_bstr h1
  have hT := natB_bstr h2
  have fS : (bstr n).size ≤ 9223372036854775807 := by rw [bstr_size]; omega
  have fT : (bstr d).size ≤ 9223372036854775807 := by rw [bstr_size]; omega
  obtain ⟨hT1, hT2⟩ := bstr_ne hd
  obtain ⟨hS1, hS2⟩ := bstr_ne hn
  have s1 := dn32_8 h1
  have s2 := dn32_8 h2
  have hni := fun W => newint_any 1 W (by omega) (by omega)
  have sG : Fil.dn 32 (Nat.gcd n d) ≤ 1099511627776 := Nat.le_trans (dn_mono (by omega) (Nat.le_of_dvd (Nat.pos_of_ne_zero hd) (Nat.gcd_dvd_right _ _))) (by omega)
  have hcmp := dec_one (G := Nat.gcd n d) (by have := Nat.gcd_pos_of_pos_right n (Nat.pos_of_ne_zero hd); omega)
  clear hn hd h1 h2
  generalize bstr n = S at *
  generalize bstr d = T at *
  have hc1 := fun W => natcheck_any S W fS
  rw [hS] at hc1
  have hc2 := fun W => natcheck_any T W fT
  rw [hT] at hc2
  clear hS hT
  have F := Blk.put w #[.bool N, .string S, .string T] 24
  have hb := (Below.refl w.heap.size w).alloc (Nat.le_refl _) (.cells #[.bool N, .string S, .string T] 24)
  obtain ⟨x0, x1, x2⟩ := F.ce3
  go_enter Tryz.func18, Tryz.ntmps18
  go_wp2_with fail
  refine (hc1 _).mono ?_
  rintro r w1 ⟨rfl, hB⟩
  rw [okE_t]
  replace F := F.keep hB
  replace hb := hb.trans (hB.mono hb.size)
  clear hB x0 x1 x2
  obtain ⟨x0, x1, x2⟩ := F.ce3
  go_wp2_with fail
  refine (hc2 _).mono ?_
  rintro r w2 ⟨rfl, hB⟩
  rw [okE_t]
  replace F := F.keep hB
  replace hb := hb.trans (hB.mono hb.size)
  clear hB x0 x1 x2
  obtain ⟨x0, x1, x2⟩ := F.ce3
  clear hc1 hc2
  have q_BX : Hid (w.heap.size ≤ w.heap.size) := Lib.hid (Nat.le_refl _)
  go_upto_region 5 with fail
  clear x0 x1 x2
  go_wp2_with fail
  refine wp_region_any (by kernel_rfl) ?_
  have hHeld : (fun w' : World => w'.cell? ⟨w.heap.size, 1, none⟩ = some (.string S) ∧ w'.cell? ⟨w.heap.size, 2, none⟩ = some (.string T)) w2.drew := ⟨F.ce3.2.1, F.ce3.2.2⟩
  refine wpAny_of_held (S := fun w' : World => w'.cell? ⟨w.heap.size, 1, none⟩ = some (.string S) ∧ w'.cell? ⟨w.heap.size, 2, none⟩ = some (.string T)) _ _ _ (w2.drew) ?_
  replace F : Blk (w2.drew) (w.heap.size) #[.bool N, .string S, .string T] 24 := F
  replace hb : Below w.heap.size w w2.drew := hb.drew
  generalize w2.drew = v10 at *
  refine wpAnyH_take (i := 1) (v := _) (by first | (simp only [List.getElem?_toArray, List.getElem?_cons_zero, List.getElem?_cons_succ]; rfl) | rfl) (by kernel_rfl) (by kernel_rfl) (by kernel_rfl) (by exact fun _ _ _ h => h) (Or.inl ⟨by rfl, by (intro w hSw; (try dsimp only at hSw); go_simp; try with_reducible rfl)⟩) (by assumption) ?_
  (try dsimp only [Act.put]); (try go_frame)
  refine wpAnyH_take (i := 2) (v := _) (by first | (simp only [List.getElem?_toArray, List.getElem?_cons_zero, List.getElem?_cons_succ]; rfl) | rfl) (by kernel_rfl) (by kernel_rfl) (by kernel_rfl) (by exact fun _ _ _ h => h) (Or.inl ⟨by rfl, by (intro w hSw; (try dsimp only at hSw); go_simp; try with_reducible rfl)⟩) (by assumption) ?_
  (try dsimp only [Act.put]); (try go_frame)
  refine wpAnyH_take (i := 4) (v := _) (by first | (simp only [List.getElem?_toArray, List.getElem?_cons_zero, List.getElem?_cons_succ]; rfl) | rfl) (by kernel_rfl) (by kernel_rfl) (by kernel_rfl) (by exact fun _ _ _ h => h) (Or.inl ⟨by rfl, by (intro w hSw; (try dsimp only at hSw); go_simp; try with_reducible rfl)⟩) (by assumption) ?_
  (try dsimp only [Act.put]); (try go_frame)
  refine wpAnyH_take (i := 5) (v := _) (by first | (simp only [List.getElem?_toArray, List.getElem?_cons_zero, List.getElem?_cons_succ]; rfl) | rfl) (by kernel_rfl) (by kernel_rfl) (by kernel_rfl) (by exact fun _ _ _ h => h) (Or.inl ⟨by rfl, by (intro w hSw; (try dsimp only at hSw); go_simp; try with_reducible rfl)⟩) (by assumption) ?_
  (try dsimp only [Act.put]); (try go_frame)
  refine wpAnyH_ready (rs := [0, 3]) (by kernel_rfl) (by simp) ?_
  refine AllReadyH.cons rfl (fun K hK => ?_) (AllReadyH.cons rfl (fun K hK => ?_) AllReadyH.nil)
  · go_simp
    have IG := IntAt.zero v10
    have q0 : Hid (w.heap.size ≤ v10.heap.size) := Lib.hid hb.size
    have q0_BX : Hid (w.heap.size < v10.heap.size) := Lib.hid F.lt
    replace F := F.allocd (.cells #[.bool false, .slice none 0 0] 70)
    replace hb := hb.alloc hb.size (.cells #[.bool false, .slice none 0 0] 70)
    refine hK.out _ _ ?_ (fun hHeld => ?_)
    · exact ⟨F.ce3.2.1, F.ce3.2.2⟩
    clear hK K
    generalize v10.alloc (.cells #[.bool false, .slice none 0 0] 70) = v11 at *
    generalize v10.heap.size = BG at *
    have q_BG := q0
    clear q0
    have q_BX_BG := q0_BX
    clear q0_BX
    (try dsimp only [Act.put]); (try go_frame)
    refine wpAnyH_ready (rs := [3]) (by kernel_rfl) (by simp) ?_
    refine AllReadyH.cons rfl (fun K hK => ?_) AllReadyH.nil
    go_simp
    have q_BX_B10 : w.heap.size < v11.heap.size := F.lt
    have q_BG_B10 : BG < v11.heap.size := IG.lt
    have q_B10 : w.heap.size ≤ v11.heap.size := hb.size
    refine (hw1 v11).mono ?_
    rintro r ww14 ⟨rfl, I1, hB⟩
    replace F := F.keep hB
    replace IG := IG.below hB
    replace hb := hb.trans (hB.mono hb.size)
    clear hB
    refine hK.out _ _ ?_ (fun hHeld => ?_)
    · exact ⟨F.ce3.2.1, F.ce3.2.2⟩
    clear hK K
    generalize v11.heap.size = B1 at *
    have q_B1 := Lib.hid q_B10
    clear q_B10
    have q_BX_B1 := Lib.hid q_BX_B10
    clear q_BX_B10
    have q_BG_B1 := Lib.hid q_BG_B10
    clear q_BG_B10
    (try dsimp only [Act.put]); (try go_frame)
    refine wpAnyH_ready (rs := [6]) (by kernel_rfl) (by simp) ?_
    refine AllReadyH.cons rfl (fun K hK => ?_) AllReadyH.nil
    go_simp
    have q_BX_B20 : w.heap.size < ww14.heap.size := F.lt
    have q_BG_B20 : BG < ww14.heap.size := IG.lt
    have q_B1_B20 : B1 < ww14.heap.size := I1.lt
    have q_B20 : w.heap.size ≤ ww14.heap.size := hb.size
    refine (hw2 ww14).mono ?_
    rintro r ww28 ⟨rfl, I2, hB⟩
    replace F := F.keep hB
    replace IG := IG.below hB
    replace I1 := I1.below hB
    replace hb := hb.trans (hB.mono hb.size)
    clear hB
    refine hK.out _ _ ?_ (fun hHeld => ?_)
    · exact ⟨F.ce3.2.1, F.ce3.2.2⟩
    clear hK K
    generalize ww14.heap.size = B2 at *
    have q_B2 := Lib.hid q_B20
    clear q_B20
    have q_BX_B2 := Lib.hid q_BX_B20
    clear q_BX_B20
    have q_BG_B2 := Lib.hid q_BG_B20
    clear q_BG_B20
    have q_B1_B2 := Lib.hid q_B1_B20
    clear q_B1_B20
    (try dsimp only [Act.put]); (try go_frame)
    refine wpAnyH_ready (rs := [7]) (by kernel_rfl) (by simp) ?_
    refine AllReadyH.cons rfl (fun K hK => ?_) AllReadyH.nil
    go_simp
    refine (gcd_any BG B1 B2 n d ww28 IG.room I1 I2 (by have := q_BG_B1.out; omega) (by have := q_BG_B2.out; omega) (by omega) (by omega)).mono ?_
    rintro r wg40 ⟨rfl, I0, hB⟩
    replace F := F.ofFar hB.toFar (by have := q_BX_BG.out; omega)
    replace I1 := I1.but hB (.inl (by have := q_BG_B1.out; omega))
    replace I2 := I2.but hB (.inl (by have := q_BG_B2.out; omega))
    replace hb := hb.trans (hB.below q_BG.out hb.size)
    clear hB IG
    have IG := I0
    clear I0
    refine hK.out _ _ ?_ (fun hHeld => ?_)
    · exact ⟨F.ce3.2.1, F.ce3.2.2⟩
    clear hK K
    (try dsimp only [Act.put]); (try go_frame)
    refine wpAnyH_ready (rs := [8]) (by kernel_rfl) (by simp) ?_
    refine AllReadyH.cons rfl (fun K hK => ?_) AllReadyH.nil
    go_simp
    have q_BX_B30 : w.heap.size < wg40.heap.size := F.lt
    have q_BG_B30 : BG < wg40.heap.size := IG.lt
    have q_B1_B30 : B1 < wg40.heap.size := I1.lt
    have q_B2_B30 : B2 < wg40.heap.size := I2.lt
    have q_B30 : w.heap.size ≤ wg40.heap.size := hb.size
    refine (hni wg40).mono ?_
    rintro r ww52 ⟨rfl, I3, hB⟩
    replace F := F.keep hB
    replace IG := IG.below hB
    replace I1 := I1.below hB
    replace I2 := I2.below hB
    replace hb := hb.trans (hB.mono hb.size)
    clear hB
    refine hK.out _ _ ?_ (fun hHeld => ?_)
    · exact ⟨F.ce3.2.1, F.ce3.2.2⟩
    clear hK K
    generalize wg40.heap.size = B3 at *
    have q_B3 := Lib.hid q_B30
    clear q_B30
    have q_BX_B3 := Lib.hid q_BX_B30
    clear q_BX_B30
    have q_BG_B3 := Lib.hid q_BG_B30
    clear q_BG_B30
    have q_B1_B3 := Lib.hid q_B1_B30
    clear q_B1_B30
    have q_B2_B3 := Lib.hid q_B2_B30
    clear q_B2_B30
    (try dsimp only [Act.put]); (try go_frame)
    refine wpAnyH_ready (rs := [9]) (by kernel_rfl) (by simp) ?_
    refine AllReadyH.cons rfl (fun K hK => ?_) AllReadyH.nil
    go_simp
    refine (icmp_any BG 0 B3 0 (Nat.gcd n d : Int) 1 ww52 IG I3 (by rw [Int.natAbs_natCast]; exact sG) (by decide)).mono ?_
    rintro r wz ⟨rfl, kz, rfl⟩
    replace hb := Below.drewN' hb kz
    replace F : Blk (ww52.drewN kz) w.heap.size #[.bool N, .string S, .string T] 24 := F
    refine hK.out _ _ ?_ (fun hHeld => ?_)
    · exact ⟨F.ce3.2.1, F.ce3.2.2⟩
    clear hK K IG I1 I2 I3
    (try dsimp only [Act.put]); (try go_frame)
    refine wpAnyH_take (i := 10) (v := _) (by first | (simp only [List.getElem?_toArray, List.getElem?_cons_zero, List.getElem?_cons_succ]; rfl) | rfl) (by kernel_rfl) (by kernel_rfl) (by kernel_rfl) (by exact fun _ _ _ h => h) (Or.inl ⟨by rfl, by (intro w hSw; (try dsimp only at hSw); go_simp; try with_reducible rfl)⟩) (by assumption) ?_
    (try dsimp only [Act.put]); (try go_frame)
    refine wpAnyH_take (i := 11) (v := _) (by first | (simp only [List.getElem?_toArray, List.getElem?_cons_zero, List.getElem?_cons_succ]; rfl) | rfl) (by kernel_rfl) (by kernel_rfl) (by kernel_rfl) (by exact fun _ _ _ h => h) (Or.inl ⟨by rfl, by (intro w hSw; (try dsimp only at hSw); go_simp; try with_reducible rfl)⟩) (by assumption) ?_
    (try dsimp only [Act.put]); (try go_frame)
    refine wpAnyH_done (by kernel_rfl) ?_ _
    try simp only [QCut]
    go_wp2
    go_ret
    exact ⟨by rw [hcmp]; rfl, hb⟩
  · go_simp
    have q_BX_B10 : w.heap.size < v10.heap.size := F.lt
    have q_B10 : w.heap.size ≤ v10.heap.size := hb.size
    refine (hw1 v10).mono ?_
    rintro r ww3 ⟨rfl, I1, hB⟩
    replace F := F.keep hB
    replace hb := hb.trans (hB.mono hb.size)
    clear hB
    refine hK.out _ _ ?_ (fun hHeld => ?_)
    · exact ⟨F.ce3.2.1, F.ce3.2.2⟩
    clear hK K
    generalize v10.heap.size = B1 at *
    have q_B1 := Lib.hid q_B10
    clear q_B10
    have q_BX_B1 := Lib.hid q_BX_B10
    clear q_BX_B10
    (try dsimp only [Act.put]); (try go_frame)
    refine wpAnyH_ready (rs := [0, 6]) (by kernel_rfl) (by simp) ?_
    refine AllReadyH.cons rfl (fun K hK => ?_) (AllReadyH.cons rfl (fun K hK => ?_) AllReadyH.nil)
    · go_simp
      have IG := IntAt.zero ww3
      have q0 : Hid (w.heap.size ≤ ww3.heap.size) := Lib.hid hb.size
      have q0_BX : Hid (w.heap.size < ww3.heap.size) := Lib.hid F.lt
      have q0_B1 : Hid (B1 < ww3.heap.size) := Lib.hid I1.lt
      replace F := F.allocd (.cells #[.bool false, .slice none 0 0] 70)
      replace I1 := I1.alloc (.cells #[.bool false, .slice none 0 0] 70)
      replace hb := hb.alloc hb.size (.cells #[.bool false, .slice none 0 0] 70)
      refine hK.out _ _ ?_ (fun hHeld => ?_)
      · exact ⟨F.ce3.2.1, F.ce3.2.2⟩
      clear hK K
      generalize ww3.alloc (.cells #[.bool false, .slice none 0 0] 70) = v11 at *
      generalize ww3.heap.size = BG at *
      have q_BG := q0
      clear q0
      have q_BX_BG := q0_BX
      clear q0_BX
      have q_B1_BG := q0_B1
      clear q0_B1
      (try dsimp only [Act.put]); (try go_frame)
      refine wpAnyH_ready (rs := [6]) (by kernel_rfl) (by simp) ?_
      refine AllReadyH.cons rfl (fun K hK => ?_) AllReadyH.nil
      go_simp
      have q_BX_B20 : w.heap.size < v11.heap.size := F.lt
      have q_B1_B20 : B1 < v11.heap.size := I1.lt
      have q_BG_B20 : BG < v11.heap.size := IG.lt
      have q_B20 : w.heap.size ≤ v11.heap.size := hb.size
      refine (hw2 v11).mono ?_
      rintro r ww18 ⟨rfl, I2, hB⟩
      replace F := F.keep hB
      replace I1 := I1.below hB
      replace IG := IG.below hB
      replace hb := hb.trans (hB.mono hb.size)
      clear hB
      refine hK.out _ _ ?_ (fun hHeld => ?_)
      · exact ⟨F.ce3.2.1, F.ce3.2.2⟩
      clear hK K
      generalize v11.heap.size = B2 at *
      have q_B2 := Lib.hid q_B20
      clear q_B20
      have q_BX_B2 := Lib.hid q_BX_B20
      clear q_BX_B20
      have q_B1_B2 := Lib.hid q_B1_B20
      clear q_B1_B20
      have q_BG_B2 := Lib.hid q_BG_B20
      clear q_BG_B20
      (try dsimp only [Act.put]); (try go_frame)
      refine wpAnyH_ready (rs := [7]) (by kernel_rfl) (by simp) ?_
      refine AllReadyH.cons rfl (fun K hK => ?_) AllReadyH.nil
      go_simp
      refine (gcd_any BG B1 B2 n d ww18 IG.room I1 I2 (by have := q_B1_BG.out; omega) (by have := q_BG_B2.out; omega) (by omega) (by omega)).mono ?_
      rintro r wg30 ⟨rfl, I0, hB⟩
      replace F := F.ofFar hB.toFar (by have := q_BX_BG.out; omega)
      replace I1 := I1.but hB (.inl (by have := q_B1_BG.out; omega))
      replace I2 := I2.but hB (.inl (by have := q_BG_B2.out; omega))
      replace hb := hb.trans (hB.below q_BG.out hb.size)
      clear hB IG
      have IG := I0
      clear I0
      refine hK.out _ _ ?_ (fun hHeld => ?_)
      · exact ⟨F.ce3.2.1, F.ce3.2.2⟩
      clear hK K
      (try dsimp only [Act.put]); (try go_frame)
      refine wpAnyH_ready (rs := [8]) (by kernel_rfl) (by simp) ?_
      refine AllReadyH.cons rfl (fun K hK => ?_) AllReadyH.nil
      go_simp
      have q_BX_B30 : w.heap.size < wg30.heap.size := F.lt
      have q_B1_B30 : B1 < wg30.heap.size := I1.lt
      have q_BG_B30 : BG < wg30.heap.size := IG.lt
      have q_B2_B30 : B2 < wg30.heap.size := I2.lt
      have q_B30 : w.heap.size ≤ wg30.heap.size := hb.size
      refine (hni wg30).mono ?_
      rintro r ww42 ⟨rfl, I3, hB⟩
      replace F := F.keep hB
      replace I1 := I1.below hB
      replace IG := IG.below hB
      replace I2 := I2.below hB
      replace hb := hb.trans (hB.mono hb.size)
      clear hB
      refine hK.out _ _ ?_ (fun hHeld => ?_)
      · exact ⟨F.ce3.2.1, F.ce3.2.2⟩
      clear hK K
      generalize wg30.heap.size = B3 at *
      have q_B3 := Lib.hid q_B30
      clear q_B30
      have q_BX_B3 := Lib.hid q_BX_B30
      clear q_BX_B30
      have q_B1_B3 := Lib.hid q_B1_B30
      clear q_B1_B30
      have q_BG_B3 := Lib.hid q_BG_B30
      clear q_BG_B30
      have q_B2_B3 := Lib.hid q_B2_B30
      clear q_B2_B30
      (try dsimp only [Act.put]); (try go_frame)
      refine wpAnyH_ready (rs := [9]) (by kernel_rfl) (by simp) ?_
      refine AllReadyH.cons rfl (fun K hK => ?_) AllReadyH.nil
      go_simp
      refine (icmp_any BG 0 B3 0 (Nat.gcd n d : Int) 1 ww42 IG I3 (by rw [Int.natAbs_natCast]; exact sG) (by decide)).mono ?_
      rintro r wz ⟨rfl, kz, rfl⟩
      replace hb := Below.drewN' hb kz
      replace F : Blk (ww42.drewN kz) w.heap.size #[.bool N, .string S, .string T] 24 := F
      refine hK.out _ _ ?_ (fun hHeld => ?_)
      · exact ⟨F.ce3.2.1, F.ce3.2.2⟩
      clear hK K IG I1 I2 I3
      (try dsimp only [Act.put]); (try go_frame)
      refine wpAnyH_take (i := 10) (v := _) (by first | (simp only [List.getElem?_toArray, List.getElem?_cons_zero, List.getElem?_cons_succ]; rfl) | rfl) (by kernel_rfl) (by kernel_rfl) (by kernel_rfl) (by exact fun _ _ _ h => h) (Or.inl ⟨by rfl, by (intro w hSw; (try dsimp only at hSw); go_simp; try with_reducible rfl)⟩) (by assumption) ?_
      (try dsimp only [Act.put]); (try go_frame)
      refine wpAnyH_take (i := 11) (v := _) (by first | (simp only [List.getElem?_toArray, List.getElem?_cons_zero, List.getElem?_cons_succ]; rfl) | rfl) (by kernel_rfl) (by kernel_rfl) (by kernel_rfl) (by exact fun _ _ _ h => h) (Or.inl ⟨by rfl, by (intro w hSw; (try dsimp only at hSw); go_simp; try with_reducible rfl)⟩) (by assumption) ?_
      (try dsimp only [Act.put]); (try go_frame)
      refine wpAnyH_done (by kernel_rfl) ?_ _
      try simp only [QCut]
      go_wp2
      go_ret
      exact ⟨by rw [hcmp]; rfl, hb⟩
    · go_simp
      have q_BX_B20 : w.heap.size < ww3.heap.size := F.lt
      have q_B1_B20 : B1 < ww3.heap.size := I1.lt
      have q_B20 : w.heap.size ≤ ww3.heap.size := hb.size
      refine (hw2 ww3).mono ?_
      rintro r ww4 ⟨rfl, I2, hB⟩
      replace F := F.keep hB
      replace I1 := I1.below hB
      replace hb := hb.trans (hB.mono hb.size)
      clear hB
      refine hK.out _ _ ?_ (fun hHeld => ?_)
      · exact ⟨F.ce3.2.1, F.ce3.2.2⟩
      clear hK K
      generalize ww3.heap.size = B2 at *
      have q_B2 := Lib.hid q_B20
      clear q_B20
      have q_BX_B2 := Lib.hid q_BX_B20
      clear q_BX_B20
      have q_B1_B2 := Lib.hid q_B1_B20
      clear q_B1_B20
      (try dsimp only [Act.put]); (try go_frame)
      refine wpAnyH_ready (rs := [0]) (by kernel_rfl) (by simp) ?_
      refine AllReadyH.cons rfl (fun K hK => ?_) AllReadyH.nil
      go_simp
      have IG := IntAt.zero ww4
      have q0 : Hid (w.heap.size ≤ ww4.heap.size) := Lib.hid hb.size
      have q0_BX : Hid (w.heap.size < ww4.heap.size) := Lib.hid F.lt
      have q0_B1 : Hid (B1 < ww4.heap.size) := Lib.hid I1.lt
      have q0_B2 : Hid (B2 < ww4.heap.size) := Lib.hid I2.lt
      replace F := F.allocd (.cells #[.bool false, .slice none 0 0] 70)
      replace I1 := I1.alloc (.cells #[.bool false, .slice none 0 0] 70)
      replace I2 := I2.alloc (.cells #[.bool false, .slice none 0 0] 70)
      replace hb := hb.alloc hb.size (.cells #[.bool false, .slice none 0 0] 70)
      refine hK.out _ _ ?_ (fun hHeld => ?_)
      · exact ⟨F.ce3.2.1, F.ce3.2.2⟩
      clear hK K
      generalize ww4.alloc (.cells #[.bool false, .slice none 0 0] 70) = v11 at *
      generalize ww4.heap.size = BG at *
      have q_BG := q0
      clear q0
      have q_BX_BG := q0_BX
      clear q0_BX
      have q_B1_BG := q0_B1
      clear q0_B1
      have q_B2_BG := q0_B2
      clear q0_B2
      (try dsimp only [Act.put]); (try go_frame)
      refine wpAnyH_ready (rs := [7]) (by kernel_rfl) (by simp) ?_
      refine AllReadyH.cons rfl (fun K hK => ?_) AllReadyH.nil
      go_simp
      refine (gcd_any BG B1 B2 n d v11 IG.room I1 I2 (by have := q_B1_BG.out; omega) (by have := q_B2_BG.out; omega) (by omega) (by omega)).mono ?_
      rintro r wg30 ⟨rfl, I0, hB⟩
      replace F := F.ofFar hB.toFar (by have := q_BX_BG.out; omega)
      replace I1 := I1.but hB (.inl (by have := q_B1_BG.out; omega))
      replace I2 := I2.but hB (.inl (by have := q_B2_BG.out; omega))
      replace hb := hb.trans (hB.below q_BG.out hb.size)
      clear hB IG
      have IG := I0
      clear I0
      refine hK.out _ _ ?_ (fun hHeld => ?_)
      · exact ⟨F.ce3.2.1, F.ce3.2.2⟩
      clear hK K
      (try dsimp only [Act.put]); (try go_frame)
      refine wpAnyH_ready (rs := [8]) (by kernel_rfl) (by simp) ?_
      refine AllReadyH.cons rfl (fun K hK => ?_) AllReadyH.nil
      go_simp
      have q_BX_B30 : w.heap.size < wg30.heap.size := F.lt
      have q_B1_B30 : B1 < wg30.heap.size := I1.lt
      have q_B2_B30 : B2 < wg30.heap.size := I2.lt
      have q_BG_B30 : BG < wg30.heap.size := IG.lt
      have q_B30 : w.heap.size ≤ wg30.heap.size := hb.size
      refine (hni wg30).mono ?_
      rintro r ww42 ⟨rfl, I3, hB⟩
      replace F := F.keep hB
      replace I1 := I1.below hB
      replace I2 := I2.below hB
      replace IG := IG.below hB
      replace hb := hb.trans (hB.mono hb.size)
      clear hB
      refine hK.out _ _ ?_ (fun hHeld => ?_)
      · exact ⟨F.ce3.2.1, F.ce3.2.2⟩
      clear hK K
      generalize wg30.heap.size = B3 at *
      have q_B3 := Lib.hid q_B30
      clear q_B30
      have q_BX_B3 := Lib.hid q_BX_B30
      clear q_BX_B30
      have q_B1_B3 := Lib.hid q_B1_B30
      clear q_B1_B30
      have q_B2_B3 := Lib.hid q_B2_B30
      clear q_B2_B30
      have q_BG_B3 := Lib.hid q_BG_B30
      clear q_BG_B30
      (try dsimp only [Act.put]); (try go_frame)
      refine wpAnyH_ready (rs := [9]) (by kernel_rfl) (by simp) ?_
      refine AllReadyH.cons rfl (fun K hK => ?_) AllReadyH.nil
      go_simp
      refine (icmp_any BG 0 B3 0 (Nat.gcd n d : Int) 1 ww42 IG I3 (by rw [Int.natAbs_natCast]; exact sG) (by decide)).mono ?_
      rintro r wz ⟨rfl, kz, rfl⟩
      replace hb := Below.drewN' hb kz
      replace F : Blk (ww42.drewN kz) w.heap.size #[.bool N, .string S, .string T] 24 := F
      refine hK.out _ _ ?_ (fun hHeld => ?_)
      · exact ⟨F.ce3.2.1, F.ce3.2.2⟩
      clear hK K IG I1 I2 I3
      (try dsimp only [Act.put]); (try go_frame)
      refine wpAnyH_take (i := 10) (v := _) (by first | (simp only [List.getElem?_toArray, List.getElem?_cons_zero, List.getElem?_cons_succ]; rfl) | rfl) (by kernel_rfl) (by kernel_rfl) (by kernel_rfl) (by exact fun _ _ _ h => h) (Or.inl ⟨by rfl, by (intro w hSw; (try dsimp only at hSw); go_simp; try with_reducible rfl)⟩) (by assumption) ?_
      (try dsimp only [Act.put]); (try go_frame)
      refine wpAnyH_take (i := 11) (v := _) (by first | (simp only [List.getElem?_toArray, List.getElem?_cons_zero, List.getElem?_cons_succ]; rfl) | rfl) (by kernel_rfl) (by kernel_rfl) (by kernel_rfl) (by exact fun _ _ _ h => h) (Or.inl ⟨by rfl, by (intro w hSw; (try dsimp only at hSw); go_simp; try with_reducible rfl)⟩) (by assumption) ?_
      (try dsimp only [Act.put]); (try go_frame)
      refine wpAnyH_done (by kernel_rfl) ?_ _
      try simp only [QCut]
      go_wp2
      go_ret
      exact ⟨by rw [hcmp]; rfl, hb⟩

/-- may a ratio be? -/
def kMayB (N : Bool) (S T : ByteArray) : Bool := natB S && natB T && !decide (T.size = 0) && (if S.size = 0 then !N && decide (T.toList = [1]) else (Nat.gcd (nb S.toList) (nb T.toList) == 1))
theorem nb_bstr (x : Nat) : nb (bstr x).toList = x := by rw [bstr_toList, nb_bs]
theorem kmay_any (N : Bool) (S T : ByteArray) (w : World) (fS : S.size ≤ 9223372036854775807) (fT : T.size ≤ 9223372036854775807) :
    Calls Tryz.prog 18 #[.agg #[.bool N, .string S, .string T]] w fun e w' => e = .returned (.bool (kMayB N S T)) ∧ Below w.heap.size w w' := by
  unfold kMayB
  cases hS : natB S
  · exact kmay_1 N S T w fS fT hS
  cases hT : natB T
  · exact kmay_2 N S T w fS fT hS hT
  by_cases h0 : T.size = 0
  · rw [decide_eq_true h0]; exact kmay_3 N S T w fS fT hS hT h0
  rw [decide_eq_false h0]
  obtain ⟨n, rfl, hn⟩ := nat_of_natB hS
  obtain ⟨d, rfl, hd⟩ := nat_of_natB hT
  have hd0 : d ≠ 0 := fun h => h0 (by rw [h, bstr_size, dn_zero])
  obtain ⟨t1, t2⟩ := bstr_ne hd0
  by_cases hn0 : n = 0
  · subst hn0
    rw [if_pos (by rw [bstr_size, dn_zero])]
    exact kmay_4 N _ _ w fS fT hS hT t1 t2 bstr_nil _ rfl
  · rw [if_neg (by rw [bstr_size]; have := dn_pos (k := 8) hn0; omega), nb_bstr, nb_bstr]
    exact kmay_5 N n d w hn hd hn0 hd0
/-- a ratio that may be is a fraction -/
theorem rat_of_may {N : Bool} {S T : ByteArray} (h : kMayB N S T = true) : ∃ x : Rat, Fits x ∧ N = sg x.num ∧ S = bstr x.num.natAbs ∧ T = bstr x.den := by
  unfold kMayB at h
  simp only [Bool.and_eq_true, Bool.not_eq_true', decide_eq_false_iff_not] at h
  obtain ⟨⟨⟨hS, hT⟩, h0⟩, h1⟩ := h
  obtain ⟨n, rfl, hn⟩ := nat_of_natB hS
  obtain ⟨d, rfl, hd⟩ := nat_of_natB hT
  have hd0 : d ≠ 0 := fun h => h0 (by rw [h, bstr_size, dn_zero])
  by_cases hn0 : n = 0
  · subst hn0
    rw [if_pos (by rw [bstr_size, dn_zero]), Bool.and_eq_true, Bool.not_eq_true', decide_eq_true_eq, bstr_eq_one] at h1
    obtain ⟨h1, rfl⟩ := h1
    exact ⟨0, ⟨by decide, by decide⟩, h1, rfl, rfl⟩
  · rw [if_neg (by rw [bstr_size]; have := dn_pos (k := 8) hn0; omega), nb_bstr, nb_bstr, beq_iff_eq] at h1
    obtain ⟨r, r1, r2, r3, r4⟩ := rat_of N n d hd0 h1 (fun h => absurd h hn0)
    exact ⟨r, ⟨by rw [r3]; exact hn, by rw [r2]; exact hd⟩, r4.symm, by rw [r3], by rw [r2]⟩
theorem may_of_rat {x : Rat} (h : Fits x) : kMayB (sg x.num) (bstr x.num.natAbs) (bstr x.den) = true := by
  unfold kMayB
  have hd0 : x.den ≠ 0 := x.den_nz
  rw [natB_bstr h.1, natB_bstr h.2, decide_eq_false (by rw [bstr_size]; have := dn_pos (k := 8) hd0; omega)]
  by_cases hn0 : x.num = 0
  · have hx : x = 0 := Rat.num_eq_zero.1 hn0
    subst hx
    rw [if_pos (show (bstr (Rat.num 0).natAbs).size = 0 by rw [bstr_size]; exact dn_zero 8), decide_eq_true (show (bstr (Rat.den 0)).toList = [1] from bstr_eq_one.2 rfl)]
    rfl
  · rw [if_neg (by rw [bstr_size]; have := dn_pos (k := 8) (x := x.num.natAbs) (by omega); omega), nb_bstr, nb_bstr, reduced']
    rfl
end Go.Proofs.YtbhfnigblhfikaaGreat
