/- ratio.Decimal. -/
import Derived.Test.YtbhfnigblhfikaaGreatJU
namespace Go.Proofs.YtbhfnigblhfikaaGreat
open Go Go.RowKit Go.PlainAid Fil

theorem dn_p5 {x : Nat} (h : x ≤ 5000) : Fil.dn 32 x ≤ 1 := dn_le (by omega) (by omega)
theorem cmp_p5 {p : Nat} (h : p ≤ 5000) : cmpI (p : Int) 5000 ≤ 0 := by unfold cmpI; split; omega; split; omega; omega
theorem ten_le : ∀ m, 10 ^ m < 2 ^ (4 * m + 1)
  | 0 => by decide
  | m + 1 => by
    have := ten_le m
    rw [Nat.pow_succ, show 4 * (m + 1) + 1 = 4 + (4 * m + 1) by omega, Nat.pow_add]
    omega
theorem dn_of_ten {x m N : Nat} (hx : x < 10 ^ m) (h : 4 * m + 1 ≤ 32 * N) : Fil.dn 32 x ≤ N := dn_le (by decide) (Nat.lt_trans hx (Nat.lt_of_lt_of_le (ten_le m) (pmono h)))
theorem dn_ten {m : Nat} (h : m ≤ 10000) : Fil.dn 32 (10 ^ m) ≤ 2000 := dn_of_ten (m := m + 1) (by rw [Nat.pow_succ]; have := Nat.pow_pos (a := 10) (n := m) (by decide); omega) (by omega)
theorem ten_ne (m : Nat) : ((10 ^ m : Nat) : Int) ≠ 0 := by have := Nat.pow_pos (a := 10) (n := m) (by omega); omega
theorem app_data (H T : ByteArray) : (H ++ T).data.toList = H.data.toList ++ T.data.toList := by rw [ByteArray.data_append, Array.toList_append]
theorem dec_app {H T : ByteArray} (h : goodL H.data.toList) (ht : allDec T.data.toList) : allDec (H ++ T).data.toList := by
  rw [app_data]
  intro c hc
  rcases List.mem_append.1 hc with h1 | h1
  · exact h.1 c h1
  · exact ht c h1
theorem dig_app {H T : ByteArray} (h : goodL H.data.toList) (ht : allDec T.data.toList) : ∀ (i : Nat) (h : i < (H ++ T).size), 48 ≤ ((H ++ T)[i]'h).toNat ∧ ((H ++ T)[i]'h).toNat ≤ 57 := fun _ hi =>
  of_decide_eq_true (dec_app h ht _ (byte_get hi ▸ List.getElem_mem _))
theorem dn_hx {H T : ByteArray} (h : goodL H.data.toList) (ht : allDec T.data.toList) (hs : H.size + T.size ≤ 4096) : Fil.dn 32 (dval 0 (H ++ T).data.toList) ≤ 600 := by
  have h1 := dval_lt _ (dec_app h ht)
  have h2 : (H ++ T).data.toList.length ≤ 4096 := by rw [Array.length_toList]; show (H ++ T).size ≤ 4096; rw [ByteArray.size_append]; exact hs
  exact dn_of_ten h1 (by omega)
theorem prod_sz (dn : Bool) {x m : Nat} (h1 : Fil.dn 32 x ≤ 600) (h2 : Fil.dn 32 (10 ^ m) ≤ 2000) : Fil.dn 32 (sz dn x * ((10 ^ m : Nat) : Int)).natAbs ≤ 1099511627000 :=
  Nat.le_trans (dn_mulI (j := 600) (k := 2000) (by rw [sz_abs]; exact h1) (by rw [Int.natAbs_natCast]; exact h2)) (by omega)
theorem szd_pos (dn : Bool) {x m : Nat} (h1 : Fil.dn 32 x ≤ 600) (h2 : Fil.dn 32 (10 ^ m) ≤ 2000) : Szd 100000000000 (Rat.divInt (sz dn x * ((10 ^ m : Nat) : Int)) 1) :=
  Szd.div (by decide) (Nat.le_trans (dn_mulI (j := 600) (k := 2000) (by rw [sz_abs]; exact h1) (by rw [Int.natAbs_natCast]; exact h2)) (by omega)) (by decide)
theorem szd_neg (dn : Bool) {x m : Nat} (h1 : Fil.dn 32 x ≤ 600) (h2 : Fil.dn 32 (10 ^ m) ≤ 2000) : Szd 100000000000 (Rat.divInt (sz dn x) ((10 ^ m : Nat) : Int)) :=
  Szd.div (ten_ne m) (by rw [sz_abs]; omega) (by rw [Int.natAbs_natCast]; omega)

set_option maxRecDepth 1000000 in
set_option maxHeartbeats 8000000 in
theorem kdecimal_Ep (s : ByteArray) (w : World) (dn : Bool) (H T Q : ByteArray) (x m : Nat) (P : Int) (hs : s.size ≤ 4096) (hd : SP s = (⟨dn, false, H, T, Q⟩, true)) (hH : goodL H.data.toList) (hT : allDec T.data.toList) (hsz : H.size + T.size ≤ 4096) (_hqz : Q.size ≤ 4096) (hQ : Q.size = 0) (hP : -(T.size : Int) = P) (hsg : 0 ≤ P) (hm : P.natAbs = m) (hx : dval 0 (H ++ T).data.toList = x) :
    Calls Tryz.prog 11 #[.string s] w fun e w' => e = .returned (kToldV (Rat.divInt (sz dn x * ((10 ^ m : Nat) : Int)) 1)) ∧ Below w.heap.size w w' := by
  have hm9 : m ≤ 10000 := by omega
  have hK := dn_ten (m := m) hm9
  have hxK : Fil.dn 32 x ≤ 600 := by rw [← hx]; exact dn_hx hH hT hsz
  have hpos : 0 < (H ++ T).size := by rw [ByteArray.size_append]; have := good_pos hH; omega
  have hle : (H ++ T).size ≤ 1000000 := by rw [ByteArray.size_append]; omega
  have hdg := dig_app hH hT
  have hcc : (H ++ T).size = H.size + T.size := ByteArray.size_append
  have htd := fun W B (R : RatAt W B (Rat.divInt (sz dn x * ((10 ^ m : Nat) : Int)) 1)) => ktold_any B (Rat.divInt (sz dn x * ((10 ^ m : Nat) : Int)) 1) W R (szd_pos dn hxK hK)
  obtain ⟨tn, tS, tT, te, hV⟩ := kTold_parts (Rat.divInt (sz dn x * ((10 ^ m : Nat) : Int)) 1)
  rw [hV] at htd ⊢
  have hss := fun W B R => setstring_any B (H ++ T) W R hpos hle hdg
  have edv : dvt (H ++ T) (H ++ T).size = x := by rw [dvt_size]; exact hx
  rw [edv] at hss
  have hmx : max P (-P) = (m : Int) := by omega
  have HD := Lib.hid hd
  have HX := Lib.hid (And.intro hxK hK)
  have hqe : Q.toList = [] := str_nil hQ
  clear hQ
  clear hd hH hT hx edv hV hdg hpos hm hxK hK hcc
  have ts : decide ((4096 : Int) < (s.size : Int)) = false := decide_eq_false (by omega)
  have hT2 : T.size ≤ 4096 := by omega
  have hH2 : H.size ≤ 4096 := by omega
  have Z := Blk.put w #[.bool false, .string { data := #[] }, .string { data := #[] }] 24
  have hb := (Below.refl w.heap.size w).alloc (Nat.le_refl _) (.cells #[.bool false, .string { data := #[] }, .string { data := #[] }] 24)
  go_enter Tryz.func11, Tryz.ntmps11
  go_wp2_with fail
  refine (ksplit_as s dn false H T Q true _ (by omega) HD.out).mono ?_
  rintro e w1 ⟨rfl, hB⟩
  replace Z := Z.keep hB
  replace hb := hb.trans (hB.mono hb.size)
  clear hB
  have lz := Z.lt
  have F := Blk.put w1 #[.bool dn, .bool false, .string H, .string T, .string Q] 61
  replace Z := Z.allocd (.cells #[.bool dn, .bool false, .string H, .string T, .string Q] 61)
  replace hb := hb.alloc hb.size (.cells #[.bool dn, .bool false, .string H, .string T, .string Q] 61)
  have lF := F.lt
  obtain ⟨c0, c1, c2, c3, c4⟩ := Blk.ce5 F
  go_upto_region 12 with fail
  generalize w1.alloc (.cells #[.bool dn, .bool false, .string H, .string T, .string Q] 61) = w4 at *
  have R9 := Room.new w4 70 #[.bool false, .slice none 0 0] (o := 0) (by decide) (by simp)
  have lw4 : w1.heap.size < w4.heap.size := F.lt
  replace Z := Z.allocd (.cells #[.bool false, .slice none 0 0] 70)
  replace F := F.allocd (.cells #[.bool false, .slice none 0 0] 70)
  replace hb := hb.alloc hb.size (.cells #[.bool false, .slice none 0 0] 70)
  obtain ⟨e0, e1, e2, e3, e4⟩ := Blk.ce5 F
  go_wp2_with fail
  refine (hss _ w4.heap.size R9).mono ?_
  rintro e w6 ⟨rfl, I9, hB⟩
  have la : w4.heap.size < (w4.alloc (.cells #[.bool false, .slice none 0 0] 70)).heap.size := by simp
  generalize hv4 : w4.alloc (.cells #[.bool false, .slice none 0 0] 70) = v4 at *
  clear R9 hv4
  clear c0 c1 c2 c3 c4
  clear e0 e1 e2 e3 e4
  replace Z := Z.ofFar hB.toFar (by omega)
  replace F := F.ofFar hB.toFar (by omega)
  replace hb := hb.trans (hB.below (by omega) hb.size)
  clear hB
  have l9 := I9.lt
  have R11 := Room.new w6 70 #[.bool false, .slice none 0 0] (o := 0) (by decide) (by simp)
  replace Z := Z.allocd (.cells #[.bool false, .slice none 0 0] 70)
  replace F := F.allocd (.cells #[.bool false, .slice none 0 0] 70)
  replace I9 := I9.alloc (.cells #[.bool false, .slice none 0 0] 70)
  replace hb := hb.alloc hb.size (.cells #[.bool false, .slice none 0 0] 70)
  obtain ⟨c0, c1, c2, c3, c4⟩ := Blk.ce5 F
  have lb : w6.heap.size < (w6.alloc (.cells #[.bool false, .slice none 0 0] 70)).heap.size := by simp
  generalize hv6 : w6.alloc (.cells #[.bool false, .slice none 0 0] 70) = v6 at *
  go_wp2_with fail

  refine (newint_any 10 _ (by decide) (by decide)).mono ?_
  rintro e w7 ⟨rfl, I10, hB⟩
  clear hv6
  clear c0 c1 c2 c3 c4
  replace Z := Z.keep hB
  replace F := F.keep hB
  replace I9 := I9.below hB
  replace R11 := R11.below hB
  replace hb := hb.trans (hB.mono hb.size)
  clear hB
  obtain ⟨c0, c1, c2, c3, c4⟩ := Blk.ce5 F
  have l10 := I10.lt
  go_wp2_with fail
  refine (newint_any m _ (by omega) (by omega)).mono ?_
  rintro e w8 ⟨rfl, I12, hB⟩
  clear c0 c1 c2 c3 c4
  replace Z := Z.keep hB
  replace F := F.keep hB
  replace I9 := I9.below hB
  replace R11 := R11.below hB
  replace I10 := I10.below hB
  replace hb := hb.trans (hB.mono hb.size)
  clear hB
  have l12 := I12.lt
  go_wp2_with fail
  refine (exp_any w6.heap.size 0 v6.heap.size 0 w7.heap.size 0 10 m 2000 none _ R11 I10 I12 (by omega) (by omega) HX.out.2 (Nat.le_trans (dn_p5 (x := 10) (by decide)) (by decide)) (by omega)).mono ?_
  rintro e w9 ⟨rfl, I11, hB⟩
  clear R11 I10 I12
  replace Z := Z.ofFar hB.toFar (by omega)
  replace F := F.ofFar hB.toFar (by omega)
  replace I9 := I9.but hB (.inl (by omega))
  replace hb := hb.trans (hB.below (by omega) hb.size)
  clear hB
  have l11 := I11.lt
  obtain ⟨c0, c1, c2, c3, c4⟩ := Blk.ce5 F
  cases dn
  · have J9 : IntAt w9 w4.heap.size 0 (sz false x) := I9
    clear I9
    have lW := I11.lt
    have RR := RRoom.new w9
    replace Z := Z.allocd (.cells #[.bool false, .slice none 0 0, .bool false, .slice none 0 0] 77)
    replace J9 := J9.alloc (.cells #[.bool false, .slice none 0 0, .bool false, .slice none 0 0] 77)
    replace I11 := I11.alloc (.cells #[.bool false, .slice none 0 0, .bool false, .slice none 0 0] 77)
    replace hb := hb.alloc hb.size (.cells #[.bool false, .slice none 0 0, .bool false, .slice none 0 0] 77)
    have lV : w9.heap.size < (w9.alloc (.cells #[.bool false, .slice none 0 0, .bool false, .slice none 0 0] 77)).heap.size := by simp
    go_wp2_with fail
    refine (mul_any w4.heap.size 0 w4.heap.size 0 w6.heap.size 0 (sz false x) ((10 ^ m : Nat) : Int) _ J9.room J9 I11 (by rw [sz_abs]; have := HX.out.1; omega) (by rw [Int.natAbs_natCast]; have := HX.out.2; omega)).mono ?_
    rintro e w11 ⟨rfl, K9, hB⟩
    generalize w9.alloc (.cells #[.bool false, .slice none 0 0, .bool false, .slice none 0 0] 77) = vW at *
    replace Z := Z.ofFar hB.toFar (by omega)
    replace RR := RR.but hB (by omega)
    replace hb := hb.trans (hB.below (by omega) hb.size)
    have lW11 := hB.size
    clear hB J9 I11
    go_wp2_with fail
    refine (ratsetint_any w9.heap.size w4.heap.size _ w11 RR K9 (by omega) (prod_sz false HX.out.1 HX.out.2)).mono ?_
    rintro e w12 ⟨rfl, RA, hF⟩
    replace Z := Z.ofFar hF (by omega)
    replace hb := hb.trans (hF.below (by omega) hb.size)
    clear hF RR K9
    go_wp2_with fail
    refine (htd _ _ RA).mono ?_
    rintro e w13 ⟨rfl, hB⟩
    replace Z := Z.keep hB
    replace hb := hb.trans (hB.mono hb.size)
    clear hB RA htd
    obtain ⟨zf0, zf1, zf2⟩ := Z.fr3
    obtain ⟨z0, z1, z2⟩ := Z.ce3
    have G0 : Blk (((w13.setCell ⟨w.heap.size, 0, none⟩ (.bool tn)).setCell ⟨w.heap.size, 1, none⟩ (.string tS)).setCell ⟨w.heap.size, 2, none⟩ (.string tT)) w.heap.size #[.bool tn, .string tS, .string tT] 24 := ((Z.setAt 0 _).setAt 1 _).setAt 2 _
    obtain ⟨g0, g1, g2⟩ := G0.ce3
    have hbY := ((hb.setCell (p := ⟨w.heap.size, 0, none⟩) (Nat.le_refl _) (.bool tn)).setCell (p := ⟨w.heap.size, 1, none⟩) (Nat.le_refl _) (.string tS)).setCell (p := ⟨w.heap.size, 2, none⟩) (Nat.le_refl _) (.string tT)
    have HG := Lib.hid (And.intro (And.intro g0 (And.intro g1 g2)) hbY)
    clear g0 g1 g2 hbY G0 Z hb
    go_wp2
    obtain ⟨⟨g0, g1, g2⟩, hbY⟩ := HG.out
    exact bodyPost_ret (v := .tuple #[.agg #[.bool tn, .string tS, .string tT], .int .i64 te]) (by simp [results, Tryz.results11, go_sem, g0, g1, g2]) rfl ⟨rfl, hbY⟩
  · go_wp2_with fail
    refine (neg_any w4.heap.size 0 w4.heap.size 0 (x : Int) _ I9.room I9 (by rw [Int.natAbs_natCast]; have := HX.out.1; omega)).mono ?_
    rintro e w10 ⟨rfl, J9, hB⟩
    replace J9 : IntAt w10 w4.heap.size 0 (sz true x) := J9
    replace I11 := I11.but hB (.inl (by omega))
    replace Z := Z.ofFar hB.toFar (by omega)
    replace hb := hb.trans (hB.below (by omega) hb.size)
    clear hB I9 F
    clear c0 c1 c2 c3 c4
    have lW := I11.lt
    have RR := RRoom.new w10
    replace Z := Z.allocd (.cells #[.bool false, .slice none 0 0, .bool false, .slice none 0 0] 77)
    replace J9 := J9.alloc (.cells #[.bool false, .slice none 0 0, .bool false, .slice none 0 0] 77)
    replace I11 := I11.alloc (.cells #[.bool false, .slice none 0 0, .bool false, .slice none 0 0] 77)
    replace hb := hb.alloc hb.size (.cells #[.bool false, .slice none 0 0, .bool false, .slice none 0 0] 77)
    have lV : w10.heap.size < (w10.alloc (.cells #[.bool false, .slice none 0 0, .bool false, .slice none 0 0] 77)).heap.size := by simp
    go_wp2_with fail
    refine (mul_any w4.heap.size 0 w4.heap.size 0 w6.heap.size 0 (sz true x) ((10 ^ m : Nat) : Int) _ J9.room J9 I11 (by rw [sz_abs]; have := HX.out.1; omega) (by rw [Int.natAbs_natCast]; have := HX.out.2; omega)).mono ?_
    rintro e w11 ⟨rfl, K9, hB⟩
    generalize w10.alloc (.cells #[.bool false, .slice none 0 0, .bool false, .slice none 0 0] 77) = vW at *
    replace Z := Z.ofFar hB.toFar (by omega)
    replace RR := RR.but hB (by omega)
    replace hb := hb.trans (hB.below (by omega) hb.size)
    have lW11 := hB.size
    clear hB J9 I11
    go_wp2_with fail
    refine (ratsetint_any w10.heap.size w4.heap.size _ w11 RR K9 (by omega) (prod_sz true HX.out.1 HX.out.2)).mono ?_
    rintro e w12 ⟨rfl, RA, hF⟩
    replace Z := Z.ofFar hF (by omega)
    replace hb := hb.trans (hF.below (by omega) hb.size)
    clear hF RR K9
    go_wp2_with fail
    refine (htd _ _ RA).mono ?_
    rintro e w13 ⟨rfl, hB⟩
    replace Z := Z.keep hB
    replace hb := hb.trans (hB.mono hb.size)
    clear hB RA htd
    obtain ⟨zf0, zf1, zf2⟩ := Z.fr3
    obtain ⟨z0, z1, z2⟩ := Z.ce3
    have G0 : Blk (((w13.setCell ⟨w.heap.size, 0, none⟩ (.bool tn)).setCell ⟨w.heap.size, 1, none⟩ (.string tS)).setCell ⟨w.heap.size, 2, none⟩ (.string tT)) w.heap.size #[.bool tn, .string tS, .string tT] 24 := ((Z.setAt 0 _).setAt 1 _).setAt 2 _
    obtain ⟨g0, g1, g2⟩ := G0.ce3
    have hbY := ((hb.setCell (p := ⟨w.heap.size, 0, none⟩) (Nat.le_refl _) (.bool tn)).setCell (p := ⟨w.heap.size, 1, none⟩) (Nat.le_refl _) (.string tS)).setCell (p := ⟨w.heap.size, 2, none⟩) (Nat.le_refl _) (.string tT)
    have HG := Lib.hid (And.intro (And.intro g0 (And.intro g1 g2)) hbY)
    clear g0 g1 g2 hbY G0 Z hb
    go_wp2
    obtain ⟨⟨g0, g1, g2⟩, hbY⟩ := HG.out
    exact bodyPost_ret (v := .tuple #[.agg #[.bool tn, .string tS, .string tT], .int .i64 te]) (by simp [results, Tryz.results11, go_sem, g0, g1, g2]) rfl ⟨rfl, hbY⟩

set_option maxRecDepth 1000000 in
set_option maxHeartbeats 8000000 in
theorem kdecimal_En (s : ByteArray) (w : World) (dn : Bool) (H T Q : ByteArray) (x m : Nat) (P : Int) (hs : s.size ≤ 4096) (hd : SP s = (⟨dn, false, H, T, Q⟩, true)) (hH : goodL H.data.toList) (hT : allDec T.data.toList) (hsz : H.size + T.size ≤ 4096) (_hqz : Q.size ≤ 4096) (hQ : Q.size = 0) (hP : -(T.size : Int) = P) (hsg : P < 0) (hm : P.natAbs = m) (hx : dval 0 (H ++ T).data.toList = x) :
    Calls Tryz.prog 11 #[.string s] w fun e w' => e = .returned (kToldV (Rat.divInt (sz dn x) ((10 ^ m : Nat) : Int))) ∧ Below w.heap.size w w' := by
  have hm9 : m ≤ 10000 := by omega
  have hK := dn_ten (m := m) hm9
  have hxK : Fil.dn 32 x ≤ 600 := by rw [← hx]; exact dn_hx hH hT hsz
  have hpos : 0 < (H ++ T).size := by rw [ByteArray.size_append]; have := good_pos hH; omega
  have hle : (H ++ T).size ≤ 1000000 := by rw [ByteArray.size_append]; omega
  have hdg := dig_app hH hT
  have hcc : (H ++ T).size = H.size + T.size := ByteArray.size_append
  have htd := fun W B (R : RatAt W B (Rat.divInt (sz dn x) ((10 ^ m : Nat) : Int))) => ktold_any B (Rat.divInt (sz dn x) ((10 ^ m : Nat) : Int)) W R (szd_neg dn hxK hK)
  obtain ⟨tn, tS, tT, te, hV⟩ := kTold_parts (Rat.divInt (sz dn x) ((10 ^ m : Nat) : Int))
  rw [hV] at htd ⊢
  have hss := fun W B R => setstring_any B (H ++ T) W R hpos hle hdg
  have edv : dvt (H ++ T) (H ++ T).size = x := by rw [dvt_size]; exact hx
  rw [edv] at hss
  have hmx : max P (-P) = (m : Int) := by omega
  have HD := Lib.hid hd
  have HX := Lib.hid (And.intro hxK hK)
  have hqe : Q.toList = [] := str_nil hQ
  clear hQ
  clear hd hH hT hx edv hV hdg hpos hm hxK hK hcc
  have ts : decide ((4096 : Int) < (s.size : Int)) = false := decide_eq_false (by omega)
  have hT2 : T.size ≤ 4096 := by omega
  have hH2 : H.size ≤ 4096 := by omega
  have Z := Blk.put w #[.bool false, .string { data := #[] }, .string { data := #[] }] 24
  have hb := (Below.refl w.heap.size w).alloc (Nat.le_refl _) (.cells #[.bool false, .string { data := #[] }, .string { data := #[] }] 24)
  go_enter Tryz.func11, Tryz.ntmps11
  go_wp2_with fail
  refine (ksplit_as s dn false H T Q true _ (by omega) HD.out).mono ?_
  rintro e w1 ⟨rfl, hB⟩
  replace Z := Z.keep hB
  replace hb := hb.trans (hB.mono hb.size)
  clear hB
  have lz := Z.lt
  have F := Blk.put w1 #[.bool dn, .bool false, .string H, .string T, .string Q] 61
  replace Z := Z.allocd (.cells #[.bool dn, .bool false, .string H, .string T, .string Q] 61)
  replace hb := hb.alloc hb.size (.cells #[.bool dn, .bool false, .string H, .string T, .string Q] 61)
  have lF := F.lt
  obtain ⟨c0, c1, c2, c3, c4⟩ := Blk.ce5 F
  go_upto_region 12 with fail
  generalize w1.alloc (.cells #[.bool dn, .bool false, .string H, .string T, .string Q] 61) = w4 at *
  have R9 := Room.new w4 70 #[.bool false, .slice none 0 0] (o := 0) (by decide) (by simp)
  have lw4 : w1.heap.size < w4.heap.size := F.lt
  replace Z := Z.allocd (.cells #[.bool false, .slice none 0 0] 70)
  replace F := F.allocd (.cells #[.bool false, .slice none 0 0] 70)
  replace hb := hb.alloc hb.size (.cells #[.bool false, .slice none 0 0] 70)
  obtain ⟨e0, e1, e2, e3, e4⟩ := Blk.ce5 F
  go_wp2_with fail
  refine (hss _ w4.heap.size R9).mono ?_
  rintro e w6 ⟨rfl, I9, hB⟩
  have la : w4.heap.size < (w4.alloc (.cells #[.bool false, .slice none 0 0] 70)).heap.size := by simp
  generalize hv4 : w4.alloc (.cells #[.bool false, .slice none 0 0] 70) = v4 at *
  clear R9 hv4
  clear c0 c1 c2 c3 c4
  clear e0 e1 e2 e3 e4
  replace Z := Z.ofFar hB.toFar (by omega)
  replace F := F.ofFar hB.toFar (by omega)
  replace hb := hb.trans (hB.below (by omega) hb.size)
  clear hB
  have l9 := I9.lt
  have R11 := Room.new w6 70 #[.bool false, .slice none 0 0] (o := 0) (by decide) (by simp)
  replace Z := Z.allocd (.cells #[.bool false, .slice none 0 0] 70)
  replace F := F.allocd (.cells #[.bool false, .slice none 0 0] 70)
  replace I9 := I9.alloc (.cells #[.bool false, .slice none 0 0] 70)
  replace hb := hb.alloc hb.size (.cells #[.bool false, .slice none 0 0] 70)
  obtain ⟨c0, c1, c2, c3, c4⟩ := Blk.ce5 F
  have lb : w6.heap.size < (w6.alloc (.cells #[.bool false, .slice none 0 0] 70)).heap.size := by simp
  generalize hv6 : w6.alloc (.cells #[.bool false, .slice none 0 0] 70) = v6 at *
  go_wp2_with fail

  refine (newint_any 10 _ (by decide) (by decide)).mono ?_
  rintro e w7 ⟨rfl, I10, hB⟩
  clear hv6
  clear c0 c1 c2 c3 c4
  replace Z := Z.keep hB
  replace F := F.keep hB
  replace I9 := I9.below hB
  replace R11 := R11.below hB
  replace hb := hb.trans (hB.mono hb.size)
  clear hB
  obtain ⟨c0, c1, c2, c3, c4⟩ := Blk.ce5 F
  have l10 := I10.lt
  go_wp2_with fail
  refine (newint_any m _ (by omega) (by omega)).mono ?_
  rintro e w8 ⟨rfl, I12, hB⟩
  clear c0 c1 c2 c3 c4
  replace Z := Z.keep hB
  replace F := F.keep hB
  replace I9 := I9.below hB
  replace R11 := R11.below hB
  replace I10 := I10.below hB
  replace hb := hb.trans (hB.mono hb.size)
  clear hB
  have l12 := I12.lt
  go_wp2_with fail
  refine (exp_any w6.heap.size 0 v6.heap.size 0 w7.heap.size 0 10 m 2000 none _ R11 I10 I12 (by omega) (by omega) HX.out.2 (Nat.le_trans (dn_p5 (x := 10) (by decide)) (by decide)) (by omega)).mono ?_
  rintro e w9 ⟨rfl, I11, hB⟩
  clear R11 I10 I12
  replace Z := Z.ofFar hB.toFar (by omega)
  replace F := F.ofFar hB.toFar (by omega)
  replace I9 := I9.but hB (.inl (by omega))
  replace hb := hb.trans (hB.below (by omega) hb.size)
  clear hB
  have l11 := I11.lt
  obtain ⟨c0, c1, c2, c3, c4⟩ := Blk.ce5 F
  cases dn
  · have J9 : IntAt w9 w4.heap.size 0 (sz false x) := I9
    clear I9
    have lW := I11.lt
    have RR := RRoom.new w9
    replace Z := Z.allocd (.cells #[.bool false, .slice none 0 0, .bool false, .slice none 0 0] 77)
    replace J9 := J9.alloc (.cells #[.bool false, .slice none 0 0, .bool false, .slice none 0 0] 77)
    replace I11 := I11.alloc (.cells #[.bool false, .slice none 0 0, .bool false, .slice none 0 0] 77)
    replace hb := hb.alloc hb.size (.cells #[.bool false, .slice none 0 0, .bool false, .slice none 0 0] 77)
    have lV : w9.heap.size < (w9.alloc (.cells #[.bool false, .slice none 0 0, .bool false, .slice none 0 0] 77)).heap.size := by simp
    go_wp2_with fail
    refine (ratsetfrac_any w9.heap.size w4.heap.size w6.heap.size (sz false x) ((10 ^ m : Nat) : Int) _ RR J9 I11 (by omega) (by omega) (ten_ne m) (by rw [sz_abs]; have := HX.out.1; omega) (by rw [Int.natAbs_natCast]; have := HX.out.2; omega)).mono ?_
    rintro e w12 ⟨rfl, RA, hF⟩
    generalize w9.alloc (.cells #[.bool false, .slice none 0 0, .bool false, .slice none 0 0] 77) = vW at *
    replace Z := Z.ofFar hF (by omega)
    replace hb := hb.trans (hF.below (by omega) hb.size)
    clear hF RR J9 I11
    go_wp2_with fail
    refine (htd _ _ RA).mono ?_
    rintro e w13 ⟨rfl, hB⟩
    replace Z := Z.keep hB
    replace hb := hb.trans (hB.mono hb.size)
    clear hB RA htd
    obtain ⟨zf0, zf1, zf2⟩ := Z.fr3
    obtain ⟨z0, z1, z2⟩ := Z.ce3
    have G0 : Blk (((w13.setCell ⟨w.heap.size, 0, none⟩ (.bool tn)).setCell ⟨w.heap.size, 1, none⟩ (.string tS)).setCell ⟨w.heap.size, 2, none⟩ (.string tT)) w.heap.size #[.bool tn, .string tS, .string tT] 24 := ((Z.setAt 0 _).setAt 1 _).setAt 2 _
    obtain ⟨g0, g1, g2⟩ := G0.ce3
    have hbY := ((hb.setCell (p := ⟨w.heap.size, 0, none⟩) (Nat.le_refl _) (.bool tn)).setCell (p := ⟨w.heap.size, 1, none⟩) (Nat.le_refl _) (.string tS)).setCell (p := ⟨w.heap.size, 2, none⟩) (Nat.le_refl _) (.string tT)
    have HG := Lib.hid (And.intro (And.intro g0 (And.intro g1 g2)) hbY)
    clear g0 g1 g2 hbY G0 Z hb
    go_wp2
    obtain ⟨⟨g0, g1, g2⟩, hbY⟩ := HG.out
    exact bodyPost_ret (v := .tuple #[.agg #[.bool tn, .string tS, .string tT], .int .i64 te]) (by simp [results, Tryz.results11, go_sem, g0, g1, g2]) rfl ⟨rfl, hbY⟩
  · go_wp2_with fail
    refine (neg_any w4.heap.size 0 w4.heap.size 0 (x : Int) _ I9.room I9 (by rw [Int.natAbs_natCast]; have := HX.out.1; omega)).mono ?_
    rintro e w10 ⟨rfl, J9, hB⟩
    replace J9 : IntAt w10 w4.heap.size 0 (sz true x) := J9
    replace I11 := I11.but hB (.inl (by omega))
    replace Z := Z.ofFar hB.toFar (by omega)
    replace hb := hb.trans (hB.below (by omega) hb.size)
    clear hB I9 F
    clear c0 c1 c2 c3 c4
    have lW := I11.lt
    have RR := RRoom.new w10
    replace Z := Z.allocd (.cells #[.bool false, .slice none 0 0, .bool false, .slice none 0 0] 77)
    replace J9 := J9.alloc (.cells #[.bool false, .slice none 0 0, .bool false, .slice none 0 0] 77)
    replace I11 := I11.alloc (.cells #[.bool false, .slice none 0 0, .bool false, .slice none 0 0] 77)
    replace hb := hb.alloc hb.size (.cells #[.bool false, .slice none 0 0, .bool false, .slice none 0 0] 77)
    have lV : w10.heap.size < (w10.alloc (.cells #[.bool false, .slice none 0 0, .bool false, .slice none 0 0] 77)).heap.size := by simp
    go_wp2_with fail
    refine (ratsetfrac_any w10.heap.size w4.heap.size w6.heap.size (sz true x) ((10 ^ m : Nat) : Int) _ RR J9 I11 (by omega) (by omega) (ten_ne m) (by rw [sz_abs]; have := HX.out.1; omega) (by rw [Int.natAbs_natCast]; have := HX.out.2; omega)).mono ?_
    rintro e w12 ⟨rfl, RA, hF⟩
    generalize w10.alloc (.cells #[.bool false, .slice none 0 0, .bool false, .slice none 0 0] 77) = vW at *
    replace Z := Z.ofFar hF (by omega)
    replace hb := hb.trans (hF.below (by omega) hb.size)
    clear hF RR J9 I11
    go_wp2_with fail
    refine (htd _ _ RA).mono ?_
    rintro e w13 ⟨rfl, hB⟩
    replace Z := Z.keep hB
    replace hb := hb.trans (hB.mono hb.size)
    clear hB RA htd
    obtain ⟨zf0, zf1, zf2⟩ := Z.fr3
    obtain ⟨z0, z1, z2⟩ := Z.ce3
    have G0 : Blk (((w13.setCell ⟨w.heap.size, 0, none⟩ (.bool tn)).setCell ⟨w.heap.size, 1, none⟩ (.string tS)).setCell ⟨w.heap.size, 2, none⟩ (.string tT)) w.heap.size #[.bool tn, .string tS, .string tT] 24 := ((Z.setAt 0 _).setAt 1 _).setAt 2 _
    obtain ⟨g0, g1, g2⟩ := G0.ce3
    have hbY := ((hb.setCell (p := ⟨w.heap.size, 0, none⟩) (Nat.le_refl _) (.bool tn)).setCell (p := ⟨w.heap.size, 1, none⟩) (Nat.le_refl _) (.string tS)).setCell (p := ⟨w.heap.size, 2, none⟩) (Nat.le_refl _) (.string tT)
    have HG := Lib.hid (And.intro (And.intro g0 (And.intro g1 g2)) hbY)
    clear g0 g1 g2 hbY G0 Z hb
    go_wp2
    obtain ⟨⟨g0, g1, g2⟩, hbY⟩ := HG.out
    exact bodyPost_ret (v := .tuple #[.agg #[.bool tn, .string tS, .string tT], .int .i64 te]) (by simp [results, Tryz.results11, go_sem, g0, g1, g2]) rfl ⟨rfl, hbY⟩

end Go.Proofs.YtbhfnigblhfikaaGreat
