/- ratio.Text of what may not be; ratio.Read, its ways. -/
import Derived.Test.YtbfnafcpjbdbpaaKf
import Derived.Test.YtbfnafcpjbdbpaaKd
namespace Go.Proofs.Ytbfnafcpjbdbpaa
open Go Go.RowKit Go.PlainAid Fil

set_option maxRecDepth 100000 in
set_option maxHeartbeats 2000000 in
theorem ktext_bad (N : Bool) (S T : ByteArray) (w : World) (fS : S.size ≤ 9223372036854775807) (fT : T.size ≤ 9223372036854775807) (hm : kMayB N S T = false) :
    Calls Try.prog 16 #[.agg #[.bool N, .string S, .string T]] w fun e w' => e = .returned (.tuple #[.string ⟨#[]⟩, .int .i64 2]) ∧ Below w.heap.size w w' := by
  have hm1 := fun W => kmay_any N S T W fS fT
  rw [hm] at hm1
  clear hm
  have hb := Below.refl w.heap.size w
  go_enter Try.func16, Try.ntmps16
  have F := Blk.put w #[.bool N, .string S, .string T] 25
  replace hb := hb.alloc hb.size (.cells #[.bool N, .string S, .string T] 25)
  obtain ⟨x0, x1, x2⟩ := F.ce3
  go_wp2_with fail
  refine (hm1 _).mono ?_
  rintro r w1 ⟨rfl, hB⟩
  replace hb := hb.trans (hB.mono hb.size)
  clear x0 x1 x2 hB hm1 F
  go_wp2_with fail
  go_ret2
  exact ⟨rfl, hb⟩
set_option maxRecDepth 1000000 in
set_option maxHeartbeats 2000000 in
theorem kread_long (s : ByteArray) (w : World) (hs : 80000 < s.size) (hs2 : s.size ≤ 9223372036854775807) :
    Calls Try.prog 17 #[.string s] w fun e w' => e = .returned (errV 4) ∧ Below w.heap.size w w' := by
  have ts : decide ((80000 : Int) < (s.size : Int)) = true := decide_eq_true (by omega)
  have Z := Blk.put w #[.bool false, .string { data := #[] }, .string { data := #[] }] 25
  have hb := (Below.refl w.heap.size w).alloc (Nat.le_refl _) (.cells #[.bool false, .string { data := #[] }, .string { data := #[] }] 25)
  go_enter Try.func17, Try.ntmps17
  have HB := Lib.hid hb
  clear hb Z
  go_wp2
  exact bodyPost_ret (v := errV 4) (by simp [results, errV, Try.results17, go_sem]) rfl ⟨rfl, HB.out⟩
set_option maxRecDepth 1000000 in
set_option maxHeartbeats 4000000 in
theorem kread_ta (s rest a b : ByteArray) (ng : Bool) (w : World) (hs : s.size ≤ 80000) (hsa : a.size ≤ 1000000) (hsb : b.size ≤ 1000000) (hc1 : ∀ W, Calls Try.prog 39 #[.string s, .string ⟨#[45]⟩] W fun e w' => e = .returned (.tuple #[.string rest, .bool ng]) ∧ W = w') (hc2 : ∀ W, Calls Try.prog 40 #[.string rest, .string ⟨#[47]⟩] W fun e w' => e = .returned (.tuple #[.string a, .string b, .bool true]) ∧ Below W.heap.size W w') (ha : ¬ goodL a.data.toList) :
    Calls Try.prog 17 #[.string s] w fun e w' => e = .returned (errV 40) ∧ Below w.heap.size w w' := by
  have ts : decide ((80000 : Int) < (s.size : Int)) = false := decide_eq_false (by omega)
  have HA := Lib.hid ha
  clear ha
  have Z := Blk.put w #[.bool false, .string { data := #[] }, .string { data := #[] }] 25
  have hb := (Below.refl w.heap.size w).alloc (Nat.le_refl _) (.cells #[.bool false, .string { data := #[] }, .string { data := #[] }] 25)
  go_enter Try.func17, Try.ntmps17
  go_wp2_with fail
  refine (hc1 _).mono ?_
  rintro e w1 ⟨rfl, hw⟩
  generalize w.alloc (.cells #[.bool false, .string { data := #[] }, .string { data := #[] }] 25) = w0 at *
  subst hw
  clear hc1
  go_wp2_with fail
  refine (hc2 _).mono ?_
  rintro e w2 ⟨rfl, hB⟩
  replace Z := Z.keep hB
  replace hb := hb.trans (hB.mono hb.size)
  clear hB hc2
  go_wp2_with fail
  refine (kdigits_bad a _ hsa HA.out).mono ?_
  rintro e w3 ⟨rfl, hB⟩
  replace Z := Z.keep hB
  replace hb := hb.trans (hB.mono hb.size)
  clear hB
  go_wp2_with fail
  refine (kdigits_ok b _ hsb).mono ?_
  rintro e w4 ⟨p, rfl, hB⟩
  replace Z := Z.keep hB
  replace hb := hb.trans (hB.mono hb.size)
  clear hB
  obtain ⟨zf0, zf1, zf2⟩ := Z.fr3
  obtain ⟨z0, z1, z2⟩ := Z.ce3
  have G0 : Blk (((w4.setCell ⟨w.heap.size, 0, none⟩ (.bool false)).setCell ⟨w.heap.size, 1, none⟩ (.string ⟨#[]⟩)).setCell ⟨w.heap.size, 2, none⟩ (.string ⟨#[]⟩)) w.heap.size #[.bool false, .string ⟨#[]⟩, .string ⟨#[]⟩] 25 := ((Z.setAt 0 _).setAt 1 _).setAt 2 _
  obtain ⟨g0, g1, g2⟩ := G0.ce3
  have hbY := ((hb.setCell (p := ⟨w.heap.size, 0, none⟩) (Nat.le_refl _) (.bool false)).setCell (p := ⟨w.heap.size, 1, none⟩) (Nat.le_refl _) (.string ⟨#[]⟩)).setCell (p := ⟨w.heap.size, 2, none⟩) (Nat.le_refl _) (.string ⟨#[]⟩)
  have HG := Lib.hid (And.intro (And.intro g0 (And.intro g1 g2)) hbY)
  clear g0 g1 g2 hbY G0 Z hb
  go_wp2
  obtain ⟨⟨g0, g1, g2⟩, hbY⟩ := HG.out
  exact bodyPost_ret (v := errV 40) (by simp [results, errV, Try.results17, go_sem, g0, g1, g2]) rfl ⟨rfl, hbY⟩

set_option maxRecDepth 1000000 in
set_option maxHeartbeats 4000000 in
theorem kread_tb (s rest a b : ByteArray) (ng : Bool) (w : World) (hs : s.size ≤ 80000) (hsa : a.size ≤ 1000000) (hsb : b.size ≤ 1000000) (hc1 : ∀ W, Calls Try.prog 39 #[.string s, .string ⟨#[45]⟩] W fun e w' => e = .returned (.tuple #[.string rest, .bool ng]) ∧ W = w') (hc2 : ∀ W, Calls Try.prog 40 #[.string rest, .string ⟨#[47]⟩] W fun e w' => e = .returned (.tuple #[.string a, .string b, .bool true]) ∧ Below W.heap.size W w') (ha : goodL a.data.toList) (hbb : ¬ goodL (b : ByteArray).data.toList) :
    Calls Try.prog 17 #[.string s] w fun e w' => e = .returned (errV 40) ∧ Below w.heap.size w w' := by
  have ts : decide ((80000 : Int) < (s.size : Int)) = false := decide_eq_false (by omega)
  have HA := Lib.hid (And.intro ha hbb)
  clear ha hbb
  have Z := Blk.put w #[.bool false, .string { data := #[] }, .string { data := #[] }] 25
  have hb := (Below.refl w.heap.size w).alloc (Nat.le_refl _) (.cells #[.bool false, .string { data := #[] }, .string { data := #[] }] 25)
  go_enter Try.func17, Try.ntmps17
  go_wp2_with fail
  refine (hc1 _).mono ?_
  rintro e w1 ⟨rfl, hw⟩
  generalize w.alloc (.cells #[.bool false, .string { data := #[] }, .string { data := #[] }] 25) = w0 at *
  subst hw
  clear hc1
  go_wp2_with fail
  refine (hc2 _).mono ?_
  rintro e w2 ⟨rfl, hB⟩
  replace Z := Z.keep hB
  replace hb := hb.trans (hB.mono hb.size)
  clear hB hc2
  go_wp2_with fail
  refine (kdigits_val a _ hsa HA.out.1).mono ?_
  rintro e w3 ⟨B9, rfl, I9, hB9, hB⟩
  replace Z := Z.keep hB
  replace hb := hb.trans (hB.mono hb.size)
  clear hB
  go_wp2_with fail
  refine (kdigits_bad b _ hsb HA.out.2).mono ?_
  rintro e w4 ⟨rfl, hB⟩
  replace Z := Z.keep hB
  replace hb := hb.trans (hB.mono hb.size)
  clear hB
  obtain ⟨zf0, zf1, zf2⟩ := Z.fr3
  obtain ⟨z0, z1, z2⟩ := Z.ce3
  have G0 : Blk (((w4.setCell ⟨w.heap.size, 0, none⟩ (.bool false)).setCell ⟨w.heap.size, 1, none⟩ (.string ⟨#[]⟩)).setCell ⟨w.heap.size, 2, none⟩ (.string ⟨#[]⟩)) w.heap.size #[.bool false, .string ⟨#[]⟩, .string ⟨#[]⟩] 25 := ((Z.setAt 0 _).setAt 1 _).setAt 2 _
  obtain ⟨g0, g1, g2⟩ := G0.ce3
  have hbY := ((hb.setCell (p := ⟨w.heap.size, 0, none⟩) (Nat.le_refl _) (.bool false)).setCell (p := ⟨w.heap.size, 1, none⟩) (Nat.le_refl _) (.string ⟨#[]⟩)).setCell (p := ⟨w.heap.size, 2, none⟩) (Nat.le_refl _) (.string ⟨#[]⟩)
  have HG := Lib.hid (And.intro (And.intro g0 (And.intro g1 g2)) hbY)
  clear g0 g1 g2 hbY G0 Z hb
  go_wp2
  obtain ⟨⟨g0, g1, g2⟩, hbY⟩ := HG.out
  exact bodyPost_ret (v := errV 40) (by simp [results, errV, Try.results17, go_sem, g0, g1, g2]) rfl ⟨rfl, hbY⟩

set_option maxRecDepth 1000000 in
set_option maxHeartbeats 4000000 in
theorem kread_tz (s rest a b : ByteArray) (ng : Bool) (w : World) (hs : s.size ≤ 80000) (hsa : a.size ≤ 1000000) (hsb : b.size ≤ 1000000) (hc1 : ∀ W, Calls Try.prog 39 #[.string s, .string ⟨#[45]⟩] W fun e w' => e = .returned (.tuple #[.string rest, .bool ng]) ∧ W = w') (hc2 : ∀ W, Calls Try.prog 40 #[.string rest, .string ⟨#[47]⟩] W fun e w' => e = .returned (.tuple #[.string a, .string b, .bool true]) ∧ Below W.heap.size W w') (ha : goodL a.data.toList) (hbb : goodL (b : ByteArray).data.toList) (hz : dval 0 (b : ByteArray).data.toList = 0) :
    Calls Try.prog 17 #[.string s] w fun e w' => e = .returned (errV 40) ∧ Below w.heap.size w w' := by
  have ts : decide ((80000 : Int) < (s.size : Int)) = false := decide_eq_false (by omega)
  have HA := Lib.hid (And.intro ha (And.intro hbb hz))
  clear ha hbb hz
  have Z := Blk.put w #[.bool false, .string { data := #[] }, .string { data := #[] }] 25
  have hb := (Below.refl w.heap.size w).alloc (Nat.le_refl _) (.cells #[.bool false, .string { data := #[] }, .string { data := #[] }] 25)
  go_enter Try.func17, Try.ntmps17
  go_wp2_with fail
  refine (hc1 _).mono ?_
  rintro e w1 ⟨rfl, hw⟩
  generalize w.alloc (.cells #[.bool false, .string { data := #[] }, .string { data := #[] }] 25) = w0 at *
  subst hw
  clear hc1
  go_wp2_with fail
  refine (hc2 _).mono ?_
  rintro e w2 ⟨rfl, hB⟩
  replace Z := Z.keep hB
  replace hb := hb.trans (hB.mono hb.size)
  clear hB hc2
  go_wp2_with fail
  refine (kdigits_val a _ hsa HA.out.1).mono ?_
  rintro e w3 ⟨B9, rfl, I9, hB9, hB⟩
  replace Z := Z.keep hB
  replace hb := hb.trans (hB.mono hb.size)
  clear hB
  go_wp2_with fail
  refine (kdigits_val b _ hsb HA.out.2.1).mono ?_
  rintro e w4 ⟨B11, rfl, I11, hB11, hB⟩
  replace Z := Z.keep hB
  replace hb := hb.trans (hB.mono hb.size)
  replace I9 := I9.below hB
  clear hB
  rw [HA.out.2.2] at I11
  go_wp2_with fail
  refine (sign_any B11 0 ((0 : Nat) : Int) w4 I11).mono ?_
  rintro e w5 ⟨rfl, rfl⟩
  clear I9 I11
  obtain ⟨zf0, zf1, zf2⟩ := Z.fr3
  obtain ⟨z0, z1, z2⟩ := Z.ce3
  have G0 : Blk (((w4.setCell ⟨w.heap.size, 0, none⟩ (.bool false)).setCell ⟨w.heap.size, 1, none⟩ (.string ⟨#[]⟩)).setCell ⟨w.heap.size, 2, none⟩ (.string ⟨#[]⟩)) w.heap.size #[.bool false, .string ⟨#[]⟩, .string ⟨#[]⟩] 25 := ((Z.setAt 0 _).setAt 1 _).setAt 2 _
  obtain ⟨g0, g1, g2⟩ := G0.ce3
  have hbY := ((hb.setCell (p := ⟨w.heap.size, 0, none⟩) (Nat.le_refl _) (.bool false)).setCell (p := ⟨w.heap.size, 1, none⟩) (Nat.le_refl _) (.string ⟨#[]⟩)).setCell (p := ⟨w.heap.size, 2, none⟩) (Nat.le_refl _) (.string ⟨#[]⟩)
  have HG := Lib.hid (And.intro (And.intro g0 (And.intro g1 g2)) hbY)
  clear g0 g1 g2 hbY G0 Z hb
  go_wp2
  obtain ⟨⟨g0, g1, g2⟩, hbY⟩ := HG.out
  exact bodyPost_ret (v := errV 40) (by simp [results, errV, Try.results17, go_sem, g0, g1, g2]) rfl ⟨rfl, hbY⟩

set_option maxRecDepth 1000000 in
set_option maxHeartbeats 4000000 in
theorem kread_tm (s rest a b : ByteArray) (ng : Bool) (w : World) (hs : s.size ≤ 80000) (hsa : a.size ≤ 1000000) (hsb : b.size ≤ 1000000) (hc1 : ∀ W, Calls Try.prog 39 #[.string s, .string ⟨#[45]⟩] W fun e w' => e = .returned (.tuple #[.string rest, .bool ng]) ∧ W = w') (hc2 : ∀ W, Calls Try.prog 40 #[.string rest, .string ⟨#[47]⟩] W fun e w' => e = .returned (.tuple #[.string a, .string b, .bool true]) ∧ Below W.heap.size W w') (ha : goodL a.data.toList) (hbb : goodL (b : ByteArray).data.toList) (n d : Nat) (S D : ByteArray) (hSn : bstr n = S) (hDd : bstr d = D) (hn : dval 0 a.data.toList = n) (hd : dval 0 (b : ByteArray).data.toList = d) (hd0 : d ≠ 0) (hnK : Fil.dn 32 n ≤ 1099511627776) (hdK : Fil.dn 32 d ≤ 1099511627776) (te : Int) (ht : ∀ W, Calls Try.prog 16 #[.agg #[.bool ng, .string S, .string D]] W fun e w' => e = .returned (.tuple #[.string ⟨#[]⟩, .int .i64 te]) ∧ Below W.heap.size W w') (hte : (te != 0) = true) :
    Calls Try.prog 17 #[.string s] w fun e w' => e = .returned (errV 40) ∧ Below w.heap.size w w' := by
  have ts : decide ((80000 : Int) < (s.size : Int)) = false := decide_eq_false (by omega)
  have HA := Lib.hid (And.intro ha (And.intro hbb (And.intro hn (And.intro hd (And.intro hd0 (And.intro hnK hdK))))))
  have HS := Lib.hid (And.intro hSn hDd)
  clear ha hbb hn hd hd0 hnK hdK hSn hDd
  have Z := Blk.put w #[.bool false, .string { data := #[] }, .string { data := #[] }] 25
  have hb := (Below.refl w.heap.size w).alloc (Nat.le_refl _) (.cells #[.bool false, .string { data := #[] }, .string { data := #[] }] 25)
  go_enter Try.func17, Try.ntmps17
  go_wp2_with fail
  refine (hc1 _).mono ?_
  rintro e w1 ⟨rfl, hw⟩
  generalize w.alloc (.cells #[.bool false, .string { data := #[] }, .string { data := #[] }] 25) = w0 at *
  subst hw
  clear hc1
  go_wp2_with fail
  refine (hc2 _).mono ?_
  rintro e w2 ⟨rfl, hB⟩
  replace Z := Z.keep hB
  replace hb := hb.trans (hB.mono hb.size)
  clear hB hc2
  go_wp2_with fail
  refine (kdigits_val a _ hsa HA.out.1).mono ?_
  rintro e w3 ⟨B9, rfl, I9, hB9, hB⟩
  replace Z := Z.keep hB
  replace hb := hb.trans (hB.mono hb.size)
  clear hB
  go_wp2_with fail
  refine (kdigits_val b _ hsb HA.out.2.1).mono ?_
  rintro e w4 ⟨B11, rfl, I11, hB11, hB⟩
  replace Z := Z.keep hB
  replace hb := hb.trans (hB.mono hb.size)
  replace I9 := I9.below hB
  clear hB
  rw [HA.out.2.2.1] at I9
  rw [HA.out.2.2.2.1] at I11
  have hsg : (if (d : Int) = 0 then 0 else if (d : Int) < 0 then -1 else 1 : Int) = 1 := by have := HA.out.2.2.2.2.1; rw [if_neg (by omega), if_neg (by omega)]
  have hsi : ((d : Int)).sign = 1 := Int.sign_eq_one_of_pos (by have := HA.out.2.2.2.2.1; omega)
  go_wp2_with fail
  refine (sign_any B11 0 (d : Int) w4 I11).mono ?_
  rintro e w5 ⟨rfl, rfl⟩
  go_wp2_with fail
  refine (klaid_any B9 0 (n : Int) w4 I9 (by rw [Int.natAbs_natCast]; exact HA.out.2.2.2.2.2.1)).mono ?_
  rintro e w6 ⟨rfl, hB⟩
  rw [Int.natAbs_natCast, HS.out.1]
  replace Z := Z.keep hB
  replace hb := hb.trans (hB.mono hb.size)
  replace I11 := I11.below hB
  clear hB I9
  go_wp2_with fail
  refine (klaid_any B11 0 (d : Int) w6 I11 (by rw [Int.natAbs_natCast]; exact HA.out.2.2.2.2.2.2)).mono ?_
  rintro e w7 ⟨rfl, hB⟩
  rw [Int.natAbs_natCast, HS.out.2]
  replace Z := Z.keep hB
  replace hb := hb.trans (hB.mono hb.size)
  clear hB I11
  clear hsg hsi
  have lz := Z.lt
  have X := Blk.put w7 #[.bool ng, .string S, .string D] 25
  replace Z := Z.allocd (.cells #[.bool ng, .string S, .string D] 25)
  replace hb := hb.alloc hb.size (.cells #[.bool ng, .string S, .string D] 25)
  obtain ⟨x0, x1, x2⟩ := X.ce3
  go_wp2_with fail
  refine (ht _).mono ?_
  rintro e w8 ⟨rfl, hB⟩
  clear x0 x1 x2 ht
  replace X := X.keep hB
  replace Z := Z.keep hB
  replace hb := hb.trans (hB.mono hb.size)
  clear hB
  clear X
  obtain ⟨zf0, zf1, zf2⟩ := Z.fr3
  obtain ⟨z0, z1, z2⟩ := Z.ce3
  have G0 : Blk (((w8.setCell ⟨w.heap.size, 0, none⟩ (.bool false)).setCell ⟨w.heap.size, 1, none⟩ (.string ⟨#[]⟩)).setCell ⟨w.heap.size, 2, none⟩ (.string ⟨#[]⟩)) w.heap.size #[.bool false, .string ⟨#[]⟩, .string ⟨#[]⟩] 25 := ((Z.setAt 0 _).setAt 1 _).setAt 2 _
  obtain ⟨g0, g1, g2⟩ := G0.ce3
  have hbY := ((hb.setCell (p := ⟨w.heap.size, 0, none⟩) (Nat.le_refl _) (.bool false)).setCell (p := ⟨w.heap.size, 1, none⟩) (Nat.le_refl _) (.string ⟨#[]⟩)).setCell (p := ⟨w.heap.size, 2, none⟩) (Nat.le_refl _) (.string ⟨#[]⟩)
  have HG := Lib.hid (And.intro (And.intro g0 (And.intro g1 g2)) hbY)
  clear g0 g1 g2 hbY G0 Z hb
  go_wp2
  obtain ⟨⟨g0, g1, g2⟩, hbY⟩ := HG.out
  exact bodyPost_ret (v := errV 40) (by simp [results, errV, Try.results17, go_sem, g0, g1, g2]) rfl ⟨rfl, hbY⟩

set_option maxRecDepth 1000000 in
set_option maxHeartbeats 4000000 in
theorem kread_tn (s rest a b : ByteArray) (ng : Bool) (w : World) (hs : s.size ≤ 80000) (hsa : a.size ≤ 1000000) (hsb : b.size ≤ 1000000) (hc1 : ∀ W, Calls Try.prog 39 #[.string s, .string ⟨#[45]⟩] W fun e w' => e = .returned (.tuple #[.string rest, .bool ng]) ∧ W = w') (hc2 : ∀ W, Calls Try.prog 40 #[.string rest, .string ⟨#[47]⟩] W fun e w' => e = .returned (.tuple #[.string a, .string b, .bool true]) ∧ Below W.heap.size W w') (ha : goodL a.data.toList) (hbb : goodL (b : ByteArray).data.toList) (n d : Nat) (S D : ByteArray) (hSn : bstr n = S) (hDd : bstr d = D) (hn : dval 0 a.data.toList = n) (hd : dval 0 (b : ByteArray).data.toList = d) (hd0 : d ≠ 0) (hnK : Fil.dn 32 n ≤ 1099511627776) (hdK : Fil.dn 32 d ≤ 1099511627776) (t : ByteArray) (ht : ∀ W, Calls Try.prog 16 #[.agg #[.bool ng, .string S, .string D]] W fun e w' => e = .returned (.tuple #[.string t, .int .i64 0]) ∧ Below W.heap.size W w') (hts : (t.toList == s.toList) = false) :
    Calls Try.prog 17 #[.string s] w fun e w' => e = .returned (errV 40) ∧ Below w.heap.size w w' := by
  have ts : decide ((80000 : Int) < (s.size : Int)) = false := decide_eq_false (by omega)
  have HA := Lib.hid (And.intro ha (And.intro hbb (And.intro hn (And.intro hd (And.intro hd0 (And.intro hnK hdK))))))
  have HS := Lib.hid (And.intro hSn hDd)
  clear ha hbb hn hd hd0 hnK hdK hSn hDd
  have Z := Blk.put w #[.bool false, .string { data := #[] }, .string { data := #[] }] 25
  have hb := (Below.refl w.heap.size w).alloc (Nat.le_refl _) (.cells #[.bool false, .string { data := #[] }, .string { data := #[] }] 25)
  go_enter Try.func17, Try.ntmps17
  go_wp2_with fail
  refine (hc1 _).mono ?_
  rintro e w1 ⟨rfl, hw⟩
  generalize w.alloc (.cells #[.bool false, .string { data := #[] }, .string { data := #[] }] 25) = w0 at *
  subst hw
  clear hc1
  go_wp2_with fail
  refine (hc2 _).mono ?_
  rintro e w2 ⟨rfl, hB⟩
  replace Z := Z.keep hB
  replace hb := hb.trans (hB.mono hb.size)
  clear hB hc2
  go_wp2_with fail
  refine (kdigits_val a _ hsa HA.out.1).mono ?_
  rintro e w3 ⟨B9, rfl, I9, hB9, hB⟩
  replace Z := Z.keep hB
  replace hb := hb.trans (hB.mono hb.size)
  clear hB
  go_wp2_with fail
  refine (kdigits_val b _ hsb HA.out.2.1).mono ?_
  rintro e w4 ⟨B11, rfl, I11, hB11, hB⟩
  replace Z := Z.keep hB
  replace hb := hb.trans (hB.mono hb.size)
  replace I9 := I9.below hB
  clear hB
  rw [HA.out.2.2.1] at I9
  rw [HA.out.2.2.2.1] at I11
  have hsg : (if (d : Int) = 0 then 0 else if (d : Int) < 0 then -1 else 1 : Int) = 1 := by have := HA.out.2.2.2.2.1; rw [if_neg (by omega), if_neg (by omega)]
  have hsi : ((d : Int)).sign = 1 := Int.sign_eq_one_of_pos (by have := HA.out.2.2.2.2.1; omega)
  go_wp2_with fail
  refine (sign_any B11 0 (d : Int) w4 I11).mono ?_
  rintro e w5 ⟨rfl, rfl⟩
  go_wp2_with fail
  refine (klaid_any B9 0 (n : Int) w4 I9 (by rw [Int.natAbs_natCast]; exact HA.out.2.2.2.2.2.1)).mono ?_
  rintro e w6 ⟨rfl, hB⟩
  rw [Int.natAbs_natCast, HS.out.1]
  replace Z := Z.keep hB
  replace hb := hb.trans (hB.mono hb.size)
  replace I11 := I11.below hB
  clear hB I9
  go_wp2_with fail
  refine (klaid_any B11 0 (d : Int) w6 I11 (by rw [Int.natAbs_natCast]; exact HA.out.2.2.2.2.2.2)).mono ?_
  rintro e w7 ⟨rfl, hB⟩
  rw [Int.natAbs_natCast, HS.out.2]
  replace Z := Z.keep hB
  replace hb := hb.trans (hB.mono hb.size)
  clear hB I11
  clear hsg hsi
  have lz := Z.lt
  have X := Blk.put w7 #[.bool ng, .string S, .string D] 25
  replace Z := Z.allocd (.cells #[.bool ng, .string S, .string D] 25)
  replace hb := hb.alloc hb.size (.cells #[.bool ng, .string S, .string D] 25)
  obtain ⟨x0, x1, x2⟩ := X.ce3
  go_wp2_with fail
  refine (ht _).mono ?_
  rintro e w8 ⟨rfl, hB⟩
  clear x0 x1 x2 ht
  replace X := X.keep hB
  replace Z := Z.keep hB
  replace hb := hb.trans (hB.mono hb.size)
  clear hB
  have hne : ¬ t.toList = s.toList := beq_eq_false_iff_ne.1 hts
  clear X
  obtain ⟨zf0, zf1, zf2⟩ := Z.fr3
  obtain ⟨z0, z1, z2⟩ := Z.ce3
  have G0 : Blk (((w8.setCell ⟨w.heap.size, 0, none⟩ (.bool false)).setCell ⟨w.heap.size, 1, none⟩ (.string ⟨#[]⟩)).setCell ⟨w.heap.size, 2, none⟩ (.string ⟨#[]⟩)) w.heap.size #[.bool false, .string ⟨#[]⟩, .string ⟨#[]⟩] 25 := ((Z.setAt 0 _).setAt 1 _).setAt 2 _
  obtain ⟨g0, g1, g2⟩ := G0.ce3
  have hbY := ((hb.setCell (p := ⟨w.heap.size, 0, none⟩) (Nat.le_refl _) (.bool false)).setCell (p := ⟨w.heap.size, 1, none⟩) (Nat.le_refl _) (.string ⟨#[]⟩)).setCell (p := ⟨w.heap.size, 2, none⟩) (Nat.le_refl _) (.string ⟨#[]⟩)
  have HG := Lib.hid (And.intro (And.intro g0 (And.intro g1 g2)) hbY)
  clear g0 g1 g2 hbY G0 Z hb
  go_wp2
  obtain ⟨⟨g0, g1, g2⟩, hbY⟩ := HG.out
  exact bodyPost_ret (v := errV 40) (by simp [results, errV, Try.results17, go_sem, g0, g1, g2]) rfl ⟨rfl, hbY⟩

set_option maxRecDepth 1000000 in
set_option maxHeartbeats 4000000 in
theorem kread_ty (s rest a b : ByteArray) (ng : Bool) (w : World) (hs : s.size ≤ 80000) (hsa : a.size ≤ 1000000) (hsb : b.size ≤ 1000000) (hc1 : ∀ W, Calls Try.prog 39 #[.string s, .string ⟨#[45]⟩] W fun e w' => e = .returned (.tuple #[.string rest, .bool ng]) ∧ W = w') (hc2 : ∀ W, Calls Try.prog 40 #[.string rest, .string ⟨#[47]⟩] W fun e w' => e = .returned (.tuple #[.string a, .string b, .bool true]) ∧ Below W.heap.size W w') (ha : goodL a.data.toList) (hbb : goodL (b : ByteArray).data.toList) (n d : Nat) (S D : ByteArray) (hSn : bstr n = S) (hDd : bstr d = D) (hn : dval 0 a.data.toList = n) (hd : dval 0 (b : ByteArray).data.toList = d) (hd0 : d ≠ 0) (hnK : Fil.dn 32 n ≤ 1099511627776) (hdK : Fil.dn 32 d ≤ 1099511627776) (t : ByteArray) (ht : ∀ W, Calls Try.prog 16 #[.agg #[.bool ng, .string S, .string D]] W fun e w' => e = .returned (.tuple #[.string t, .int .i64 0]) ∧ Below W.heap.size W w') (hts : (t.toList == s.toList) = true) :
    Calls Try.prog 17 #[.string s] w fun e w' => e = .returned (.tuple #[.agg #[.bool ng, .string S, .string D], .int .i64 0]) ∧ Below w.heap.size w w' := by
  have ts : decide ((80000 : Int) < (s.size : Int)) = false := decide_eq_false (by omega)
  have HA := Lib.hid (And.intro ha (And.intro hbb (And.intro hn (And.intro hd (And.intro hd0 (And.intro hnK hdK))))))
  have HS := Lib.hid (And.intro hSn hDd)
  clear ha hbb hn hd hd0 hnK hdK hSn hDd
  have Z := Blk.put w #[.bool false, .string { data := #[] }, .string { data := #[] }] 25
  have hb := (Below.refl w.heap.size w).alloc (Nat.le_refl _) (.cells #[.bool false, .string { data := #[] }, .string { data := #[] }] 25)
  go_enter Try.func17, Try.ntmps17
  go_wp2_with fail
  refine (hc1 _).mono ?_
  rintro e w1 ⟨rfl, hw⟩
  generalize w.alloc (.cells #[.bool false, .string { data := #[] }, .string { data := #[] }] 25) = w0 at *
  subst hw
  clear hc1
  go_wp2_with fail
  refine (hc2 _).mono ?_
  rintro e w2 ⟨rfl, hB⟩
  replace Z := Z.keep hB
  replace hb := hb.trans (hB.mono hb.size)
  clear hB hc2
  go_wp2_with fail
  refine (kdigits_val a _ hsa HA.out.1).mono ?_
  rintro e w3 ⟨B9, rfl, I9, hB9, hB⟩
  replace Z := Z.keep hB
  replace hb := hb.trans (hB.mono hb.size)
  clear hB
  go_wp2_with fail
  refine (kdigits_val b _ hsb HA.out.2.1).mono ?_
  rintro e w4 ⟨B11, rfl, I11, hB11, hB⟩
  replace Z := Z.keep hB
  replace hb := hb.trans (hB.mono hb.size)
  replace I9 := I9.below hB
  clear hB
  rw [HA.out.2.2.1] at I9
  rw [HA.out.2.2.2.1] at I11
  have hsg : (if (d : Int) = 0 then 0 else if (d : Int) < 0 then -1 else 1 : Int) = 1 := by have := HA.out.2.2.2.2.1; rw [if_neg (by omega), if_neg (by omega)]
  have hsi : ((d : Int)).sign = 1 := Int.sign_eq_one_of_pos (by have := HA.out.2.2.2.2.1; omega)
  go_wp2_with fail
  refine (sign_any B11 0 (d : Int) w4 I11).mono ?_
  rintro e w5 ⟨rfl, rfl⟩
  go_wp2_with fail
  refine (klaid_any B9 0 (n : Int) w4 I9 (by rw [Int.natAbs_natCast]; exact HA.out.2.2.2.2.2.1)).mono ?_
  rintro e w6 ⟨rfl, hB⟩
  rw [Int.natAbs_natCast, HS.out.1]
  replace Z := Z.keep hB
  replace hb := hb.trans (hB.mono hb.size)
  replace I11 := I11.below hB
  clear hB I9
  go_wp2_with fail
  refine (klaid_any B11 0 (d : Int) w6 I11 (by rw [Int.natAbs_natCast]; exact HA.out.2.2.2.2.2.2)).mono ?_
  rintro e w7 ⟨rfl, hB⟩
  rw [Int.natAbs_natCast, HS.out.2]
  replace Z := Z.keep hB
  replace hb := hb.trans (hB.mono hb.size)
  clear hB I11
  clear hsg hsi
  have lz := Z.lt
  have X := Blk.put w7 #[.bool ng, .string S, .string D] 25
  replace Z := Z.allocd (.cells #[.bool ng, .string S, .string D] 25)
  replace hb := hb.alloc hb.size (.cells #[.bool ng, .string S, .string D] 25)
  obtain ⟨x0, x1, x2⟩ := X.ce3
  go_wp2_with fail
  refine (ht _).mono ?_
  rintro e w8 ⟨rfl, hB⟩
  clear x0 x1 x2 ht
  replace X := X.keep hB
  replace Z := Z.keep hB
  replace hb := hb.trans (hB.mono hb.size)
  clear hB
  have hne : t.toList = s.toList := beq_iff_eq.1 hts
  clear hne
  obtain ⟨x0, x1, x2⟩ := X.ce3
  obtain ⟨zf0, zf1, zf2⟩ := Z.fr3
  obtain ⟨z0, z1, z2⟩ := Z.ce3
  have G0 : Blk (((w8.setCell ⟨w.heap.size, 0, none⟩ (.bool ng)).setCell ⟨w.heap.size, 1, none⟩ (.string S)).setCell ⟨w.heap.size, 2, none⟩ (.string D)) w.heap.size #[.bool ng, .string S, .string D] 25 := ((Z.setAt 0 _).setAt 1 _).setAt 2 _
  obtain ⟨g0, g1, g2⟩ := G0.ce3
  have hbY := ((hb.setCell (p := ⟨w.heap.size, 0, none⟩) (Nat.le_refl _) (.bool ng)).setCell (p := ⟨w.heap.size, 1, none⟩) (Nat.le_refl _) (.string S)).setCell (p := ⟨w.heap.size, 2, none⟩) (Nat.le_refl _) (.string D)
  have HG := Lib.hid (And.intro (And.intro g0 (And.intro g1 g2)) hbY)
  clear g0 g1 g2 hbY G0 Z hb
  go_wp2
  obtain ⟨⟨g0, g1, g2⟩, hbY⟩ := HG.out
  exact bodyPost_ret (v := .tuple #[.agg #[.bool ng, .string S, .string D], .int .i64 0]) (by simp [results, Try.results17, go_sem, g0, g1, g2]) rfl ⟨rfl, hbY⟩

set_option maxRecDepth 1000000 in
set_option maxHeartbeats 4000000 in
theorem kread_fa (s rest a b : ByteArray) (ng : Bool) (w : World) (hs : s.size ≤ 80000) (hsa : a.size ≤ 1000000) (hc1 : ∀ W, Calls Try.prog 39 #[.string s, .string ⟨#[45]⟩] W fun e w' => e = .returned (.tuple #[.string rest, .bool ng]) ∧ W = w') (hc2 : ∀ W, Calls Try.prog 40 #[.string rest, .string ⟨#[47]⟩] W fun e w' => e = .returned (.tuple #[.string a, .string b, .bool false]) ∧ Below W.heap.size W w') (ha : ¬ goodL a.data.toList) :
    Calls Try.prog 17 #[.string s] w fun e w' => e = .returned (errV 40) ∧ Below w.heap.size w w' := by
  have ts : decide ((80000 : Int) < (s.size : Int)) = false := decide_eq_false (by omega)
  have HA := Lib.hid ha
  clear ha
  have Z := Blk.put w #[.bool false, .string { data := #[] }, .string { data := #[] }] 25
  have hb := (Below.refl w.heap.size w).alloc (Nat.le_refl _) (.cells #[.bool false, .string { data := #[] }, .string { data := #[] }] 25)
  go_enter Try.func17, Try.ntmps17
  go_wp2_with fail
  refine (hc1 _).mono ?_
  rintro e w1 ⟨rfl, hw⟩
  generalize w.alloc (.cells #[.bool false, .string { data := #[] }, .string { data := #[] }] 25) = w0 at *
  subst hw
  clear hc1
  go_wp2_with fail
  refine (hc2 _).mono ?_
  rintro e w2 ⟨rfl, hB⟩
  replace Z := Z.keep hB
  replace hb := hb.trans (hB.mono hb.size)
  clear hB hc2
  go_wp2_with fail
  refine (kdigits_bad a _ hsa HA.out).mono ?_
  rintro e w3 ⟨rfl, hB⟩
  replace Z := Z.keep hB
  replace hb := hb.trans (hB.mono hb.size)
  clear hB
  go_wp2_with fail
  refine (kdigits_ok ⟨#[49]⟩ _ (by decide)).mono ?_
  rintro e w4 ⟨p, rfl, hB⟩
  replace Z := Z.keep hB
  replace hb := hb.trans (hB.mono hb.size)
  clear hB
  obtain ⟨zf0, zf1, zf2⟩ := Z.fr3
  obtain ⟨z0, z1, z2⟩ := Z.ce3
  have G0 : Blk (((w4.setCell ⟨w.heap.size, 0, none⟩ (.bool false)).setCell ⟨w.heap.size, 1, none⟩ (.string ⟨#[]⟩)).setCell ⟨w.heap.size, 2, none⟩ (.string ⟨#[]⟩)) w.heap.size #[.bool false, .string ⟨#[]⟩, .string ⟨#[]⟩] 25 := ((Z.setAt 0 _).setAt 1 _).setAt 2 _
  obtain ⟨g0, g1, g2⟩ := G0.ce3
  have hbY := ((hb.setCell (p := ⟨w.heap.size, 0, none⟩) (Nat.le_refl _) (.bool false)).setCell (p := ⟨w.heap.size, 1, none⟩) (Nat.le_refl _) (.string ⟨#[]⟩)).setCell (p := ⟨w.heap.size, 2, none⟩) (Nat.le_refl _) (.string ⟨#[]⟩)
  have HG := Lib.hid (And.intro (And.intro g0 (And.intro g1 g2)) hbY)
  clear g0 g1 g2 hbY G0 Z hb
  go_wp2
  obtain ⟨⟨g0, g1, g2⟩, hbY⟩ := HG.out
  exact bodyPost_ret (v := errV 40) (by simp [results, errV, Try.results17, go_sem, g0, g1, g2]) rfl ⟨rfl, hbY⟩

set_option maxRecDepth 1000000 in
set_option maxHeartbeats 4000000 in
theorem kread_fm (s rest a b : ByteArray) (ng : Bool) (w : World) (hs : s.size ≤ 80000) (hsa : a.size ≤ 1000000) (hc1 : ∀ W, Calls Try.prog 39 #[.string s, .string ⟨#[45]⟩] W fun e w' => e = .returned (.tuple #[.string rest, .bool ng]) ∧ W = w') (hc2 : ∀ W, Calls Try.prog 40 #[.string rest, .string ⟨#[47]⟩] W fun e w' => e = .returned (.tuple #[.string a, .string b, .bool false]) ∧ Below W.heap.size W w') (ha : goodL a.data.toList) (hbb : goodL (⟨#[49]⟩ : ByteArray).data.toList) (n d : Nat) (S D : ByteArray) (hSn : bstr n = S) (hDd : bstr d = D) (hn : dval 0 a.data.toList = n) (hd : dval 0 (⟨#[49]⟩ : ByteArray).data.toList = d) (hd0 : d ≠ 0) (hnK : Fil.dn 32 n ≤ 1099511627776) (hdK : Fil.dn 32 d ≤ 1099511627776) (te : Int) (ht : ∀ W, Calls Try.prog 16 #[.agg #[.bool ng, .string S, .string D]] W fun e w' => e = .returned (.tuple #[.string ⟨#[]⟩, .int .i64 te]) ∧ Below W.heap.size W w') (hte : (te != 0) = true) :
    Calls Try.prog 17 #[.string s] w fun e w' => e = .returned (errV 40) ∧ Below w.heap.size w w' := by
  have ts : decide ((80000 : Int) < (s.size : Int)) = false := decide_eq_false (by omega)
  have HA := Lib.hid (And.intro ha (And.intro hbb (And.intro hn (And.intro hd (And.intro hd0 (And.intro hnK hdK))))))
  have HS := Lib.hid (And.intro hSn hDd)
  clear ha hbb hn hd hd0 hnK hdK hSn hDd
  have Z := Blk.put w #[.bool false, .string { data := #[] }, .string { data := #[] }] 25
  have hb := (Below.refl w.heap.size w).alloc (Nat.le_refl _) (.cells #[.bool false, .string { data := #[] }, .string { data := #[] }] 25)
  go_enter Try.func17, Try.ntmps17
  go_wp2_with fail
  refine (hc1 _).mono ?_
  rintro e w1 ⟨rfl, hw⟩
  generalize w.alloc (.cells #[.bool false, .string { data := #[] }, .string { data := #[] }] 25) = w0 at *
  subst hw
  clear hc1
  go_wp2_with fail
  refine (hc2 _).mono ?_
  rintro e w2 ⟨rfl, hB⟩
  replace Z := Z.keep hB
  replace hb := hb.trans (hB.mono hb.size)
  clear hB hc2
  go_wp2_with fail
  refine (kdigits_val a _ hsa HA.out.1).mono ?_
  rintro e w3 ⟨B9, rfl, I9, hB9, hB⟩
  replace Z := Z.keep hB
  replace hb := hb.trans (hB.mono hb.size)
  clear hB
  go_wp2_with fail
  refine (kdigits_val ⟨#[49]⟩ _ (by decide) HA.out.2.1).mono ?_
  rintro e w4 ⟨B11, rfl, I11, hB11, hB⟩
  replace Z := Z.keep hB
  replace hb := hb.trans (hB.mono hb.size)
  replace I9 := I9.below hB
  clear hB
  rw [HA.out.2.2.1] at I9
  rw [HA.out.2.2.2.1] at I11
  have hsg : (if (d : Int) = 0 then 0 else if (d : Int) < 0 then -1 else 1 : Int) = 1 := by have := HA.out.2.2.2.2.1; rw [if_neg (by omega), if_neg (by omega)]
  have hsi : ((d : Int)).sign = 1 := Int.sign_eq_one_of_pos (by have := HA.out.2.2.2.2.1; omega)
  go_wp2_with fail
  refine (sign_any B11 0 (d : Int) w4 I11).mono ?_
  rintro e w5 ⟨rfl, rfl⟩
  go_wp2_with fail
  refine (klaid_any B9 0 (n : Int) w4 I9 (by rw [Int.natAbs_natCast]; exact HA.out.2.2.2.2.2.1)).mono ?_
  rintro e w6 ⟨rfl, hB⟩
  rw [Int.natAbs_natCast, HS.out.1]
  replace Z := Z.keep hB
  replace hb := hb.trans (hB.mono hb.size)
  replace I11 := I11.below hB
  clear hB I9
  go_wp2_with fail
  refine (klaid_any B11 0 (d : Int) w6 I11 (by rw [Int.natAbs_natCast]; exact HA.out.2.2.2.2.2.2)).mono ?_
  rintro e w7 ⟨rfl, hB⟩
  rw [Int.natAbs_natCast, HS.out.2]
  replace Z := Z.keep hB
  replace hb := hb.trans (hB.mono hb.size)
  clear hB I11
  clear hsg hsi
  have lz := Z.lt
  have X := Blk.put w7 #[.bool ng, .string S, .string D] 25
  replace Z := Z.allocd (.cells #[.bool ng, .string S, .string D] 25)
  replace hb := hb.alloc hb.size (.cells #[.bool ng, .string S, .string D] 25)
  obtain ⟨x0, x1, x2⟩ := X.ce3
  go_wp2_with fail
  refine (ht _).mono ?_
  rintro e w8 ⟨rfl, hB⟩
  clear x0 x1 x2 ht
  replace X := X.keep hB
  replace Z := Z.keep hB
  replace hb := hb.trans (hB.mono hb.size)
  clear hB
  clear X
  obtain ⟨zf0, zf1, zf2⟩ := Z.fr3
  obtain ⟨z0, z1, z2⟩ := Z.ce3
  have G0 : Blk (((w8.setCell ⟨w.heap.size, 0, none⟩ (.bool false)).setCell ⟨w.heap.size, 1, none⟩ (.string ⟨#[]⟩)).setCell ⟨w.heap.size, 2, none⟩ (.string ⟨#[]⟩)) w.heap.size #[.bool false, .string ⟨#[]⟩, .string ⟨#[]⟩] 25 := ((Z.setAt 0 _).setAt 1 _).setAt 2 _
  obtain ⟨g0, g1, g2⟩ := G0.ce3
  have hbY := ((hb.setCell (p := ⟨w.heap.size, 0, none⟩) (Nat.le_refl _) (.bool false)).setCell (p := ⟨w.heap.size, 1, none⟩) (Nat.le_refl _) (.string ⟨#[]⟩)).setCell (p := ⟨w.heap.size, 2, none⟩) (Nat.le_refl _) (.string ⟨#[]⟩)
  have HG := Lib.hid (And.intro (And.intro g0 (And.intro g1 g2)) hbY)
  clear g0 g1 g2 hbY G0 Z hb
  go_wp2
  obtain ⟨⟨g0, g1, g2⟩, hbY⟩ := HG.out
  exact bodyPost_ret (v := errV 40) (by simp [results, errV, Try.results17, go_sem, g0, g1, g2]) rfl ⟨rfl, hbY⟩

set_option maxRecDepth 1000000 in
set_option maxHeartbeats 4000000 in
theorem kread_fn (s rest a b : ByteArray) (ng : Bool) (w : World) (hs : s.size ≤ 80000) (hsa : a.size ≤ 1000000) (hc1 : ∀ W, Calls Try.prog 39 #[.string s, .string ⟨#[45]⟩] W fun e w' => e = .returned (.tuple #[.string rest, .bool ng]) ∧ W = w') (hc2 : ∀ W, Calls Try.prog 40 #[.string rest, .string ⟨#[47]⟩] W fun e w' => e = .returned (.tuple #[.string a, .string b, .bool false]) ∧ Below W.heap.size W w') (ha : goodL a.data.toList) (hbb : goodL (⟨#[49]⟩ : ByteArray).data.toList) (n d : Nat) (S D : ByteArray) (hSn : bstr n = S) (hDd : bstr d = D) (hn : dval 0 a.data.toList = n) (hd : dval 0 (⟨#[49]⟩ : ByteArray).data.toList = d) (hd0 : d ≠ 0) (hnK : Fil.dn 32 n ≤ 1099511627776) (hdK : Fil.dn 32 d ≤ 1099511627776) (t : ByteArray) (ht : ∀ W, Calls Try.prog 16 #[.agg #[.bool ng, .string S, .string D]] W fun e w' => e = .returned (.tuple #[.string t, .int .i64 0]) ∧ Below W.heap.size W w') (hts : (t.toList == s.toList) = false) :
    Calls Try.prog 17 #[.string s] w fun e w' => e = .returned (errV 40) ∧ Below w.heap.size w w' := by
  have ts : decide ((80000 : Int) < (s.size : Int)) = false := decide_eq_false (by omega)
  have HA := Lib.hid (And.intro ha (And.intro hbb (And.intro hn (And.intro hd (And.intro hd0 (And.intro hnK hdK))))))
  have HS := Lib.hid (And.intro hSn hDd)
  clear ha hbb hn hd hd0 hnK hdK hSn hDd
  have Z := Blk.put w #[.bool false, .string { data := #[] }, .string { data := #[] }] 25
  have hb := (Below.refl w.heap.size w).alloc (Nat.le_refl _) (.cells #[.bool false, .string { data := #[] }, .string { data := #[] }] 25)
  go_enter Try.func17, Try.ntmps17
  go_wp2_with fail
  refine (hc1 _).mono ?_
  rintro e w1 ⟨rfl, hw⟩
  generalize w.alloc (.cells #[.bool false, .string { data := #[] }, .string { data := #[] }] 25) = w0 at *
  subst hw
  clear hc1
  go_wp2_with fail
  refine (hc2 _).mono ?_
  rintro e w2 ⟨rfl, hB⟩
  replace Z := Z.keep hB
  replace hb := hb.trans (hB.mono hb.size)
  clear hB hc2
  go_wp2_with fail
  refine (kdigits_val a _ hsa HA.out.1).mono ?_
  rintro e w3 ⟨B9, rfl, I9, hB9, hB⟩
  replace Z := Z.keep hB
  replace hb := hb.trans (hB.mono hb.size)
  clear hB
  go_wp2_with fail
  refine (kdigits_val ⟨#[49]⟩ _ (by decide) HA.out.2.1).mono ?_
  rintro e w4 ⟨B11, rfl, I11, hB11, hB⟩
  replace Z := Z.keep hB
  replace hb := hb.trans (hB.mono hb.size)
  replace I9 := I9.below hB
  clear hB
  rw [HA.out.2.2.1] at I9
  rw [HA.out.2.2.2.1] at I11
  have hsg : (if (d : Int) = 0 then 0 else if (d : Int) < 0 then -1 else 1 : Int) = 1 := by have := HA.out.2.2.2.2.1; rw [if_neg (by omega), if_neg (by omega)]
  have hsi : ((d : Int)).sign = 1 := Int.sign_eq_one_of_pos (by have := HA.out.2.2.2.2.1; omega)
  go_wp2_with fail
  refine (sign_any B11 0 (d : Int) w4 I11).mono ?_
  rintro e w5 ⟨rfl, rfl⟩
  go_wp2_with fail
  refine (klaid_any B9 0 (n : Int) w4 I9 (by rw [Int.natAbs_natCast]; exact HA.out.2.2.2.2.2.1)).mono ?_
  rintro e w6 ⟨rfl, hB⟩
  rw [Int.natAbs_natCast, HS.out.1]
  replace Z := Z.keep hB
  replace hb := hb.trans (hB.mono hb.size)
  replace I11 := I11.below hB
  clear hB I9
  go_wp2_with fail
  refine (klaid_any B11 0 (d : Int) w6 I11 (by rw [Int.natAbs_natCast]; exact HA.out.2.2.2.2.2.2)).mono ?_
  rintro e w7 ⟨rfl, hB⟩
  rw [Int.natAbs_natCast, HS.out.2]
  replace Z := Z.keep hB
  replace hb := hb.trans (hB.mono hb.size)
  clear hB I11
  clear hsg hsi
  have lz := Z.lt
  have X := Blk.put w7 #[.bool ng, .string S, .string D] 25
  replace Z := Z.allocd (.cells #[.bool ng, .string S, .string D] 25)
  replace hb := hb.alloc hb.size (.cells #[.bool ng, .string S, .string D] 25)
  obtain ⟨x0, x1, x2⟩ := X.ce3
  go_wp2_with fail
  refine (ht _).mono ?_
  rintro e w8 ⟨rfl, hB⟩
  clear x0 x1 x2 ht
  replace X := X.keep hB
  replace Z := Z.keep hB
  replace hb := hb.trans (hB.mono hb.size)
  clear hB
  have hne : ¬ t.toList = s.toList := beq_eq_false_iff_ne.1 hts
  clear X
  obtain ⟨zf0, zf1, zf2⟩ := Z.fr3
  obtain ⟨z0, z1, z2⟩ := Z.ce3
  have G0 : Blk (((w8.setCell ⟨w.heap.size, 0, none⟩ (.bool false)).setCell ⟨w.heap.size, 1, none⟩ (.string ⟨#[]⟩)).setCell ⟨w.heap.size, 2, none⟩ (.string ⟨#[]⟩)) w.heap.size #[.bool false, .string ⟨#[]⟩, .string ⟨#[]⟩] 25 := ((Z.setAt 0 _).setAt 1 _).setAt 2 _
  obtain ⟨g0, g1, g2⟩ := G0.ce3
  have hbY := ((hb.setCell (p := ⟨w.heap.size, 0, none⟩) (Nat.le_refl _) (.bool false)).setCell (p := ⟨w.heap.size, 1, none⟩) (Nat.le_refl _) (.string ⟨#[]⟩)).setCell (p := ⟨w.heap.size, 2, none⟩) (Nat.le_refl _) (.string ⟨#[]⟩)
  have HG := Lib.hid (And.intro (And.intro g0 (And.intro g1 g2)) hbY)
  clear g0 g1 g2 hbY G0 Z hb
  go_wp2
  obtain ⟨⟨g0, g1, g2⟩, hbY⟩ := HG.out
  exact bodyPost_ret (v := errV 40) (by simp [results, errV, Try.results17, go_sem, g0, g1, g2]) rfl ⟨rfl, hbY⟩

set_option maxRecDepth 1000000 in
set_option maxHeartbeats 4000000 in
theorem kread_fy (s rest a b : ByteArray) (ng : Bool) (w : World) (hs : s.size ≤ 80000) (hsa : a.size ≤ 1000000) (hc1 : ∀ W, Calls Try.prog 39 #[.string s, .string ⟨#[45]⟩] W fun e w' => e = .returned (.tuple #[.string rest, .bool ng]) ∧ W = w') (hc2 : ∀ W, Calls Try.prog 40 #[.string rest, .string ⟨#[47]⟩] W fun e w' => e = .returned (.tuple #[.string a, .string b, .bool false]) ∧ Below W.heap.size W w') (ha : goodL a.data.toList) (hbb : goodL (⟨#[49]⟩ : ByteArray).data.toList) (n d : Nat) (S D : ByteArray) (hSn : bstr n = S) (hDd : bstr d = D) (hn : dval 0 a.data.toList = n) (hd : dval 0 (⟨#[49]⟩ : ByteArray).data.toList = d) (hd0 : d ≠ 0) (hnK : Fil.dn 32 n ≤ 1099511627776) (hdK : Fil.dn 32 d ≤ 1099511627776) (t : ByteArray) (ht : ∀ W, Calls Try.prog 16 #[.agg #[.bool ng, .string S, .string D]] W fun e w' => e = .returned (.tuple #[.string t, .int .i64 0]) ∧ Below W.heap.size W w') (hts : (t.toList == s.toList) = true) :
    Calls Try.prog 17 #[.string s] w fun e w' => e = .returned (.tuple #[.agg #[.bool ng, .string S, .string D], .int .i64 0]) ∧ Below w.heap.size w w' := by
  have ts : decide ((80000 : Int) < (s.size : Int)) = false := decide_eq_false (by omega)
  have HA := Lib.hid (And.intro ha (And.intro hbb (And.intro hn (And.intro hd (And.intro hd0 (And.intro hnK hdK))))))
  have HS := Lib.hid (And.intro hSn hDd)
  clear ha hbb hn hd hd0 hnK hdK hSn hDd
  have Z := Blk.put w #[.bool false, .string { data := #[] }, .string { data := #[] }] 25
  have hb := (Below.refl w.heap.size w).alloc (Nat.le_refl _) (.cells #[.bool false, .string { data := #[] }, .string { data := #[] }] 25)
  go_enter Try.func17, Try.ntmps17
  go_wp2_with fail
  refine (hc1 _).mono ?_
  rintro e w1 ⟨rfl, hw⟩
  generalize w.alloc (.cells #[.bool false, .string { data := #[] }, .string { data := #[] }] 25) = w0 at *
  subst hw
  clear hc1
  go_wp2_with fail
  refine (hc2 _).mono ?_
  rintro e w2 ⟨rfl, hB⟩
  replace Z := Z.keep hB
  replace hb := hb.trans (hB.mono hb.size)
  clear hB hc2
  go_wp2_with fail
  refine (kdigits_val a _ hsa HA.out.1).mono ?_
  rintro e w3 ⟨B9, rfl, I9, hB9, hB⟩
  replace Z := Z.keep hB
  replace hb := hb.trans (hB.mono hb.size)
  clear hB
  go_wp2_with fail
  refine (kdigits_val ⟨#[49]⟩ _ (by decide) HA.out.2.1).mono ?_
  rintro e w4 ⟨B11, rfl, I11, hB11, hB⟩
  replace Z := Z.keep hB
  replace hb := hb.trans (hB.mono hb.size)
  replace I9 := I9.below hB
  clear hB
  rw [HA.out.2.2.1] at I9
  rw [HA.out.2.2.2.1] at I11
  have hsg : (if (d : Int) = 0 then 0 else if (d : Int) < 0 then -1 else 1 : Int) = 1 := by have := HA.out.2.2.2.2.1; rw [if_neg (by omega), if_neg (by omega)]
  have hsi : ((d : Int)).sign = 1 := Int.sign_eq_one_of_pos (by have := HA.out.2.2.2.2.1; omega)
  go_wp2_with fail
  refine (sign_any B11 0 (d : Int) w4 I11).mono ?_
  rintro e w5 ⟨rfl, rfl⟩
  go_wp2_with fail
  refine (klaid_any B9 0 (n : Int) w4 I9 (by rw [Int.natAbs_natCast]; exact HA.out.2.2.2.2.2.1)).mono ?_
  rintro e w6 ⟨rfl, hB⟩
  rw [Int.natAbs_natCast, HS.out.1]
  replace Z := Z.keep hB
  replace hb := hb.trans (hB.mono hb.size)
  replace I11 := I11.below hB
  clear hB I9
  go_wp2_with fail
  refine (klaid_any B11 0 (d : Int) w6 I11 (by rw [Int.natAbs_natCast]; exact HA.out.2.2.2.2.2.2)).mono ?_
  rintro e w7 ⟨rfl, hB⟩
  rw [Int.natAbs_natCast, HS.out.2]
  replace Z := Z.keep hB
  replace hb := hb.trans (hB.mono hb.size)
  clear hB I11
  clear hsg hsi
  have lz := Z.lt
  have X := Blk.put w7 #[.bool ng, .string S, .string D] 25
  replace Z := Z.allocd (.cells #[.bool ng, .string S, .string D] 25)
  replace hb := hb.alloc hb.size (.cells #[.bool ng, .string S, .string D] 25)
  obtain ⟨x0, x1, x2⟩ := X.ce3
  go_wp2_with fail
  refine (ht _).mono ?_
  rintro e w8 ⟨rfl, hB⟩
  clear x0 x1 x2 ht
  replace X := X.keep hB
  replace Z := Z.keep hB
  replace hb := hb.trans (hB.mono hb.size)
  clear hB
  have hne : t.toList = s.toList := beq_iff_eq.1 hts
  clear hne
  obtain ⟨x0, x1, x2⟩ := X.ce3
  obtain ⟨zf0, zf1, zf2⟩ := Z.fr3
  obtain ⟨z0, z1, z2⟩ := Z.ce3
  have G0 : Blk (((w8.setCell ⟨w.heap.size, 0, none⟩ (.bool ng)).setCell ⟨w.heap.size, 1, none⟩ (.string S)).setCell ⟨w.heap.size, 2, none⟩ (.string D)) w.heap.size #[.bool ng, .string S, .string D] 25 := ((Z.setAt 0 _).setAt 1 _).setAt 2 _
  obtain ⟨g0, g1, g2⟩ := G0.ce3
  have hbY := ((hb.setCell (p := ⟨w.heap.size, 0, none⟩) (Nat.le_refl _) (.bool ng)).setCell (p := ⟨w.heap.size, 1, none⟩) (Nat.le_refl _) (.string S)).setCell (p := ⟨w.heap.size, 2, none⟩) (Nat.le_refl _) (.string D)
  have HG := Lib.hid (And.intro (And.intro g0 (And.intro g1 g2)) hbY)
  clear g0 g1 g2 hbY G0 Z hb
  go_wp2
  obtain ⟨⟨g0, g1, g2⟩, hbY⟩ := HG.out
  exact bodyPost_ret (v := .tuple #[.agg #[.bool ng, .string S, .string D], .int .i64 0]) (by simp [results, Try.results17, go_sem, g0, g1, g2]) rfl ⟨rfl, hbY⟩

end Go.Proofs.Ytbfnafcpjbdbpaa
