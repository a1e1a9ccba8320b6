/- Merged: Kf Kb Kc Kd Kg -/
import Derived.Test.YtbhfnigblhfikaaGreatJU
import Derived.Laws.Externs
import Derived.Lib.Bytealg
import Derived.Lib.IndexLaws
import Derived.Shelf.RegionOpenPlain
import Derived.Test.YtbhfnigblhfikaaGreatJV

/- strings.CutPrefix at "-", strings.Cut at "/". -/
namespace Go.Proofs.YtbhfnigblhfikaaGreat
open Go Go.RowKit Go.PlainAid Fil

set_option maxRecDepth 100000 in
set_option maxHeartbeats 1000000 in
theorem indexbyte_any (s : ByteArray) (c : Int) (w : World) :
    Calls Tryz.prog 99 #[.string s, .int .u8 c] w fun e w' => e = .returned (.int .i64 (Lib.indexByte s.data.toList c.toNat.toUInt8)) ∧ w = w' := by
  go_enter Tryz.func99, Tryz.ntmps99
  go_wp2_with fail
  rw [run_callFunc_extern Tryz.func115 (by kernel_rfl) (by kernel_rfl) (by kernel_rfl) (e := Extern.BytealgIndexByte.indexByte) (by kernel_rfl), Lib.run_indexByteString]
  simp only [Result.andThen]
  rw [Oper.upon_value]
  go_wp2
  go_ret
  exact ⟨rfl, rfl⟩
theorem index_first {s : ByteArray} {c : UInt8} {i : Nat} (hi : i < s.size) (h : s[i]'hi = c) (hn : ∀ (k : Nat) (hk : k < i), s[k]'(by omega) ≠ c) : Lib.indexByte s.data.toList c = i := by
  rcases Int.lt_or_le (Lib.indexByte s.data.toList c) 0 with h1 | h1
  · have h2 := Lib.indexByte_ge s.data.toList c
    have h3 := Lib.indexByte_none (show Lib.indexByte s.data.toList c = -1 by omega) i
    refine absurd ?_ h3
    rw [List.getElem?_eq_getElem (by rw [Array.length_toList]; exact hi)]
    exact congrArg some h
  · obtain ⟨o, ho⟩ : ∃ o : Nat, Lib.indexByte s.data.toList c = o := ⟨(Lib.indexByte s.data.toList c).toNat, by omega⟩
    obtain ⟨h3, h4⟩ := Lib.indexByte_some ho
    rw [ho]
    congr 1
    rcases Nat.lt_trichotomy o i with h5 | h5 | h5
    · rw [List.getElem?_eq_getElem (by rw [Array.length_toList]; exact Nat.lt_trans h5 hi)] at h3
      exact absurd (Option.some.inj h3) (hn o h5)
    · exact h5
    · refine absurd ?_ (h4 i h5)
      rw [List.getElem?_eq_getElem (by rw [Array.length_toList]; exact hi)]
      exact congrArg some h
theorem index_none {s : ByteArray} {c : UInt8} (hn : ∀ (k : Nat) (hk : k < s.size), s[k]'hk ≠ c) : Lib.indexByte s.data.toList c = -1 := by
  have h2 := Lib.indexByte_ge s.data.toList c
  rcases Int.lt_or_le (Lib.indexByte s.data.toList c) 0 with h1 | h1
  · omega
  · obtain ⟨o, ho⟩ : ∃ o : Nat, Lib.indexByte s.data.toList c = o := ⟨(Lib.indexByte s.data.toList c).toNat, by omega⟩
    obtain ⟨h3, _⟩ := Lib.indexByte_some ho
    have h5 : o < s.data.toList.length := (List.getElem?_eq_some_iff.1 h3).1
    rw [List.getElem?_eq_getElem h5] at h3
    rw [Array.length_toList] at h5
    exact absurd (Option.some.inj h3) (hn o h5)
set_option maxRecDepth 100000 in
set_option maxHeartbeats 2000000 in
theorem index_slash (s : ByteArray) (j : Int) (w : World) (hj : Lib.indexByte s.data.toList 47 = j) :
    Calls Tryz.prog 89 #[.string s, .string ⟨#[47]⟩] w fun e w' => e = .returned (.int .i64 j) ∧ w = w' := by
  have hi : ∀ W, Calls Tryz.prog 99 #[.string s, .int .u8 47] W fun e w' => e = .returned (.int .i64 j) ∧ W = w' := fun W => by
    have h := indexbyte_any s 47 W
    rw [show (47 : Int).toNat.toUInt8 = 47 from rfl, hj] at h
    exact h
  by_cases hs : s.toList = [47]
  · have e1 : ([47] == s.toList) = true := beq_iff_eq.2 hs.symm
    have e2 : (s.toList == [47]) = true := beq_iff_eq.2 hs
    have hj0 : j = 0 := by
      rw [ByteArray.toList_eq] at hs
      rw [← hj, hs]; rfl
    subst hj0
    clear hj hi hs
    go_enter Tryz.func89, Tryz.ntmps89
    go_wp2_with fail
    go_ret
    exact ⟨rfl, rfl⟩
  · have e1 : ([47] == s.toList) = false := beq_eq_false_iff_ne.2 (fun h => hs h.symm)
    have e2 : (s.toList == [47]) = false := beq_eq_false_iff_ne.2 hs
    clear hj hs
    go_enter Tryz.func89, Tryz.ntmps89
    go_wp2_with fail
    refine (hi _).mono ?_
    rintro e w1 ⟨rfl, rfl⟩
    go_wp2_with fail
    go_ret
    exact ⟨rfl, rfl⟩
set_option maxRecDepth 100000 in
set_option maxHeartbeats 2000000 in
theorem lcut_no (s : ByteArray) (w : World) (hn : ∀ (k : Nat) (hk : k < s.size), s[k]'hk ≠ 47) :
    Calls Tryz.prog 60 #[.string s, .string ⟨#[47]⟩] w fun e w' => e = .returned (.tuple #[.string s, .string ⟨#[]⟩, .bool false]) ∧ w = w' := by
  have hi := fun W => index_slash s (-1) W (index_none hn)
  clear hn
  go_enter Tryz.func60, Tryz.ntmps60
  go_wp2_with fail
  refine (hi _).mono ?_
  rintro e w1 ⟨rfl, rfl⟩
  go_wp2_with fail
  go_ret3
  exact ⟨rfl, rfl⟩
set_option maxRecDepth 100000 in
set_option maxHeartbeats 2000000 in
theorem lcut_yes (s : ByteArray) (i : Nat) (w : World) (hi : i < s.size) (h : s[i]'hi = 47) (hn : ∀ (k : Nat) (hk : k < i), s[k]'(by omega) ≠ 47) (hs : s.size ≤ 1000000) :
    Calls Tryz.prog 60 #[.string s, .string ⟨#[47]⟩] w fun e w' => e = .returned (.tuple #[.string (s.extract 0 i), .string (s.extract (i + 1) s.size), .bool true]) ∧ ∃ n, w' = w.drewN n := by
  have hx := fun W => index_slash s i W (index_first hi h hn)
  clear hn h
  have c1 : (0 : Int) ≤ (i : Int) := by omega
  have c2 : (i : Int) ≤ (s.size : Int) := by omega
  have c3 : (0 : Int) ≤ (i : Int) + 1 := by omega
  have c4 : (i : Int) + 1 ≤ (s.size : Int) := by omega
  have mixed : Tryz.prog.follows .mixedOrders = true := by kernel_rfl
  go_enter Tryz.func60, Tryz.ntmps60
  go_wp2_with fail
  refine (hx _).mono ?_
  rintro e w1 ⟨rfl, rfl⟩
  go_wp2_with fail
  go_region_o
  go_wp2_with fail
  go_ret3
  exact ⟨rfl, 1, rfl⟩
set_option maxRecDepth 100000 in
set_option maxHeartbeats 2000000 in
theorem scut_no (s : ByteArray) (w : World) (hn : ∀ (k : Nat) (hk : k < s.size), s[k]'hk ≠ 47) :
    Calls Tryz.prog 25 #[.string s, .string ⟨#[47]⟩] w fun e w' => e = .returned (.tuple #[.string s, .string ⟨#[]⟩, .bool false]) ∧ w = w' := by
  have hi := fun W => lcut_no s W hn
  clear hn
  go_enter Tryz.func25, Tryz.ntmps25
  go_wp2_with fail
  refine (hi _).mono ?_
  rintro e w1 ⟨rfl, rfl⟩
  go_wp2_with fail
  go_ret3
  exact ⟨rfl, rfl⟩
set_option maxRecDepth 100000 in
set_option maxHeartbeats 2000000 in
theorem scut_yes (s : ByteArray) (i : Nat) (w : World) (hi : i < s.size) (h : s[i]'hi = 47) (hn : ∀ (k : Nat) (hk : k < i), s[k]'(by omega) ≠ 47) (hs : s.size ≤ 1000000) :
    Calls Tryz.prog 25 #[.string s, .string ⟨#[47]⟩] w fun e w' => e = .returned (.tuple #[.string (s.extract 0 i), .string (s.extract (i + 1) s.size), .bool true]) ∧ ∃ n, w' = w.drewN n := by
  have hx := fun W => lcut_yes s i W hi h hn hs
  clear hn h
  go_enter Tryz.func25, Tryz.ntmps25
  go_wp2_with fail
  refine (hx _).mono ?_
  rintro e w1 ⟨rfl, n, rfl⟩
  go_wp2_with fail
  go_ret3
  exact ⟨rfl, n, rfl⟩
/-- does a text begin with a minus? -/
theorem take_one {s : ByteArray} (h : 0 < s.size) : (s.extract 0 1).toList = [s[0]'h] := by
  rw [ByteArray.toList_eq]
  have h1 := head_get h
  have e : (s.extract 0 1).data.toList = s.data.toList.take 1 := by simp
  rw [e]
  cases hl : s.data.toList with
  | nil => rw [hl] at h1; simp at h1
  | cons x r => rw [hl] at h1; simp at h1; rw [h1]; rfl
theorem minus_dec {s : ByteArray} (h : 0 < s.size) : ((s.extract 0 1).toList == [45]) = decide (byt s 0 = 45) := by
  rw [take_one h, byt_in h]
  by_cases hc : (s[0]'h).toNat = 45
  · have h2 : (s[0]'h) = 45 := UInt8.toNat_inj.1 hc
    rw [decide_eq_true hc, h2]; rfl
  · rw [decide_eq_false hc, beq_eq_false_iff_ne]
    intro h2
    injection h2 with h3
    exact hc (congrArg UInt8.toNat h3)
set_option maxRecDepth 100000 in
set_option maxHeartbeats 2000000 in
theorem hasprefix_minus (s : ByteArray) (w : World) (b : Bool) (hb : decide (0 < s.size ∧ byt s 0 = 45) = b) :
    Calls Tryz.prog 80 #[.string s, .string ⟨#[45]⟩] w fun e w' => e = .returned (.bool b) ∧ w = w' := by
  rcases Nat.eq_zero_or_pos s.size with h0 | h0
  · have t1 : decide ((1 : Int) ≤ (s.size : Int)) = false := decide_eq_false (by omega)
    have e : b = false := by rw [← hb]; exact decide_eq_false (by omega)
    subst e
    clear hb h0
    go_enter Tryz.func80, Tryz.ntmps80
    go_wp2_with fail
    go_ret
    exact ⟨rfl, rfl⟩
  · have t1 : decide ((1 : Int) ≤ (s.size : Int)) = true := decide_eq_true (by omega)
    have hx : ((s.extract 0 1).toList == [45]) = b := by
      rw [minus_dec h0, ← hb]
      congr 1
      exact propext ⟨fun h => ⟨h0, h⟩, fun h => h.2⟩
    clear hb
    go_enter Tryz.func80, Tryz.ntmps80
    go_wp2_with fail
    go_ret
    exact ⟨rfl, rfl⟩
set_option maxRecDepth 100000 in
set_option maxHeartbeats 2000000 in
theorem cutp_yes (s : ByteArray) (w : World) (h0 : 0 < s.size) (h : byt s 0 = 45) :
    Calls Tryz.prog 24 #[.string s, .string ⟨#[45]⟩] w fun e w' => e = .returned (.tuple #[.string (s.extract 1 s.size), .bool true]) ∧ w = w' := by
  have hx := fun W => hasprefix_minus s W true (decide_eq_true ⟨h0, h⟩)
  have hl : ∀ W, Calls Tryz.prog 59 #[.string s, .string ⟨#[45]⟩] W fun e w' => e = .returned (.tuple #[.string (s.extract 1 s.size), .bool true]) ∧ W = w' := fun W => by
    clear h
    go_enter Tryz.func59, Tryz.ntmps59
    go_wp2_with fail
    refine (hx _).mono ?_
    rintro e w1 ⟨rfl, rfl⟩
    go_wp2_with fail
    go_ret2
    exact ⟨rfl, rfl⟩
  clear h hx
  go_enter Tryz.func24, Tryz.ntmps24
  go_wp2_with fail
  refine (hl _).mono ?_
  rintro e w1 ⟨rfl, rfl⟩
  go_wp2_with fail
  go_ret2
  exact ⟨rfl, rfl⟩
set_option maxRecDepth 100000 in
set_option maxHeartbeats 2000000 in
theorem cutp_no (s : ByteArray) (w : World) (h : byt s 0 ≠ 45) :
    Calls Tryz.prog 24 #[.string s, .string ⟨#[45]⟩] w fun e w' => e = .returned (.tuple #[.string s, .bool false]) ∧ w = w' := by
  have hx := fun W => hasprefix_minus s W false (decide_eq_false fun k => h k.2)
  have hl : ∀ W, Calls Tryz.prog 59 #[.string s, .string ⟨#[45]⟩] W fun e w' => e = .returned (.tuple #[.string s, .bool false]) ∧ W = w' := fun W => by
    clear h
    go_enter Tryz.func59, Tryz.ntmps59
    go_wp2_with fail
    refine (hx _).mono ?_
    rintro e w1 ⟨rfl, rfl⟩
    go_wp2_with fail
    go_ret2
    exact ⟨rfl, rfl⟩
  clear h hx
  go_enter Tryz.func24, Tryz.ntmps24
  go_wp2_with fail
  refine (hl _).mono ?_
  rintro e w1 ⟨rfl, rfl⟩
  go_wp2_with fail
  go_ret2
  exact ⟨rfl, rfl⟩
set_option maxRecDepth 100000 in
set_option maxHeartbeats 2000000 in
theorem shasprefix_minus (s : ByteArray) (w : World) (b : Bool) (hb : decide (0 < s.size ∧ byt s 0 = 45) = b) :
    Calls Tryz.prog 46 #[.string s, .string ⟨#[45]⟩] w fun e w' => e = .returned (.bool b) ∧ w = w' := by
  have hx := fun W => hasprefix_minus s W b hb
  clear hb
  go_enter Tryz.func46, Tryz.ntmps46
  go_wp2_with fail
  refine (hx _).mono ?_
  rintro e w1 ⟨rfl, rfl⟩
  go_wp2_with fail
  go_ret
  exact ⟨rfl, rfl⟩
end Go.Proofs.YtbhfnigblhfikaaGreat

/- ratio.Decimal. -/
namespace Go.Proofs.YtbhfnigblhfikaaGreat
open Go Go.RowKit Go.PlainAid Fil

set_option maxRecDepth 1000000 in
set_option maxHeartbeats 8000000 in
theorem kdecimal_Up (s : ByteArray) (w : World) (dn : Bool) (H T Q : ByteArray) (x p m : Nat) (P : Int) (hs : s.size ≤ 4096) (hd : SP s = (⟨dn, false, H, T, Q⟩, true)) (hH : goodL H.data.toList) (hT : allDec T.data.toList) (hsz : H.size + T.size ≤ 4096) (hqz : Q.size ≤ 4096) (hQ : goodL Q.data.toList) (hp : dval 0 Q.data.toList = p) (hp5 : p ≤ 5000) (hP : (p : Int) - T.size = P) (hsg : 0 ≤ P) (hm : P.natAbs = m) (hx : dval 0 (H ++ T).data.toList = x) :
    Calls Tryz.prog 11 #[.string s] w fun e w' => e = .returned (kToldV (Rat.divInt (sz dn x * ((10 ^ m : Nat) : Int)) 1)) ∧ Below w.heap.size w w' := by
  have hm9 : m ≤ 10000 := by omega
  have hK := dn_ten (m := m) hm9
  have hxK : Fil.dn 32 x ≤ 600 := by rw [← hx]; exact dn_hx hH hT hsz
  have hpos : 0 < (H ++ T).size := by rw [ByteArray.size_append]; have := good_pos hH; omega
  have hle : (H ++ T).size ≤ 1000000 := by rw [ByteArray.size_append]; omega
  have hdg := dig_app hH hT
  have hcc : (H ++ T).size = H.size + T.size := ByteArray.size_append
  have htd := fun W B (R : RatAt W B (Rat.divInt (sz dn x * ((10 ^ m : Nat) : Int)) 1)) => ktold_any B (Rat.divInt (sz dn x * ((10 ^ m : Nat) : Int)) 1) W R (szd_pos dn hxK hK)
  obtain ⟨tn, tS, tT, te, hV⟩ := kTold_parts (Rat.divInt (sz dn x * ((10 ^ m : Nat) : Int)) 1)
  rw [hV] at htd ⊢
  have hss := fun W B R => setstring_any B (H ++ T) W R hpos hle hdg
  have edv : dvt (H ++ T) (H ++ T).size = x := by rw [dvt_size]; exact hx
  rw [edv] at hss
  have hmx : max P (-P) = (m : Int) := by omega
  have HD := Lib.hid hd
  have HX := Lib.hid (And.intro hxK hK)
  have HQ := Lib.hid (And.intro hQ hp)
  have hqe := str_cons (good_pos hQ)
  have hqn : ¬ Q.toList = [] := fun h => by rw [h] at hqe; exact Bool.noConfusion hqe
  clear hQ hp
  clear hd hH hT hx edv hV hdg hpos hm hxK hK hcc
  have ts : decide ((4096 : Int) < (s.size : Int)) = false := decide_eq_false (by omega)
  have hT2 : T.size ≤ 4096 := by omega
  have hH2 : H.size ≤ 4096 := by omega
  have Z := Blk.put w #[.bool false, .string { data := #[] }, .string { data := #[] }] 24
  have hb := (Below.refl w.heap.size w).alloc (Nat.le_refl _) (.cells #[.bool false, .string { data := #[] }, .string { data := #[] }] 24)
  go_enter Tryz.func11, Tryz.ntmps11
  go_wp2_with fail
  refine (ksplit_as s dn false H T Q true _ (by omega) HD.out).mono ?_
  rintro e w1 ⟨rfl, hB⟩
  replace Z := Z.keep hB
  replace hb := hb.trans (hB.mono hb.size)
  clear hB
  have lz := Z.lt
  have F := Blk.put w1 #[.bool dn, .bool false, .string H, .string T, .string Q] 61
  replace Z := Z.allocd (.cells #[.bool dn, .bool false, .string H, .string T, .string Q] 61)
  replace hb := hb.alloc hb.size (.cells #[.bool dn, .bool false, .string H, .string T, .string Q] 61)
  have lF := F.lt
  obtain ⟨c0, c1, c2, c3, c4⟩ := Blk.ce5 F
  go_wp2_with fail
  refine (kdigits_val Q _ (by omega) HQ.out.1).mono ?_
  rintro e w2 ⟨B7, rfl, I7, hB7, hB⟩
  rw [HQ.out.2] at I7
  generalize w1.alloc (.cells #[.bool dn, .bool false, .string H, .string T, .string Q] 61) = v1 at *
  clear c0 c1 c2 c3 c4
  replace Z := Z.keep hB
  replace F := F.keep hB
  replace hb := hb.trans (hB.mono hb.size)
  clear hB
  have l7 := I7.lt
  obtain ⟨c0, c1, c2, c3, c4⟩ := Blk.ce5 F
  go_wp2_with fail
  refine (newint_any 5000 w2 (by decide) (by decide)).mono ?_
  rintro e w3 ⟨rfl, I8, hB⟩
  clear c0 c1 c2 c3 c4
  replace Z := Z.keep hB
  replace F := F.keep hB
  replace I7 := I7.below hB
  replace hb := hb.trans (hB.mono hb.size)
  clear hB
  obtain ⟨c0, c1, c2, c3, c4⟩ := Blk.ce5 F
  go_wp2_with fail
  refine (icmp_any B7 0 w2.heap.size 0 (p : Int) 5000 w3 I7 I8 (by rw [Int.natAbs_natCast]; exact Nat.le_trans (dn_p5 hp5) (by decide)) (Nat.le_trans (dn_p5 (x := 5000) (Nat.le_refl _)) (by decide))).mono ?_
  rintro e w4 ⟨rfl, k, hk⟩
  obtain ⟨cv, hcv⟩ : ∃ cv, cv = cmpI (p : Int) 5000 := ⟨_, rfl⟩
  have hc0 : cv ≤ 0 := by rw [hcv]; exact cmp_p5 hp5
  rw [← hcv]
  clear hcv
  have Z4 : Blk (w3.drewN k) _ _ _ := Z
  rw [← hk] at Z4
  have F4 : Blk (w3.drewN k) _ _ _ := F
  rw [← hk] at F4
  have I4 : IntAt w4 B7 0 (p : Int) := by rw [hk]; exact I7.drewN k
  have hb4 : Below w.heap.size w w4 := by rw [hk]; exact Below.drewN' hb k
  have l4 : w4.heap.size = w3.heap.size := by rw [hk]; rfl
  clear hk Z F I7 I8 hb
  clear c0 c1 c2 c3 c4
  have Z := Z4
  have F := F4
  have I7 := I4
  have hb := hb4
  clear Z4 F4 I4 hb4
  have l3 : B7 < w4.heap.size := I7.lt
  have lF4 : w1.heap.size < w4.heap.size := F.lt
  clear l4
  obtain ⟨c0, c1, c2, c3, c4⟩ := Blk.ce5 F
  go_wp2_with fail
  refine (int64_any B7 0 p w4 I7 (by omega)).mono ?_
  rintro e w5 ⟨rfl, rfl⟩
  clear I7 hc0
  have R9 := Room.new w4 70 #[.bool false, .slice none 0 0] (o := 0) (by decide) (by simp)
  have lw4 : w1.heap.size < w4.heap.size := F.lt
  replace Z := Z.allocd (.cells #[.bool false, .slice none 0 0] 70)
  replace F := F.allocd (.cells #[.bool false, .slice none 0 0] 70)
  replace hb := hb.alloc hb.size (.cells #[.bool false, .slice none 0 0] 70)
  obtain ⟨e0, e1, e2, e3, e4⟩ := Blk.ce5 F
  go_wp2_with fail
  refine (hss _ w4.heap.size R9).mono ?_
  rintro e w6 ⟨rfl, I9, hB⟩
  have la : w4.heap.size < (w4.alloc (.cells #[.bool false, .slice none 0 0] 70)).heap.size := by simp
  generalize hv4 : w4.alloc (.cells #[.bool false, .slice none 0 0] 70) = v4 at *
  clear R9 hv4
  clear c0 c1 c2 c3 c4
  clear e0 e1 e2 e3 e4
  replace Z := Z.ofFar hB.toFar (by omega)
  replace F := F.ofFar hB.toFar (by omega)
  replace hb := hb.trans (hB.below (by omega) hb.size)
  clear hB
  have l9 := I9.lt
  have R11 := Room.new w6 70 #[.bool false, .slice none 0 0] (o := 0) (by decide) (by simp)
  replace Z := Z.allocd (.cells #[.bool false, .slice none 0 0] 70)
  replace F := F.allocd (.cells #[.bool false, .slice none 0 0] 70)
  replace I9 := I9.alloc (.cells #[.bool false, .slice none 0 0] 70)
  replace hb := hb.alloc hb.size (.cells #[.bool false, .slice none 0 0] 70)
  obtain ⟨c0, c1, c2, c3, c4⟩ := Blk.ce5 F
  have lb : w6.heap.size < (w6.alloc (.cells #[.bool false, .slice none 0 0] 70)).heap.size := by simp
  generalize hv6 : w6.alloc (.cells #[.bool false, .slice none 0 0] 70) = v6 at *
  go_wp2_with fail

  refine (newint_any 10 _ (by decide) (by decide)).mono ?_
  rintro e w7 ⟨rfl, I10, hB⟩
  clear hv6
  clear c0 c1 c2 c3 c4
  replace Z := Z.keep hB
  replace F := F.keep hB
  replace I9 := I9.below hB
  replace R11 := R11.below hB
  replace hb := hb.trans (hB.mono hb.size)
  clear hB
  obtain ⟨c0, c1, c2, c3, c4⟩ := Blk.ce5 F
  have l10 := I10.lt
  go_wp2_with fail
  refine (newint_any m _ (by omega) (by omega)).mono ?_
  rintro e w8 ⟨rfl, I12, hB⟩
  clear c0 c1 c2 c3 c4
  replace Z := Z.keep hB
  replace F := F.keep hB
  replace I9 := I9.below hB
  replace R11 := R11.below hB
  replace I10 := I10.below hB
  replace hb := hb.trans (hB.mono hb.size)
  clear hB
  have l12 := I12.lt
  go_wp2_with fail
  refine (exp_any w6.heap.size 0 v6.heap.size 0 w7.heap.size 0 10 m 2000 none _ R11 I10 I12 (by omega) (by omega) HX.out.2 (Nat.le_trans (dn_p5 (x := 10) (by decide)) (by decide)) (by omega)).mono ?_
  rintro e w9 ⟨rfl, I11, hB⟩
  clear R11 I10 I12
  replace Z := Z.ofFar hB.toFar (by omega)
  replace F := F.ofFar hB.toFar (by omega)
  replace I9 := I9.but hB (.inl (by omega))
  replace hb := hb.trans (hB.below (by omega) hb.size)
  clear hB
  have l11 := I11.lt
  obtain ⟨c0, c1, c2, c3, c4⟩ := Blk.ce5 F
  cases dn
  · have J9 : IntAt w9 w4.heap.size 0 (sz false x) := I9
    clear I9
    have lW := I11.lt
    have RR := RRoom.new w9
    replace Z := Z.allocd (.cells #[.bool false, .slice none 0 0, .bool false, .slice none 0 0] 77)
    replace J9 := J9.alloc (.cells #[.bool false, .slice none 0 0, .bool false, .slice none 0 0] 77)
    replace I11 := I11.alloc (.cells #[.bool false, .slice none 0 0, .bool false, .slice none 0 0] 77)
    replace hb := hb.alloc hb.size (.cells #[.bool false, .slice none 0 0, .bool false, .slice none 0 0] 77)
    have lV : w9.heap.size < (w9.alloc (.cells #[.bool false, .slice none 0 0, .bool false, .slice none 0 0] 77)).heap.size := by simp
    go_wp2_with fail
    refine (mul_any w4.heap.size 0 w4.heap.size 0 w6.heap.size 0 (sz false x) ((10 ^ m : Nat) : Int) _ J9.room J9 I11 (by rw [sz_abs]; have := HX.out.1; omega) (by rw [Int.natAbs_natCast]; have := HX.out.2; omega)).mono ?_
    rintro e w11 ⟨rfl, K9, hB⟩
    generalize w9.alloc (.cells #[.bool false, .slice none 0 0, .bool false, .slice none 0 0] 77) = vW at *
    replace Z := Z.ofFar hB.toFar (by omega)
    replace RR := RR.but hB (by omega)
    replace hb := hb.trans (hB.below (by omega) hb.size)
    have lW11 := hB.size
    clear hB J9 I11
    go_wp2_with fail
    refine (ratsetint_any w9.heap.size w4.heap.size _ w11 RR K9 (by omega) (prod_sz false HX.out.1 HX.out.2)).mono ?_
    rintro e w12 ⟨rfl, RA, hF⟩
    replace Z := Z.ofFar hF (by omega)
    replace hb := hb.trans (hF.below (by omega) hb.size)
    clear hF RR K9
    go_wp2_with fail
    refine (htd _ _ RA).mono ?_
    rintro e w13 ⟨rfl, hB⟩
    replace Z := Z.keep hB
    replace hb := hb.trans (hB.mono hb.size)
    clear hB RA htd
    obtain ⟨zf0, zf1, zf2⟩ := Z.fr3
    obtain ⟨z0, z1, z2⟩ := Z.ce3
    have G0 : Blk (((w13.setCell ⟨w.heap.size, 0, none⟩ (.bool tn)).setCell ⟨w.heap.size, 1, none⟩ (.string tS)).setCell ⟨w.heap.size, 2, none⟩ (.string tT)) w.heap.size #[.bool tn, .string tS, .string tT] 24 := ((Z.setAt 0 _).setAt 1 _).setAt 2 _
    obtain ⟨g0, g1, g2⟩ := G0.ce3
    have hbY := ((hb.setCell (p := ⟨w.heap.size, 0, none⟩) (Nat.le_refl _) (.bool tn)).setCell (p := ⟨w.heap.size, 1, none⟩) (Nat.le_refl _) (.string tS)).setCell (p := ⟨w.heap.size, 2, none⟩) (Nat.le_refl _) (.string tT)
    have HG := Lib.hid (And.intro (And.intro g0 (And.intro g1 g2)) hbY)
    clear g0 g1 g2 hbY G0 Z hb
    go_wp2
    obtain ⟨⟨g0, g1, g2⟩, hbY⟩ := HG.out
    exact bodyPost_ret (v := .tuple #[.agg #[.bool tn, .string tS, .string tT], .int .i64 te]) (by simp [results, Tryz.results11, go_sem, g0, g1, g2]) rfl ⟨rfl, hbY⟩
  · go_wp2_with fail
    refine (neg_any w4.heap.size 0 w4.heap.size 0 (x : Int) _ I9.room I9 (by rw [Int.natAbs_natCast]; have := HX.out.1; omega)).mono ?_
    rintro e w10 ⟨rfl, J9, hB⟩
    replace J9 : IntAt w10 w4.heap.size 0 (sz true x) := J9
    replace I11 := I11.but hB (.inl (by omega))
    replace Z := Z.ofFar hB.toFar (by omega)
    replace hb := hb.trans (hB.below (by omega) hb.size)
    clear hB I9 F
    clear c0 c1 c2 c3 c4
    have lW := I11.lt
    have RR := RRoom.new w10
    replace Z := Z.allocd (.cells #[.bool false, .slice none 0 0, .bool false, .slice none 0 0] 77)
    replace J9 := J9.alloc (.cells #[.bool false, .slice none 0 0, .bool false, .slice none 0 0] 77)
    replace I11 := I11.alloc (.cells #[.bool false, .slice none 0 0, .bool false, .slice none 0 0] 77)
    replace hb := hb.alloc hb.size (.cells #[.bool false, .slice none 0 0, .bool false, .slice none 0 0] 77)
    have lV : w10.heap.size < (w10.alloc (.cells #[.bool false, .slice none 0 0, .bool false, .slice none 0 0] 77)).heap.size := by simp
    go_wp2_with fail
    refine (mul_any w4.heap.size 0 w4.heap.size 0 w6.heap.size 0 (sz true x) ((10 ^ m : Nat) : Int) _ J9.room J9 I11 (by rw [sz_abs]; have := HX.out.1; omega) (by rw [Int.natAbs_natCast]; have := HX.out.2; omega)).mono ?_
    rintro e w11 ⟨rfl, K9, hB⟩
    generalize w10.alloc (.cells #[.bool false, .slice none 0 0, .bool false, .slice none 0 0] 77) = vW at *
    replace Z := Z.ofFar hB.toFar (by omega)
    replace RR := RR.but hB (by omega)
    replace hb := hb.trans (hB.below (by omega) hb.size)
    have lW11 := hB.size
    clear hB J9 I11
    go_wp2_with fail
    refine (ratsetint_any w10.heap.size w4.heap.size _ w11 RR K9 (by omega) (prod_sz true HX.out.1 HX.out.2)).mono ?_
    rintro e w12 ⟨rfl, RA, hF⟩
    replace Z := Z.ofFar hF (by omega)
    replace hb := hb.trans (hF.below (by omega) hb.size)
    clear hF RR K9
    go_wp2_with fail
    refine (htd _ _ RA).mono ?_
    rintro e w13 ⟨rfl, hB⟩
    replace Z := Z.keep hB
    replace hb := hb.trans (hB.mono hb.size)
    clear hB RA htd
    obtain ⟨zf0, zf1, zf2⟩ := Z.fr3
    obtain ⟨z0, z1, z2⟩ := Z.ce3
    have G0 : Blk (((w13.setCell ⟨w.heap.size, 0, none⟩ (.bool tn)).setCell ⟨w.heap.size, 1, none⟩ (.string tS)).setCell ⟨w.heap.size, 2, none⟩ (.string tT)) w.heap.size #[.bool tn, .string tS, .string tT] 24 := ((Z.setAt 0 _).setAt 1 _).setAt 2 _
    obtain ⟨g0, g1, g2⟩ := G0.ce3
    have hbY := ((hb.setCell (p := ⟨w.heap.size, 0, none⟩) (Nat.le_refl _) (.bool tn)).setCell (p := ⟨w.heap.size, 1, none⟩) (Nat.le_refl _) (.string tS)).setCell (p := ⟨w.heap.size, 2, none⟩) (Nat.le_refl _) (.string tT)
    have HG := Lib.hid (And.intro (And.intro g0 (And.intro g1 g2)) hbY)
    clear g0 g1 g2 hbY G0 Z hb
    go_wp2
    obtain ⟨⟨g0, g1, g2⟩, hbY⟩ := HG.out
    exact bodyPost_ret (v := .tuple #[.agg #[.bool tn, .string tS, .string tT], .int .i64 te]) (by simp [results, Tryz.results11, go_sem, g0, g1, g2]) rfl ⟨rfl, hbY⟩

set_option maxRecDepth 1000000 in
set_option maxHeartbeats 8000000 in
theorem kdecimal_Un (s : ByteArray) (w : World) (dn : Bool) (H T Q : ByteArray) (x p m : Nat) (P : Int) (hs : s.size ≤ 4096) (hd : SP s = (⟨dn, false, H, T, Q⟩, true)) (hH : goodL H.data.toList) (hT : allDec T.data.toList) (hsz : H.size + T.size ≤ 4096) (hqz : Q.size ≤ 4096) (hQ : goodL Q.data.toList) (hp : dval 0 Q.data.toList = p) (hp5 : p ≤ 5000) (hP : (p : Int) - T.size = P) (hsg : P < 0) (hm : P.natAbs = m) (hx : dval 0 (H ++ T).data.toList = x) :
    Calls Tryz.prog 11 #[.string s] w fun e w' => e = .returned (kToldV (Rat.divInt (sz dn x) ((10 ^ m : Nat) : Int))) ∧ Below w.heap.size w w' := by
  have hm9 : m ≤ 10000 := by omega
  have hK := dn_ten (m := m) hm9
  have hxK : Fil.dn 32 x ≤ 600 := by rw [← hx]; exact dn_hx hH hT hsz
  have hpos : 0 < (H ++ T).size := by rw [ByteArray.size_append]; have := good_pos hH; omega
  have hle : (H ++ T).size ≤ 1000000 := by rw [ByteArray.size_append]; omega
  have hdg := dig_app hH hT
  have hcc : (H ++ T).size = H.size + T.size := ByteArray.size_append
  have htd := fun W B (R : RatAt W B (Rat.divInt (sz dn x) ((10 ^ m : Nat) : Int))) => ktold_any B (Rat.divInt (sz dn x) ((10 ^ m : Nat) : Int)) W R (szd_neg dn hxK hK)
  obtain ⟨tn, tS, tT, te, hV⟩ := kTold_parts (Rat.divInt (sz dn x) ((10 ^ m : Nat) : Int))
  rw [hV] at htd ⊢
  have hss := fun W B R => setstring_any B (H ++ T) W R hpos hle hdg
  have edv : dvt (H ++ T) (H ++ T).size = x := by rw [dvt_size]; exact hx
  rw [edv] at hss
  have hmx : max P (-P) = (m : Int) := by omega
  have HD := Lib.hid hd
  have HX := Lib.hid (And.intro hxK hK)
  have HQ := Lib.hid (And.intro hQ hp)
  have hqe := str_cons (good_pos hQ)
  have hqn : ¬ Q.toList = [] := fun h => by rw [h] at hqe; exact Bool.noConfusion hqe
  clear hQ hp
  clear hd hH hT hx edv hV hdg hpos hm hxK hK hcc
  have ts : decide ((4096 : Int) < (s.size : Int)) = false := decide_eq_false (by omega)
  have hT2 : T.size ≤ 4096 := by omega
  have hH2 : H.size ≤ 4096 := by omega
  have Z := Blk.put w #[.bool false, .string { data := #[] }, .string { data := #[] }] 24
  have hb := (Below.refl w.heap.size w).alloc (Nat.le_refl _) (.cells #[.bool false, .string { data := #[] }, .string { data := #[] }] 24)
  go_enter Tryz.func11, Tryz.ntmps11
  go_wp2_with fail
  refine (ksplit_as s dn false H T Q true _ (by omega) HD.out).mono ?_
  rintro e w1 ⟨rfl, hB⟩
  replace Z := Z.keep hB
  replace hb := hb.trans (hB.mono hb.size)
  clear hB
  have lz := Z.lt
  have F := Blk.put w1 #[.bool dn, .bool false, .string H, .string T, .string Q] 61
  replace Z := Z.allocd (.cells #[.bool dn, .bool false, .string H, .string T, .string Q] 61)
  replace hb := hb.alloc hb.size (.cells #[.bool dn, .bool false, .string H, .string T, .string Q] 61)
  have lF := F.lt
  obtain ⟨c0, c1, c2, c3, c4⟩ := Blk.ce5 F
  go_wp2_with fail
  refine (kdigits_val Q _ (by omega) HQ.out.1).mono ?_
  rintro e w2 ⟨B7, rfl, I7, hB7, hB⟩
  rw [HQ.out.2] at I7
  generalize w1.alloc (.cells #[.bool dn, .bool false, .string H, .string T, .string Q] 61) = v1 at *
  clear c0 c1 c2 c3 c4
  replace Z := Z.keep hB
  replace F := F.keep hB
  replace hb := hb.trans (hB.mono hb.size)
  clear hB
  have l7 := I7.lt
  obtain ⟨c0, c1, c2, c3, c4⟩ := Blk.ce5 F
  go_wp2_with fail
  refine (newint_any 5000 w2 (by decide) (by decide)).mono ?_
  rintro e w3 ⟨rfl, I8, hB⟩
  clear c0 c1 c2 c3 c4
  replace Z := Z.keep hB
  replace F := F.keep hB
  replace I7 := I7.below hB
  replace hb := hb.trans (hB.mono hb.size)
  clear hB
  obtain ⟨c0, c1, c2, c3, c4⟩ := Blk.ce5 F
  go_wp2_with fail
  refine (icmp_any B7 0 w2.heap.size 0 (p : Int) 5000 w3 I7 I8 (by rw [Int.natAbs_natCast]; exact Nat.le_trans (dn_p5 hp5) (by decide)) (Nat.le_trans (dn_p5 (x := 5000) (Nat.le_refl _)) (by decide))).mono ?_
  rintro e w4 ⟨rfl, k, hk⟩
  obtain ⟨cv, hcv⟩ : ∃ cv, cv = cmpI (p : Int) 5000 := ⟨_, rfl⟩
  have hc0 : cv ≤ 0 := by rw [hcv]; exact cmp_p5 hp5
  rw [← hcv]
  clear hcv
  have Z4 : Blk (w3.drewN k) _ _ _ := Z
  rw [← hk] at Z4
  have F4 : Blk (w3.drewN k) _ _ _ := F
  rw [← hk] at F4
  have I4 : IntAt w4 B7 0 (p : Int) := by rw [hk]; exact I7.drewN k
  have hb4 : Below w.heap.size w w4 := by rw [hk]; exact Below.drewN' hb k
  have l4 : w4.heap.size = w3.heap.size := by rw [hk]; rfl
  clear hk Z F I7 I8 hb
  clear c0 c1 c2 c3 c4
  have Z := Z4
  have F := F4
  have I7 := I4
  have hb := hb4
  clear Z4 F4 I4 hb4
  have l3 : B7 < w4.heap.size := I7.lt
  have lF4 : w1.heap.size < w4.heap.size := F.lt
  clear l4
  obtain ⟨c0, c1, c2, c3, c4⟩ := Blk.ce5 F
  go_wp2_with fail
  refine (int64_any B7 0 p w4 I7 (by omega)).mono ?_
  rintro e w5 ⟨rfl, rfl⟩
  clear I7 hc0
  have R9 := Room.new w4 70 #[.bool false, .slice none 0 0] (o := 0) (by decide) (by simp)
  have lw4 : w1.heap.size < w4.heap.size := F.lt
  replace Z := Z.allocd (.cells #[.bool false, .slice none 0 0] 70)
  replace F := F.allocd (.cells #[.bool false, .slice none 0 0] 70)
  replace hb := hb.alloc hb.size (.cells #[.bool false, .slice none 0 0] 70)
  obtain ⟨e0, e1, e2, e3, e4⟩ := Blk.ce5 F
  go_wp2_with fail
  refine (hss _ w4.heap.size R9).mono ?_
  rintro e w6 ⟨rfl, I9, hB⟩
  have la : w4.heap.size < (w4.alloc (.cells #[.bool false, .slice none 0 0] 70)).heap.size := by simp
  generalize hv4 : w4.alloc (.cells #[.bool false, .slice none 0 0] 70) = v4 at *
  clear R9 hv4
  clear c0 c1 c2 c3 c4
  clear e0 e1 e2 e3 e4
  replace Z := Z.ofFar hB.toFar (by omega)
  replace F := F.ofFar hB.toFar (by omega)
  replace hb := hb.trans (hB.below (by omega) hb.size)
  clear hB
  have l9 := I9.lt
  have R11 := Room.new w6 70 #[.bool false, .slice none 0 0] (o := 0) (by decide) (by simp)
  replace Z := Z.allocd (.cells #[.bool false, .slice none 0 0] 70)
  replace F := F.allocd (.cells #[.bool false, .slice none 0 0] 70)
  replace I9 := I9.alloc (.cells #[.bool false, .slice none 0 0] 70)
  replace hb := hb.alloc hb.size (.cells #[.bool false, .slice none 0 0] 70)
  obtain ⟨c0, c1, c2, c3, c4⟩ := Blk.ce5 F
  have lb : w6.heap.size < (w6.alloc (.cells #[.bool false, .slice none 0 0] 70)).heap.size := by simp
  generalize hv6 : w6.alloc (.cells #[.bool false, .slice none 0 0] 70) = v6 at *
  go_wp2_with fail

  refine (newint_any 10 _ (by decide) (by decide)).mono ?_
  rintro e w7 ⟨rfl, I10, hB⟩
  clear hv6
  clear c0 c1 c2 c3 c4
  replace Z := Z.keep hB
  replace F := F.keep hB
  replace I9 := I9.below hB
  replace R11 := R11.below hB
  replace hb := hb.trans (hB.mono hb.size)
  clear hB
  obtain ⟨c0, c1, c2, c3, c4⟩ := Blk.ce5 F
  have l10 := I10.lt
  go_wp2_with fail
  refine (newint_any m _ (by omega) (by omega)).mono ?_
  rintro e w8 ⟨rfl, I12, hB⟩
  clear c0 c1 c2 c3 c4
  replace Z := Z.keep hB
  replace F := F.keep hB
  replace I9 := I9.below hB
  replace R11 := R11.below hB
  replace I10 := I10.below hB
  replace hb := hb.trans (hB.mono hb.size)
  clear hB
  have l12 := I12.lt
  go_wp2_with fail
  refine (exp_any w6.heap.size 0 v6.heap.size 0 w7.heap.size 0 10 m 2000 none _ R11 I10 I12 (by omega) (by omega) HX.out.2 (Nat.le_trans (dn_p5 (x := 10) (by decide)) (by decide)) (by omega)).mono ?_
  rintro e w9 ⟨rfl, I11, hB⟩
  clear R11 I10 I12
  replace Z := Z.ofFar hB.toFar (by omega)
  replace F := F.ofFar hB.toFar (by omega)
  replace I9 := I9.but hB (.inl (by omega))
  replace hb := hb.trans (hB.below (by omega) hb.size)
  clear hB
  have l11 := I11.lt
  obtain ⟨c0, c1, c2, c3, c4⟩ := Blk.ce5 F
  cases dn
  · have J9 : IntAt w9 w4.heap.size 0 (sz false x) := I9
    clear I9
    have lW := I11.lt
    have RR := RRoom.new w9
    replace Z := Z.allocd (.cells #[.bool false, .slice none 0 0, .bool false, .slice none 0 0] 77)
    replace J9 := J9.alloc (.cells #[.bool false, .slice none 0 0, .bool false, .slice none 0 0] 77)
    replace I11 := I11.alloc (.cells #[.bool false, .slice none 0 0, .bool false, .slice none 0 0] 77)
    replace hb := hb.alloc hb.size (.cells #[.bool false, .slice none 0 0, .bool false, .slice none 0 0] 77)
    have lV : w9.heap.size < (w9.alloc (.cells #[.bool false, .slice none 0 0, .bool false, .slice none 0 0] 77)).heap.size := by simp
    go_wp2_with fail
    refine (ratsetfrac_any w9.heap.size w4.heap.size w6.heap.size (sz false x) ((10 ^ m : Nat) : Int) _ RR J9 I11 (by omega) (by omega) (ten_ne m) (by rw [sz_abs]; have := HX.out.1; omega) (by rw [Int.natAbs_natCast]; have := HX.out.2; omega)).mono ?_
    rintro e w12 ⟨rfl, RA, hF⟩
    generalize w9.alloc (.cells #[.bool false, .slice none 0 0, .bool false, .slice none 0 0] 77) = vW at *
    replace Z := Z.ofFar hF (by omega)
    replace hb := hb.trans (hF.below (by omega) hb.size)
    clear hF RR J9 I11
    go_wp2_with fail
    refine (htd _ _ RA).mono ?_
    rintro e w13 ⟨rfl, hB⟩
    replace Z := Z.keep hB
    replace hb := hb.trans (hB.mono hb.size)
    clear hB RA htd
    obtain ⟨zf0, zf1, zf2⟩ := Z.fr3
    obtain ⟨z0, z1, z2⟩ := Z.ce3
    have G0 : Blk (((w13.setCell ⟨w.heap.size, 0, none⟩ (.bool tn)).setCell ⟨w.heap.size, 1, none⟩ (.string tS)).setCell ⟨w.heap.size, 2, none⟩ (.string tT)) w.heap.size #[.bool tn, .string tS, .string tT] 24 := ((Z.setAt 0 _).setAt 1 _).setAt 2 _
    obtain ⟨g0, g1, g2⟩ := G0.ce3
    have hbY := ((hb.setCell (p := ⟨w.heap.size, 0, none⟩) (Nat.le_refl _) (.bool tn)).setCell (p := ⟨w.heap.size, 1, none⟩) (Nat.le_refl _) (.string tS)).setCell (p := ⟨w.heap.size, 2, none⟩) (Nat.le_refl _) (.string tT)
    have HG := Lib.hid (And.intro (And.intro g0 (And.intro g1 g2)) hbY)
    clear g0 g1 g2 hbY G0 Z hb
    go_wp2
    obtain ⟨⟨g0, g1, g2⟩, hbY⟩ := HG.out
    exact bodyPost_ret (v := .tuple #[.agg #[.bool tn, .string tS, .string tT], .int .i64 te]) (by simp [results, Tryz.results11, go_sem, g0, g1, g2]) rfl ⟨rfl, hbY⟩
  · go_wp2_with fail
    refine (neg_any w4.heap.size 0 w4.heap.size 0 (x : Int) _ I9.room I9 (by rw [Int.natAbs_natCast]; have := HX.out.1; omega)).mono ?_
    rintro e w10 ⟨rfl, J9, hB⟩
    replace J9 : IntAt w10 w4.heap.size 0 (sz true x) := J9
    replace I11 := I11.but hB (.inl (by omega))
    replace Z := Z.ofFar hB.toFar (by omega)
    replace hb := hb.trans (hB.below (by omega) hb.size)
    clear hB I9 F
    clear c0 c1 c2 c3 c4
    have lW := I11.lt
    have RR := RRoom.new w10
    replace Z := Z.allocd (.cells #[.bool false, .slice none 0 0, .bool false, .slice none 0 0] 77)
    replace J9 := J9.alloc (.cells #[.bool false, .slice none 0 0, .bool false, .slice none 0 0] 77)
    replace I11 := I11.alloc (.cells #[.bool false, .slice none 0 0, .bool false, .slice none 0 0] 77)
    replace hb := hb.alloc hb.size (.cells #[.bool false, .slice none 0 0, .bool false, .slice none 0 0] 77)
    have lV : w10.heap.size < (w10.alloc (.cells #[.bool false, .slice none 0 0, .bool false, .slice none 0 0] 77)).heap.size := by simp
    go_wp2_with fail
    refine (ratsetfrac_any w10.heap.size w4.heap.size w6.heap.size (sz true x) ((10 ^ m : Nat) : Int) _ RR J9 I11 (by omega) (by omega) (ten_ne m) (by rw [sz_abs]; have := HX.out.1; omega) (by rw [Int.natAbs_natCast]; have := HX.out.2; omega)).mono ?_
    rintro e w12 ⟨rfl, RA, hF⟩
    generalize w10.alloc (.cells #[.bool false, .slice none 0 0, .bool false, .slice none 0 0] 77) = vW at *
    replace Z := Z.ofFar hF (by omega)
    replace hb := hb.trans (hF.below (by omega) hb.size)
    clear hF RR J9 I11
    go_wp2_with fail
    refine (htd _ _ RA).mono ?_
    rintro e w13 ⟨rfl, hB⟩
    replace Z := Z.keep hB
    replace hb := hb.trans (hB.mono hb.size)
    clear hB RA htd
    obtain ⟨zf0, zf1, zf2⟩ := Z.fr3
    obtain ⟨z0, z1, z2⟩ := Z.ce3
    have G0 : Blk (((w13.setCell ⟨w.heap.size, 0, none⟩ (.bool tn)).setCell ⟨w.heap.size, 1, none⟩ (.string tS)).setCell ⟨w.heap.size, 2, none⟩ (.string tT)) w.heap.size #[.bool tn, .string tS, .string tT] 24 := ((Z.setAt 0 _).setAt 1 _).setAt 2 _
    obtain ⟨g0, g1, g2⟩ := G0.ce3
    have hbY := ((hb.setCell (p := ⟨w.heap.size, 0, none⟩) (Nat.le_refl _) (.bool tn)).setCell (p := ⟨w.heap.size, 1, none⟩) (Nat.le_refl _) (.string tS)).setCell (p := ⟨w.heap.size, 2, none⟩) (Nat.le_refl _) (.string tT)
    have HG := Lib.hid (And.intro (And.intro g0 (And.intro g1 g2)) hbY)
    clear g0 g1 g2 hbY G0 Z hb
    go_wp2
    obtain ⟨⟨g0, g1, g2⟩, hbY⟩ := HG.out
    exact bodyPost_ret (v := .tuple #[.agg #[.bool tn, .string tS, .string tT], .int .i64 te]) (by simp [results, Tryz.results11, go_sem, g0, g1, g2]) rfl ⟨rfl, hbY⟩

end Go.Proofs.YtbhfnigblhfikaaGreat

/- ratio.Decimal. -/
namespace Go.Proofs.YtbhfnigblhfikaaGreat
open Go Go.RowKit Go.PlainAid Fil

set_option maxRecDepth 1000000 in
set_option maxHeartbeats 8000000 in
theorem kdecimal_Dp (s : ByteArray) (w : World) (dn : Bool) (H T Q : ByteArray) (x p m : Nat) (P : Int) (hs : s.size ≤ 4096) (hd : SP s = (⟨dn, true, H, T, Q⟩, true)) (hH : goodL H.data.toList) (hT : allDec T.data.toList) (hsz : H.size + T.size ≤ 4096) (hqz : Q.size ≤ 4096) (hQ : goodL Q.data.toList) (hp : dval 0 Q.data.toList = p) (hp5 : p ≤ 5000) (hP : -(p : Int) - T.size = P) (hsg : 0 ≤ P) (hm : P.natAbs = m) (hx : dval 0 (H ++ T).data.toList = x) :
    Calls Tryz.prog 11 #[.string s] w fun e w' => e = .returned (kToldV (Rat.divInt (sz dn x * ((10 ^ m : Nat) : Int)) 1)) ∧ Below w.heap.size w w' := by
  have hm9 : m ≤ 10000 := by omega
  have hK := dn_ten (m := m) hm9
  have hxK : Fil.dn 32 x ≤ 600 := by rw [← hx]; exact dn_hx hH hT hsz
  have hpos : 0 < (H ++ T).size := by rw [ByteArray.size_append]; have := good_pos hH; omega
  have hle : (H ++ T).size ≤ 1000000 := by rw [ByteArray.size_append]; omega
  have hdg := dig_app hH hT
  have hcc : (H ++ T).size = H.size + T.size := ByteArray.size_append
  have htd := fun W B (R : RatAt W B (Rat.divInt (sz dn x * ((10 ^ m : Nat) : Int)) 1)) => ktold_any B (Rat.divInt (sz dn x * ((10 ^ m : Nat) : Int)) 1) W R (szd_pos dn hxK hK)
  obtain ⟨tn, tS, tT, te, hV⟩ := kTold_parts (Rat.divInt (sz dn x * ((10 ^ m : Nat) : Int)) 1)
  rw [hV] at htd ⊢
  have hss := fun W B R => setstring_any B (H ++ T) W R hpos hle hdg
  have edv : dvt (H ++ T) (H ++ T).size = x := by rw [dvt_size]; exact hx
  rw [edv] at hss
  have hmx : max P (-P) = (m : Int) := by omega
  have HD := Lib.hid hd
  have HX := Lib.hid (And.intro hxK hK)
  have HQ := Lib.hid (And.intro hQ hp)
  have hqe := str_cons (good_pos hQ)
  have hqn : ¬ Q.toList = [] := fun h => by rw [h] at hqe; exact Bool.noConfusion hqe
  clear hQ hp
  clear hd hH hT hx edv hV hdg hpos hm hxK hK hcc
  have ts : decide ((4096 : Int) < (s.size : Int)) = false := decide_eq_false (by omega)
  have hT2 : T.size ≤ 4096 := by omega
  have hH2 : H.size ≤ 4096 := by omega
  have Z := Blk.put w #[.bool false, .string { data := #[] }, .string { data := #[] }] 24
  have hb := (Below.refl w.heap.size w).alloc (Nat.le_refl _) (.cells #[.bool false, .string { data := #[] }, .string { data := #[] }] 24)
  go_enter Tryz.func11, Tryz.ntmps11
  go_wp2_with fail
  refine (ksplit_as s dn true H T Q true _ (by omega) HD.out).mono ?_
  rintro e w1 ⟨rfl, hB⟩
  replace Z := Z.keep hB
  replace hb := hb.trans (hB.mono hb.size)
  clear hB
  have lz := Z.lt
  have F := Blk.put w1 #[.bool dn, .bool true, .string H, .string T, .string Q] 61
  replace Z := Z.allocd (.cells #[.bool dn, .bool true, .string H, .string T, .string Q] 61)
  replace hb := hb.alloc hb.size (.cells #[.bool dn, .bool true, .string H, .string T, .string Q] 61)
  have lF := F.lt
  obtain ⟨c0, c1, c2, c3, c4⟩ := Blk.ce5 F
  go_wp2_with fail
  refine (kdigits_val Q _ (by omega) HQ.out.1).mono ?_
  rintro e w2 ⟨B7, rfl, I7, hB7, hB⟩
  rw [HQ.out.2] at I7
  generalize w1.alloc (.cells #[.bool dn, .bool true, .string H, .string T, .string Q] 61) = v1 at *
  clear c0 c1 c2 c3 c4
  replace Z := Z.keep hB
  replace F := F.keep hB
  replace hb := hb.trans (hB.mono hb.size)
  clear hB
  have l7 := I7.lt
  obtain ⟨c0, c1, c2, c3, c4⟩ := Blk.ce5 F
  go_wp2_with fail
  refine (newint_any 5000 w2 (by decide) (by decide)).mono ?_
  rintro e w3 ⟨rfl, I8, hB⟩
  clear c0 c1 c2 c3 c4
  replace Z := Z.keep hB
  replace F := F.keep hB
  replace I7 := I7.below hB
  replace hb := hb.trans (hB.mono hb.size)
  clear hB
  obtain ⟨c0, c1, c2, c3, c4⟩ := Blk.ce5 F
  go_wp2_with fail
  refine (icmp_any B7 0 w2.heap.size 0 (p : Int) 5000 w3 I7 I8 (by rw [Int.natAbs_natCast]; exact Nat.le_trans (dn_p5 hp5) (by decide)) (Nat.le_trans (dn_p5 (x := 5000) (Nat.le_refl _)) (by decide))).mono ?_
  rintro e w4 ⟨rfl, k, hk⟩
  obtain ⟨cv, hcv⟩ : ∃ cv, cv = cmpI (p : Int) 5000 := ⟨_, rfl⟩
  have hc0 : cv ≤ 0 := by rw [hcv]; exact cmp_p5 hp5
  rw [← hcv]
  clear hcv
  have Z4 : Blk (w3.drewN k) _ _ _ := Z
  rw [← hk] at Z4
  have F4 : Blk (w3.drewN k) _ _ _ := F
  rw [← hk] at F4
  have I4 : IntAt w4 B7 0 (p : Int) := by rw [hk]; exact I7.drewN k
  have hb4 : Below w.heap.size w w4 := by rw [hk]; exact Below.drewN' hb k
  have l4 : w4.heap.size = w3.heap.size := by rw [hk]; rfl
  clear hk Z F I7 I8 hb
  clear c0 c1 c2 c3 c4
  have Z := Z4
  have F := F4
  have I7 := I4
  have hb := hb4
  clear Z4 F4 I4 hb4
  have l3 : B7 < w4.heap.size := I7.lt
  have lF4 : w1.heap.size < w4.heap.size := F.lt
  clear l4
  obtain ⟨c0, c1, c2, c3, c4⟩ := Blk.ce5 F
  go_wp2_with fail
  refine (int64_any B7 0 p w4 I7 (by omega)).mono ?_
  rintro e w5 ⟨rfl, rfl⟩
  clear I7 hc0
  have R9 := Room.new w4 70 #[.bool false, .slice none 0 0] (o := 0) (by decide) (by simp)
  have lw4 : w1.heap.size < w4.heap.size := F.lt
  replace Z := Z.allocd (.cells #[.bool false, .slice none 0 0] 70)
  replace F := F.allocd (.cells #[.bool false, .slice none 0 0] 70)
  replace hb := hb.alloc hb.size (.cells #[.bool false, .slice none 0 0] 70)
  obtain ⟨e0, e1, e2, e3, e4⟩ := Blk.ce5 F
  go_wp2_with fail
  refine (hss _ w4.heap.size R9).mono ?_
  rintro e w6 ⟨rfl, I9, hB⟩
  have la : w4.heap.size < (w4.alloc (.cells #[.bool false, .slice none 0 0] 70)).heap.size := by simp
  generalize hv4 : w4.alloc (.cells #[.bool false, .slice none 0 0] 70) = v4 at *
  clear R9 hv4
  clear c0 c1 c2 c3 c4
  clear e0 e1 e2 e3 e4
  replace Z := Z.ofFar hB.toFar (by omega)
  replace F := F.ofFar hB.toFar (by omega)
  replace hb := hb.trans (hB.below (by omega) hb.size)
  clear hB
  have l9 := I9.lt
  have R11 := Room.new w6 70 #[.bool false, .slice none 0 0] (o := 0) (by decide) (by simp)
  replace Z := Z.allocd (.cells #[.bool false, .slice none 0 0] 70)
  replace F := F.allocd (.cells #[.bool false, .slice none 0 0] 70)
  replace I9 := I9.alloc (.cells #[.bool false, .slice none 0 0] 70)
  replace hb := hb.alloc hb.size (.cells #[.bool false, .slice none 0 0] 70)
  obtain ⟨c0, c1, c2, c3, c4⟩ := Blk.ce5 F
  have lb : w6.heap.size < (w6.alloc (.cells #[.bool false, .slice none 0 0] 70)).heap.size := by simp
  generalize hv6 : w6.alloc (.cells #[.bool false, .slice none 0 0] 70) = v6 at *
  go_wp2_with fail

  refine (newint_any 10 _ (by decide) (by decide)).mono ?_
  rintro e w7 ⟨rfl, I10, hB⟩
  clear hv6
  clear c0 c1 c2 c3 c4
  replace Z := Z.keep hB
  replace F := F.keep hB
  replace I9 := I9.below hB
  replace R11 := R11.below hB
  replace hb := hb.trans (hB.mono hb.size)
  clear hB
  obtain ⟨c0, c1, c2, c3, c4⟩ := Blk.ce5 F
  have l10 := I10.lt
  go_wp2_with fail
  refine (newint_any m _ (by omega) (by omega)).mono ?_
  rintro e w8 ⟨rfl, I12, hB⟩
  clear c0 c1 c2 c3 c4
  replace Z := Z.keep hB
  replace F := F.keep hB
  replace I9 := I9.below hB
  replace R11 := R11.below hB
  replace I10 := I10.below hB
  replace hb := hb.trans (hB.mono hb.size)
  clear hB
  have l12 := I12.lt
  go_wp2_with fail
  refine (exp_any w6.heap.size 0 v6.heap.size 0 w7.heap.size 0 10 m 2000 none _ R11 I10 I12 (by omega) (by omega) HX.out.2 (Nat.le_trans (dn_p5 (x := 10) (by decide)) (by decide)) (by omega)).mono ?_
  rintro e w9 ⟨rfl, I11, hB⟩
  clear R11 I10 I12
  replace Z := Z.ofFar hB.toFar (by omega)
  replace F := F.ofFar hB.toFar (by omega)
  replace I9 := I9.but hB (.inl (by omega))
  replace hb := hb.trans (hB.below (by omega) hb.size)
  clear hB
  have l11 := I11.lt
  obtain ⟨c0, c1, c2, c3, c4⟩ := Blk.ce5 F
  cases dn
  · have J9 : IntAt w9 w4.heap.size 0 (sz false x) := I9
    clear I9
    have lW := I11.lt
    have RR := RRoom.new w9
    replace Z := Z.allocd (.cells #[.bool false, .slice none 0 0, .bool false, .slice none 0 0] 77)
    replace J9 := J9.alloc (.cells #[.bool false, .slice none 0 0, .bool false, .slice none 0 0] 77)
    replace I11 := I11.alloc (.cells #[.bool false, .slice none 0 0, .bool false, .slice none 0 0] 77)
    replace hb := hb.alloc hb.size (.cells #[.bool false, .slice none 0 0, .bool false, .slice none 0 0] 77)
    have lV : w9.heap.size < (w9.alloc (.cells #[.bool false, .slice none 0 0, .bool false, .slice none 0 0] 77)).heap.size := by simp
    go_wp2_with fail
    refine (mul_any w4.heap.size 0 w4.heap.size 0 w6.heap.size 0 (sz false x) ((10 ^ m : Nat) : Int) _ J9.room J9 I11 (by rw [sz_abs]; have := HX.out.1; omega) (by rw [Int.natAbs_natCast]; have := HX.out.2; omega)).mono ?_
    rintro e w11 ⟨rfl, K9, hB⟩
    generalize w9.alloc (.cells #[.bool false, .slice none 0 0, .bool false, .slice none 0 0] 77) = vW at *
    replace Z := Z.ofFar hB.toFar (by omega)
    replace RR := RR.but hB (by omega)
    replace hb := hb.trans (hB.below (by omega) hb.size)
    have lW11 := hB.size
    clear hB J9 I11
    go_wp2_with fail
    refine (ratsetint_any w9.heap.size w4.heap.size _ w11 RR K9 (by omega) (prod_sz false HX.out.1 HX.out.2)).mono ?_
    rintro e w12 ⟨rfl, RA, hF⟩
    replace Z := Z.ofFar hF (by omega)
    replace hb := hb.trans (hF.below (by omega) hb.size)
    clear hF RR K9
    go_wp2_with fail
    refine (htd _ _ RA).mono ?_
    rintro e w13 ⟨rfl, hB⟩
    replace Z := Z.keep hB
    replace hb := hb.trans (hB.mono hb.size)
    clear hB RA htd
    obtain ⟨zf0, zf1, zf2⟩ := Z.fr3
    obtain ⟨z0, z1, z2⟩ := Z.ce3
    have G0 : Blk (((w13.setCell ⟨w.heap.size, 0, none⟩ (.bool tn)).setCell ⟨w.heap.size, 1, none⟩ (.string tS)).setCell ⟨w.heap.size, 2, none⟩ (.string tT)) w.heap.size #[.bool tn, .string tS, .string tT] 24 := ((Z.setAt 0 _).setAt 1 _).setAt 2 _
    obtain ⟨g0, g1, g2⟩ := G0.ce3
    have hbY := ((hb.setCell (p := ⟨w.heap.size, 0, none⟩) (Nat.le_refl _) (.bool tn)).setCell (p := ⟨w.heap.size, 1, none⟩) (Nat.le_refl _) (.string tS)).setCell (p := ⟨w.heap.size, 2, none⟩) (Nat.le_refl _) (.string tT)
    have HG := Lib.hid (And.intro (And.intro g0 (And.intro g1 g2)) hbY)
    clear g0 g1 g2 hbY G0 Z hb
    go_wp2
    obtain ⟨⟨g0, g1, g2⟩, hbY⟩ := HG.out
    exact bodyPost_ret (v := .tuple #[.agg #[.bool tn, .string tS, .string tT], .int .i64 te]) (by simp [results, Tryz.results11, go_sem, g0, g1, g2]) rfl ⟨rfl, hbY⟩
  · go_wp2_with fail
    refine (neg_any w4.heap.size 0 w4.heap.size 0 (x : Int) _ I9.room I9 (by rw [Int.natAbs_natCast]; have := HX.out.1; omega)).mono ?_
    rintro e w10 ⟨rfl, J9, hB⟩
    replace J9 : IntAt w10 w4.heap.size 0 (sz true x) := J9
    replace I11 := I11.but hB (.inl (by omega))
    replace Z := Z.ofFar hB.toFar (by omega)
    replace hb := hb.trans (hB.below (by omega) hb.size)
    clear hB I9 F
    clear c0 c1 c2 c3 c4
    have lW := I11.lt
    have RR := RRoom.new w10
    replace Z := Z.allocd (.cells #[.bool false, .slice none 0 0, .bool false, .slice none 0 0] 77)
    replace J9 := J9.alloc (.cells #[.bool false, .slice none 0 0, .bool false, .slice none 0 0] 77)
    replace I11 := I11.alloc (.cells #[.bool false, .slice none 0 0, .bool false, .slice none 0 0] 77)
    replace hb := hb.alloc hb.size (.cells #[.bool false, .slice none 0 0, .bool false, .slice none 0 0] 77)
    have lV : w10.heap.size < (w10.alloc (.cells #[.bool false, .slice none 0 0, .bool false, .slice none 0 0] 77)).heap.size := by simp
    go_wp2_with fail
    refine (mul_any w4.heap.size 0 w4.heap.size 0 w6.heap.size 0 (sz true x) ((10 ^ m : Nat) : Int) _ J9.room J9 I11 (by rw [sz_abs]; have := HX.out.1; omega) (by rw [Int.natAbs_natCast]; have := HX.out.2; omega)).mono ?_
    rintro e w11 ⟨rfl, K9, hB⟩
    generalize w10.alloc (.cells #[.bool false, .slice none 0 0, .bool false, .slice none 0 0] 77) = vW at *
    replace Z := Z.ofFar hB.toFar (by omega)
    replace RR := RR.but hB (by omega)
    replace hb := hb.trans (hB.below (by omega) hb.size)
    have lW11 := hB.size
    clear hB J9 I11
    go_wp2_with fail
    refine (ratsetint_any w10.heap.size w4.heap.size _ w11 RR K9 (by omega) (prod_sz true HX.out.1 HX.out.2)).mono ?_
    rintro e w12 ⟨rfl, RA, hF⟩
    replace Z := Z.ofFar hF (by omega)
    replace hb := hb.trans (hF.below (by omega) hb.size)
    clear hF RR K9
    go_wp2_with fail
    refine (htd _ _ RA).mono ?_
    rintro e w13 ⟨rfl, hB⟩
    replace Z := Z.keep hB
    replace hb := hb.trans (hB.mono hb.size)
    clear hB RA htd
    obtain ⟨zf0, zf1, zf2⟩ := Z.fr3
    obtain ⟨z0, z1, z2⟩ := Z.ce3
    have G0 : Blk (((w13.setCell ⟨w.heap.size, 0, none⟩ (.bool tn)).setCell ⟨w.heap.size, 1, none⟩ (.string tS)).setCell ⟨w.heap.size, 2, none⟩ (.string tT)) w.heap.size #[.bool tn, .string tS, .string tT] 24 := ((Z.setAt 0 _).setAt 1 _).setAt 2 _
    obtain ⟨g0, g1, g2⟩ := G0.ce3
    have hbY := ((hb.setCell (p := ⟨w.heap.size, 0, none⟩) (Nat.le_refl _) (.bool tn)).setCell (p := ⟨w.heap.size, 1, none⟩) (Nat.le_refl _) (.string tS)).setCell (p := ⟨w.heap.size, 2, none⟩) (Nat.le_refl _) (.string tT)
    have HG := Lib.hid (And.intro (And.intro g0 (And.intro g1 g2)) hbY)
    clear g0 g1 g2 hbY G0 Z hb
    go_wp2
    obtain ⟨⟨g0, g1, g2⟩, hbY⟩ := HG.out
    exact bodyPost_ret (v := .tuple #[.agg #[.bool tn, .string tS, .string tT], .int .i64 te]) (by simp [results, Tryz.results11, go_sem, g0, g1, g2]) rfl ⟨rfl, hbY⟩

set_option maxRecDepth 1000000 in
set_option maxHeartbeats 8000000 in
theorem kdecimal_Dn (s : ByteArray) (w : World) (dn : Bool) (H T Q : ByteArray) (x p m : Nat) (P : Int) (hs : s.size ≤ 4096) (hd : SP s = (⟨dn, true, H, T, Q⟩, true)) (hH : goodL H.data.toList) (hT : allDec T.data.toList) (hsz : H.size + T.size ≤ 4096) (hqz : Q.size ≤ 4096) (hQ : goodL Q.data.toList) (hp : dval 0 Q.data.toList = p) (hp5 : p ≤ 5000) (hP : -(p : Int) - T.size = P) (hsg : P < 0) (hm : P.natAbs = m) (hx : dval 0 (H ++ T).data.toList = x) :
    Calls Tryz.prog 11 #[.string s] w fun e w' => e = .returned (kToldV (Rat.divInt (sz dn x) ((10 ^ m : Nat) : Int))) ∧ Below w.heap.size w w' := by
  have hm9 : m ≤ 10000 := by omega
  have hK := dn_ten (m := m) hm9
  have hxK : Fil.dn 32 x ≤ 600 := by rw [← hx]; exact dn_hx hH hT hsz
  have hpos : 0 < (H ++ T).size := by rw [ByteArray.size_append]; have := good_pos hH; omega
  have hle : (H ++ T).size ≤ 1000000 := by rw [ByteArray.size_append]; omega
  have hdg := dig_app hH hT
  have hcc : (H ++ T).size = H.size + T.size := ByteArray.size_append
  have htd := fun W B (R : RatAt W B (Rat.divInt (sz dn x) ((10 ^ m : Nat) : Int))) => ktold_any B (Rat.divInt (sz dn x) ((10 ^ m : Nat) : Int)) W R (szd_neg dn hxK hK)
  obtain ⟨tn, tS, tT, te, hV⟩ := kTold_parts (Rat.divInt (sz dn x) ((10 ^ m : Nat) : Int))
  rw [hV] at htd ⊢
  have hss := fun W B R => setstring_any B (H ++ T) W R hpos hle hdg
  have edv : dvt (H ++ T) (H ++ T).size = x := by rw [dvt_size]; exact hx
  rw [edv] at hss
  have hmx : max P (-P) = (m : Int) := by omega
  have HD := Lib.hid hd
  have HX := Lib.hid (And.intro hxK hK)
  have HQ := Lib.hid (And.intro hQ hp)
  have hqe := str_cons (good_pos hQ)
  have hqn : ¬ Q.toList = [] := fun h => by rw [h] at hqe; exact Bool.noConfusion hqe
  clear hQ hp
  clear hd hH hT hx edv hV hdg hpos hm hxK hK hcc
  have ts : decide ((4096 : Int) < (s.size : Int)) = false := decide_eq_false (by omega)
  have hT2 : T.size ≤ 4096 := by omega
  have hH2 : H.size ≤ 4096 := by omega
  have Z := Blk.put w #[.bool false, .string { data := #[] }, .string { data := #[] }] 24
  have hb := (Below.refl w.heap.size w).alloc (Nat.le_refl _) (.cells #[.bool false, .string { data := #[] }, .string { data := #[] }] 24)
  go_enter Tryz.func11, Tryz.ntmps11
  go_wp2_with fail
  refine (ksplit_as s dn true H T Q true _ (by omega) HD.out).mono ?_
  rintro e w1 ⟨rfl, hB⟩
  replace Z := Z.keep hB
  replace hb := hb.trans (hB.mono hb.size)
  clear hB
  have lz := Z.lt
  have F := Blk.put w1 #[.bool dn, .bool true, .string H, .string T, .string Q] 61
  replace Z := Z.allocd (.cells #[.bool dn, .bool true, .string H, .string T, .string Q] 61)
  replace hb := hb.alloc hb.size (.cells #[.bool dn, .bool true, .string H, .string T, .string Q] 61)
  have lF := F.lt
  obtain ⟨c0, c1, c2, c3, c4⟩ := Blk.ce5 F
  go_wp2_with fail
  refine (kdigits_val Q _ (by omega) HQ.out.1).mono ?_
  rintro e w2 ⟨B7, rfl, I7, hB7, hB⟩
  rw [HQ.out.2] at I7
  generalize w1.alloc (.cells #[.bool dn, .bool true, .string H, .string T, .string Q] 61) = v1 at *
  clear c0 c1 c2 c3 c4
  replace Z := Z.keep hB
  replace F := F.keep hB
  replace hb := hb.trans (hB.mono hb.size)
  clear hB
  have l7 := I7.lt
  obtain ⟨c0, c1, c2, c3, c4⟩ := Blk.ce5 F
  go_wp2_with fail
  refine (newint_any 5000 w2 (by decide) (by decide)).mono ?_
  rintro e w3 ⟨rfl, I8, hB⟩
  clear c0 c1 c2 c3 c4
  replace Z := Z.keep hB
  replace F := F.keep hB
  replace I7 := I7.below hB
  replace hb := hb.trans (hB.mono hb.size)
  clear hB
  obtain ⟨c0, c1, c2, c3, c4⟩ := Blk.ce5 F
  go_wp2_with fail
  refine (icmp_any B7 0 w2.heap.size 0 (p : Int) 5000 w3 I7 I8 (by rw [Int.natAbs_natCast]; exact Nat.le_trans (dn_p5 hp5) (by decide)) (Nat.le_trans (dn_p5 (x := 5000) (Nat.le_refl _)) (by decide))).mono ?_
  rintro e w4 ⟨rfl, k, hk⟩
  obtain ⟨cv, hcv⟩ : ∃ cv, cv = cmpI (p : Int) 5000 := ⟨_, rfl⟩
  have hc0 : cv ≤ 0 := by rw [hcv]; exact cmp_p5 hp5
  rw [← hcv]
  clear hcv
  have Z4 : Blk (w3.drewN k) _ _ _ := Z
  rw [← hk] at Z4
  have F4 : Blk (w3.drewN k) _ _ _ := F
  rw [← hk] at F4
  have I4 : IntAt w4 B7 0 (p : Int) := by rw [hk]; exact I7.drewN k
  have hb4 : Below w.heap.size w w4 := by rw [hk]; exact Below.drewN' hb k
  have l4 : w4.heap.size = w3.heap.size := by rw [hk]; rfl
  clear hk Z F I7 I8 hb
  clear c0 c1 c2 c3 c4
  have Z := Z4
  have F := F4
  have I7 := I4
  have hb := hb4
  clear Z4 F4 I4 hb4
  have l3 : B7 < w4.heap.size := I7.lt
  have lF4 : w1.heap.size < w4.heap.size := F.lt
  clear l4
  obtain ⟨c0, c1, c2, c3, c4⟩ := Blk.ce5 F
  go_wp2_with fail
  refine (int64_any B7 0 p w4 I7 (by omega)).mono ?_
  rintro e w5 ⟨rfl, rfl⟩
  clear I7 hc0
  have R9 := Room.new w4 70 #[.bool false, .slice none 0 0] (o := 0) (by decide) (by simp)
  have lw4 : w1.heap.size < w4.heap.size := F.lt
  replace Z := Z.allocd (.cells #[.bool false, .slice none 0 0] 70)
  replace F := F.allocd (.cells #[.bool false, .slice none 0 0] 70)
  replace hb := hb.alloc hb.size (.cells #[.bool false, .slice none 0 0] 70)
  obtain ⟨e0, e1, e2, e3, e4⟩ := Blk.ce5 F
  go_wp2_with fail
  refine (hss _ w4.heap.size R9).mono ?_
  rintro e w6 ⟨rfl, I9, hB⟩
  have la : w4.heap.size < (w4.alloc (.cells #[.bool false, .slice none 0 0] 70)).heap.size := by simp
  generalize hv4 : w4.alloc (.cells #[.bool false, .slice none 0 0] 70) = v4 at *
  clear R9 hv4
  clear c0 c1 c2 c3 c4
  clear e0 e1 e2 e3 e4
  replace Z := Z.ofFar hB.toFar (by omega)
  replace F := F.ofFar hB.toFar (by omega)
  replace hb := hb.trans (hB.below (by omega) hb.size)
  clear hB
  have l9 := I9.lt
  have R11 := Room.new w6 70 #[.bool false, .slice none 0 0] (o := 0) (by decide) (by simp)
  replace Z := Z.allocd (.cells #[.bool false, .slice none 0 0] 70)
  replace F := F.allocd (.cells #[.bool false, .slice none 0 0] 70)
  replace I9 := I9.alloc (.cells #[.bool false, .slice none 0 0] 70)
  replace hb := hb.alloc hb.size (.cells #[.bool false, .slice none 0 0] 70)
  obtain ⟨c0, c1, c2, c3, c4⟩ := Blk.ce5 F
  have lb : w6.heap.size < (w6.alloc (.cells #[.bool false, .slice none 0 0] 70)).heap.size := by simp
  generalize hv6 : w6.alloc (.cells #[.bool false, .slice none 0 0] 70) = v6 at *
  go_wp2_with fail

  refine (newint_any 10 _ (by decide) (by decide)).mono ?_
  rintro e w7 ⟨rfl, I10, hB⟩
  clear hv6
  clear c0 c1 c2 c3 c4
  replace Z := Z.keep hB
  replace F := F.keep hB
  replace I9 := I9.below hB
  replace R11 := R11.below hB
  replace hb := hb.trans (hB.mono hb.size)
  clear hB
  obtain ⟨c0, c1, c2, c3, c4⟩ := Blk.ce5 F
  have l10 := I10.lt
  go_wp2_with fail
  refine (newint_any m _ (by omega) (by omega)).mono ?_
  rintro e w8 ⟨rfl, I12, hB⟩
  clear c0 c1 c2 c3 c4
  replace Z := Z.keep hB
  replace F := F.keep hB
  replace I9 := I9.below hB
  replace R11 := R11.below hB
  replace I10 := I10.below hB
  replace hb := hb.trans (hB.mono hb.size)
  clear hB
  have l12 := I12.lt
  go_wp2_with fail
  refine (exp_any w6.heap.size 0 v6.heap.size 0 w7.heap.size 0 10 m 2000 none _ R11 I10 I12 (by omega) (by omega) HX.out.2 (Nat.le_trans (dn_p5 (x := 10) (by decide)) (by decide)) (by omega)).mono ?_
  rintro e w9 ⟨rfl, I11, hB⟩
  clear R11 I10 I12
  replace Z := Z.ofFar hB.toFar (by omega)
  replace F := F.ofFar hB.toFar (by omega)
  replace I9 := I9.but hB (.inl (by omega))
  replace hb := hb.trans (hB.below (by omega) hb.size)
  clear hB
  have l11 := I11.lt
  obtain ⟨c0, c1, c2, c3, c4⟩ := Blk.ce5 F
  cases dn
  · have J9 : IntAt w9 w4.heap.size 0 (sz false x) := I9
    clear I9
    have lW := I11.lt
    have RR := RRoom.new w9
    replace Z := Z.allocd (.cells #[.bool false, .slice none 0 0, .bool false, .slice none 0 0] 77)
    replace J9 := J9.alloc (.cells #[.bool false, .slice none 0 0, .bool false, .slice none 0 0] 77)
    replace I11 := I11.alloc (.cells #[.bool false, .slice none 0 0, .bool false, .slice none 0 0] 77)
    replace hb := hb.alloc hb.size (.cells #[.bool false, .slice none 0 0, .bool false, .slice none 0 0] 77)
    have lV : w9.heap.size < (w9.alloc (.cells #[.bool false, .slice none 0 0, .bool false, .slice none 0 0] 77)).heap.size := by simp
    go_wp2_with fail
    refine (ratsetfrac_any w9.heap.size w4.heap.size w6.heap.size (sz false x) ((10 ^ m : Nat) : Int) _ RR J9 I11 (by omega) (by omega) (ten_ne m) (by rw [sz_abs]; have := HX.out.1; omega) (by rw [Int.natAbs_natCast]; have := HX.out.2; omega)).mono ?_
    rintro e w12 ⟨rfl, RA, hF⟩
    generalize w9.alloc (.cells #[.bool false, .slice none 0 0, .bool false, .slice none 0 0] 77) = vW at *
    replace Z := Z.ofFar hF (by omega)
    replace hb := hb.trans (hF.below (by omega) hb.size)
    clear hF RR J9 I11
    go_wp2_with fail
    refine (htd _ _ RA).mono ?_
    rintro e w13 ⟨rfl, hB⟩
    replace Z := Z.keep hB
    replace hb := hb.trans (hB.mono hb.size)
    clear hB RA htd
    obtain ⟨zf0, zf1, zf2⟩ := Z.fr3
    obtain ⟨z0, z1, z2⟩ := Z.ce3
    have G0 : Blk (((w13.setCell ⟨w.heap.size, 0, none⟩ (.bool tn)).setCell ⟨w.heap.size, 1, none⟩ (.string tS)).setCell ⟨w.heap.size, 2, none⟩ (.string tT)) w.heap.size #[.bool tn, .string tS, .string tT] 24 := ((Z.setAt 0 _).setAt 1 _).setAt 2 _
    obtain ⟨g0, g1, g2⟩ := G0.ce3
    have hbY := ((hb.setCell (p := ⟨w.heap.size, 0, none⟩) (Nat.le_refl _) (.bool tn)).setCell (p := ⟨w.heap.size, 1, none⟩) (Nat.le_refl _) (.string tS)).setCell (p := ⟨w.heap.size, 2, none⟩) (Nat.le_refl _) (.string tT)
    have HG := Lib.hid (And.intro (And.intro g0 (And.intro g1 g2)) hbY)
    clear g0 g1 g2 hbY G0 Z hb
    go_wp2
    obtain ⟨⟨g0, g1, g2⟩, hbY⟩ := HG.out
    exact bodyPost_ret (v := .tuple #[.agg #[.bool tn, .string tS, .string tT], .int .i64 te]) (by simp [results, Tryz.results11, go_sem, g0, g1, g2]) rfl ⟨rfl, hbY⟩
  · go_wp2_with fail
    refine (neg_any w4.heap.size 0 w4.heap.size 0 (x : Int) _ I9.room I9 (by rw [Int.natAbs_natCast]; have := HX.out.1; omega)).mono ?_
    rintro e w10 ⟨rfl, J9, hB⟩
    replace J9 : IntAt w10 w4.heap.size 0 (sz true x) := J9
    replace I11 := I11.but hB (.inl (by omega))
    replace Z := Z.ofFar hB.toFar (by omega)
    replace hb := hb.trans (hB.below (by omega) hb.size)
    clear hB I9 F
    clear c0 c1 c2 c3 c4
    have lW := I11.lt
    have RR := RRoom.new w10
    replace Z := Z.allocd (.cells #[.bool false, .slice none 0 0, .bool false, .slice none 0 0] 77)
    replace J9 := J9.alloc (.cells #[.bool false, .slice none 0 0, .bool false, .slice none 0 0] 77)
    replace I11 := I11.alloc (.cells #[.bool false, .slice none 0 0, .bool false, .slice none 0 0] 77)
    replace hb := hb.alloc hb.size (.cells #[.bool false, .slice none 0 0, .bool false, .slice none 0 0] 77)
    have lV : w10.heap.size < (w10.alloc (.cells #[.bool false, .slice none 0 0, .bool false, .slice none 0 0] 77)).heap.size := by simp
    go_wp2_with fail
    refine (ratsetfrac_any w10.heap.size w4.heap.size w6.heap.size (sz true x) ((10 ^ m : Nat) : Int) _ RR J9 I11 (by omega) (by omega) (ten_ne m) (by rw [sz_abs]; have := HX.out.1; omega) (by rw [Int.natAbs_natCast]; have := HX.out.2; omega)).mono ?_
    rintro e w12 ⟨rfl, RA, hF⟩
    generalize w10.alloc (.cells #[.bool false, .slice none 0 0, .bool false, .slice none 0 0] 77) = vW at *
    replace Z := Z.ofFar hF (by omega)
    replace hb := hb.trans (hF.below (by omega) hb.size)
    clear hF RR J9 I11
    go_wp2_with fail
    refine (htd _ _ RA).mono ?_
    rintro e w13 ⟨rfl, hB⟩
    replace Z := Z.keep hB
    replace hb := hb.trans (hB.mono hb.size)
    clear hB RA htd
    obtain ⟨zf0, zf1, zf2⟩ := Z.fr3
    obtain ⟨z0, z1, z2⟩ := Z.ce3
    have G0 : Blk (((w13.setCell ⟨w.heap.size, 0, none⟩ (.bool tn)).setCell ⟨w.heap.size, 1, none⟩ (.string tS)).setCell ⟨w.heap.size, 2, none⟩ (.string tT)) w.heap.size #[.bool tn, .string tS, .string tT] 24 := ((Z.setAt 0 _).setAt 1 _).setAt 2 _
    obtain ⟨g0, g1, g2⟩ := G0.ce3
    have hbY := ((hb.setCell (p := ⟨w.heap.size, 0, none⟩) (Nat.le_refl _) (.bool tn)).setCell (p := ⟨w.heap.size, 1, none⟩) (Nat.le_refl _) (.string tS)).setCell (p := ⟨w.heap.size, 2, none⟩) (Nat.le_refl _) (.string tT)
    have HG := Lib.hid (And.intro (And.intro g0 (And.intro g1 g2)) hbY)
    clear g0 g1 g2 hbY G0 Z hb
    go_wp2
    obtain ⟨⟨g0, g1, g2⟩, hbY⟩ := HG.out
    exact bodyPost_ret (v := .tuple #[.agg #[.bool tn, .string tS, .string tT], .int .i64 te]) (by simp [results, Tryz.results11, go_sem, g0, g1, g2]) rfl ⟨rfl, hbY⟩

end Go.Proofs.YtbhfnigblhfikaaGreat

/- ratio.Decimal of what it refuses; of any text. -/
namespace Go.Proofs.YtbhfnigblhfikaaGreat
open Go Go.RowKit Go.PlainAid Fil

/-- no ratio, and an error -/
def errV (e : Int) : Value := .tuple #[.agg #[.bool false, .string ⟨#[]⟩, .string ⟨#[]⟩], .int .i64 e]
set_option maxRecDepth 1000000 in
set_option maxHeartbeats 2000000 in
theorem kdecimal_long (s : ByteArray) (w : World) (hs : 4096 < s.size) (hs2 : s.size ≤ 9223372036854775807) :
    Calls Tryz.prog 11 #[.string s] w fun e w' => e = .returned (errV 4) ∧ Below w.heap.size w w' := by
  have ts : decide ((4096 : Int) < (s.size : Int)) = true := decide_eq_true (by omega)
  have Z := Blk.put w #[.bool false, .string { data := #[] }, .string { data := #[] }] 24
  have hb := (Below.refl w.heap.size w).alloc (Nat.le_refl _) (.cells #[.bool false, .string { data := #[] }, .string { data := #[] }] 24)
  go_enter Tryz.func11, Tryz.ntmps11
  have HB := Lib.hid hb
  clear hb Z
  go_wp2
  exact bodyPost_ret (v := errV 4) (by simp [results, errV, Tryz.results11, go_sem]) rfl ⟨rfl, HB.out⟩

set_option maxRecDepth 1000000 in
set_option maxHeartbeats 2000000 in
theorem kdecimal_text (s : ByteArray) (w : World) (dn dd : Bool) (H T Q : ByteArray) (hs : s.size ≤ 4096) (hd : SP s = (⟨dn, dd, H, T, Q⟩, false)) :
    Calls Tryz.prog 11 #[.string s] w fun e w' => e = .returned (errV 40) ∧ Below w.heap.size w w' := by
  have ts : decide ((4096 : Int) < (s.size : Int)) = false := decide_eq_false (by omega)
  have HD := Lib.hid hd
  clear hd
  have Z := Blk.put w #[.bool false, .string { data := #[] }, .string { data := #[] }] 24
  have hb := (Below.refl w.heap.size w).alloc (Nat.le_refl _) (.cells #[.bool false, .string { data := #[] }, .string { data := #[] }] 24)
  go_enter Tryz.func11, Tryz.ntmps11
  go_wp2_with fail
  refine (ksplit_as s dn dd H T Q false _ (by omega) HD.out).mono ?_
  rintro e w1 ⟨rfl, hB⟩
  replace Z := Z.keep hB
  replace hb := hb.trans (hB.mono hb.size)
  clear hB
  have lz := Z.lt
  obtain ⟨zf0, zf1, zf2⟩ := Z.fr3
  obtain ⟨z0, z1, z2⟩ := Z.ce3
  have G0 : Blk (((w1.setCell ⟨w.heap.size, 0, none⟩ (.bool false)).setCell ⟨w.heap.size, 1, none⟩ (.string ⟨#[]⟩)).setCell ⟨w.heap.size, 2, none⟩ (.string ⟨#[]⟩)) w.heap.size #[.bool false, .string ⟨#[]⟩, .string ⟨#[]⟩] 24 := ((Z.setAt 0 _).setAt 1 _).setAt 2 _
  replace G0 := G0.allocd (.cells #[.bool dn, .bool dd, .string H, .string T, .string Q] 61)
  obtain ⟨g0, g1, g2⟩ := G0.ce3
  have hbY := ((hb.setCell (p := ⟨w.heap.size, 0, none⟩) (Nat.le_refl _) (.bool false)).setCell (p := ⟨w.heap.size, 1, none⟩) (Nat.le_refl _) (.string ⟨#[]⟩)).setCell (p := ⟨w.heap.size, 2, none⟩) (Nat.le_refl _) (.string ⟨#[]⟩)
  replace hbY := hbY.alloc hbY.size (.cells #[.bool dn, .bool dd, .string H, .string T, .string Q] 61)
  have HG := Lib.hid (And.intro (And.intro g0 (And.intro g1 g2)) hbY)
  clear g0 g1 g2 hbY G0 Z hb
  go_wp2
  obtain ⟨⟨g0, g1, g2⟩, hbY⟩ := HG.out
  exact bodyPost_ret (v := errV 40) (by simp [results, errV, Tryz.results11, go_sem, g0, g1, g2]) rfl ⟨rfl, hbY⟩

set_option maxRecDepth 1000000 in
set_option maxHeartbeats 4000000 in
theorem kdecimal_power (s : ByteArray) (w : World) (dn dd : Bool) (H T Q : ByteArray) (p : Nat) (hs : s.size ≤ 4096) (hd : SP s = (⟨dn, dd, H, T, Q⟩, true)) (hqz : Q.size ≤ 4096) (hQ : goodL Q.data.toList) (hp : dval 0 Q.data.toList = p) (hp5 : 5000 < p) :
    Calls Tryz.prog 11 #[.string s] w fun e w' => e = .returned (errV 4) ∧ Below w.heap.size w w' := by
  have ts : decide ((4096 : Int) < (s.size : Int)) = false := decide_eq_false (by omega)
  have hpK : Fil.dn 32 p ≤ 1099511627776 := by
    have h1 := dval_lt _ hQ.1
    rw [hp] at h1
    refine Nat.le_trans (dn_of_ten (N := 600) h1 ?_) (by omega)
    rw [Array.length_toList]; show 4 * Q.size + 1 ≤ _; omega
  have HD := Lib.hid hd
  have HQ := Lib.hid (And.intro hQ (And.intro hp hpK))
  have hqe := str_cons (good_pos hQ)
  have hqn : ¬ Q.toList = [] := fun h => by rw [h] at hqe; exact Bool.noConfusion hqe
  clear hd hQ hp hpK
  have Z := Blk.put w #[.bool false, .string { data := #[] }, .string { data := #[] }] 24
  have hb := (Below.refl w.heap.size w).alloc (Nat.le_refl _) (.cells #[.bool false, .string { data := #[] }, .string { data := #[] }] 24)
  go_enter Tryz.func11, Tryz.ntmps11
  go_wp2_with fail
  refine (ksplit_as s dn dd H T Q true _ (by omega) HD.out).mono ?_
  rintro e w1 ⟨rfl, hB⟩
  replace Z := Z.keep hB
  replace hb := hb.trans (hB.mono hb.size)
  clear hB
  have lz := Z.lt
  have F := Blk.put w1 #[.bool dn, .bool dd, .string H, .string T, .string Q] 61
  replace Z := Z.allocd (.cells #[.bool dn, .bool dd, .string H, .string T, .string Q] 61)
  replace hb := hb.alloc hb.size (.cells #[.bool dn, .bool dd, .string H, .string T, .string Q] 61)
  obtain ⟨c0, c1, c2, c3, c4⟩ := Blk.ce5 F
  go_wp2_with fail
  refine (kdigits_val Q _ (by omega) HQ.out.1).mono ?_
  rintro e w2 ⟨B7, rfl, I7, hB7, hB⟩
  rw [HQ.out.2.1] at I7
  replace Z := Z.keep hB
  replace hb := hb.trans (hB.mono hb.size)
  clear hB c0 c1 c2 c3 c4 F
  have l7 := I7.lt
  go_wp2_with fail
  refine (newint_any 5000 w2 (by decide) (by decide)).mono ?_
  rintro e w3 ⟨rfl, I8, hB⟩
  replace Z := Z.keep hB
  replace I7 := I7.below hB
  replace hb := hb.trans (hB.mono hb.size)
  clear hB
  go_wp2_with fail
  refine (icmp_any B7 0 w2.heap.size 0 (p : Int) 5000 w3 I7 I8 (by rw [Int.natAbs_natCast]; exact HQ.out.2.2) (Nat.le_trans (dn_p5 (x := 5000) (Nat.le_refl _)) (by decide))).mono ?_
  rintro e w4 ⟨rfl, k, hk⟩
  obtain ⟨cv, hcv⟩ : ∃ cv, cv = cmpI (p : Int) 5000 := ⟨_, rfl⟩
  have hc0 : 0 < cv := by rw [hcv]; unfold cmpI; rw [if_neg (by omega), if_pos (by omega)]; decide
  rw [← hcv]
  clear hcv
  have Z4 : Blk (w3.drewN k) _ _ _ := Z
  rw [← hk] at Z4
  have hb4 : Below w.heap.size w w4 := by rw [hk]; exact Below.drewN' hb k
  clear hk Z I7 I8 hb
  have Z := Z4
  have hb := hb4
  clear Z4 hb4
  obtain ⟨zf0, zf1, zf2⟩ := Z.fr3
  obtain ⟨z0, z1, z2⟩ := Z.ce3
  have G0 : Blk (((w4.setCell ⟨w.heap.size, 0, none⟩ (.bool false)).setCell ⟨w.heap.size, 1, none⟩ (.string ⟨#[]⟩)).setCell ⟨w.heap.size, 2, none⟩ (.string ⟨#[]⟩)) w.heap.size #[.bool false, .string ⟨#[]⟩, .string ⟨#[]⟩] 24 := ((Z.setAt 0 _).setAt 1 _).setAt 2 _
  obtain ⟨g0, g1, g2⟩ := G0.ce3
  have hbY := ((hb.setCell (p := ⟨w.heap.size, 0, none⟩) (Nat.le_refl _) (.bool false)).setCell (p := ⟨w.heap.size, 1, none⟩) (Nat.le_refl _) (.string ⟨#[]⟩)).setCell (p := ⟨w.heap.size, 2, none⟩) (Nat.le_refl _) (.string ⟨#[]⟩)
  have HG := Lib.hid (And.intro (And.intro g0 (And.intro g1 g2)) hbY)
  clear g0 g1 g2 hbY G0 Z hb
  go_wp2
  obtain ⟨⟨g0, g1, g2⟩, hbY⟩ := HG.out
  exact bodyPost_ret (v := errV 4) (by simp [results, errV, Tryz.results11, go_sem, g0, g1, g2]) rfl ⟨rfl, hbY⟩

/-- what Decimal tells of a text -/
def decV (s : ByteArray) : Value :=
  if 4096 < s.size then errV 4
  else if (SP s).2 = false then errV 40
  else if (SP s).1.power.size ≠ 0 ∧ 5000 < dval 0 (SP s).1.power.data.toList then errV 4
  else kToldV (dcmR (SP s).1)
theorem kdecimal_any (s : ByteArray) (w : World) (hs : s.size ≤ 9223372036854775807) :
    Calls Tryz.prog 11 #[.string s] w fun e w' => e = .returned (decV s) ∧ Below w.heap.size w w' := by
  unfold decV
  by_cases h1 : 4096 < s.size
  · rw [if_pos h1]; exact kdecimal_long s w h1 hs
  rw [if_neg h1]
  rcases hsp : SP s with ⟨⟨dn, dd, H, T, Q⟩, ok⟩
  cases ok
  · rw [if_pos rfl]; exact kdecimal_text s w dn dd H T Q (by omega) hsp
  rw [if_neg (by simp)]
  have hok := SP_ok hsp
  have z1 : H.size + T.size ≤ s.size := hok.sizes
  have z2 : Q.size ≤ s.size := hok.psize
  rcases hok.power with ⟨h2, h3⟩ | h2
  · have h2' : Q.size = 0 := h2
    have h3' : dd = false := h3
    subst h3'
    rw [if_neg (fun h => h.1 h2)]
    have hp : dcmP ⟨dn, false, H, T, Q⟩ = -(T.size : Int) := by
      have : Q.data.toList = [] := List.eq_nil_of_length_eq_zero (by rw [Array.length_toList]; exact h2')
      show (((dval 0 Q.data.toList : Nat) : Int)) - (T.size : Int) = _
      rw [this, dval_nil]; omega
    unfold dcmR dcmN
    by_cases h4 : 0 ≤ dcmP ⟨dn, false, H, T, Q⟩
    · rw [if_pos h4]
      exact kdecimal_Ep s w dn H T Q _ _ _ (by omega) hsp hok.head hok.tail (by omega) (by omega) h2' hp.symm h4 rfl rfl
    · rw [if_neg h4]
      exact kdecimal_En s w dn H T Q _ _ _ (by omega) hsp hok.head hok.tail (by omega) (by omega) h2' hp.symm (by omega) rfl rfl
  · by_cases h5 : 5000 < dval 0 Q.data.toList
    · rw [if_pos ⟨by have := good_pos h2; show Q.size ≠ 0; have h6 : 0 < Q.size := this; omega, h5⟩]
      exact kdecimal_power s w dn dd H T Q _ (by omega) hsp (by omega) h2 rfl h5
    · rw [if_neg (fun h => h5 h.2)]
      unfold dcmR dcmN
      cases dd
      · by_cases h4 : 0 ≤ dcmP ⟨dn, false, H, T, Q⟩
        · rw [if_pos h4]
          exact kdecimal_Up s w dn H T Q _ _ _ _ (by omega) hsp hok.head hok.tail (by omega) (by omega) h2 rfl (by omega) rfl h4 rfl rfl
        · rw [if_neg h4]
          exact kdecimal_Un s w dn H T Q _ _ _ _ (by omega) hsp hok.head hok.tail (by omega) (by omega) h2 rfl (by omega) rfl (Int.not_le.1 h4) rfl rfl
      · by_cases h4 : 0 ≤ dcmP ⟨dn, true, H, T, Q⟩
        · rw [if_pos h4]
          exact kdecimal_Dp s w dn H T Q _ _ _ _ (by omega) hsp hok.head hok.tail (by omega) (by omega) h2 rfl (by omega) rfl h4 rfl rfl
        · rw [if_neg h4]
          exact kdecimal_Dn s w dn H T Q _ _ _ _ (by omega) hsp hok.head hok.tail (by omega) (by omega) h2 rfl (by omega) rfl (Int.not_le.1 h4) rfl rfl
end Go.Proofs.YtbhfnigblhfikaaGreat

/- ratio.Text of what may not be; ratio.Read, its ways. -/
namespace Go.Proofs.YtbhfnigblhfikaaGreat
open Go Go.RowKit Go.PlainAid Fil

set_option maxRecDepth 100000 in
set_option maxHeartbeats 2000000 in
theorem ktext_bad (N : Bool) (S T : ByteArray) (w : World) (fS : S.size ≤ 9223372036854775807) (fT : T.size ≤ 9223372036854775807) (hm : kMayB N S T = false) :
    Calls Tryz.prog 6 #[.agg #[.bool N, .string S, .string T]] w fun e w' => e = .returned (.tuple #[.string ⟨#[]⟩, .int .i64 2]) ∧ Below w.heap.size w w' := by
  have hm1 := fun W => kmay_any N S T W fS fT
  rw [hm] at hm1
  clear hm
  have hb := Below.refl w.heap.size w
  go_enter Tryz.func6, Tryz.ntmps6
  have F := Blk.put w #[.bool N, .string S, .string T] 24
  replace hb := hb.alloc hb.size (.cells #[.bool N, .string S, .string T] 24)
  obtain ⟨x0, x1, x2⟩ := F.ce3
  go_wp2_with fail
  refine (hm1 _).mono ?_
  rintro r w1 ⟨rfl, hB⟩
  replace hb := hb.trans (hB.mono hb.size)
  clear x0 x1 x2 hB hm1 F
  go_wp2_with fail
  go_ret2
  exact ⟨rfl, hb⟩
set_option maxRecDepth 1000000 in
set_option maxHeartbeats 2000000 in
theorem kread_long (s : ByteArray) (w : World) (hs : 80000 < s.size) (hs2 : s.size ≤ 9223372036854775807) :
    Calls Tryz.prog 9 #[.string s] w fun e w' => e = .returned (errV 4) ∧ Below w.heap.size w w' := by
  have ts : decide ((80000 : Int) < (s.size : Int)) = true := decide_eq_true (by omega)
  have Z := Blk.put w #[.bool false, .string { data := #[] }, .string { data := #[] }] 24
  have hb := (Below.refl w.heap.size w).alloc (Nat.le_refl _) (.cells #[.bool false, .string { data := #[] }, .string { data := #[] }] 24)
  go_enter Tryz.func9, Tryz.ntmps9
  have HB := Lib.hid hb
  clear hb Z
  go_wp2
  exact bodyPost_ret (v := errV 4) (by simp [results, errV, Tryz.results9, go_sem]) rfl ⟨rfl, HB.out⟩
set_option maxRecDepth 1000000 in
set_option maxHeartbeats 4000000 in
theorem kread_ta (s rest a b : ByteArray) (ng : Bool) (w : World) (hs : s.size ≤ 80000) (hsa : a.size ≤ 1000000) (hsb : b.size ≤ 1000000) (hc1 : ∀ W, Calls Tryz.prog 24 #[.string s, .string ⟨#[45]⟩] W fun e w' => e = .returned (.tuple #[.string rest, .bool ng]) ∧ W = w') (hc2 : ∀ W, Calls Tryz.prog 25 #[.string rest, .string ⟨#[47]⟩] W fun e w' => e = .returned (.tuple #[.string a, .string b, .bool true]) ∧ Below W.heap.size W w') (ha : ¬ goodL a.data.toList) :
    Calls Tryz.prog 9 #[.string s] w fun e w' => e = .returned (errV 40) ∧ Below w.heap.size w w' := by
  have ts : decide ((80000 : Int) < (s.size : Int)) = false := decide_eq_false (by omega)
  have HA := Lib.hid ha
  clear ha
  have Z := Blk.put w #[.bool false, .string { data := #[] }, .string { data := #[] }] 24
  have hb := (Below.refl w.heap.size w).alloc (Nat.le_refl _) (.cells #[.bool false, .string { data := #[] }, .string { data := #[] }] 24)
  go_enter Tryz.func9, Tryz.ntmps9
  go_wp2_with fail
  refine (hc1 _).mono ?_
  rintro e w1 ⟨rfl, hw⟩
  generalize w.alloc (.cells #[.bool false, .string { data := #[] }, .string { data := #[] }] 24) = w0 at *
  subst hw
  clear hc1
  go_wp2_with fail
  refine (hc2 _).mono ?_
  rintro e w2 ⟨rfl, hB⟩
  replace Z := Z.keep hB
  replace hb := hb.trans (hB.mono hb.size)
  clear hB hc2
  go_wp2_with fail
  refine (kdigits_bad a _ hsa HA.out).mono ?_
  rintro e w3 ⟨rfl, hB⟩
  replace Z := Z.keep hB
  replace hb := hb.trans (hB.mono hb.size)
  clear hB
  go_wp2_with fail
  refine (kdigits_ok b _ hsb).mono ?_
  rintro e w4 ⟨p, rfl, hB⟩
  replace Z := Z.keep hB
  replace hb := hb.trans (hB.mono hb.size)
  clear hB
  obtain ⟨zf0, zf1, zf2⟩ := Z.fr3
  obtain ⟨z0, z1, z2⟩ := Z.ce3
  have G0 : Blk (((w4.setCell ⟨w.heap.size, 0, none⟩ (.bool false)).setCell ⟨w.heap.size, 1, none⟩ (.string ⟨#[]⟩)).setCell ⟨w.heap.size, 2, none⟩ (.string ⟨#[]⟩)) w.heap.size #[.bool false, .string ⟨#[]⟩, .string ⟨#[]⟩] 24 := ((Z.setAt 0 _).setAt 1 _).setAt 2 _
  obtain ⟨g0, g1, g2⟩ := G0.ce3
  have hbY := ((hb.setCell (p := ⟨w.heap.size, 0, none⟩) (Nat.le_refl _) (.bool false)).setCell (p := ⟨w.heap.size, 1, none⟩) (Nat.le_refl _) (.string ⟨#[]⟩)).setCell (p := ⟨w.heap.size, 2, none⟩) (Nat.le_refl _) (.string ⟨#[]⟩)
  have HG := Lib.hid (And.intro (And.intro g0 (And.intro g1 g2)) hbY)
  clear g0 g1 g2 hbY G0 Z hb
  go_wp2
  obtain ⟨⟨g0, g1, g2⟩, hbY⟩ := HG.out
  exact bodyPost_ret (v := errV 40) (by simp [results, errV, Tryz.results9, go_sem, g0, g1, g2]) rfl ⟨rfl, hbY⟩

set_option maxRecDepth 1000000 in
set_option maxHeartbeats 4000000 in
theorem kread_tb (s rest a b : ByteArray) (ng : Bool) (w : World) (hs : s.size ≤ 80000) (hsa : a.size ≤ 1000000) (hsb : b.size ≤ 1000000) (hc1 : ∀ W, Calls Tryz.prog 24 #[.string s, .string ⟨#[45]⟩] W fun e w' => e = .returned (.tuple #[.string rest, .bool ng]) ∧ W = w') (hc2 : ∀ W, Calls Tryz.prog 25 #[.string rest, .string ⟨#[47]⟩] W fun e w' => e = .returned (.tuple #[.string a, .string b, .bool true]) ∧ Below W.heap.size W w') (ha : goodL a.data.toList) (hbb : ¬ goodL (b : ByteArray).data.toList) :
    Calls Tryz.prog 9 #[.string s] w fun e w' => e = .returned (errV 40) ∧ Below w.heap.size w w' := by
  have ts : decide ((80000 : Int) < (s.size : Int)) = false := decide_eq_false (by omega)
  have HA := Lib.hid (And.intro ha hbb)
  clear ha hbb
  have Z := Blk.put w #[.bool false, .string { data := #[] }, .string { data := #[] }] 24
  have hb := (Below.refl w.heap.size w).alloc (Nat.le_refl _) (.cells #[.bool false, .string { data := #[] }, .string { data := #[] }] 24)
  go_enter Tryz.func9, Tryz.ntmps9
  go_wp2_with fail
  refine (hc1 _).mono ?_
  rintro e w1 ⟨rfl, hw⟩
  generalize w.alloc (.cells #[.bool false, .string { data := #[] }, .string { data := #[] }] 24) = w0 at *
  subst hw
  clear hc1
  go_wp2_with fail
  refine (hc2 _).mono ?_
  rintro e w2 ⟨rfl, hB⟩
  replace Z := Z.keep hB
  replace hb := hb.trans (hB.mono hb.size)
  clear hB hc2
  go_wp2_with fail
  refine (kdigits_val a _ hsa HA.out.1).mono ?_
  rintro e w3 ⟨B9, rfl, I9, hB9, hB⟩
  replace Z := Z.keep hB
  replace hb := hb.trans (hB.mono hb.size)
  clear hB
  go_wp2_with fail
  refine (kdigits_bad b _ hsb HA.out.2).mono ?_
  rintro e w4 ⟨rfl, hB⟩
  replace Z := Z.keep hB
  replace hb := hb.trans (hB.mono hb.size)
  clear hB
  obtain ⟨zf0, zf1, zf2⟩ := Z.fr3
  obtain ⟨z0, z1, z2⟩ := Z.ce3
  have G0 : Blk (((w4.setCell ⟨w.heap.size, 0, none⟩ (.bool false)).setCell ⟨w.heap.size, 1, none⟩ (.string ⟨#[]⟩)).setCell ⟨w.heap.size, 2, none⟩ (.string ⟨#[]⟩)) w.heap.size #[.bool false, .string ⟨#[]⟩, .string ⟨#[]⟩] 24 := ((Z.setAt 0 _).setAt 1 _).setAt 2 _
  obtain ⟨g0, g1, g2⟩ := G0.ce3
  have hbY := ((hb.setCell (p := ⟨w.heap.size, 0, none⟩) (Nat.le_refl _) (.bool false)).setCell (p := ⟨w.heap.size, 1, none⟩) (Nat.le_refl _) (.string ⟨#[]⟩)).setCell (p := ⟨w.heap.size, 2, none⟩) (Nat.le_refl _) (.string ⟨#[]⟩)
  have HG := Lib.hid (And.intro (And.intro g0 (And.intro g1 g2)) hbY)
  clear g0 g1 g2 hbY G0 Z hb
  go_wp2
  obtain ⟨⟨g0, g1, g2⟩, hbY⟩ := HG.out
  exact bodyPost_ret (v := errV 40) (by simp [results, errV, Tryz.results9, go_sem, g0, g1, g2]) rfl ⟨rfl, hbY⟩

set_option maxRecDepth 1000000 in
set_option maxHeartbeats 4000000 in
theorem kread_tz (s rest a b : ByteArray) (ng : Bool) (w : World) (hs : s.size ≤ 80000) (hsa : a.size ≤ 1000000) (hsb : b.size ≤ 1000000) (hc1 : ∀ W, Calls Tryz.prog 24 #[.string s, .string ⟨#[45]⟩] W fun e w' => e = .returned (.tuple #[.string rest, .bool ng]) ∧ W = w') (hc2 : ∀ W, Calls Tryz.prog 25 #[.string rest, .string ⟨#[47]⟩] W fun e w' => e = .returned (.tuple #[.string a, .string b, .bool true]) ∧ Below W.heap.size W w') (ha : goodL a.data.toList) (hbb : goodL (b : ByteArray).data.toList) (hz : dval 0 (b : ByteArray).data.toList = 0) :
    Calls Tryz.prog 9 #[.string s] w fun e w' => e = .returned (errV 40) ∧ Below w.heap.size w w' := by
  have ts : decide ((80000 : Int) < (s.size : Int)) = false := decide_eq_false (by omega)
  have HA := Lib.hid (And.intro ha (And.intro hbb hz))
  clear ha hbb hz
  have Z := Blk.put w #[.bool false, .string { data := #[] }, .string { data := #[] }] 24
  have hb := (Below.refl w.heap.size w).alloc (Nat.le_refl _) (.cells #[.bool false, .string { data := #[] }, .string { data := #[] }] 24)
  go_enter Tryz.func9, Tryz.ntmps9
  go_wp2_with fail
  refine (hc1 _).mono ?_
  rintro e w1 ⟨rfl, hw⟩
  generalize w.alloc (.cells #[.bool false, .string { data := #[] }, .string { data := #[] }] 24) = w0 at *
  subst hw
  clear hc1
  go_wp2_with fail
  refine (hc2 _).mono ?_
  rintro e w2 ⟨rfl, hB⟩
  replace Z := Z.keep hB
  replace hb := hb.trans (hB.mono hb.size)
  clear hB hc2
  go_wp2_with fail
  refine (kdigits_val a _ hsa HA.out.1).mono ?_
  rintro e w3 ⟨B9, rfl, I9, hB9, hB⟩
  replace Z := Z.keep hB
  replace hb := hb.trans (hB.mono hb.size)
  clear hB
  go_wp2_with fail
  refine (kdigits_val b _ hsb HA.out.2.1).mono ?_
  rintro e w4 ⟨B11, rfl, I11, hB11, hB⟩
  replace Z := Z.keep hB
  replace hb := hb.trans (hB.mono hb.size)
  replace I9 := I9.below hB
  clear hB
  rw [HA.out.2.2] at I11
  go_wp2_with fail
  refine (sign_any B11 0 ((0 : Nat) : Int) w4 I11).mono ?_
  rintro e w5 ⟨rfl, rfl⟩
  clear I9 I11
  obtain ⟨zf0, zf1, zf2⟩ := Z.fr3
  obtain ⟨z0, z1, z2⟩ := Z.ce3
  have G0 : Blk (((w4.setCell ⟨w.heap.size, 0, none⟩ (.bool false)).setCell ⟨w.heap.size, 1, none⟩ (.string ⟨#[]⟩)).setCell ⟨w.heap.size, 2, none⟩ (.string ⟨#[]⟩)) w.heap.size #[.bool false, .string ⟨#[]⟩, .string ⟨#[]⟩] 24 := ((Z.setAt 0 _).setAt 1 _).setAt 2 _
  obtain ⟨g0, g1, g2⟩ := G0.ce3
  have hbY := ((hb.setCell (p := ⟨w.heap.size, 0, none⟩) (Nat.le_refl _) (.bool false)).setCell (p := ⟨w.heap.size, 1, none⟩) (Nat.le_refl _) (.string ⟨#[]⟩)).setCell (p := ⟨w.heap.size, 2, none⟩) (Nat.le_refl _) (.string ⟨#[]⟩)
  have HG := Lib.hid (And.intro (And.intro g0 (And.intro g1 g2)) hbY)
  clear g0 g1 g2 hbY G0 Z hb
  go_wp2
  obtain ⟨⟨g0, g1, g2⟩, hbY⟩ := HG.out
  exact bodyPost_ret (v := errV 40) (by simp [results, errV, Tryz.results9, go_sem, g0, g1, g2]) rfl ⟨rfl, hbY⟩

set_option maxRecDepth 1000000 in
set_option maxHeartbeats 4000000 in
theorem kread_tm (s rest a b : ByteArray) (ng : Bool) (w : World) (hs : s.size ≤ 80000) (hsa : a.size ≤ 1000000) (hsb : b.size ≤ 1000000) (hc1 : ∀ W, Calls Tryz.prog 24 #[.string s, .string ⟨#[45]⟩] W fun e w' => e = .returned (.tuple #[.string rest, .bool ng]) ∧ W = w') (hc2 : ∀ W, Calls Tryz.prog 25 #[.string rest, .string ⟨#[47]⟩] W fun e w' => e = .returned (.tuple #[.string a, .string b, .bool true]) ∧ Below W.heap.size W w') (ha : goodL a.data.toList) (hbb : goodL (b : ByteArray).data.toList) (n d : Nat) (S D : ByteArray) (hSn : bstr n = S) (hDd : bstr d = D) (hn : dval 0 a.data.toList = n) (hd : dval 0 (b : ByteArray).data.toList = d) (hd0 : d ≠ 0) (hnK : Fil.dn 32 n ≤ 1099511627776) (hdK : Fil.dn 32 d ≤ 1099511627776) (te : Int) (ht : ∀ W, Calls Tryz.prog 6 #[.agg #[.bool ng, .string S, .string D]] W fun e w' => e = .returned (.tuple #[.string ⟨#[]⟩, .int .i64 te]) ∧ Below W.heap.size W w') (hte : (te != 0) = true) :
    Calls Tryz.prog 9 #[.string s] w fun e w' => e = .returned (errV 40) ∧ Below w.heap.size w w' := by
  have ts : decide ((80000 : Int) < (s.size : Int)) = false := decide_eq_false (by omega)
  have HA := Lib.hid (And.intro ha (And.intro hbb (And.intro hn (And.intro hd (And.intro hd0 (And.intro hnK hdK))))))
  have HS := Lib.hid (And.intro hSn hDd)
  clear ha hbb hn hd hd0 hnK hdK hSn hDd
  have Z := Blk.put w #[.bool false, .string { data := #[] }, .string { data := #[] }] 24
  have hb := (Below.refl w.heap.size w).alloc (Nat.le_refl _) (.cells #[.bool false, .string { data := #[] }, .string { data := #[] }] 24)
  go_enter Tryz.func9, Tryz.ntmps9
  go_wp2_with fail
  refine (hc1 _).mono ?_
  rintro e w1 ⟨rfl, hw⟩
  generalize w.alloc (.cells #[.bool false, .string { data := #[] }, .string { data := #[] }] 24) = w0 at *
  subst hw
  clear hc1
  go_wp2_with fail
  refine (hc2 _).mono ?_
  rintro e w2 ⟨rfl, hB⟩
  replace Z := Z.keep hB
  replace hb := hb.trans (hB.mono hb.size)
  clear hB hc2
  go_wp2_with fail
  refine (kdigits_val a _ hsa HA.out.1).mono ?_
  rintro e w3 ⟨B9, rfl, I9, hB9, hB⟩
  replace Z := Z.keep hB
  replace hb := hb.trans (hB.mono hb.size)
  clear hB
  go_wp2_with fail
  refine (kdigits_val b _ hsb HA.out.2.1).mono ?_
  rintro e w4 ⟨B11, rfl, I11, hB11, hB⟩
  replace Z := Z.keep hB
  replace hb := hb.trans (hB.mono hb.size)
  replace I9 := I9.below hB
  clear hB
  rw [HA.out.2.2.1] at I9
  rw [HA.out.2.2.2.1] at I11
  have hsg : (if (d : Int) = 0 then 0 else if (d : Int) < 0 then -1 else 1 : Int) = 1 := by have := HA.out.2.2.2.2.1; rw [if_neg (by omega), if_neg (by omega)]
  have hsi : ((d : Int)).sign = 1 := Int.sign_eq_one_of_pos (by have := HA.out.2.2.2.2.1; omega)
  go_wp2_with fail
  refine (sign_any B11 0 (d : Int) w4 I11).mono ?_
  rintro e w5 ⟨rfl, rfl⟩
  go_wp2_with fail
  refine (klaid_any B9 0 (n : Int) w4 I9 (by rw [Int.natAbs_natCast]; exact HA.out.2.2.2.2.2.1)).mono ?_
  rintro e w6 ⟨rfl, hB⟩
  rw [Int.natAbs_natCast, HS.out.1]
  replace Z := Z.keep hB
  replace hb := hb.trans (hB.mono hb.size)
  replace I11 := I11.below hB
  clear hB I9
  go_wp2_with fail
  refine (klaid_any B11 0 (d : Int) w6 I11 (by rw [Int.natAbs_natCast]; exact HA.out.2.2.2.2.2.2)).mono ?_
  rintro e w7 ⟨rfl, hB⟩
  rw [Int.natAbs_natCast, HS.out.2]
  replace Z := Z.keep hB
  replace hb := hb.trans (hB.mono hb.size)
  clear hB I11
  clear hsg hsi
  have lz := Z.lt
  have X := Blk.put w7 #[.bool ng, .string S, .string D] 24
  replace Z := Z.allocd (.cells #[.bool ng, .string S, .string D] 24)
  replace hb := hb.alloc hb.size (.cells #[.bool ng, .string S, .string D] 24)
  obtain ⟨x0, x1, x2⟩ := X.ce3
  go_wp2_with fail
  refine (ht _).mono ?_
  rintro e w8 ⟨rfl, hB⟩
  clear x0 x1 x2 ht
  replace X := X.keep hB
  replace Z := Z.keep hB
  replace hb := hb.trans (hB.mono hb.size)
  clear hB
  clear X
  obtain ⟨zf0, zf1, zf2⟩ := Z.fr3
  obtain ⟨z0, z1, z2⟩ := Z.ce3
  have G0 : Blk (((w8.setCell ⟨w.heap.size, 0, none⟩ (.bool false)).setCell ⟨w.heap.size, 1, none⟩ (.string ⟨#[]⟩)).setCell ⟨w.heap.size, 2, none⟩ (.string ⟨#[]⟩)) w.heap.size #[.bool false, .string ⟨#[]⟩, .string ⟨#[]⟩] 24 := ((Z.setAt 0 _).setAt 1 _).setAt 2 _
  obtain ⟨g0, g1, g2⟩ := G0.ce3
  have hbY := ((hb.setCell (p := ⟨w.heap.size, 0, none⟩) (Nat.le_refl _) (.bool false)).setCell (p := ⟨w.heap.size, 1, none⟩) (Nat.le_refl _) (.string ⟨#[]⟩)).setCell (p := ⟨w.heap.size, 2, none⟩) (Nat.le_refl _) (.string ⟨#[]⟩)
  have HG := Lib.hid (And.intro (And.intro g0 (And.intro g1 g2)) hbY)
  clear g0 g1 g2 hbY G0 Z hb
  go_wp2
  obtain ⟨⟨g0, g1, g2⟩, hbY⟩ := HG.out
  exact bodyPost_ret (v := errV 40) (by simp [results, errV, Tryz.results9, go_sem, g0, g1, g2]) rfl ⟨rfl, hbY⟩

set_option maxRecDepth 1000000 in
set_option maxHeartbeats 4000000 in
theorem kread_tn (s rest a b : ByteArray) (ng : Bool) (w : World) (hs : s.size ≤ 80000) (hsa : a.size ≤ 1000000) (hsb : b.size ≤ 1000000) (hc1 : ∀ W, Calls Tryz.prog 24 #[.string s, .string ⟨#[45]⟩] W fun e w' => e = .returned (.tuple #[.string rest, .bool ng]) ∧ W = w') (hc2 : ∀ W, Calls Tryz.prog 25 #[.string rest, .string ⟨#[47]⟩] W fun e w' => e = .returned (.tuple #[.string a, .string b, .bool true]) ∧ Below W.heap.size W w') (ha : goodL a.data.toList) (hbb : goodL (b : ByteArray).data.toList) (n d : Nat) (S D : ByteArray) (hSn : bstr n = S) (hDd : bstr d = D) (hn : dval 0 a.data.toList = n) (hd : dval 0 (b : ByteArray).data.toList = d) (hd0 : d ≠ 0) (hnK : Fil.dn 32 n ≤ 1099511627776) (hdK : Fil.dn 32 d ≤ 1099511627776) (t : ByteArray) (ht : ∀ W, Calls Tryz.prog 6 #[.agg #[.bool ng, .string S, .string D]] W fun e w' => e = .returned (.tuple #[.string t, .int .i64 0]) ∧ Below W.heap.size W w') (hts : (t.toList == s.toList) = false) :
    Calls Tryz.prog 9 #[.string s] w fun e w' => e = .returned (errV 40) ∧ Below w.heap.size w w' := by
  have ts : decide ((80000 : Int) < (s.size : Int)) = false := decide_eq_false (by omega)
  have HA := Lib.hid (And.intro ha (And.intro hbb (And.intro hn (And.intro hd (And.intro hd0 (And.intro hnK hdK))))))
  have HS := Lib.hid (And.intro hSn hDd)
  clear ha hbb hn hd hd0 hnK hdK hSn hDd
  have Z := Blk.put w #[.bool false, .string { data := #[] }, .string { data := #[] }] 24
  have hb := (Below.refl w.heap.size w).alloc (Nat.le_refl _) (.cells #[.bool false, .string { data := #[] }, .string { data := #[] }] 24)
  go_enter Tryz.func9, Tryz.ntmps9
  go_wp2_with fail
  refine (hc1 _).mono ?_
  rintro e w1 ⟨rfl, hw⟩
  generalize w.alloc (.cells #[.bool false, .string { data := #[] }, .string { data := #[] }] 24) = w0 at *
  subst hw
  clear hc1
  go_wp2_with fail
  refine (hc2 _).mono ?_
  rintro e w2 ⟨rfl, hB⟩
  replace Z := Z.keep hB
  replace hb := hb.trans (hB.mono hb.size)
  clear hB hc2
  go_wp2_with fail
  refine (kdigits_val a _ hsa HA.out.1).mono ?_
  rintro e w3 ⟨B9, rfl, I9, hB9, hB⟩
  replace Z := Z.keep hB
  replace hb := hb.trans (hB.mono hb.size)
  clear hB
  go_wp2_with fail
  refine (kdigits_val b _ hsb HA.out.2.1).mono ?_
  rintro e w4 ⟨B11, rfl, I11, hB11, hB⟩
  replace Z := Z.keep hB
  replace hb := hb.trans (hB.mono hb.size)
  replace I9 := I9.below hB
  clear hB
  rw [HA.out.2.2.1] at I9
  rw [HA.out.2.2.2.1] at I11
  have hsg : (if (d : Int) = 0 then 0 else if (d : Int) < 0 then -1 else 1 : Int) = 1 := by have := HA.out.2.2.2.2.1; rw [if_neg (by omega), if_neg (by omega)]
  have hsi : ((d : Int)).sign = 1 := Int.sign_eq_one_of_pos (by have := HA.out.2.2.2.2.1; omega)
  go_wp2_with fail
  refine (sign_any B11 0 (d : Int) w4 I11).mono ?_
  rintro e w5 ⟨rfl, rfl⟩
  go_wp2_with fail
  refine (klaid_any B9 0 (n : Int) w4 I9 (by rw [Int.natAbs_natCast]; exact HA.out.2.2.2.2.2.1)).mono ?_
  rintro e w6 ⟨rfl, hB⟩
  rw [Int.natAbs_natCast, HS.out.1]
  replace Z := Z.keep hB
  replace hb := hb.trans (hB.mono hb.size)
  replace I11 := I11.below hB
  clear hB I9
  go_wp2_with fail
  refine (klaid_any B11 0 (d : Int) w6 I11 (by rw [Int.natAbs_natCast]; exact HA.out.2.2.2.2.2.2)).mono ?_
  rintro e w7 ⟨rfl, hB⟩
  rw [Int.natAbs_natCast, HS.out.2]
  replace Z := Z.keep hB
  replace hb := hb.trans (hB.mono hb.size)
  clear hB I11
  clear hsg hsi
  have lz := Z.lt
  have X := Blk.put w7 #[.bool ng, .string S, .string D] 24
  replace Z := Z.allocd (.cells #[.bool ng, .string S, .string D] 24)
  replace hb := hb.alloc hb.size (.cells #[.bool ng, .string S, .string D] 24)
  obtain ⟨x0, x1, x2⟩ := X.ce3
  go_wp2_with fail
  refine (ht _).mono ?_
  rintro e w8 ⟨rfl, hB⟩
  clear x0 x1 x2 ht
  replace X := X.keep hB
  replace Z := Z.keep hB
  replace hb := hb.trans (hB.mono hb.size)
  clear hB
  have hne : ¬ t.toList = s.toList := beq_eq_false_iff_ne.1 hts
  clear X
  obtain ⟨zf0, zf1, zf2⟩ := Z.fr3
  obtain ⟨z0, z1, z2⟩ := Z.ce3
  have G0 : Blk (((w8.setCell ⟨w.heap.size, 0, none⟩ (.bool false)).setCell ⟨w.heap.size, 1, none⟩ (.string ⟨#[]⟩)).setCell ⟨w.heap.size, 2, none⟩ (.string ⟨#[]⟩)) w.heap.size #[.bool false, .string ⟨#[]⟩, .string ⟨#[]⟩] 24 := ((Z.setAt 0 _).setAt 1 _).setAt 2 _
  obtain ⟨g0, g1, g2⟩ := G0.ce3
  have hbY := ((hb.setCell (p := ⟨w.heap.size, 0, none⟩) (Nat.le_refl _) (.bool false)).setCell (p := ⟨w.heap.size, 1, none⟩) (Nat.le_refl _) (.string ⟨#[]⟩)).setCell (p := ⟨w.heap.size, 2, none⟩) (Nat.le_refl _) (.string ⟨#[]⟩)
  have HG := Lib.hid (And.intro (And.intro g0 (And.intro g1 g2)) hbY)
  clear g0 g1 g2 hbY G0 Z hb
  go_wp2
  obtain ⟨⟨g0, g1, g2⟩, hbY⟩ := HG.out
  exact bodyPost_ret (v := errV 40) (by simp [results, errV, Tryz.results9, go_sem, g0, g1, g2]) rfl ⟨rfl, hbY⟩

set_option maxRecDepth 1000000 in
set_option maxHeartbeats 4000000 in
theorem kread_ty (s rest a b : ByteArray) (ng : Bool) (w : World) (hs : s.size ≤ 80000) (hsa : a.size ≤ 1000000) (hsb : b.size ≤ 1000000) (hc1 : ∀ W, Calls Tryz.prog 24 #[.string s, .string ⟨#[45]⟩] W fun e w' => e = .returned (.tuple #[.string rest, .bool ng]) ∧ W = w') (hc2 : ∀ W, Calls Tryz.prog 25 #[.string rest, .string ⟨#[47]⟩] W fun e w' => e = .returned (.tuple #[.string a, .string b, .bool true]) ∧ Below W.heap.size W w') (ha : goodL a.data.toList) (hbb : goodL (b : ByteArray).data.toList) (n d : Nat) (S D : ByteArray) (hSn : bstr n = S) (hDd : bstr d = D) (hn : dval 0 a.data.toList = n) (hd : dval 0 (b : ByteArray).data.toList = d) (hd0 : d ≠ 0) (hnK : Fil.dn 32 n ≤ 1099511627776) (hdK : Fil.dn 32 d ≤ 1099511627776) (t : ByteArray) (ht : ∀ W, Calls Tryz.prog 6 #[.agg #[.bool ng, .string S, .string D]] W fun e w' => e = .returned (.tuple #[.string t, .int .i64 0]) ∧ Below W.heap.size W w') (hts : (t.toList == s.toList) = true) :
    Calls Tryz.prog 9 #[.string s] w fun e w' => e = .returned (.tuple #[.agg #[.bool ng, .string S, .string D], .int .i64 0]) ∧ Below w.heap.size w w' := by
  have ts : decide ((80000 : Int) < (s.size : Int)) = false := decide_eq_false (by omega)
  have HA := Lib.hid (And.intro ha (And.intro hbb (And.intro hn (And.intro hd (And.intro hd0 (And.intro hnK hdK))))))
  have HS := Lib.hid (And.intro hSn hDd)
  clear ha hbb hn hd hd0 hnK hdK hSn hDd
  have Z := Blk.put w #[.bool false, .string { data := #[] }, .string { data := #[] }] 24
  have hb := (Below.refl w.heap.size w).alloc (Nat.le_refl _) (.cells #[.bool false, .string { data := #[] }, .string { data := #[] }] 24)
  go_enter Tryz.func9, Tryz.ntmps9
  go_wp2_with fail
  refine (hc1 _).mono ?_
  rintro e w1 ⟨rfl, hw⟩
  generalize w.alloc (.cells #[.bool false, .string { data := #[] }, .string { data := #[] }] 24) = w0 at *
  subst hw
  clear hc1
  go_wp2_with fail
  refine (hc2 _).mono ?_
  rintro e w2 ⟨rfl, hB⟩
  replace Z := Z.keep hB
  replace hb := hb.trans (hB.mono hb.size)
  clear hB hc2
  go_wp2_with fail
  refine (kdigits_val a _ hsa HA.out.1).mono ?_
  rintro e w3 ⟨B9, rfl, I9, hB9, hB⟩
  replace Z := Z.keep hB
  replace hb := hb.trans (hB.mono hb.size)
  clear hB
  go_wp2_with fail
  refine (kdigits_val b _ hsb HA.out.2.1).mono ?_
  rintro e w4 ⟨B11, rfl, I11, hB11, hB⟩
  replace Z := Z.keep hB
  replace hb := hb.trans (hB.mono hb.size)
  replace I9 := I9.below hB
  clear hB
  rw [HA.out.2.2.1] at I9
  rw [HA.out.2.2.2.1] at I11
  have hsg : (if (d : Int) = 0 then 0 else if (d : Int) < 0 then -1 else 1 : Int) = 1 := by have := HA.out.2.2.2.2.1; rw [if_neg (by omega), if_neg (by omega)]
  have hsi : ((d : Int)).sign = 1 := Int.sign_eq_one_of_pos (by have := HA.out.2.2.2.2.1; omega)
  go_wp2_with fail
  refine (sign_any B11 0 (d : Int) w4 I11).mono ?_
  rintro e w5 ⟨rfl, rfl⟩
  go_wp2_with fail
  refine (klaid_any B9 0 (n : Int) w4 I9 (by rw [Int.natAbs_natCast]; exact HA.out.2.2.2.2.2.1)).mono ?_
  rintro e w6 ⟨rfl, hB⟩
  rw [Int.natAbs_natCast, HS.out.1]
  replace Z := Z.keep hB
  replace hb := hb.trans (hB.mono hb.size)
  replace I11 := I11.below hB
  clear hB I9
  go_wp2_with fail
  refine (klaid_any B11 0 (d : Int) w6 I11 (by rw [Int.natAbs_natCast]; exact HA.out.2.2.2.2.2.2)).mono ?_
  rintro e w7 ⟨rfl, hB⟩
  rw [Int.natAbs_natCast, HS.out.2]
  replace Z := Z.keep hB
  replace hb := hb.trans (hB.mono hb.size)
  clear hB I11
  clear hsg hsi
  have lz := Z.lt
  have X := Blk.put w7 #[.bool ng, .string S, .string D] 24
  replace Z := Z.allocd (.cells #[.bool ng, .string S, .string D] 24)
  replace hb := hb.alloc hb.size (.cells #[.bool ng, .string S, .string D] 24)
  obtain ⟨x0, x1, x2⟩ := X.ce3
  go_wp2_with fail
  refine (ht _).mono ?_
  rintro e w8 ⟨rfl, hB⟩
  clear x0 x1 x2 ht
  replace X := X.keep hB
  replace Z := Z.keep hB
  replace hb := hb.trans (hB.mono hb.size)
  clear hB
  have hne : t.toList = s.toList := beq_iff_eq.1 hts
  clear hne
  obtain ⟨x0, x1, x2⟩ := X.ce3
  obtain ⟨zf0, zf1, zf2⟩ := Z.fr3
  obtain ⟨z0, z1, z2⟩ := Z.ce3
  have G0 : Blk (((w8.setCell ⟨w.heap.size, 0, none⟩ (.bool ng)).setCell ⟨w.heap.size, 1, none⟩ (.string S)).setCell ⟨w.heap.size, 2, none⟩ (.string D)) w.heap.size #[.bool ng, .string S, .string D] 24 := ((Z.setAt 0 _).setAt 1 _).setAt 2 _
  obtain ⟨g0, g1, g2⟩ := G0.ce3
  have hbY := ((hb.setCell (p := ⟨w.heap.size, 0, none⟩) (Nat.le_refl _) (.bool ng)).setCell (p := ⟨w.heap.size, 1, none⟩) (Nat.le_refl _) (.string S)).setCell (p := ⟨w.heap.size, 2, none⟩) (Nat.le_refl _) (.string D)
  have HG := Lib.hid (And.intro (And.intro g0 (And.intro g1 g2)) hbY)
  clear g0 g1 g2 hbY G0 Z hb
  go_wp2
  obtain ⟨⟨g0, g1, g2⟩, hbY⟩ := HG.out
  exact bodyPost_ret (v := .tuple #[.agg #[.bool ng, .string S, .string D], .int .i64 0]) (by simp [results, Tryz.results9, go_sem, g0, g1, g2]) rfl ⟨rfl, hbY⟩

set_option maxRecDepth 1000000 in
set_option maxHeartbeats 4000000 in
theorem kread_fa (s rest a b : ByteArray) (ng : Bool) (w : World) (hs : s.size ≤ 80000) (hsa : a.size ≤ 1000000) (hc1 : ∀ W, Calls Tryz.prog 24 #[.string s, .string ⟨#[45]⟩] W fun e w' => e = .returned (.tuple #[.string rest, .bool ng]) ∧ W = w') (hc2 : ∀ W, Calls Tryz.prog 25 #[.string rest, .string ⟨#[47]⟩] W fun e w' => e = .returned (.tuple #[.string a, .string b, .bool false]) ∧ Below W.heap.size W w') (ha : ¬ goodL a.data.toList) :
    Calls Tryz.prog 9 #[.string s] w fun e w' => e = .returned (errV 40) ∧ Below w.heap.size w w' := by
  have ts : decide ((80000 : Int) < (s.size : Int)) = false := decide_eq_false (by omega)
  have HA := Lib.hid ha
  clear ha
  have Z := Blk.put w #[.bool false, .string { data := #[] }, .string { data := #[] }] 24
  have hb := (Below.refl w.heap.size w).alloc (Nat.le_refl _) (.cells #[.bool false, .string { data := #[] }, .string { data := #[] }] 24)
  go_enter Tryz.func9, Tryz.ntmps9
  go_wp2_with fail
  refine (hc1 _).mono ?_
  rintro e w1 ⟨rfl, hw⟩
  generalize w.alloc (.cells #[.bool false, .string { data := #[] }, .string { data := #[] }] 24) = w0 at *
  subst hw
  clear hc1
  go_wp2_with fail
  refine (hc2 _).mono ?_
  rintro e w2 ⟨rfl, hB⟩
  replace Z := Z.keep hB
  replace hb := hb.trans (hB.mono hb.size)
  clear hB hc2
  go_wp2_with fail
  refine (kdigits_bad a _ hsa HA.out).mono ?_
  rintro e w3 ⟨rfl, hB⟩
  replace Z := Z.keep hB
  replace hb := hb.trans (hB.mono hb.size)
  clear hB
  go_wp2_with fail
  refine (kdigits_ok ⟨#[49]⟩ _ (by decide)).mono ?_
  rintro e w4 ⟨p, rfl, hB⟩
  replace Z := Z.keep hB
  replace hb := hb.trans (hB.mono hb.size)
  clear hB
  obtain ⟨zf0, zf1, zf2⟩ := Z.fr3
  obtain ⟨z0, z1, z2⟩ := Z.ce3
  have G0 : Blk (((w4.setCell ⟨w.heap.size, 0, none⟩ (.bool false)).setCell ⟨w.heap.size, 1, none⟩ (.string ⟨#[]⟩)).setCell ⟨w.heap.size, 2, none⟩ (.string ⟨#[]⟩)) w.heap.size #[.bool false, .string ⟨#[]⟩, .string ⟨#[]⟩] 24 := ((Z.setAt 0 _).setAt 1 _).setAt 2 _
  obtain ⟨g0, g1, g2⟩ := G0.ce3
  have hbY := ((hb.setCell (p := ⟨w.heap.size, 0, none⟩) (Nat.le_refl _) (.bool false)).setCell (p := ⟨w.heap.size, 1, none⟩) (Nat.le_refl _) (.string ⟨#[]⟩)).setCell (p := ⟨w.heap.size, 2, none⟩) (Nat.le_refl _) (.string ⟨#[]⟩)
  have HG := Lib.hid (And.intro (And.intro g0 (And.intro g1 g2)) hbY)
  clear g0 g1 g2 hbY G0 Z hb
  go_wp2
  obtain ⟨⟨g0, g1, g2⟩, hbY⟩ := HG.out
  exact bodyPost_ret (v := errV 40) (by simp [results, errV, Tryz.results9, go_sem, g0, g1, g2]) rfl ⟨rfl, hbY⟩

set_option maxRecDepth 1000000 in
set_option maxHeartbeats 4000000 in
theorem kread_fb (s rest a b : ByteArray) (ng : Bool) (w : World) (hs : s.size ≤ 80000) (hsa : a.size ≤ 1000000) (hc1 : ∀ W, Calls Tryz.prog 24 #[.string s, .string ⟨#[45]⟩] W fun e w' => e = .returned (.tuple #[.string rest, .bool ng]) ∧ W = w') (hc2 : ∀ W, Calls Tryz.prog 25 #[.string rest, .string ⟨#[47]⟩] W fun e w' => e = .returned (.tuple #[.string a, .string b, .bool false]) ∧ Below W.heap.size W w') (ha : goodL a.data.toList) (hbb : ¬ goodL (⟨#[49]⟩ : ByteArray).data.toList) :
    Calls Tryz.prog 9 #[.string s] w fun e w' => e = .returned (errV 40) ∧ Below w.heap.size w w' := by
  have ts : decide ((80000 : Int) < (s.size : Int)) = false := decide_eq_false (by omega)
  have HA := Lib.hid (And.intro ha hbb)
  clear ha hbb
  have Z := Blk.put w #[.bool false, .string { data := #[] }, .string { data := #[] }] 24
  have hb := (Below.refl w.heap.size w).alloc (Nat.le_refl _) (.cells #[.bool false, .string { data := #[] }, .string { data := #[] }] 24)
  go_enter Tryz.func9, Tryz.ntmps9
  go_wp2_with fail
  refine (hc1 _).mono ?_
  rintro e w1 ⟨rfl, hw⟩
  generalize w.alloc (.cells #[.bool false, .string { data := #[] }, .string { data := #[] }] 24) = w0 at *
  subst hw
  clear hc1
  go_wp2_with fail
  refine (hc2 _).mono ?_
  rintro e w2 ⟨rfl, hB⟩
  replace Z := Z.keep hB
  replace hb := hb.trans (hB.mono hb.size)
  clear hB hc2
  go_wp2_with fail
  refine (kdigits_val a _ hsa HA.out.1).mono ?_
  rintro e w3 ⟨B9, rfl, I9, hB9, hB⟩
  replace Z := Z.keep hB
  replace hb := hb.trans (hB.mono hb.size)
  clear hB
  go_wp2_with fail
  refine (kdigits_bad ⟨#[49]⟩ _ (by decide) HA.out.2).mono ?_
  rintro e w4 ⟨rfl, hB⟩
  replace Z := Z.keep hB
  replace hb := hb.trans (hB.mono hb.size)
  clear hB
  obtain ⟨zf0, zf1, zf2⟩ := Z.fr3
  obtain ⟨z0, z1, z2⟩ := Z.ce3
  have G0 : Blk (((w4.setCell ⟨w.heap.size, 0, none⟩ (.bool false)).setCell ⟨w.heap.size, 1, none⟩ (.string ⟨#[]⟩)).setCell ⟨w.heap.size, 2, none⟩ (.string ⟨#[]⟩)) w.heap.size #[.bool false, .string ⟨#[]⟩, .string ⟨#[]⟩] 24 := ((Z.setAt 0 _).setAt 1 _).setAt 2 _
  obtain ⟨g0, g1, g2⟩ := G0.ce3
  have hbY := ((hb.setCell (p := ⟨w.heap.size, 0, none⟩) (Nat.le_refl _) (.bool false)).setCell (p := ⟨w.heap.size, 1, none⟩) (Nat.le_refl _) (.string ⟨#[]⟩)).setCell (p := ⟨w.heap.size, 2, none⟩) (Nat.le_refl _) (.string ⟨#[]⟩)
  have HG := Lib.hid (And.intro (And.intro g0 (And.intro g1 g2)) hbY)
  clear g0 g1 g2 hbY G0 Z hb
  go_wp2
  obtain ⟨⟨g0, g1, g2⟩, hbY⟩ := HG.out
  exact bodyPost_ret (v := errV 40) (by simp [results, errV, Tryz.results9, go_sem, g0, g1, g2]) rfl ⟨rfl, hbY⟩

set_option maxRecDepth 1000000 in
set_option maxHeartbeats 4000000 in
theorem kread_fz (s rest a b : ByteArray) (ng : Bool) (w : World) (hs : s.size ≤ 80000) (hsa : a.size ≤ 1000000) (hc1 : ∀ W, Calls Tryz.prog 24 #[.string s, .string ⟨#[45]⟩] W fun e w' => e = .returned (.tuple #[.string rest, .bool ng]) ∧ W = w') (hc2 : ∀ W, Calls Tryz.prog 25 #[.string rest, .string ⟨#[47]⟩] W fun e w' => e = .returned (.tuple #[.string a, .string b, .bool false]) ∧ Below W.heap.size W w') (ha : goodL a.data.toList) (hbb : goodL (⟨#[49]⟩ : ByteArray).data.toList) (hz : dval 0 (⟨#[49]⟩ : ByteArray).data.toList = 0) :
    Calls Tryz.prog 9 #[.string s] w fun e w' => e = .returned (errV 40) ∧ Below w.heap.size w w' := by
  have ts : decide ((80000 : Int) < (s.size : Int)) = false := decide_eq_false (by omega)
  have HA := Lib.hid (And.intro ha (And.intro hbb hz))
  clear ha hbb hz
  have Z := Blk.put w #[.bool false, .string { data := #[] }, .string { data := #[] }] 24
  have hb := (Below.refl w.heap.size w).alloc (Nat.le_refl _) (.cells #[.bool false, .string { data := #[] }, .string { data := #[] }] 24)
  go_enter Tryz.func9, Tryz.ntmps9
  go_wp2_with fail
  refine (hc1 _).mono ?_
  rintro e w1 ⟨rfl, hw⟩
  generalize w.alloc (.cells #[.bool false, .string { data := #[] }, .string { data := #[] }] 24) = w0 at *
  subst hw
  clear hc1
  go_wp2_with fail
  refine (hc2 _).mono ?_
  rintro e w2 ⟨rfl, hB⟩
  replace Z := Z.keep hB
  replace hb := hb.trans (hB.mono hb.size)
  clear hB hc2
  go_wp2_with fail
  refine (kdigits_val a _ hsa HA.out.1).mono ?_
  rintro e w3 ⟨B9, rfl, I9, hB9, hB⟩
  replace Z := Z.keep hB
  replace hb := hb.trans (hB.mono hb.size)
  clear hB
  go_wp2_with fail
  refine (kdigits_val ⟨#[49]⟩ _ (by decide) HA.out.2.1).mono ?_
  rintro e w4 ⟨B11, rfl, I11, hB11, hB⟩
  replace Z := Z.keep hB
  replace hb := hb.trans (hB.mono hb.size)
  replace I9 := I9.below hB
  clear hB
  rw [HA.out.2.2] at I11
  go_wp2_with fail
  refine (sign_any B11 0 ((0 : Nat) : Int) w4 I11).mono ?_
  rintro e w5 ⟨rfl, rfl⟩
  clear I9 I11
  obtain ⟨zf0, zf1, zf2⟩ := Z.fr3
  obtain ⟨z0, z1, z2⟩ := Z.ce3
  have G0 : Blk (((w4.setCell ⟨w.heap.size, 0, none⟩ (.bool false)).setCell ⟨w.heap.size, 1, none⟩ (.string ⟨#[]⟩)).setCell ⟨w.heap.size, 2, none⟩ (.string ⟨#[]⟩)) w.heap.size #[.bool false, .string ⟨#[]⟩, .string ⟨#[]⟩] 24 := ((Z.setAt 0 _).setAt 1 _).setAt 2 _
  obtain ⟨g0, g1, g2⟩ := G0.ce3
  have hbY := ((hb.setCell (p := ⟨w.heap.size, 0, none⟩) (Nat.le_refl _) (.bool false)).setCell (p := ⟨w.heap.size, 1, none⟩) (Nat.le_refl _) (.string ⟨#[]⟩)).setCell (p := ⟨w.heap.size, 2, none⟩) (Nat.le_refl _) (.string ⟨#[]⟩)
  have HG := Lib.hid (And.intro (And.intro g0 (And.intro g1 g2)) hbY)
  clear g0 g1 g2 hbY G0 Z hb
  go_wp2
  obtain ⟨⟨g0, g1, g2⟩, hbY⟩ := HG.out
  exact bodyPost_ret (v := errV 40) (by simp [results, errV, Tryz.results9, go_sem, g0, g1, g2]) rfl ⟨rfl, hbY⟩

set_option maxRecDepth 1000000 in
set_option maxHeartbeats 4000000 in
theorem kread_fm (s rest a b : ByteArray) (ng : Bool) (w : World) (hs : s.size ≤ 80000) (hsa : a.size ≤ 1000000) (hc1 : ∀ W, Calls Tryz.prog 24 #[.string s, .string ⟨#[45]⟩] W fun e w' => e = .returned (.tuple #[.string rest, .bool ng]) ∧ W = w') (hc2 : ∀ W, Calls Tryz.prog 25 #[.string rest, .string ⟨#[47]⟩] W fun e w' => e = .returned (.tuple #[.string a, .string b, .bool false]) ∧ Below W.heap.size W w') (ha : goodL a.data.toList) (hbb : goodL (⟨#[49]⟩ : ByteArray).data.toList) (n d : Nat) (S D : ByteArray) (hSn : bstr n = S) (hDd : bstr d = D) (hn : dval 0 a.data.toList = n) (hd : dval 0 (⟨#[49]⟩ : ByteArray).data.toList = d) (hd0 : d ≠ 0) (hnK : Fil.dn 32 n ≤ 1099511627776) (hdK : Fil.dn 32 d ≤ 1099511627776) (te : Int) (ht : ∀ W, Calls Tryz.prog 6 #[.agg #[.bool ng, .string S, .string D]] W fun e w' => e = .returned (.tuple #[.string ⟨#[]⟩, .int .i64 te]) ∧ Below W.heap.size W w') (hte : (te != 0) = true) :
    Calls Tryz.prog 9 #[.string s] w fun e w' => e = .returned (errV 40) ∧ Below w.heap.size w w' := by
  have ts : decide ((80000 : Int) < (s.size : Int)) = false := decide_eq_false (by omega)
  have HA := Lib.hid (And.intro ha (And.intro hbb (And.intro hn (And.intro hd (And.intro hd0 (And.intro hnK hdK))))))
  have HS := Lib.hid (And.intro hSn hDd)
  clear ha hbb hn hd hd0 hnK hdK hSn hDd
  have Z := Blk.put w #[.bool false, .string { data := #[] }, .string { data := #[] }] 24
  have hb := (Below.refl w.heap.size w).alloc (Nat.le_refl _) (.cells #[.bool false, .string { data := #[] }, .string { data := #[] }] 24)
  go_enter Tryz.func9, Tryz.ntmps9
  go_wp2_with fail
  refine (hc1 _).mono ?_
  rintro e w1 ⟨rfl, hw⟩
  generalize w.alloc (.cells #[.bool false, .string { data := #[] }, .string { data := #[] }] 24) = w0 at *
  subst hw
  clear hc1
  go_wp2_with fail
  refine (hc2 _).mono ?_
  rintro e w2 ⟨rfl, hB⟩
  replace Z := Z.keep hB
  replace hb := hb.trans (hB.mono hb.size)
  clear hB hc2
  go_wp2_with fail
  refine (kdigits_val a _ hsa HA.out.1).mono ?_
  rintro e w3 ⟨B9, rfl, I9, hB9, hB⟩
  replace Z := Z.keep hB
  replace hb := hb.trans (hB.mono hb.size)
  clear hB
  go_wp2_with fail
  refine (kdigits_val ⟨#[49]⟩ _ (by decide) HA.out.2.1).mono ?_
  rintro e w4 ⟨B11, rfl, I11, hB11, hB⟩
  replace Z := Z.keep hB
  replace hb := hb.trans (hB.mono hb.size)
  replace I9 := I9.below hB
  clear hB
  rw [HA.out.2.2.1] at I9
  rw [HA.out.2.2.2.1] at I11
  have hsg : (if (d : Int) = 0 then 0 else if (d : Int) < 0 then -1 else 1 : Int) = 1 := by have := HA.out.2.2.2.2.1; rw [if_neg (by omega), if_neg (by omega)]
  have hsi : ((d : Int)).sign = 1 := Int.sign_eq_one_of_pos (by have := HA.out.2.2.2.2.1; omega)
  go_wp2_with fail
  refine (sign_any B11 0 (d : Int) w4 I11).mono ?_
  rintro e w5 ⟨rfl, rfl⟩
  go_wp2_with fail
  refine (klaid_any B9 0 (n : Int) w4 I9 (by rw [Int.natAbs_natCast]; exact HA.out.2.2.2.2.2.1)).mono ?_
  rintro e w6 ⟨rfl, hB⟩
  rw [Int.natAbs_natCast, HS.out.1]
  replace Z := Z.keep hB
  replace hb := hb.trans (hB.mono hb.size)
  replace I11 := I11.below hB
  clear hB I9
  go_wp2_with fail
  refine (klaid_any B11 0 (d : Int) w6 I11 (by rw [Int.natAbs_natCast]; exact HA.out.2.2.2.2.2.2)).mono ?_
  rintro e w7 ⟨rfl, hB⟩
  rw [Int.natAbs_natCast, HS.out.2]
  replace Z := Z.keep hB
  replace hb := hb.trans (hB.mono hb.size)
  clear hB I11
  clear hsg hsi
  have lz := Z.lt
  have X := Blk.put w7 #[.bool ng, .string S, .string D] 24
  replace Z := Z.allocd (.cells #[.bool ng, .string S, .string D] 24)
  replace hb := hb.alloc hb.size (.cells #[.bool ng, .string S, .string D] 24)
  obtain ⟨x0, x1, x2⟩ := X.ce3
  go_wp2_with fail
  refine (ht _).mono ?_
  rintro e w8 ⟨rfl, hB⟩
  clear x0 x1 x2 ht
  replace X := X.keep hB
  replace Z := Z.keep hB
  replace hb := hb.trans (hB.mono hb.size)
  clear hB
  clear X
  obtain ⟨zf0, zf1, zf2⟩ := Z.fr3
  obtain ⟨z0, z1, z2⟩ := Z.ce3
  have G0 : Blk (((w8.setCell ⟨w.heap.size, 0, none⟩ (.bool false)).setCell ⟨w.heap.size, 1, none⟩ (.string ⟨#[]⟩)).setCell ⟨w.heap.size, 2, none⟩ (.string ⟨#[]⟩)) w.heap.size #[.bool false, .string ⟨#[]⟩, .string ⟨#[]⟩] 24 := ((Z.setAt 0 _).setAt 1 _).setAt 2 _
  obtain ⟨g0, g1, g2⟩ := G0.ce3
  have hbY := ((hb.setCell (p := ⟨w.heap.size, 0, none⟩) (Nat.le_refl _) (.bool false)).setCell (p := ⟨w.heap.size, 1, none⟩) (Nat.le_refl _) (.string ⟨#[]⟩)).setCell (p := ⟨w.heap.size, 2, none⟩) (Nat.le_refl _) (.string ⟨#[]⟩)
  have HG := Lib.hid (And.intro (And.intro g0 (And.intro g1 g2)) hbY)
  clear g0 g1 g2 hbY G0 Z hb
  go_wp2
  obtain ⟨⟨g0, g1, g2⟩, hbY⟩ := HG.out
  exact bodyPost_ret (v := errV 40) (by simp [results, errV, Tryz.results9, go_sem, g0, g1, g2]) rfl ⟨rfl, hbY⟩

set_option maxRecDepth 1000000 in
set_option maxHeartbeats 4000000 in
theorem kread_fn (s rest a b : ByteArray) (ng : Bool) (w : World) (hs : s.size ≤ 80000) (hsa : a.size ≤ 1000000) (hc1 : ∀ W, Calls Tryz.prog 24 #[.string s, .string ⟨#[45]⟩] W fun e w' => e = .returned (.tuple #[.string rest, .bool ng]) ∧ W = w') (hc2 : ∀ W, Calls Tryz.prog 25 #[.string rest, .string ⟨#[47]⟩] W fun e w' => e = .returned (.tuple #[.string a, .string b, .bool false]) ∧ Below W.heap.size W w') (ha : goodL a.data.toList) (hbb : goodL (⟨#[49]⟩ : ByteArray).data.toList) (n d : Nat) (S D : ByteArray) (hSn : bstr n = S) (hDd : bstr d = D) (hn : dval 0 a.data.toList = n) (hd : dval 0 (⟨#[49]⟩ : ByteArray).data.toList = d) (hd0 : d ≠ 0) (hnK : Fil.dn 32 n ≤ 1099511627776) (hdK : Fil.dn 32 d ≤ 1099511627776) (t : ByteArray) (ht : ∀ W, Calls Tryz.prog 6 #[.agg #[.bool ng, .string S, .string D]] W fun e w' => e = .returned (.tuple #[.string t, .int .i64 0]) ∧ Below W.heap.size W w') (hts : (t.toList == s.toList) = false) :
    Calls Tryz.prog 9 #[.string s] w fun e w' => e = .returned (errV 40) ∧ Below w.heap.size w w' := by
  have ts : decide ((80000 : Int) < (s.size : Int)) = false := decide_eq_false (by omega)
  have HA := Lib.hid (And.intro ha (And.intro hbb (And.intro hn (And.intro hd (And.intro hd0 (And.intro hnK hdK))))))
  have HS := Lib.hid (And.intro hSn hDd)
  clear ha hbb hn hd hd0 hnK hdK hSn hDd
  have Z := Blk.put w #[.bool false, .string { data := #[] }, .string { data := #[] }] 24
  have hb := (Below.refl w.heap.size w).alloc (Nat.le_refl _) (.cells #[.bool false, .string { data := #[] }, .string { data := #[] }] 24)
  go_enter Tryz.func9, Tryz.ntmps9
  go_wp2_with fail
  refine (hc1 _).mono ?_
  rintro e w1 ⟨rfl, hw⟩
  generalize w.alloc (.cells #[.bool false, .string { data := #[] }, .string { data := #[] }] 24) = w0 at *
  subst hw
  clear hc1
  go_wp2_with fail
  refine (hc2 _).mono ?_
  rintro e w2 ⟨rfl, hB⟩
  replace Z := Z.keep hB
  replace hb := hb.trans (hB.mono hb.size)
  clear hB hc2
  go_wp2_with fail
  refine (kdigits_val a _ hsa HA.out.1).mono ?_
  rintro e w3 ⟨B9, rfl, I9, hB9, hB⟩
  replace Z := Z.keep hB
  replace hb := hb.trans (hB.mono hb.size)
  clear hB
  go_wp2_with fail
  refine (kdigits_val ⟨#[49]⟩ _ (by decide) HA.out.2.1).mono ?_
  rintro e w4 ⟨B11, rfl, I11, hB11, hB⟩
  replace Z := Z.keep hB
  replace hb := hb.trans (hB.mono hb.size)
  replace I9 := I9.below hB
  clear hB
  rw [HA.out.2.2.1] at I9
  rw [HA.out.2.2.2.1] at I11
  have hsg : (if (d : Int) = 0 then 0 else if (d : Int) < 0 then -1 else 1 : Int) = 1 := by have := HA.out.2.2.2.2.1; rw [if_neg (by omega), if_neg (by omega)]
  have hsi : ((d : Int)).sign = 1 := Int.sign_eq_one_of_pos (by have := HA.out.2.2.2.2.1; omega)
  go_wp2_with fail
  refine (sign_any B11 0 (d : Int) w4 I11).mono ?_
  rintro e w5 ⟨rfl, rfl⟩
  go_wp2_with fail
  refine (klaid_any B9 0 (n : Int) w4 I9 (by rw [Int.natAbs_natCast]; exact HA.out.2.2.2.2.2.1)).mono ?_
  rintro e w6 ⟨rfl, hB⟩
  rw [Int.natAbs_natCast, HS.out.1]
  replace Z := Z.keep hB
  replace hb := hb.trans (hB.mono hb.size)
  replace I11 := I11.below hB
  clear hB I9
  go_wp2_with fail
  refine (klaid_any B11 0 (d : Int) w6 I11 (by rw [Int.natAbs_natCast]; exact HA.out.2.2.2.2.2.2)).mono ?_
  rintro e w7 ⟨rfl, hB⟩
  rw [Int.natAbs_natCast, HS.out.2]
  replace Z := Z.keep hB
  replace hb := hb.trans (hB.mono hb.size)
  clear hB I11
  clear hsg hsi
  have lz := Z.lt
  have X := Blk.put w7 #[.bool ng, .string S, .string D] 24
  replace Z := Z.allocd (.cells #[.bool ng, .string S, .string D] 24)
  replace hb := hb.alloc hb.size (.cells #[.bool ng, .string S, .string D] 24)
  obtain ⟨x0, x1, x2⟩ := X.ce3
  go_wp2_with fail
  refine (ht _).mono ?_
  rintro e w8 ⟨rfl, hB⟩
  clear x0 x1 x2 ht
  replace X := X.keep hB
  replace Z := Z.keep hB
  replace hb := hb.trans (hB.mono hb.size)
  clear hB
  have hne : ¬ t.toList = s.toList := beq_eq_false_iff_ne.1 hts
  clear X
  obtain ⟨zf0, zf1, zf2⟩ := Z.fr3
  obtain ⟨z0, z1, z2⟩ := Z.ce3
  have G0 : Blk (((w8.setCell ⟨w.heap.size, 0, none⟩ (.bool false)).setCell ⟨w.heap.size, 1, none⟩ (.string ⟨#[]⟩)).setCell ⟨w.heap.size, 2, none⟩ (.string ⟨#[]⟩)) w.heap.size #[.bool false, .string ⟨#[]⟩, .string ⟨#[]⟩] 24 := ((Z.setAt 0 _).setAt 1 _).setAt 2 _
  obtain ⟨g0, g1, g2⟩ := G0.ce3
  have hbY := ((hb.setCell (p := ⟨w.heap.size, 0, none⟩) (Nat.le_refl _) (.bool false)).setCell (p := ⟨w.heap.size, 1, none⟩) (Nat.le_refl _) (.string ⟨#[]⟩)).setCell (p := ⟨w.heap.size, 2, none⟩) (Nat.le_refl _) (.string ⟨#[]⟩)
  have HG := Lib.hid (And.intro (And.intro g0 (And.intro g1 g2)) hbY)
  clear g0 g1 g2 hbY G0 Z hb
  go_wp2
  obtain ⟨⟨g0, g1, g2⟩, hbY⟩ := HG.out
  exact bodyPost_ret (v := errV 40) (by simp [results, errV, Tryz.results9, go_sem, g0, g1, g2]) rfl ⟨rfl, hbY⟩

set_option maxRecDepth 1000000 in
set_option maxHeartbeats 4000000 in
theorem kread_fy (s rest a b : ByteArray) (ng : Bool) (w : World) (hs : s.size ≤ 80000) (hsa : a.size ≤ 1000000) (hc1 : ∀ W, Calls Tryz.prog 24 #[.string s, .string ⟨#[45]⟩] W fun e w' => e = .returned (.tuple #[.string rest, .bool ng]) ∧ W = w') (hc2 : ∀ W, Calls Tryz.prog 25 #[.string rest, .string ⟨#[47]⟩] W fun e w' => e = .returned (.tuple #[.string a, .string b, .bool false]) ∧ Below W.heap.size W w') (ha : goodL a.data.toList) (hbb : goodL (⟨#[49]⟩ : ByteArray).data.toList) (n d : Nat) (S D : ByteArray) (hSn : bstr n = S) (hDd : bstr d = D) (hn : dval 0 a.data.toList = n) (hd : dval 0 (⟨#[49]⟩ : ByteArray).data.toList = d) (hd0 : d ≠ 0) (hnK : Fil.dn 32 n ≤ 1099511627776) (hdK : Fil.dn 32 d ≤ 1099511627776) (t : ByteArray) (ht : ∀ W, Calls Tryz.prog 6 #[.agg #[.bool ng, .string S, .string D]] W fun e w' => e = .returned (.tuple #[.string t, .int .i64 0]) ∧ Below W.heap.size W w') (hts : (t.toList == s.toList) = true) :
    Calls Tryz.prog 9 #[.string s] w fun e w' => e = .returned (.tuple #[.agg #[.bool ng, .string S, .string D], .int .i64 0]) ∧ Below w.heap.size w w' := by
  have ts : decide ((80000 : Int) < (s.size : Int)) = false := decide_eq_false (by omega)
  have HA := Lib.hid (And.intro ha (And.intro hbb (And.intro hn (And.intro hd (And.intro hd0 (And.intro hnK hdK))))))
  have HS := Lib.hid (And.intro hSn hDd)
  clear ha hbb hn hd hd0 hnK hdK hSn hDd
  have Z := Blk.put w #[.bool false, .string { data := #[] }, .string { data := #[] }] 24
  have hb := (Below.refl w.heap.size w).alloc (Nat.le_refl _) (.cells #[.bool false, .string { data := #[] }, .string { data := #[] }] 24)
  go_enter Tryz.func9, Tryz.ntmps9
  go_wp2_with fail
  refine (hc1 _).mono ?_
  rintro e w1 ⟨rfl, hw⟩
  generalize w.alloc (.cells #[.bool false, .string { data := #[] }, .string { data := #[] }] 24) = w0 at *
  subst hw
  clear hc1
  go_wp2_with fail
  refine (hc2 _).mono ?_
  rintro e w2 ⟨rfl, hB⟩
  replace Z := Z.keep hB
  replace hb := hb.trans (hB.mono hb.size)
  clear hB hc2
  go_wp2_with fail
  refine (kdigits_val a _ hsa HA.out.1).mono ?_
  rintro e w3 ⟨B9, rfl, I9, hB9, hB⟩
  replace Z := Z.keep hB
  replace hb := hb.trans (hB.mono hb.size)
  clear hB
  go_wp2_with fail
  refine (kdigits_val ⟨#[49]⟩ _ (by decide) HA.out.2.1).mono ?_
  rintro e w4 ⟨B11, rfl, I11, hB11, hB⟩
  replace Z := Z.keep hB
  replace hb := hb.trans (hB.mono hb.size)
  replace I9 := I9.below hB
  clear hB
  rw [HA.out.2.2.1] at I9
  rw [HA.out.2.2.2.1] at I11
  have hsg : (if (d : Int) = 0 then 0 else if (d : Int) < 0 then -1 else 1 : Int) = 1 := by have := HA.out.2.2.2.2.1; rw [if_neg (by omega), if_neg (by omega)]
  have hsi : ((d : Int)).sign = 1 := Int.sign_eq_one_of_pos (by have := HA.out.2.2.2.2.1; omega)
  go_wp2_with fail
  refine (sign_any B11 0 (d : Int) w4 I11).mono ?_
  rintro e w5 ⟨rfl, rfl⟩
  go_wp2_with fail
  refine (klaid_any B9 0 (n : Int) w4 I9 (by rw [Int.natAbs_natCast]; exact HA.out.2.2.2.2.2.1)).mono ?_
  rintro e w6 ⟨rfl, hB⟩
  rw [Int.natAbs_natCast, HS.out.1]
  replace Z := Z.keep hB
  replace hb := hb.trans (hB.mono hb.size)
  replace I11 := I11.below hB
  clear hB I9
  go_wp2_with fail
  refine (klaid_any B11 0 (d : Int) w6 I11 (by rw [Int.natAbs_natCast]; exact HA.out.2.2.2.2.2.2)).mono ?_
  rintro e w7 ⟨rfl, hB⟩
  rw [Int.natAbs_natCast, HS.out.2]
  replace Z := Z.keep hB
  replace hb := hb.trans (hB.mono hb.size)
  clear hB I11
  clear hsg hsi
  have lz := Z.lt
  have X := Blk.put w7 #[.bool ng, .string S, .string D] 24
  replace Z := Z.allocd (.cells #[.bool ng, .string S, .string D] 24)
  replace hb := hb.alloc hb.size (.cells #[.bool ng, .string S, .string D] 24)
  obtain ⟨x0, x1, x2⟩ := X.ce3
  go_wp2_with fail
  refine (ht _).mono ?_
  rintro e w8 ⟨rfl, hB⟩
  clear x0 x1 x2 ht
  replace X := X.keep hB
  replace Z := Z.keep hB
  replace hb := hb.trans (hB.mono hb.size)
  clear hB
  have hne : t.toList = s.toList := beq_iff_eq.1 hts
  clear hne
  obtain ⟨x0, x1, x2⟩ := X.ce3
  obtain ⟨zf0, zf1, zf2⟩ := Z.fr3
  obtain ⟨z0, z1, z2⟩ := Z.ce3
  have G0 : Blk (((w8.setCell ⟨w.heap.size, 0, none⟩ (.bool ng)).setCell ⟨w.heap.size, 1, none⟩ (.string S)).setCell ⟨w.heap.size, 2, none⟩ (.string D)) w.heap.size #[.bool ng, .string S, .string D] 24 := ((Z.setAt 0 _).setAt 1 _).setAt 2 _
  obtain ⟨g0, g1, g2⟩ := G0.ce3
  have hbY := ((hb.setCell (p := ⟨w.heap.size, 0, none⟩) (Nat.le_refl _) (.bool ng)).setCell (p := ⟨w.heap.size, 1, none⟩) (Nat.le_refl _) (.string S)).setCell (p := ⟨w.heap.size, 2, none⟩) (Nat.le_refl _) (.string D)
  have HG := Lib.hid (And.intro (And.intro g0 (And.intro g1 g2)) hbY)
  clear g0 g1 g2 hbY G0 Z hb
  go_wp2
  obtain ⟨⟨g0, g1, g2⟩, hbY⟩ := HG.out
  exact bodyPost_ret (v := .tuple #[.agg #[.bool ng, .string S, .string D], .int .i64 0]) (by simp [results, Tryz.results9, go_sem, g0, g1, g2]) rfl ⟨rfl, hbY⟩

end Go.Proofs.YtbhfnigblhfikaaGreat
