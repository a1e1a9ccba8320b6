/- strings.CutPrefix at "-", strings.Cut at "/". -/
import Derived.Test.YtbfnafcpjbdbpaaJU
import Derived.Laws.Externs
import Derived.Lib.Bytealg
import Derived.Lib.IndexLaws
import Derived.Shelf.RegionOpenPlain
namespace Go.Proofs.Ytbfnafcpjbdbpaa
open Go Go.RowKit Go.PlainAid Fil

set_option maxRecDepth 100000 in
set_option maxHeartbeats 1000000 in
theorem indexbyte_any (s : ByteArray) (c : Int) (w : World) :
    Calls Try.prog 101 #[.string s, .int .u8 c] w fun e w' => e = .returned (.int .i64 (Lib.indexByte s.data.toList c.toNat.toUInt8)) ∧ w = w' := by
  go_enter Try.func101, Try.ntmps101
  go_wp2_with fail
  rw [run_callFunc_extern Try.func110 (by kernel_rfl) (by kernel_rfl) (by kernel_rfl) (e := Extern.BytealgIndexByte.indexByte) (by kernel_rfl), Lib.run_indexByteString]
  simp only [Result.andThen]
  rw [Oper.upon_value]
  go_wp2
  go_ret
  exact ⟨rfl, rfl⟩
theorem index_first {s : ByteArray} {c : UInt8} {i : Nat} (hi : i < s.size) (h : s[i]'hi = c) (hn : ∀ (k : Nat) (hk : k < i), s[k]'(by omega) ≠ c) : Lib.indexByte s.data.toList c = i := by
  rcases Int.lt_or_le (Lib.indexByte s.data.toList c) 0 with h1 | h1
  · have h2 := Lib.indexByte_ge s.data.toList c
    have h3 := Lib.indexByte_none (show Lib.indexByte s.data.toList c = -1 by omega) i
    refine absurd ?_ h3
    rw [List.getElem?_eq_getElem (by rw [Array.length_toList]; exact hi)]
    exact congrArg some h
  · obtain ⟨o, ho⟩ : ∃ o : Nat, Lib.indexByte s.data.toList c = o := ⟨(Lib.indexByte s.data.toList c).toNat, by omega⟩
    obtain ⟨h3, h4⟩ := Lib.indexByte_some ho
    rw [ho]
    congr 1
    rcases Nat.lt_trichotomy o i with h5 | h5 | h5
    · rw [List.getElem?_eq_getElem (by rw [Array.length_toList]; exact Nat.lt_trans h5 hi)] at h3
      exact absurd (Option.some.inj h3) (hn o h5)
    · exact h5
    · refine absurd ?_ (h4 i h5)
      rw [List.getElem?_eq_getElem (by rw [Array.length_toList]; exact hi)]
      exact congrArg some h
theorem index_none {s : ByteArray} {c : UInt8} (hn : ∀ (k : Nat) (hk : k < s.size), s[k]'hk ≠ c) : Lib.indexByte s.data.toList c = -1 := by
  have h2 := Lib.indexByte_ge s.data.toList c
  rcases Int.lt_or_le (Lib.indexByte s.data.toList c) 0 with h1 | h1
  · omega
  · obtain ⟨o, ho⟩ : ∃ o : Nat, Lib.indexByte s.data.toList c = o := ⟨(Lib.indexByte s.data.toList c).toNat, by omega⟩
    obtain ⟨h3, _⟩ := Lib.indexByte_some ho
    have h5 : o < s.data.toList.length := (List.getElem?_eq_some_iff.1 h3).1
    rw [List.getElem?_eq_getElem h5] at h3
    rw [Array.length_toList] at h5
    exact absurd (Option.some.inj h3) (hn o h5)
set_option maxRecDepth 100000 in
set_option maxHeartbeats 2000000 in
theorem index_slash (s : ByteArray) (j : Int) (w : World) (hj : Lib.indexByte s.data.toList 47 = j) :
    Calls Try.prog 94 #[.string s, .string ⟨#[47]⟩] w fun e w' => e = .returned (.int .i64 j) ∧ w = w' := by
  have hi : ∀ W, Calls Try.prog 101 #[.string s, .int .u8 47] W fun e w' => e = .returned (.int .i64 j) ∧ W = w' := fun W => by
    have h := indexbyte_any s 47 W
    rw [show (47 : Int).toNat.toUInt8 = 47 from rfl, hj] at h
    exact h
  by_cases hs : s.toList = [47]
  · have e1 : ([47] == s.toList) = true := beq_iff_eq.2 hs.symm
    have e2 : (s.toList == [47]) = true := beq_iff_eq.2 hs
    have hj0 : j = 0 := by
      rw [ByteArray.toList_eq] at hs
      rw [← hj, hs]; rfl
    subst hj0
    clear hj hi hs
    go_enter Try.func94, Try.ntmps94
    go_wp2_with fail
    go_ret
    exact ⟨rfl, rfl⟩
  · have e1 : ([47] == s.toList) = false := beq_eq_false_iff_ne.2 (fun h => hs h.symm)
    have e2 : (s.toList == [47]) = false := beq_eq_false_iff_ne.2 hs
    clear hj hs
    go_enter Try.func94, Try.ntmps94
    go_wp2_with fail
    refine (hi _).mono ?_
    rintro e w1 ⟨rfl, rfl⟩
    go_wp2_with fail
    go_ret
    exact ⟨rfl, rfl⟩
set_option maxRecDepth 100000 in
set_option maxHeartbeats 2000000 in
theorem lcut_no (s : ByteArray) (w : World) (hn : ∀ (k : Nat) (hk : k < s.size), s[k]'hk ≠ 47) :
    Calls Try.prog 73 #[.string s, .string ⟨#[47]⟩] w fun e w' => e = .returned (.tuple #[.string s, .string ⟨#[]⟩, .bool false]) ∧ w = w' := by
  have hi := fun W => index_slash s (-1) W (index_none hn)
  clear hn
  go_enter Try.func73, Try.ntmps73
  go_wp2_with fail
  refine (hi _).mono ?_
  rintro e w1 ⟨rfl, rfl⟩
  go_wp2_with fail
  go_ret3
  exact ⟨rfl, rfl⟩
set_option maxRecDepth 100000 in
set_option maxHeartbeats 2000000 in
theorem lcut_yes (s : ByteArray) (i : Nat) (w : World) (hi : i < s.size) (h : s[i]'hi = 47) (hn : ∀ (k : Nat) (hk : k < i), s[k]'(by omega) ≠ 47) (hs : s.size ≤ 1000000) :
    Calls Try.prog 73 #[.string s, .string ⟨#[47]⟩] w fun e w' => e = .returned (.tuple #[.string (s.extract 0 i), .string (s.extract (i + 1) s.size), .bool true]) ∧ ∃ n, w' = w.drewN n := by
  have hx := fun W => index_slash s i W (index_first hi h hn)
  clear hn h
  have c1 : (0 : Int) ≤ (i : Int) := by omega
  have c2 : (i : Int) ≤ (s.size : Int) := by omega
  have c3 : (0 : Int) ≤ (i : Int) + 1 := by omega
  have c4 : (i : Int) + 1 ≤ (s.size : Int) := by omega
  have mixed : Try.prog.follows .mixedOrders = true := by kernel_rfl
  go_enter Try.func73, Try.ntmps73
  go_wp2_with fail
  refine (hx _).mono ?_
  rintro e w1 ⟨rfl, rfl⟩
  go_wp2_with fail
  go_region_o
  go_wp2_with fail
  go_ret3
  exact ⟨rfl, 1, rfl⟩
set_option maxRecDepth 100000 in
set_option maxHeartbeats 2000000 in
theorem scut_no (s : ByteArray) (w : World) (hn : ∀ (k : Nat) (hk : k < s.size), s[k]'hk ≠ 47) :
    Calls Try.prog 40 #[.string s, .string ⟨#[47]⟩] w fun e w' => e = .returned (.tuple #[.string s, .string ⟨#[]⟩, .bool false]) ∧ w = w' := by
  have hi := fun W => lcut_no s W hn
  clear hn
  go_enter Try.func40, Try.ntmps40
  go_wp2_with fail
  refine (hi _).mono ?_
  rintro e w1 ⟨rfl, rfl⟩
  go_wp2_with fail
  go_ret3
  exact ⟨rfl, rfl⟩
set_option maxRecDepth 100000 in
set_option maxHeartbeats 2000000 in
theorem scut_yes (s : ByteArray) (i : Nat) (w : World) (hi : i < s.size) (h : s[i]'hi = 47) (hn : ∀ (k : Nat) (hk : k < i), s[k]'(by omega) ≠ 47) (hs : s.size ≤ 1000000) :
    Calls Try.prog 40 #[.string s, .string ⟨#[47]⟩] w fun e w' => e = .returned (.tuple #[.string (s.extract 0 i), .string (s.extract (i + 1) s.size), .bool true]) ∧ ∃ n, w' = w.drewN n := by
  have hx := fun W => lcut_yes s i W hi h hn hs
  clear hn h
  go_enter Try.func40, Try.ntmps40
  go_wp2_with fail
  refine (hx _).mono ?_
  rintro e w1 ⟨rfl, n, rfl⟩
  go_wp2_with fail
  go_ret3
  exact ⟨rfl, n, rfl⟩
/-- does a text begin with a minus? -/
theorem take_one {s : ByteArray} (h : 0 < s.size) : (s.extract 0 1).toList = [s[0]'h] := by
  rw [ByteArray.toList_eq]
  have h1 := head_get h
  have e : (s.extract 0 1).data.toList = s.data.toList.take 1 := by simp
  rw [e]
  cases hl : s.data.toList with
  | nil => rw [hl] at h1; simp at h1
  | cons x r => rw [hl] at h1; simp at h1; rw [h1]; rfl
theorem minus_dec {s : ByteArray} (h : 0 < s.size) : ((s.extract 0 1).toList == [45]) = decide (byt s 0 = 45) := by
  rw [take_one h, byt_in h]
  by_cases hc : (s[0]'h).toNat = 45
  · have h2 : (s[0]'h) = 45 := UInt8.toNat_inj.1 hc
    rw [decide_eq_true hc, h2]; rfl
  · rw [decide_eq_false hc, beq_eq_false_iff_ne]
    intro h2
    injection h2 with h3
    exact hc (congrArg UInt8.toNat h3)
set_option maxRecDepth 100000 in
set_option maxHeartbeats 2000000 in
theorem hasprefix_minus (s : ByteArray) (w : World) (b : Bool) (hb : decide (0 < s.size ∧ byt s 0 = 45) = b) :
    Calls Try.prog 83 #[.string s, .string ⟨#[45]⟩] w fun e w' => e = .returned (.bool b) ∧ w = w' := by
  rcases Nat.eq_zero_or_pos s.size with h0 | h0
  · have t1 : decide ((1 : Int) ≤ (s.size : Int)) = false := decide_eq_false (by omega)
    have e : b = false := by rw [← hb]; exact decide_eq_false (by omega)
    subst e
    clear hb h0
    go_enter Try.func83, Try.ntmps83
    go_wp2_with fail
    go_ret
    exact ⟨rfl, rfl⟩
  · have t1 : decide ((1 : Int) ≤ (s.size : Int)) = true := decide_eq_true (by omega)
    have hx : ((s.extract 0 1).toList == [45]) = b := by
      rw [minus_dec h0, ← hb]
      congr 1
      exact propext ⟨fun h => ⟨h0, h⟩, fun h => h.2⟩
    clear hb
    go_enter Try.func83, Try.ntmps83
    go_wp2_with fail
    go_ret
    exact ⟨rfl, rfl⟩
set_option maxRecDepth 100000 in
set_option maxHeartbeats 2000000 in
theorem cutp_yes (s : ByteArray) (w : World) (h0 : 0 < s.size) (h : byt s 0 = 45) :
    Calls Try.prog 39 #[.string s, .string ⟨#[45]⟩] w fun e w' => e = .returned (.tuple #[.string (s.extract 1 s.size), .bool true]) ∧ w = w' := by
  have hx := fun W => hasprefix_minus s W true (decide_eq_true ⟨h0, h⟩)
  have hl : ∀ W, Calls Try.prog 72 #[.string s, .string ⟨#[45]⟩] W fun e w' => e = .returned (.tuple #[.string (s.extract 1 s.size), .bool true]) ∧ W = w' := fun W => by
    clear h
    go_enter Try.func72, Try.ntmps72
    go_wp2_with fail
    refine (hx _).mono ?_
    rintro e w1 ⟨rfl, rfl⟩
    go_wp2_with fail
    go_ret2
    exact ⟨rfl, rfl⟩
  clear h hx
  go_enter Try.func39, Try.ntmps39
  go_wp2_with fail
  refine (hl _).mono ?_
  rintro e w1 ⟨rfl, rfl⟩
  go_wp2_with fail
  go_ret2
  exact ⟨rfl, rfl⟩
set_option maxRecDepth 100000 in
set_option maxHeartbeats 2000000 in
theorem cutp_no (s : ByteArray) (w : World) (h : byt s 0 ≠ 45) :
    Calls Try.prog 39 #[.string s, .string ⟨#[45]⟩] w fun e w' => e = .returned (.tuple #[.string s, .bool false]) ∧ w = w' := by
  have hx := fun W => hasprefix_minus s W false (decide_eq_false fun k => h k.2)
  have hl : ∀ W, Calls Try.prog 72 #[.string s, .string ⟨#[45]⟩] W fun e w' => e = .returned (.tuple #[.string s, .bool false]) ∧ W = w' := fun W => by
    clear h
    go_enter Try.func72, Try.ntmps72
    go_wp2_with fail
    refine (hx _).mono ?_
    rintro e w1 ⟨rfl, rfl⟩
    go_wp2_with fail
    go_ret2
    exact ⟨rfl, rfl⟩
  clear h hx
  go_enter Try.func39, Try.ntmps39
  go_wp2_with fail
  refine (hl _).mono ?_
  rintro e w1 ⟨rfl, rfl⟩
  go_wp2_with fail
  go_ret2
  exact ⟨rfl, rfl⟩
end Go.Proofs.Ytbfnafcpjbdbpaa
