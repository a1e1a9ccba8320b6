/- strings.CutPrefix at "-", strings.Cut at "/". -/
import Derived.Test.YtjldfclncipbgaaGreatDoorJU
import Derived.Laws.Externs
import Derived.Lib.Bytealg
import Derived.Lib.IndexLaws
import Derived.Shelf.RegionOpenPlain
namespace Go.Proofs.YtjldfclncipbgaaGreatDoor
open Go Go.RowKit Go.PlainAid Fil

set_option maxRecDepth 100000 in
set_option maxHeartbeats 1000000 in
theorem indexbyte_any (s : ByteArray) (c : Int) (w : World) :
    Calls Tryz.prog 109 #[.string s, .int .u8 c] w fun e w' => e = .returned (.int .i64 (Lib.indexByte s.data.toList c.toNat.toUInt8)) ∧ w = w' := by
  go_enter Tryz.func109, Tryz.ntmps109
  go_wp2_with fail
  rw [run_callFunc_extern Tryz.func139 (by kernel_rfl) (by kernel_rfl) (by kernel_rfl) (e := Extern.BytealgIndexByte.indexByte) (by kernel_rfl), Lib.run_indexByteString]
  simp only [Result.andThen]
  rw [Oper.upon_value]
  go_wp2
  go_ret
  exact ⟨rfl, rfl⟩
theorem index_first {s : ByteArray} {c : UInt8} {i : Nat} (hi : i < s.size) (h : s[i]'hi = c) (hn : ∀ (k : Nat) (hk : k < i), s[k]'(by omega) ≠ c) : Lib.indexByte s.data.toList c = i := by
  rcases Int.lt_or_le (Lib.indexByte s.data.toList c) 0 with h1 | h1
  · have h2 := Lib.indexByte_ge s.data.toList c
    have h3 := Lib.indexByte_none (show Lib.indexByte s.data.toList c = -1 by omega) i
    refine absurd ?_ h3
    rw [List.getElem?_eq_getElem (by rw [Array.length_toList]; exact hi)]
    exact congrArg some h
  · obtain ⟨o, ho⟩ : ∃ o : Nat, Lib.indexByte s.data.toList c = o := ⟨(Lib.indexByte s.data.toList c).toNat, by omega⟩
    obtain ⟨h3, h4⟩ := Lib.indexByte_some ho
    rw [ho]
    congr 1
    rcases Nat.lt_trichotomy o i with h5 | h5 | h5
    · rw [List.getElem?_eq_getElem (by rw [Array.length_toList]; exact Nat.lt_trans h5 hi)] at h3
      exact absurd (Option.some.inj h3) (hn o h5)
    · exact h5
    · refine absurd ?_ (h4 i h5)
      rw [List.getElem?_eq_getElem (by rw [Array.length_toList]; exact hi)]
      exact congrArg some h
theorem index_none {s : ByteArray} {c : UInt8} (hn : ∀ (k : Nat) (hk : k < s.size), s[k]'hk ≠ c) : Lib.indexByte s.data.toList c = -1 := by
  have h2 := Lib.indexByte_ge s.data.toList c
  rcases Int.lt_or_le (Lib.indexByte s.data.toList c) 0 with h1 | h1
  · omega
  · obtain ⟨o, ho⟩ : ∃ o : Nat, Lib.indexByte s.data.toList c = o := ⟨(Lib.indexByte s.data.toList c).toNat, by omega⟩
    obtain ⟨h3, _⟩ := Lib.indexByte_some ho
    have h5 : o < s.data.toList.length := (List.getElem?_eq_some_iff.1 h3).1
    rw [List.getElem?_eq_getElem h5] at h3
    rw [Array.length_toList] at h5
    exact absurd (Option.some.inj h3) (hn o h5)
/-- does a text begin with a minus? -/
theorem take_one {s : ByteArray} (h : 0 < s.size) : (s.extract 0 1).toList = [s[0]'h] := by
  rw [ByteArray.toList_eq]
  have h1 := head_get h
  have e : (s.extract 0 1).data.toList = s.data.toList.take 1 := by simp
  rw [e]
  cases hl : s.data.toList with
  | nil => rw [hl] at h1; simp at h1
  | cons x r => rw [hl] at h1; simp at h1; rw [h1]; rfl
theorem minus_dec {s : ByteArray} (h : 0 < s.size) : ((s.extract 0 1).toList == [45]) = decide (byt s 0 = 45) := by
  rw [take_one h, byt_in h]
  by_cases hc : (s[0]'h).toNat = 45
  · have h2 : (s[0]'h) = 45 := UInt8.toNat_inj.1 hc
    rw [decide_eq_true hc, h2]; rfl
  · rw [decide_eq_false hc, beq_eq_false_iff_ne]
    intro h2
    injection h2 with h3
    exact hc (congrArg UInt8.toNat h3)
set_option maxRecDepth 100000 in
set_option maxHeartbeats 2000000 in
theorem hasprefix_minus (s : ByteArray) (w : World) (b : Bool) (hb : decide (0 < s.size ∧ byt s 0 = 45) = b) :
    Calls Tryz.prog 77 #[.string s, .string ⟨#[45]⟩] w fun e w' => e = .returned (.bool b) ∧ w = w' := by
  rcases Nat.eq_zero_or_pos s.size with h0 | h0
  · have t1 : decide ((1 : Int) ≤ (s.size : Int)) = false := decide_eq_false (by omega)
    have e : b = false := by rw [← hb]; exact decide_eq_false (by omega)
    subst e
    clear hb h0
    go_enter Tryz.func77, Tryz.ntmps77
    go_wp2_with fail
    go_ret
    exact ⟨rfl, rfl⟩
  · have t1 : decide ((1 : Int) ≤ (s.size : Int)) = true := decide_eq_true (by omega)
    have hx : ((s.extract 0 1).toList == [45]) = b := by
      rw [minus_dec h0, ← hb]
      congr 1
      exact propext ⟨fun h => ⟨h0, h⟩, fun h => h.2⟩
    clear hb
    go_enter Tryz.func77, Tryz.ntmps77
    go_wp2_with fail
    go_ret
    exact ⟨rfl, rfl⟩
set_option maxRecDepth 100000 in
set_option maxHeartbeats 2000000 in
theorem cutp_yes (s : ByteArray) (w : World) (h0 : 0 < s.size) (h : byt s 0 = 45) :
    Calls Tryz.prog 28 #[.string s, .string ⟨#[45]⟩] w fun e w' => e = .returned (.tuple #[.string (s.extract 1 s.size), .bool true]) ∧ w = w' := by
  have hx := fun W => hasprefix_minus s W true (decide_eq_true ⟨h0, h⟩)
  have hl : ∀ W, Calls Tryz.prog 48 #[.string s, .string ⟨#[45]⟩] W fun e w' => e = .returned (.tuple #[.string (s.extract 1 s.size), .bool true]) ∧ W = w' := fun W => by
    clear h
    go_enter Tryz.func48, Tryz.ntmps48
    go_wp2_with fail
    refine (hx _).mono ?_
    rintro e w1 ⟨rfl, rfl⟩
    go_wp2_with fail
    go_ret2
    exact ⟨rfl, rfl⟩
  clear h hx
  go_enter Tryz.func28, Tryz.ntmps28
  go_wp2_with fail
  refine (hl _).mono ?_
  rintro e w1 ⟨rfl, rfl⟩
  go_wp2_with fail
  go_ret2
  exact ⟨rfl, rfl⟩
set_option maxRecDepth 100000 in
set_option maxHeartbeats 2000000 in
theorem cutp_no (s : ByteArray) (w : World) (h : byt s 0 ≠ 45) :
    Calls Tryz.prog 28 #[.string s, .string ⟨#[45]⟩] w fun e w' => e = .returned (.tuple #[.string s, .bool false]) ∧ w = w' := by
  have hx := fun W => hasprefix_minus s W false (decide_eq_false fun k => h k.2)
  have hl : ∀ W, Calls Tryz.prog 48 #[.string s, .string ⟨#[45]⟩] W fun e w' => e = .returned (.tuple #[.string s, .bool false]) ∧ W = w' := fun W => by
    clear h
    go_enter Tryz.func48, Tryz.ntmps48
    go_wp2_with fail
    refine (hx _).mono ?_
    rintro e w1 ⟨rfl, rfl⟩
    go_wp2_with fail
    go_ret2
    exact ⟨rfl, rfl⟩
  clear h hx
  go_enter Tryz.func28, Tryz.ntmps28
  go_wp2_with fail
  refine (hl _).mono ?_
  rintro e w1 ⟨rfl, rfl⟩
  go_wp2_with fail
  go_ret2
  exact ⟨rfl, rfl⟩
end Go.Proofs.YtjldfclncipbgaaGreatDoor
