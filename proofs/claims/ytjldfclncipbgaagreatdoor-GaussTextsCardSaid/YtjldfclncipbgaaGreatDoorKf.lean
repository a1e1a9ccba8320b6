/- Merged: MH Kf -/
import Derived.Test.YtjldfclncipbgaaGreatDoorJ3
import Derived.Lib.Atoi
import Derived.Lib.AtoiBound
import Derived.Lib.ItoaLen
import Derived.Lib.ItoaMem
import Derived.Test.YtjldfclncipbgaaGreatDoorJZ
import Derived.Laws.Externs
import Derived.Lib.Bytealg
import Derived.Lib.IndexLaws
import Derived.Shelf.RegionOpenPlain

/- Decimal signs: the library's words (Lib.itoa, Lib.atoi) and mine (dtx, dval). -/
namespace Go.Proofs.YtjldfclncipbgaaGreatDoor
open Go Go.RowKit Go.PlainAid Fil

theorem dec_dtx (u : Nat) : Lib.decDigits u = dtx u := by
  induction u using Nat.strongRecOn with
  | ind u ih =>
    by_cases h : u < 10
    · rw [Lib.decDigits, dif_pos h]
      unfold dtx
      by_cases h0 : u = 0
      · subst h0; rfl
      · rw [if_neg h0, decs_pos h0, Nat.div_eq_of_lt h, decs_zero, Nat.mod_eq_of_lt h]; rfl
    · rw [Lib.decDigits, dif_neg h, ih (u / 10) (by omega)]
      unfold dtx
      rw [if_neg (by omega), if_neg (by omega), decs_pos (x := u) (by omega), List.reverse_cons]
/-- the text of a whole number -/
def itx (e : Int) : List UInt8 := (if e < 0 then [45] else []) ++ dtx e.natAbs
theorem itoa_itx (e : Int) : Lib.itoa e = itx e := by
  unfold Lib.itoa itx
  by_cases h : e < 0
  · rw [if_pos h, if_pos h, dec_dtx]; rfl
  · rw [if_neg h, if_neg h, dec_dtx, show e.toNat = e.natAbs by omega]; rfl
theorem digitVal_dec {c : UInt8} (h : isDec c = true) : Lib.digitVal c = some (c.toNat - 48) := by
  unfold Lib.digitVal
  exact if_pos (of_decide_eq_true h)
theorem decFrom_dval : ∀ (l : List UInt8) (n : Nat), allDec l → Lib.decFrom n l = some (dval n l) := by
  intro l
  induction l with
  | nil => intro n _; rw [dval_nil]; rfl
  | cons c r ih =>
    intro n h
    have h1 := digitVal_dec (h c (List.mem_cons_self ..))
    have h2 := ih (n * 10 + (c.toNat - 48)) (fun x hx => h x (List.mem_cons_of_mem _ hx))
    rw [dval_cons, Nat.mul_comm 10 n, ← h2]
    show (match Lib.digitVal c with | some d => Lib.decFrom (n * 10 + d) r | none => none) = _
    rw [h1]
theorem decNat_dtx (n : Nat) : Lib.decNat (dtx n) = some n := by
  have h1 := (dtx_bare n).1
  unfold Lib.decNat
  rw [if_neg (by simpa [List.isEmpty_iff] using h1), decFrom_dval _ _ (dtx_allDec n), dval_dtx]
theorem atoi_itx (e : Int) : Lib.atoi (itx e) = some e := by
  unfold itx
  by_cases h : e < 0
  · rw [if_pos h]
    show Lib.atoi (45 :: dtx e.natAbs) = _
    unfold Lib.atoi
    dsimp only
    rw [if_pos (by decide), decNat_dtx]
    show some (-(e.natAbs : Int)) = some e
    congr 1; omega
  · rw [if_neg h]
    have hd := decNat_dtx e.natAbs
    have ha := dtx_allDec e.natAbs
    cases hl : dtx e.natAbs with
    | nil => exact absurd hl (dtx_bare _).1
    | cons b r =>
      rw [hl] at hd ha
      have hb := of_decide_eq_true (ha b (List.mem_cons_self ..))
      have n1 : (b == 45) = false := by rw [beq_eq_false_iff_ne]; rintro rfl; have : (45 : UInt8).toNat = 45 := rfl; omega
      have n2 : (b == 43) = false := by rw [beq_eq_false_iff_ne]; rintro rfl; have : (43 : UInt8).toNat = 43 := rfl; omega
      rw [List.nil_append]
      unfold Lib.atoi
      dsimp only
      rw [n1, n2, hd]
      show some (e.natAbs : Int) = some e
      congr 1; omega
end Go.Proofs.YtjldfclncipbgaaGreatDoor

/- strings.CutPrefix at "-", strings.Cut at "/". -/
namespace Go.Proofs.YtjldfclncipbgaaGreatDoor
open Go Go.RowKit Go.PlainAid Fil

set_option maxRecDepth 100000 in
set_option maxHeartbeats 1000000 in
theorem indexbyte_any (s : ByteArray) (c : Int) (w : World) :
    Calls Tryz.prog 109 #[.string s, .int .u8 c] w fun e w' => e = .returned (.int .i64 (Lib.indexByte s.data.toList c.toNat.toUInt8)) ∧ w = w' := by
  go_enter Tryz.func109, Tryz.ntmps109
  go_wp2_with fail
  rw [run_callFunc_extern Tryz.func139 (by kernel_rfl) (by kernel_rfl) (by kernel_rfl) (e := Extern.BytealgIndexByte.indexByte) (by kernel_rfl), Lib.run_indexByteString]
  simp only [Result.andThen]
  rw [Oper.upon_value]
  go_wp2
  go_ret
  exact ⟨rfl, rfl⟩
theorem index_first {s : ByteArray} {c : UInt8} {i : Nat} (hi : i < s.size) (h : s[i]'hi = c) (hn : ∀ (k : Nat) (hk : k < i), s[k]'(by omega) ≠ c) : Lib.indexByte s.data.toList c = i := by
  rcases Int.lt_or_le (Lib.indexByte s.data.toList c) 0 with h1 | h1
  · have h2 := Lib.indexByte_ge s.data.toList c
    have h3 := Lib.indexByte_none (show Lib.indexByte s.data.toList c = -1 by omega) i
    refine absurd ?_ h3
    rw [List.getElem?_eq_getElem (by rw [Array.length_toList]; exact hi)]
    exact congrArg some h
  · obtain ⟨o, ho⟩ : ∃ o : Nat, Lib.indexByte s.data.toList c = o := ⟨(Lib.indexByte s.data.toList c).toNat, by omega⟩
    obtain ⟨h3, h4⟩ := Lib.indexByte_some ho
    rw [ho]
    congr 1
    rcases Nat.lt_trichotomy o i with h5 | h5 | h5
    · rw [List.getElem?_eq_getElem (by rw [Array.length_toList]; exact Nat.lt_trans h5 hi)] at h3
      exact absurd (Option.some.inj h3) (hn o h5)
    · exact h5
    · refine absurd ?_ (h4 i h5)
      rw [List.getElem?_eq_getElem (by rw [Array.length_toList]; exact hi)]
      exact congrArg some h
theorem index_none {s : ByteArray} {c : UInt8} (hn : ∀ (k : Nat) (hk : k < s.size), s[k]'hk ≠ c) : Lib.indexByte s.data.toList c = -1 := by
  have h2 := Lib.indexByte_ge s.data.toList c
  rcases Int.lt_or_le (Lib.indexByte s.data.toList c) 0 with h1 | h1
  · omega
  · obtain ⟨o, ho⟩ : ∃ o : Nat, Lib.indexByte s.data.toList c = o := ⟨(Lib.indexByte s.data.toList c).toNat, by omega⟩
    obtain ⟨h3, _⟩ := Lib.indexByte_some ho
    have h5 : o < s.data.toList.length := (List.getElem?_eq_some_iff.1 h3).1
    rw [List.getElem?_eq_getElem h5] at h3
    rw [Array.length_toList] at h5
    exact absurd (Option.some.inj h3) (hn o h5)
/-- does a text begin with a minus? -/
theorem take_one {s : ByteArray} (h : 0 < s.size) : (s.extract 0 1).toList = [s[0]'h] := by
  rw [ByteArray.toList_eq]
  have h1 := head_get h
  have e : (s.extract 0 1).data.toList = s.data.toList.take 1 := by simp
  rw [e]
  cases hl : s.data.toList with
  | nil => rw [hl] at h1; simp at h1
  | cons x r => rw [hl] at h1; simp at h1; rw [h1]; rfl
theorem minus_dec {s : ByteArray} (h : 0 < s.size) : ((s.extract 0 1).toList == [45]) = decide (byt s 0 = 45) := by
  rw [take_one h, byt_in h]
  by_cases hc : (s[0]'h).toNat = 45
  · have h2 : (s[0]'h) = 45 := UInt8.toNat_inj.1 hc
    rw [decide_eq_true hc, h2]; rfl
  · rw [decide_eq_false hc, beq_eq_false_iff_ne]
    intro h2
    injection h2 with h3
    exact hc (congrArg UInt8.toNat h3)
set_option maxRecDepth 100000 in
set_option maxHeartbeats 2000000 in
theorem hasprefix_minus (s : ByteArray) (w : World) (b : Bool) (hb : decide (0 < s.size ∧ byt s 0 = 45) = b) :
    Calls Tryz.prog 77 #[.string s, .string ⟨#[45]⟩] w fun e w' => e = .returned (.bool b) ∧ w = w' := by
  rcases Nat.eq_zero_or_pos s.size with h0 | h0
  · have t1 : decide ((1 : Int) ≤ (s.size : Int)) = false := decide_eq_false (by omega)
    have e : b = false := by rw [← hb]; exact decide_eq_false (by omega)
    subst e
    clear hb h0
    go_enter Tryz.func77, Tryz.ntmps77
    go_wp2_with fail
    go_ret
    exact ⟨rfl, rfl⟩
  · have t1 : decide ((1 : Int) ≤ (s.size : Int)) = true := decide_eq_true (by omega)
    have hx : ((s.extract 0 1).toList == [45]) = b := by
      rw [minus_dec h0, ← hb]
      congr 1
      exact propext ⟨fun h => ⟨h0, h⟩, fun h => h.2⟩
    clear hb
    go_enter Tryz.func77, Tryz.ntmps77
    go_wp2_with fail
    go_ret
    exact ⟨rfl, rfl⟩
set_option maxRecDepth 100000 in
set_option maxHeartbeats 2000000 in
theorem cutp_yes (s : ByteArray) (w : World) (h0 : 0 < s.size) (h : byt s 0 = 45) :
    Calls Tryz.prog 28 #[.string s, .string ⟨#[45]⟩] w fun e w' => e = .returned (.tuple #[.string (s.extract 1 s.size), .bool true]) ∧ w = w' := by
  have hx := fun W => hasprefix_minus s W true (decide_eq_true ⟨h0, h⟩)
  have hl : ∀ W, Calls Tryz.prog 48 #[.string s, .string ⟨#[45]⟩] W fun e w' => e = .returned (.tuple #[.string (s.extract 1 s.size), .bool true]) ∧ W = w' := fun W => by
    clear h
    go_enter Tryz.func48, Tryz.ntmps48
    go_wp2_with fail
    refine (hx _).mono ?_
    rintro e w1 ⟨rfl, rfl⟩
    go_wp2_with fail
    go_ret2
    exact ⟨rfl, rfl⟩
  clear h hx
  go_enter Tryz.func28, Tryz.ntmps28
  go_wp2_with fail
  refine (hl _).mono ?_
  rintro e w1 ⟨rfl, rfl⟩
  go_wp2_with fail
  go_ret2
  exact ⟨rfl, rfl⟩
set_option maxRecDepth 100000 in
set_option maxHeartbeats 2000000 in
theorem cutp_no (s : ByteArray) (w : World) (h : byt s 0 ≠ 45) :
    Calls Tryz.prog 28 #[.string s, .string ⟨#[45]⟩] w fun e w' => e = .returned (.tuple #[.string s, .bool false]) ∧ w = w' := by
  have hx := fun W => hasprefix_minus s W false (decide_eq_false fun k => h k.2)
  have hl : ∀ W, Calls Tryz.prog 48 #[.string s, .string ⟨#[45]⟩] W fun e w' => e = .returned (.tuple #[.string s, .bool false]) ∧ W = w' := fun W => by
    clear h
    go_enter Tryz.func48, Tryz.ntmps48
    go_wp2_with fail
    refine (hx _).mono ?_
    rintro e w1 ⟨rfl, rfl⟩
    go_wp2_with fail
    go_ret2
    exact ⟨rfl, rfl⟩
  clear h hx
  go_enter Tryz.func28, Tryz.ntmps28
  go_wp2_with fail
  refine (hl _).mono ?_
  rintro e w1 ⟨rfl, rfl⟩
  go_wp2_with fail
  go_ret2
  exact ⟨rfl, rfl⟩
end Go.Proofs.YtjldfclncipbgaaGreatDoor
