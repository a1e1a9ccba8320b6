/- strings.Cut at "p" and at a comma. -/
import Derived.Test.YtjldfclncipbgaaGreatDoorKf
namespace Go.Proofs.YtjldfclncipbgaaGreatDoor
open Go Go.RowKit Go.PlainAid Fil

set_option maxRecDepth 100000 in
set_option maxHeartbeats 2000000 in
theorem index_p (s : ByteArray) (j : Int) (w : World) (hj : Lib.indexByte s.data.toList 112 = j) :
    Calls Tryz.prog 76 #[.string s, .string ⟨#[112]⟩] w fun e w' => e = .returned (.int .i64 j) ∧ w = w' := by
  have hi : ∀ W, Calls Tryz.prog 109 #[.string s, .int .u8 112] W fun e w' => e = .returned (.int .i64 j) ∧ W = w' := fun W => by
    have h := indexbyte_any s 112 W
    rw [show (112 : Int).toNat.toUInt8 = 112 from rfl, hj] at h
    exact h
  by_cases hs : s.toList = [112]
  · have e1 : ([112] == s.toList) = true := beq_iff_eq.2 hs.symm
    have e2 : (s.toList == [112]) = true := beq_iff_eq.2 hs
    have hj0 : j = 0 := by
      rw [ByteArray.toList_eq] at hs
      rw [← hj, hs]; rfl
    subst hj0
    clear hj hi hs
    go_enter Tryz.func76, Tryz.ntmps76
    go_wp2_with fail
    go_ret
    exact ⟨rfl, rfl⟩
  · have e1 : ([112] == s.toList) = false := beq_eq_false_iff_ne.2 (fun h => hs h.symm)
    have e2 : (s.toList == [112]) = false := beq_eq_false_iff_ne.2 hs
    clear hj hs
    go_enter Tryz.func76, Tryz.ntmps76
    go_wp2_with fail
    refine (hi _).mono ?_
    rintro e w1 ⟨rfl, rfl⟩
    go_wp2_with fail
    go_ret
    exact ⟨rfl, rfl⟩
set_option maxRecDepth 100000 in
set_option maxHeartbeats 2000000 in
theorem lcut_no_p (s : ByteArray) (w : World) (hn : ∀ (k : Nat) (hk : k < s.size), s[k]'hk ≠ 112) :
    Calls Tryz.prog 47 #[.string s, .string ⟨#[112]⟩] w fun e w' => e = .returned (.tuple #[.string s, .string ⟨#[]⟩, .bool false]) ∧ w = w' := by
  have hi := fun W => index_p s (-1) W (index_none hn)
  clear hn
  go_enter Tryz.func47, Tryz.ntmps47
  go_wp2_with fail
  refine (hi _).mono ?_
  rintro e w1 ⟨rfl, rfl⟩
  go_wp2_with fail
  go_ret3
  exact ⟨rfl, rfl⟩
set_option maxRecDepth 100000 in
set_option maxHeartbeats 2000000 in
theorem lcut_yes_p (s : ByteArray) (i : Nat) (w : World) (hi : i < s.size) (h : s[i]'hi = 112) (hn : ∀ (k : Nat) (hk : k < i), s[k]'(by omega) ≠ 112) (hs : s.size ≤ 9223372036854775807) :
    Calls Tryz.prog 47 #[.string s, .string ⟨#[112]⟩] w fun e w' => e = .returned (.tuple #[.string (s.extract 0 i), .string (s.extract (i + 1) s.size), .bool true]) ∧ ∃ n, w' = w.drewN n := by
  have hx := fun W => index_p s i W (index_first hi h hn)
  clear hn h
  have c1 : (0 : Int) ≤ (i : Int) := by omega
  have c2 : (i : Int) ≤ (s.size : Int) := by omega
  have c3 : (0 : Int) ≤ (i : Int) + 1 := by omega
  have c4 : (i : Int) + 1 ≤ (s.size : Int) := by omega
  have mixed : Tryz.prog.follows .mixedOrders = true := by kernel_rfl
  go_enter Tryz.func47, Tryz.ntmps47
  go_wp2_with fail
  refine (hx _).mono ?_
  rintro e w1 ⟨rfl, rfl⟩
  go_wp2_with fail
  go_region_o
  go_wp2_with fail
  go_ret3
  exact ⟨rfl, 1, rfl⟩
set_option maxRecDepth 100000 in
set_option maxHeartbeats 2000000 in
theorem scut_no_p (s : ByteArray) (w : World) (hn : ∀ (k : Nat) (hk : k < s.size), s[k]'hk ≠ 112) :
    Calls Tryz.prog 27 #[.string s, .string ⟨#[112]⟩] w fun e w' => e = .returned (.tuple #[.string s, .string ⟨#[]⟩, .bool false]) ∧ w = w' := by
  have hi := fun W => lcut_no_p s W hn
  clear hn
  go_enter Tryz.func27, Tryz.ntmps27
  go_wp2_with fail
  refine (hi _).mono ?_
  rintro e w1 ⟨rfl, rfl⟩
  go_wp2_with fail
  go_ret3
  exact ⟨rfl, rfl⟩
set_option maxRecDepth 100000 in
set_option maxHeartbeats 2000000 in
theorem scut_yes_p (s : ByteArray) (i : Nat) (w : World) (hi : i < s.size) (h : s[i]'hi = 112) (hn : ∀ (k : Nat) (hk : k < i), s[k]'(by omega) ≠ 112) (hs : s.size ≤ 9223372036854775807) :
    Calls Tryz.prog 27 #[.string s, .string ⟨#[112]⟩] w fun e w' => e = .returned (.tuple #[.string (s.extract 0 i), .string (s.extract (i + 1) s.size), .bool true]) ∧ ∃ n, w' = w.drewN n := by
  have hx := fun W => lcut_yes_p s i W hi h hn hs
  clear hn h
  go_enter Tryz.func27, Tryz.ntmps27
  go_wp2_with fail
  refine (hx _).mono ?_
  rintro e w1 ⟨rfl, n, rfl⟩
  go_wp2_with fail
  go_ret3
  exact ⟨rfl, n, rfl⟩
end Go.Proofs.YtjldfclncipbgaaGreatDoor
