/- Merged: MI Kb Kc Kg Kh -/
import Derived.Test.YtjldfclncipbgaaGreatDoorKf
import Derived.Test.YtjldfclncipbgaaGreatDoorJZ

/- strings.Cut at "p" and at a comma. -/
namespace Go.Proofs.YtjldfclncipbgaaGreatDoor
open Go Go.RowKit Go.PlainAid Fil

set_option maxRecDepth 100000 in
set_option maxHeartbeats 2000000 in
theorem index_p (s : ByteArray) (j : Int) (w : World) (hj : Lib.indexByte s.data.toList 112 = j) :
    Calls Tryz.prog 76 #[.string s, .string ⟨#[112]⟩] w fun e w' => e = .returned (.int .i64 j) ∧ w = w' := by
  have hi : ∀ W, Calls Tryz.prog 109 #[.string s, .int .u8 112] W fun e w' => e = .returned (.int .i64 j) ∧ W = w' := fun W => by
    have h := indexbyte_any s 112 W
    rw [show (112 : Int).toNat.toUInt8 = 112 from rfl, hj] at h
    exact h
  by_cases hs : s.toList = [112]
  · have e1 : ([112] == s.toList) = true := beq_iff_eq.2 hs.symm
    have e2 : (s.toList == [112]) = true := beq_iff_eq.2 hs
    have hj0 : j = 0 := by
      rw [ByteArray.toList_eq] at hs
      rw [← hj, hs]; rfl
    subst hj0
    clear hj hi hs
    go_enter Tryz.func76, Tryz.ntmps76
    go_wp2_with fail
    go_ret
    exact ⟨rfl, rfl⟩
  · have e1 : ([112] == s.toList) = false := beq_eq_false_iff_ne.2 (fun h => hs h.symm)
    have e2 : (s.toList == [112]) = false := beq_eq_false_iff_ne.2 hs
    clear hj hs
    go_enter Tryz.func76, Tryz.ntmps76
    go_wp2_with fail
    refine (hi _).mono ?_
    rintro e w1 ⟨rfl, rfl⟩
    go_wp2_with fail
    go_ret
    exact ⟨rfl, rfl⟩
set_option maxRecDepth 100000 in
set_option maxHeartbeats 2000000 in
theorem lcut_no_p (s : ByteArray) (w : World) (hn : ∀ (k : Nat) (hk : k < s.size), s[k]'hk ≠ 112) :
    Calls Tryz.prog 47 #[.string s, .string ⟨#[112]⟩] w fun e w' => e = .returned (.tuple #[.string s, .string ⟨#[]⟩, .bool false]) ∧ w = w' := by
  have hi := fun W => index_p s (-1) W (index_none hn)
  clear hn
  go_enter Tryz.func47, Tryz.ntmps47
  go_wp2_with fail
  refine (hi _).mono ?_
  rintro e w1 ⟨rfl, rfl⟩
  go_wp2_with fail
  go_ret3
  exact ⟨rfl, rfl⟩
set_option maxRecDepth 100000 in
set_option maxHeartbeats 2000000 in
theorem lcut_yes_p (s : ByteArray) (i : Nat) (w : World) (hi : i < s.size) (h : s[i]'hi = 112) (hn : ∀ (k : Nat) (hk : k < i), s[k]'(by omega) ≠ 112) (hs : s.size ≤ 9223372036854775807) :
    Calls Tryz.prog 47 #[.string s, .string ⟨#[112]⟩] w fun e w' => e = .returned (.tuple #[.string (s.extract 0 i), .string (s.extract (i + 1) s.size), .bool true]) ∧ ∃ n, w' = w.drewN n := by
  have hx := fun W => index_p s i W (index_first hi h hn)
  clear hn h
  have c1 : (0 : Int) ≤ (i : Int) := by omega
  have c2 : (i : Int) ≤ (s.size : Int) := by omega
  have c3 : (0 : Int) ≤ (i : Int) + 1 := by omega
  have c4 : (i : Int) + 1 ≤ (s.size : Int) := by omega
  have mixed : Tryz.prog.follows .mixedOrders = true := by kernel_rfl
  go_enter Tryz.func47, Tryz.ntmps47
  go_wp2_with fail
  refine (hx _).mono ?_
  rintro e w1 ⟨rfl, rfl⟩
  go_wp2_with fail
  go_region_o
  go_wp2_with fail
  go_ret3
  exact ⟨rfl, 1, rfl⟩
set_option maxRecDepth 100000 in
set_option maxHeartbeats 2000000 in
theorem scut_no_p (s : ByteArray) (w : World) (hn : ∀ (k : Nat) (hk : k < s.size), s[k]'hk ≠ 112) :
    Calls Tryz.prog 27 #[.string s, .string ⟨#[112]⟩] w fun e w' => e = .returned (.tuple #[.string s, .string ⟨#[]⟩, .bool false]) ∧ w = w' := by
  have hi := fun W => lcut_no_p s W hn
  clear hn
  go_enter Tryz.func27, Tryz.ntmps27
  go_wp2_with fail
  refine (hi _).mono ?_
  rintro e w1 ⟨rfl, rfl⟩
  go_wp2_with fail
  go_ret3
  exact ⟨rfl, rfl⟩
set_option maxRecDepth 100000 in
set_option maxHeartbeats 2000000 in
theorem scut_yes_p (s : ByteArray) (i : Nat) (w : World) (hi : i < s.size) (h : s[i]'hi = 112) (hn : ∀ (k : Nat) (hk : k < i), s[k]'(by omega) ≠ 112) (hs : s.size ≤ 9223372036854775807) :
    Calls Tryz.prog 27 #[.string s, .string ⟨#[112]⟩] w fun e w' => e = .returned (.tuple #[.string (s.extract 0 i), .string (s.extract (i + 1) s.size), .bool true]) ∧ ∃ n, w' = w.drewN n := by
  have hx := fun W => lcut_yes_p s i W hi h hn hs
  clear hn h
  go_enter Tryz.func27, Tryz.ntmps27
  go_wp2_with fail
  refine (hx _).mono ?_
  rintro e w1 ⟨rfl, n, rfl⟩
  go_wp2_with fail
  go_ret3
  exact ⟨rfl, n, rfl⟩
set_option maxRecDepth 100000 in
set_option maxHeartbeats 2000000 in
theorem index_c (s : ByteArray) (j : Int) (w : World) (hj : Lib.indexByte s.data.toList 44 = j) :
    Calls Tryz.prog 76 #[.string s, .string ⟨#[44]⟩] w fun e w' => e = .returned (.int .i64 j) ∧ w = w' := by
  have hi : ∀ W, Calls Tryz.prog 109 #[.string s, .int .u8 44] W fun e w' => e = .returned (.int .i64 j) ∧ W = w' := fun W => by
    have h := indexbyte_any s 44 W
    rw [show (44 : Int).toNat.toUInt8 = 44 from rfl, hj] at h
    exact h
  by_cases hs : s.toList = [44]
  · have e1 : ([44] == s.toList) = true := beq_iff_eq.2 hs.symm
    have e2 : (s.toList == [44]) = true := beq_iff_eq.2 hs
    have hj0 : j = 0 := by
      rw [ByteArray.toList_eq] at hs
      rw [← hj, hs]; rfl
    subst hj0
    clear hj hi hs
    go_enter Tryz.func76, Tryz.ntmps76
    go_wp2_with fail
    go_ret
    exact ⟨rfl, rfl⟩
  · have e1 : ([44] == s.toList) = false := beq_eq_false_iff_ne.2 (fun h => hs h.symm)
    have e2 : (s.toList == [44]) = false := beq_eq_false_iff_ne.2 hs
    clear hj hs
    go_enter Tryz.func76, Tryz.ntmps76
    go_wp2_with fail
    refine (hi _).mono ?_
    rintro e w1 ⟨rfl, rfl⟩
    go_wp2_with fail
    go_ret
    exact ⟨rfl, rfl⟩
set_option maxRecDepth 100000 in
set_option maxHeartbeats 2000000 in
theorem lcut_no_c (s : ByteArray) (w : World) (hn : ∀ (k : Nat) (hk : k < s.size), s[k]'hk ≠ 44) :
    Calls Tryz.prog 47 #[.string s, .string ⟨#[44]⟩] w fun e w' => e = .returned (.tuple #[.string s, .string ⟨#[]⟩, .bool false]) ∧ w = w' := by
  have hi := fun W => index_c s (-1) W (index_none hn)
  clear hn
  go_enter Tryz.func47, Tryz.ntmps47
  go_wp2_with fail
  refine (hi _).mono ?_
  rintro e w1 ⟨rfl, rfl⟩
  go_wp2_with fail
  go_ret3
  exact ⟨rfl, rfl⟩
set_option maxRecDepth 100000 in
set_option maxHeartbeats 2000000 in
theorem lcut_yes_c (s : ByteArray) (i : Nat) (w : World) (hi : i < s.size) (h : s[i]'hi = 44) (hn : ∀ (k : Nat) (hk : k < i), s[k]'(by omega) ≠ 44) (hs : s.size ≤ 9223372036854775807) :
    Calls Tryz.prog 47 #[.string s, .string ⟨#[44]⟩] w fun e w' => e = .returned (.tuple #[.string (s.extract 0 i), .string (s.extract (i + 1) s.size), .bool true]) ∧ ∃ n, w' = w.drewN n := by
  have hx := fun W => index_c s i W (index_first hi h hn)
  clear hn h
  have c1 : (0 : Int) ≤ (i : Int) := by omega
  have c2 : (i : Int) ≤ (s.size : Int) := by omega
  have c3 : (0 : Int) ≤ (i : Int) + 1 := by omega
  have c4 : (i : Int) + 1 ≤ (s.size : Int) := by omega
  have mixed : Tryz.prog.follows .mixedOrders = true := by kernel_rfl
  go_enter Tryz.func47, Tryz.ntmps47
  go_wp2_with fail
  refine (hx _).mono ?_
  rintro e w1 ⟨rfl, rfl⟩
  go_wp2_with fail
  go_region_o
  go_wp2_with fail
  go_ret3
  exact ⟨rfl, 1, rfl⟩
set_option maxRecDepth 100000 in
set_option maxHeartbeats 2000000 in
theorem scut_no_c (s : ByteArray) (w : World) (hn : ∀ (k : Nat) (hk : k < s.size), s[k]'hk ≠ 44) :
    Calls Tryz.prog 27 #[.string s, .string ⟨#[44]⟩] w fun e w' => e = .returned (.tuple #[.string s, .string ⟨#[]⟩, .bool false]) ∧ w = w' := by
  have hi := fun W => lcut_no_c s W hn
  clear hn
  go_enter Tryz.func27, Tryz.ntmps27
  go_wp2_with fail
  refine (hi _).mono ?_
  rintro e w1 ⟨rfl, rfl⟩
  go_wp2_with fail
  go_ret3
  exact ⟨rfl, rfl⟩
set_option maxRecDepth 100000 in
set_option maxHeartbeats 2000000 in
theorem scut_yes_c (s : ByteArray) (i : Nat) (w : World) (hi : i < s.size) (h : s[i]'hi = 44) (hn : ∀ (k : Nat) (hk : k < i), s[k]'(by omega) ≠ 44) (hs : s.size ≤ 9223372036854775807) :
    Calls Tryz.prog 27 #[.string s, .string ⟨#[44]⟩] w fun e w' => e = .returned (.tuple #[.string (s.extract 0 i), .string (s.extract (i + 1) s.size), .bool true]) ∧ ∃ n, w' = w.drewN n := by
  have hx := fun W => lcut_yes_c s i W hi h hn hs
  clear hn h
  go_enter Tryz.func27, Tryz.ntmps27
  go_wp2_with fail
  refine (hx _).mono ?_
  rintro e w1 ⟨rfl, n, rfl⟩
  go_wp2_with fail
  go_ret3
  exact ⟨rfl, n, rfl⟩
end Go.Proofs.YtjldfclncipbgaaGreatDoor

/- ratio.Decimal. -/
namespace Go.Proofs.YtjldfclncipbgaaGreatDoor
open Go Go.RowKit Go.PlainAid Fil

end Go.Proofs.YtjldfclncipbgaaGreatDoor

/- ratio.Decimal. -/
namespace Go.Proofs.YtjldfclncipbgaaGreatDoor
open Go Go.RowKit Go.PlainAid Fil

end Go.Proofs.YtjldfclncipbgaaGreatDoor

/- ratio.Text of what may not be; ratio.Read, its ways. -/
namespace Go.Proofs.YtjldfclncipbgaaGreatDoor
open Go Go.RowKit Go.PlainAid Fil

end Go.Proofs.YtjldfclncipbgaaGreatDoor

/- ratio.Read of any text. -/
namespace Go.Proofs.YtjldfclncipbgaaGreatDoor
open Go Go.RowKit Go.PlainAid Fil

theorem dtx_ne (n : Nat) : dtx n ≠ [] := (dtx_bare n).1
theorem dtx_good (n : Nat) : goodL (dtx n) := ⟨dtx_allDec n, dtx_bare n⟩
theorem byt_head {s : ByteArray} {c : UInt8} {r : List UInt8} (h : s.data.toList = c :: r) : byt s 0 = c.toNat ∧ 0 < s.size := by
  have h0 : 0 < s.size := by
    have := congrArg List.length h
    rw [Array.length_toList] at this
    have h2 : s.size = s.data.size := rfl
    rw [h2, this]; simp
  refine ⟨?_, h0⟩
  rw [byt_in h0]
  have h1 := head_get h0
  rw [h] at h1
  exact congrArg UInt8.toNat (Option.some.inj h1).symm
theorem rest_minus {s : ByteArray} {r : List UInt8} (h : s.data.toList = 45 :: r) : (s.extract 1 s.size).data.toList = r := by
  have e : (s.extract 1 s.size).data.toList = (s.data.toList.drop 1).take (s.size - 1) := by simp
  rw [e, h]
  rw [List.drop_succ_cons, List.drop_zero, List.take_of_length_le]
  have := congrArg List.length h
  rw [Array.length_toList] at this
  have h2 : s.size = s.data.size := rfl
  rw [h2, this]; simp
theorem get_of {s : ByteArray} {l : List UInt8} (h : s.data.toList = l) {k : Nat} (hk : k < s.size) : some (s[k]'hk) = l[k]? := by
  rw [← h, List.getElem?_eq_getElem (by rw [Array.length_toList]; exact hk)]; rfl
theorem size_of {s : ByteArray} {l : List UInt8} (h : s.data.toList = l) : s.size = l.length := by rw [← h, Array.length_toList]; rfl
/-- what is read out of a text: its sign, the digits ahead of the slash and behind it -/
structure Parts (s : ByteArray) (ng two : Bool) (rest a b : ByteArray) : Prop where
  cp : ∀ W, Calls Tryz.prog 28 #[.string s, .string ⟨#[45]⟩] W fun e w' => e = .returned (.tuple #[.string rest, .bool ng]) ∧ W = w'
  ct : ∀ W, Calls Tryz.prog 27 #[.string rest, .string ⟨#[47]⟩] W fun e w' => e = .returned (.tuple #[.string a, .string b, .bool two]) ∧ Below W.heap.size W w'
  tell : ∀ z : Rat, ktx z = s.data.toList → ng = sg z.num ∧ a.data.toList = dtx z.num.natAbs ∧ (if two then b else ⟨#[49]⟩ : ByteArray).data.toList = dtx z.den
  la : a.size ≤ s.size
  lb : b.size ≤ s.size
theorem first_at {s : ByteArray} {c : UInt8} : (∀ (k : Nat) (hk : k < s.size), s[k]'hk ≠ c) ∨ ∃ (i : Nat) (hi : i < s.size), s[i]'hi = c ∧ ∀ (k : Nat) (hk : k < i), s[k]'(by omega) ≠ c := by
  have key : ∀ n, n ≤ s.size → (∀ (k : Nat) (hk : k < s.size), k < n → s[k]'hk ≠ c) ∨ ∃ (i : Nat) (hi : i < s.size), s[i]'hi = c ∧ ∀ (k : Nat) (hk : k < i), s[k]'(by omega) ≠ c := by
    intro n
    induction n with
    | zero => intro _; exact .inl fun k _ hk => absurd hk (by omega)
    | succ n ih =>
      intro hn
      rcases ih (by omega) with h1 | h1
      · by_cases hc : s[n]'(by omega) = c
        · exact .inr ⟨n, by omega, hc, fun k hk => h1 k (by omega) hk⟩
        · left
          intro k hk hkn
          rcases Nat.lt_or_ge k n with h2 | h2
          · exact h1 k hk h2
          · obtain rfl : k = n := by omega
            exact hc
      · exact .inr h1
  rcases key s.size (Nat.le_refl _) with h1 | h1
  · exact .inl fun k hk => h1 k hk hk
  · exact .inr h1
theorem len_toList (s : ByteArray) : s.data.toList.length = s.size := Array.length_toList
theorem bstr_inj {x y : Nat} (h : bstr x = bstr y) : x = y := by rw [← nb_bstr x, h, nb_bstr]
end Go.Proofs.YtjldfclncipbgaaGreatDoor
