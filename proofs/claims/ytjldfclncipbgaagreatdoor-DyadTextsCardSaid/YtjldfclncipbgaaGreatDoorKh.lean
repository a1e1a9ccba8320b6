/- ratio.Read of any text. -/
import Derived.Test.YtjldfclncipbgaaGreatDoorKg
import Derived.Test.YtjldfclncipbgaaGreatDoorJU
import Derived.Test.YtjldfclncipbgaaGreatDoorM1
import Derived.Test.YtjldfclncipbgaaGreatDoorJN
namespace Go.Proofs.YtjldfclncipbgaaGreatDoor
open Go Go.RowKit Go.PlainAid Fil

theorem dtx_ne (n : Nat) : dtx n ≠ [] := (dtx_bare n).1
theorem dtx_good (n : Nat) : goodL (dtx n) := ⟨dtx_allDec n, dtx_bare n⟩
theorem byt_head {s : ByteArray} {c : UInt8} {r : List UInt8} (h : s.data.toList = c :: r) : byt s 0 = c.toNat ∧ 0 < s.size := by
  have h0 : 0 < s.size := by
    have := congrArg List.length h
    rw [Array.length_toList] at this
    have h2 : s.size = s.data.size := rfl
    rw [h2, this]; simp
  refine ⟨?_, h0⟩
  rw [byt_in h0]
  have h1 := head_get h0
  rw [h] at h1
  exact congrArg UInt8.toNat (Option.some.inj h1).symm
theorem rest_minus {s : ByteArray} {r : List UInt8} (h : s.data.toList = 45 :: r) : (s.extract 1 s.size).data.toList = r := by
  have e : (s.extract 1 s.size).data.toList = (s.data.toList.drop 1).take (s.size - 1) := by simp
  rw [e, h]
  rw [List.drop_succ_cons, List.drop_zero, List.take_of_length_le]
  have := congrArg List.length h
  rw [Array.length_toList] at this
  have h2 : s.size = s.data.size := rfl
  rw [h2, this]; simp
theorem get_of {s : ByteArray} {l : List UInt8} (h : s.data.toList = l) {k : Nat} (hk : k < s.size) : some (s[k]'hk) = l[k]? := by
  rw [← h, List.getElem?_eq_getElem (by rw [Array.length_toList]; exact hk)]; rfl
theorem size_of {s : ByteArray} {l : List UInt8} (h : s.data.toList = l) : s.size = l.length := by rw [← h, Array.length_toList]; rfl
/-- what is read out of a text: its sign, the digits ahead of the slash and behind it -/
structure Parts (s : ByteArray) (ng two : Bool) (rest a b : ByteArray) : Prop where
  cp : ∀ W, Calls Tryz.prog 28 #[.string s, .string ⟨#[45]⟩] W fun e w' => e = .returned (.tuple #[.string rest, .bool ng]) ∧ W = w'
  ct : ∀ W, Calls Tryz.prog 27 #[.string rest, .string ⟨#[47]⟩] W fun e w' => e = .returned (.tuple #[.string a, .string b, .bool two]) ∧ Below W.heap.size W w'
  tell : ∀ z : Rat, ktx z = s.data.toList → ng = sg z.num ∧ a.data.toList = dtx z.num.natAbs ∧ (if two then b else ⟨#[49]⟩ : ByteArray).data.toList = dtx z.den
  la : a.size ≤ s.size
  lb : b.size ≤ s.size
theorem first_at {s : ByteArray} {c : UInt8} : (∀ (k : Nat) (hk : k < s.size), s[k]'hk ≠ c) ∨ ∃ (i : Nat) (hi : i < s.size), s[i]'hi = c ∧ ∀ (k : Nat) (hk : k < i), s[k]'(by omega) ≠ c := by
  have key : ∀ n, n ≤ s.size → (∀ (k : Nat) (hk : k < s.size), k < n → s[k]'hk ≠ c) ∨ ∃ (i : Nat) (hi : i < s.size), s[i]'hi = c ∧ ∀ (k : Nat) (hk : k < i), s[k]'(by omega) ≠ c := by
    intro n
    induction n with
    | zero => intro _; exact .inl fun k _ hk => absurd hk (by omega)
    | succ n ih =>
      intro hn
      rcases ih (by omega) with h1 | h1
      · by_cases hc : s[n]'(by omega) = c
        · exact .inr ⟨n, by omega, hc, fun k hk => h1 k (by omega) hk⟩
        · left
          intro k hk hkn
          rcases Nat.lt_or_ge k n with h2 | h2
          · exact h1 k hk h2
          · obtain rfl : k = n := by omega
            exact hc
      · exact .inr h1
  rcases key s.size (Nat.le_refl _) with h1 | h1
  · exact .inl fun k hk => h1 k hk hk
  · exact .inr h1
theorem len_toList (s : ByteArray) : s.data.toList.length = s.size := Array.length_toList
theorem bstr_inj {x y : Nat} (h : bstr x = bstr y) : x = y := by rw [← nb_bstr x, h, nb_bstr]
end Go.Proofs.YtjldfclncipbgaaGreatDoor
