/- ratio.Read of any text. -/
import Derived.Test.YtjldfclncipbgaaGreatDoorKg
import Derived.Test.YtjldfclncipbgaaGreatDoorJU
import Derived.Test.YtjldfclncipbgaaGreatDoorM1
import Derived.Test.YtjldfclncipbgaaGreatDoorJN
namespace Go.Proofs.YtjldfclncipbgaaGreatDoor
open Go Go.RowKit Go.PlainAid Fil

theorem dtx_good (n : Nat) : goodL (dtx n) := ⟨dtx_allDec n, dtx_bare n⟩
theorem get_of {s : ByteArray} {l : List UInt8} (h : s.data.toList = l) {k : Nat} (hk : k < s.size) : some (s[k]'hk) = l[k]? := by
  rw [← h, List.getElem?_eq_getElem (by rw [Array.length_toList]; exact hk)]; rfl
theorem size_of {s : ByteArray} {l : List UInt8} (h : s.data.toList = l) : s.size = l.length := by rw [← h, Array.length_toList]; rfl
/-- what is read out of a text: its sign, the digits ahead of the slash and behind it -/
structure Parts (s : ByteArray) (ng two : Bool) (rest a b : ByteArray) : Prop where
  cp : ∀ W, Calls Tryz.prog 28 #[.string s, .string ⟨#[45]⟩] W fun e w' => e = .returned (.tuple #[.string rest, .bool ng]) ∧ W = w'
  ct : ∀ W, Calls Tryz.prog 27 #[.string rest, .string ⟨#[47]⟩] W fun e w' => e = .returned (.tuple #[.string a, .string b, .bool two]) ∧ Below W.heap.size W w'
  tell : ∀ z : Rat, ktx z = s.data.toList → ng = sg z.num ∧ a.data.toList = dtx z.num.natAbs ∧ (if two then b else ⟨#[49]⟩ : ByteArray).data.toList = dtx z.den
  la : a.size ≤ s.size
  lb : b.size ≤ s.size
end Go.Proofs.YtjldfclncipbgaaGreatDoor
