/- ratio.digits of any text; a scope whose labels are jumped to. -/
import Derived.Test.YtjldfclncipbgaaGreatDoorJP
import Derived.Test.YtjldfclncipbgaaGreatDoorJN
import Derived.Scope
namespace Go
section
variable {P : Program} {a : Act} {w : World} {Q : Exit → Act → World → Prop}
end
end Go
namespace Go.Proofs.YtjldfclncipbgaaGreatDoor
open Go Go.RowKit Go.PlainAid Fil

/-- digits without noughts ahead -/
def goodL (l : List UInt8) : Prop := allDec l ∧ bare l
instance (l : List UInt8) : Decidable (allDec l) := by unfold allDec; infer_instance
instance (l : List UInt8) : Decidable (bare l) := by unfold bare; infer_instance
instance (l : List UInt8) : Decidable (goodL l) := by unfold goodL; infer_instance
def goodB (l : List UInt8) : Bool := decide (goodL l)
theorem byte_get {s : ByteArray} {i : Nat} (h : i < s.size) : s.data.toList[i]'(by rw [Array.length_toList]; exact h) = s[i]'h := rfl
theorem good_all {s : ByteArray} (h : goodL s.data.toList) : ∀ (i : Nat) (h : i < s.size), 48 ≤ (s[i]'h).toNat ∧ (s[i]'h).toNat ≤ 57 := fun _ hi =>
  of_decide_eq_true (h.1 _ (byte_get hi ▸ List.getElem_mem _))
theorem good_pos {s : ByteArray} (h : goodL s.data.toList) : 0 < s.size := by
  rcases Nat.eq_zero_or_pos s.size with h0 | h0
  · exact absurd (List.eq_nil_of_length_eq_zero (by rw [Array.length_toList]; exact h0)) h.2.1
  · exact h0
theorem head_get {s : ByteArray} (h : 0 < s.size) : s.data.toList.head? = some (s[0]'h) := by
  rw [List.head?_eq_getElem?, List.getElem?_eq_getElem (by rw [Array.length_toList]; exact h)]; rfl
theorem good_head {s : ByteArray} (h : goodL s.data.toList) : (s[0]'(good_pos h)).toNat = 48 → s.size = 1 := fun h48 => by
  have := h.2.2 (by rw [head_get (good_pos h)]; exact congrArg some (UInt8.toNat_inj.1 h48))
  rwa [Array.length_toList] at this
theorem first_bad {s : ByteArray} (h : ¬ ∀ (i : Nat) (h : i < s.size), 48 ≤ (s[i]'h).toNat ∧ (s[i]'h).toNat ≤ 57) :
    ∃ (i0 : Nat) (h0 : i0 < s.size), (∀ (i : Nat) (h : i < i0), 48 ≤ (s[i]'(by omega)).toNat ∧ (s[i]'(by omega)).toNat ≤ 57) ∧ ¬ (48 ≤ (s[i0]'h0).toNat ∧ (s[i0]'h0).toNat ≤ 57) := by
  have key : ∀ n, n ≤ s.size → (∀ (i : Nat) (h : i < s.size), i < n → 48 ≤ (s[i]'h).toNat ∧ (s[i]'h).toNat ≤ 57) ∨ ∃ (i0 : Nat) (h0 : i0 < s.size), (∀ (i : Nat) (h : i < i0), 48 ≤ (s[i]'(by omega)).toNat ∧ (s[i]'(by omega)).toNat ≤ 57) ∧ ¬ (48 ≤ (s[i0]'h0).toNat ∧ (s[i0]'h0).toNat ≤ 57) := by
    intro n
    induction n with
    | zero => intro _; exact .inl fun i _ hi => absurd hi (by omega)
    | succ n ih =>
      intro hn
      rcases ih (by omega) with h1 | h1
      · by_cases hb : 48 ≤ (s[n]'(by omega)).toNat ∧ (s[n]'(by omega)).toNat ≤ 57
        · left
          intro i hi hin
          rcases Nat.lt_or_ge i n with h2 | h2
          · exact h1 i hi h2
          · obtain rfl : i = n := by omega
            exact hb
        · right
          exact ⟨n, by omega, fun i hi => h1 i (by omega) hi, hb⟩
      · exact .inr h1
  rcases key s.size (Nat.le_refl _) with h1 | h1
  · exact absurd (fun i hi => h1 i hi hi) h
  · exact h1
theorem good_of {s : ByteArray} (h0 : 0 < s.size) (hd : ∀ (i : Nat) (h : i < s.size), 48 ≤ (s[i]'h).toNat ∧ (s[i]'h).toNat ≤ 57) (hh : (s[0]'h0).toNat = 48 → s.size = 1) : goodL s.data.toList := by
  refine ⟨fun c hc => ?_, fun hn => ?_, fun h48 => ?_⟩
  · obtain ⟨i, hi, rfl⟩ := List.getElem_of_mem hc
    exact decide_eq_true (hd i (by rwa [Array.length_toList] at hi))
  · have := congrArg List.length hn
    rw [Array.length_toList] at this
    have h2 : s.data.size = 0 := this
    have h3 : s.size = s.data.size := rfl
    omega
  · rw [head_get h0] at h48
    rw [Array.length_toList]
    exact hh (congrArg UInt8.toNat (Option.some.inj h48))
end Go.Proofs.YtjldfclncipbgaaGreatDoor
