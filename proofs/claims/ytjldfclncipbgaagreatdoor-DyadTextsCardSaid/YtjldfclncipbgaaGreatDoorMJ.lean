/- The text of a Dyad, in plain Lean. -/
import Derived.Test.YtjldfclncipbgaaGreatDoorMH
import Derived.Test.YtjldfclncipbgaaGreatDoorMI
import Derived.Test.YtjldfclncipbgaaGreatDoorKh
namespace Go.Proofs.YtjldfclncipbgaaGreatDoor
open Go Go.RowKit Go.PlainAid Fil

/-- a text and its first byte c -/
theorem cut_left {s : ByteArray} {D E : List UInt8} {c : UInt8} (h : s.data.toList = D ++ c :: E) : (s.extract 0 D.length).data.toList = D := by
  have e : (s.extract 0 D.length).data.toList = s.data.toList.take D.length := by simp
  rw [e, h, List.take_left']
  rfl
theorem cut_right {s : ByteArray} {D E : List UInt8} {c : UInt8} (h : s.data.toList = D ++ c :: E) : (s.extract (D.length + 1) s.size).data.toList = E := by
  have e : (s.extract (D.length + 1) s.size).data.toList = (s.data.toList.drop (D.length + 1)).take (s.size - (D.length + 1)) := by simp
  have hz := size_of h
  have h3 : (D ++ c :: E).drop (D.length + 1) = E := by
    rw [List.drop_append, List.drop_of_length_le (by omega), show D.length + 1 - D.length = 1 by omega]; rfl
  rw [e, h, h3, List.take_of_length_le]
  rw [hz]; simp; omega
theorem cut_at {s : ByteArray} {D E : List UInt8} {c : UInt8} (h : s.data.toList = D ++ c :: E) (hD : ∀ x ∈ D, x ≠ c) {i : Nat} (hi : i < s.size) (hc : s[i]'hi = c) (hn : ∀ (k : Nat) (hk : k < i), s[k]'(by omega) ≠ c) : i = D.length := by
  have hz := size_of h
  rcases Nat.lt_trichotomy i D.length with h1 | h1 | h1
  · have h2 := get_of h hi
    rw [hc, List.getElem?_append_left h1] at h2
    exact absurd rfl (hD c (List.mem_of_getElem? h2.symm))
  · exact h1
  · have hk : D.length < s.size := by rw [hz]; simp
    have h2 := get_of h hk
    rw [List.getElem?_append_right (Nat.le_refl _), Nat.sub_self, List.getElem?_cons_zero] at h2
    exact absurd (Option.some.inj h2) (hn D.length h1)
theorem cut_some {s : ByteArray} {D E : List UInt8} {c : UInt8} (h : s.data.toList = D ++ c :: E) : ∃ (i : Nat) (hi : i < s.size), s[i]'hi = c := by
  have hz := size_of h
  have hk : D.length < s.size := by rw [hz]; simp
  have h2 := get_of h hk
  rw [List.getElem?_append_right (Nat.le_refl _), Nat.sub_self, List.getElem?_cons_zero] at h2
  exact ⟨D.length, hk, Option.some.inj h2⟩
/-- a Dyad's digits with its sign -/
def dhead (n : Bool) (x : Nat) : List UInt8 := (if n then [45] else []) ++ dtx x
/-- the text of a Dyad -/
def dtext (n : Bool) (x : Nat) (e : Int) : List UInt8 := if x = 0 then [48] else dhead n x ++ 112 :: itx e
theorem dtx_no {x : Nat} {c : UInt8} (hc : c ∈ dtx x) : 48 ≤ c.toNat ∧ c.toNat ≤ 57 := of_decide_eq_true (dtx_allDec x c hc)
theorem dhead_no {n : Bool} {x : Nat} {c : UInt8} (hc : c ∈ dhead n x) : c = 45 ∨ 48 ≤ c.toNat ∧ c.toNat ≤ 57 := by
  unfold dhead at hc
  rcases List.mem_append.1 hc with h | h
  · split at h
    · exact .inl (by simpa using h)
    · simp at h
  · exact .inr (dtx_no h)
theorem dhead_p {n : Bool} {x : Nat} : ∀ c ∈ dhead n x, c ≠ 112 := fun c hc h => by
  subst h
  rcases dhead_no hc with h | h
  · exact absurd h (by decide)
  · have : (112 : UInt8).toNat = 112 := rfl
    omega
theorem dhead_inj {n m : Bool} {x y : Nat} (h : dhead n x = dhead m y) : n = m ∧ x = y := by
  have key : ∀ (x y : Nat) (r : List UInt8), 45 :: r = dtx y → False := fun x y r h => by
    have := dtx_no (x := y) (c := 45) (by rw [← h]; simp)
    have t : (45 : UInt8).toNat = 45 := rfl
    omega
  unfold dhead at h
  cases n <;> cases m <;> simp at h
  · exact ⟨rfl, by rw [← dval_dtx x, h, dval_dtx]⟩
  · exact absurd h.symm (fun h => key x x _ h)
  · exact absurd h (fun h => key x y _ h)
  · exact ⟨rfl, by rw [← dval_dtx x, h, dval_dtx]⟩
theorem itx_inj {e f : Int} (h : itx e = itx f) : e = f := by
  have h1 := atoi_itx e
  rw [h, atoi_itx] at h1
  exact (Option.some.inj h1).symm
theorem itx_len {e : Int} (h0 : -1048576 ≤ e) (h1 : e ≤ 1048576) : (itx e).length ≤ 8 := by
  have hd : (dtx e.natAbs).length ≤ 7 := by
    unfold dtx
    split
    · simp
    · rw [List.length_reverse]; exact decs_length_le _ _ (Nat.lt_of_le_of_lt (show e.natAbs ≤ 1048576 by omega) (by decide))
  unfold itx
  rw [List.length_append]
  split <;> simp <;> omega
end Go.Proofs.YtjldfclncipbgaaGreatDoor
