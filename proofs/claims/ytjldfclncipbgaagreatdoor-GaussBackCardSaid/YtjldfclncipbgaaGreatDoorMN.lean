/- Merged: MJ MN -/
import Derived.Test.YtjldfclncipbgaaGreatDoorKf
import Derived.Test.YtjldfclncipbgaaGreatDoorKh
import Derived.Test.YtjldfclncipbgaaGreatDoorM1
import Derived.Test.YtjldfclncipbgaaGreatDoorBJ

/- The text of a Dyad, in plain Lean. -/
namespace Go.Proofs.YtjldfclncipbgaaGreatDoor
open Go Go.RowKit Go.PlainAid Fil

/-- a text and its first byte c -/
theorem cut_left {s : ByteArray} {D E : List UInt8} {c : UInt8} (h : s.data.toList = D ++ c :: E) : (s.extract 0 D.length).data.toList = D := by
  have e : (s.extract 0 D.length).data.toList = s.data.toList.take D.length := by simp
  rw [e, h, List.take_left']
  rfl
theorem cut_right {s : ByteArray} {D E : List UInt8} {c : UInt8} (h : s.data.toList = D ++ c :: E) : (s.extract (D.length + 1) s.size).data.toList = E := by
  have e : (s.extract (D.length + 1) s.size).data.toList = (s.data.toList.drop (D.length + 1)).take (s.size - (D.length + 1)) := by simp
  have hz := size_of h
  have h3 : (D ++ c :: E).drop (D.length + 1) = E := by
    rw [List.drop_append, List.drop_of_length_le (by omega), show D.length + 1 - D.length = 1 by omega]; rfl
  rw [e, h, h3, List.take_of_length_le]
  rw [hz]; simp; omega
theorem cut_at {s : ByteArray} {D E : List UInt8} {c : UInt8} (h : s.data.toList = D ++ c :: E) (hD : ∀ x ∈ D, x ≠ c) {i : Nat} (hi : i < s.size) (hc : s[i]'hi = c) (hn : ∀ (k : Nat) (hk : k < i), s[k]'(by omega) ≠ c) : i = D.length := by
  have hz := size_of h
  rcases Nat.lt_trichotomy i D.length with h1 | h1 | h1
  · have h2 := get_of h hi
    rw [hc, List.getElem?_append_left h1] at h2
    exact absurd rfl (hD c (List.mem_of_getElem? h2.symm))
  · exact h1
  · have hk : D.length < s.size := by rw [hz]; simp
    have h2 := get_of h hk
    rw [List.getElem?_append_right (Nat.le_refl _), Nat.sub_self, List.getElem?_cons_zero] at h2
    exact absurd (Option.some.inj h2) (hn D.length h1)
theorem cut_some {s : ByteArray} {D E : List UInt8} {c : UInt8} (h : s.data.toList = D ++ c :: E) : ∃ (i : Nat) (hi : i < s.size), s[i]'hi = c := by
  have hz := size_of h
  have hk : D.length < s.size := by rw [hz]; simp
  have h2 := get_of h hk
  rw [List.getElem?_append_right (Nat.le_refl _), Nat.sub_self, List.getElem?_cons_zero] at h2
  exact ⟨D.length, hk, Option.some.inj h2⟩
/-- a Dyad's digits with its sign -/
def dhead (n : Bool) (x : Nat) : List UInt8 := (if n then [45] else []) ++ dtx x
/-- the text of a Dyad -/
def dtext (n : Bool) (x : Nat) (e : Int) : List UInt8 := if x = 0 then [48] else dhead n x ++ 112 :: itx e
theorem dtx_no {x : Nat} {c : UInt8} (hc : c ∈ dtx x) : 48 ≤ c.toNat ∧ c.toNat ≤ 57 := of_decide_eq_true (dtx_allDec x c hc)
theorem itx_no {e : Int} {c : UInt8} (hc : c ∈ itx e) : c = 45 ∨ 48 ≤ c.toNat ∧ c.toNat ≤ 57 := by
  unfold itx at hc
  rcases List.mem_append.1 hc with h | h
  · split at h
    · exact .inl (by simpa using h)
    · simp at h
  · exact .inr (dtx_no h)
theorem dhead_no {n : Bool} {x : Nat} {c : UInt8} (hc : c ∈ dhead n x) : c = 45 ∨ 48 ≤ c.toNat ∧ c.toNat ≤ 57 := by
  unfold dhead at hc
  rcases List.mem_append.1 hc with h | h
  · split at h
    · exact .inl (by simpa using h)
    · simp at h
  · exact .inr (dtx_no h)
theorem dhead_p {n : Bool} {x : Nat} : ∀ c ∈ dhead n x, c ≠ 112 := fun c hc h => by
  subst h
  rcases dhead_no hc with h | h
  · exact absurd h (by decide)
  · have : (112 : UInt8).toNat = 112 := rfl
    omega
theorem dtext_comma {n : Bool} {x : Nat} {e : Int} : ∀ c ∈ dtext n x e, c ≠ 44 := fun c hc h => by
  subst h
  have t : (44 : UInt8).toNat = 44 := rfl
  unfold dtext at hc
  split at hc
  · simp at hc
  · rcases List.mem_append.1 hc with h | h
    · rcases dhead_no h with h | h
      · exact absurd h (by decide)
      · omega
    · rcases List.mem_cons.1 h with h | h
      · exact absurd h (by decide)
      · rcases itx_no h with h | h
        · exact absurd h (by decide)
        · omega
theorem dhead_inj {n m : Bool} {x y : Nat} (h : dhead n x = dhead m y) : n = m ∧ x = y := by
  have key : ∀ (x y : Nat) (r : List UInt8), 45 :: r = dtx y → False := fun x y r h => by
    have := dtx_no (x := y) (c := 45) (by rw [← h]; simp)
    have t : (45 : UInt8).toNat = 45 := rfl
    omega
  unfold dhead at h
  cases n <;> cases m <;> simp at h
  · exact ⟨rfl, by rw [← dval_dtx x, h, dval_dtx]⟩
  · exact absurd h.symm (fun h => key x x _ h)
  · exact absurd h (fun h => key x y _ h)
  · exact ⟨rfl, by rw [← dval_dtx x, h, dval_dtx]⟩
theorem itx_inj {e f : Int} (h : itx e = itx f) : e = f := by
  have h1 := atoi_itx e
  rw [h, atoi_itx] at h1
  exact (Option.some.inj h1).symm
theorem itx_len {e : Int} (h0 : -1048576 ≤ e) (h1 : e ≤ 1048576) : (itx e).length ≤ 8 := by
  have hd : (dtx e.natAbs).length ≤ 7 := by
    unfold dtx
    split
    · simp
    · rw [List.length_reverse]; exact decs_length_le _ _ (Nat.lt_of_le_of_lt (show e.natAbs ≤ 1048576 by omega) (by decide))
  unfold itx
  rw [List.length_append]
  split <;> simp <;> omega
end Go.Proofs.YtjldfclncipbgaaGreatDoor

/- The reference of layer 3: digits (the signed decimal text of an exponent). -/
namespace Go.Proofs.YtjldfclncipbgaaGreatDoor
open Go Go.RowKit Go.PlainAid Fil

theorem dn_small {x : Nat} (h : x ≤ 1048576) : Fil.dn 8 x ≤ 1048576 := Nat.le_trans (dn_le (n := 3) (by omega) (by omega)) (by omega)
theorem dtx_len7 {x : Nat} (h : x ≤ 1048576) : (dtx x).length ≤ 7 := by
  unfold dtx
  split
  · simp
  · rw [List.length_reverse]; exact decs_length_le _ _ (Nat.lt_of_le_of_lt h (by decide))
theorem itx_neg {e : Int} (h : e < 0) : itx e = 45 :: dtx e.natAbs := by unfold itx; rw [if_pos h]; rfl
theorem itx_pos {e : Int} (h : ¬e < 0) : itx e = dtx e.natAbs := by unfold itx; rw [if_neg h]; rfl
set_option maxRecDepth 1000000 in
set_option maxHeartbeats 8000000 in
theorem r3digits_any (e : Int) (w : World) (h0 : -1048576 ≤ e) (h1 : e ≤ 1048576) :
    Calls Tryz.prog 37 #[.int .i64 e] w fun r w' => r = .returned (.string ⟨(itx e).toArray⟩) ∧ Below w.heap.size w w' := by
  have hT := fun (x : Nat) (hx : x ≤ 1048576) W => r2text_any x W (dn_small hx)
  have hO := fun (x : Nat) (hx : x ≤ 1048576) W => r2of_any x W (by omega)
  by_cases hn : e < 0
  · obtain ⟨x, rfl⟩ : ∃ x : Nat, e = -(x : Int) := ⟨e.natAbs, by omega⟩
    rw [itx_neg hn, show (-(x : Int)).natAbs = x by omega]
    have hx : x ≤ 1048576 := by omega
    have hx0 : 0 < x := by omega
    have hO := hO x hx
    have hT := hT x hx
    have e1 : decide (-(x : Int) < 0) = true := decide_eq_true hn
    have e2 : wrap64 (x : Int) = (x : Int) := by unfold wrap64; omega
    have e3 : IntKind.u64.wrap (x : Int) = (x : Int) := by rw [IntKind.wrap_u64]; omega
    have B0 := Below.refl w.heap.size w
    obtain ⟨T, hTt⟩ : ∃ T, T = dtx x := ⟨_, rfl⟩
    have hTl : T.length ≤ 7 := by rw [hTt]; exact dtx_len7 hx
    rw [← hTt] at hT ⊢
    have happ : (⟨#[45]⟩ : ByteArray) ++ (⟨T.toArray⟩ : ByteArray) = ⟨(45 :: T).toArray⟩ := by
      apply ByteArray.ext; simp
    have HX := Lib.hid (And.intro h0 (And.intro h1 (And.intro hx hTt)))
    clear h0 h1 hx hTt hn
    go_enter Tryz.func37, Tryz.ntmps37
    go_wp2_with first | rw [e1] | rw [e2] | rw [e3] | fail
    refine (hO _).mono ?_
    rintro r w1 ⟨rfl, hb1⟩
    replace B0 := B0.trans (hb1.mono B0.size)
    go_wp2_with fail
    refine (hT _).mono ?_
    rintro r w2 ⟨rfl, hb2⟩
    replace B0 := B0.trans (hb2.mono B0.size)
    go_wp2
    go_ret
    exact ⟨rfl, B0⟩
  · obtain ⟨x, rfl⟩ : ∃ x : Nat, e = (x : Int) := ⟨e.natAbs, by omega⟩
    rw [itx_pos hn, show (x : Int).natAbs = x by omega]
    have hx : x ≤ 1048576 := by omega
    have hO := hO x hx
    have hT := hT x hx
    have e1 : decide ((x : Int) < 0) = false := decide_eq_false hn
    have e3 : IntKind.u64.wrap (x : Int) = (x : Int) := by rw [IntKind.wrap_u64]; omega
    have B0 := Below.refl w.heap.size w
    obtain ⟨T, hTt⟩ : ∃ T, T = dtx x := ⟨_, rfl⟩
    rw [← hTt] at hT ⊢
    have HX := Lib.hid (And.intro h0 (And.intro h1 (And.intro hx hTt)))
    clear h0 h1 hx hTt
    go_enter Tryz.func37, Tryz.ntmps37
    go_wp2_with first | rw [e1] | rw [e3] | fail
    refine (hO _).mono ?_
    rintro r w1 ⟨rfl, hb1⟩
    replace B0 := B0.trans (hb1.mono B0.size)
    go_wp2_with fail
    refine (hT _).mono ?_
    rintro r w2 ⟨rfl, hb2⟩
    replace B0 := B0.trans (hb2.mono B0.size)
    go_wp2
    go_ret
    exact ⟨rfl, B0⟩
end Go.Proofs.YtjldfclncipbgaaGreatDoor
