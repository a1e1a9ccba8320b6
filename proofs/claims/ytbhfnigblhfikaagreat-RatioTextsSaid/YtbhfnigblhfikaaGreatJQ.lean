/- ratio.digits of any text; a scope whose labels are jumped to. -/
import Derived.Test.YtbhfnigblhfikaaGreatJP
import Derived.Test.YtbhfnigblhfikaaGreatJN
import Derived.Scope
namespace Go
/-- as Q; by a goto to label l: J l -/
def jumpsQ (J : Nat → Act → World → Prop) (Q : Exit → Act → World → Prop) : Exit → Act → World → Prop
  | .goto l, a, w => J l a w
  | e, a, w => Q e a w
section
variable {P : Program} {a : Act} {w : World} {Q : Exit → Act → World → Prop}
theorem wp_scope_labels {c : Code} (J : Nat → Act → World → Prop) (μ : Nat → Act → World → Nat)
    (first : c.wp P (jumpsQ J Q) a w)
    (pass : ∀ l a w, J l a w → ∃ rest, findLabel c l = some rest ∧ rest.wp P (jumpsQ (fun l' a' w' => J l' a' w' ∧ μ l' a' w' < μ l a w) Q) a w) : (Code.scope c).wp P Q a w := by
  intro b k cs
  have key : ∀ n l a w, μ l a w = n → J l a w → ∃ rest, findLabel c l = some rest ∧ ∃ e a' w', Q e a' w' ∧ Arrives P (lone (b.at a (.code rest :: .inScope c :: k)) cs w) b k cs e a' w' := by
    intro n
    induction n using Nat.strongRecOn with
    | _ n ih =>
      intro l a w hn hJ
      obtain ⟨rest, hf, hw⟩ := pass l a w hJ
      refine ⟨rest, hf, ?_⟩
      obtain ⟨e, a₁, w₁, hq, harr⟩ := hw b (.inScope c :: k) cs
      cases e with
      | normal => exact ⟨.normal, a₁, w₁, hq, Steps.trans harr (.one step_inScope)⟩
      | exit id => exact ⟨.exit id, a₁, w₁, hq, fun k' hk => harr k' (by simp [exitTo, hk])⟩
      | goto l' =>
        obtain ⟨hJ', hlt⟩ := hq
        obtain ⟨rest', hf', e₂, a₂, w₂, hq₂, harr₂⟩ := ih _ (by omega) l' a₁ w₁ rfl hJ'
        have hg : gotoIn l' (.inScope c :: k) = some (.code rest' :: .inScope c :: k) := by simp [gotoIn, hf']
        exact ⟨e₂, a₂, w₂, hq₂, .of_steps (harr _ hg) harr₂⟩
      | ret => exact ⟨_, a₁, w₁, hq, harr⟩
      | panic ch => exact ⟨_, a₁, w₁, hq, harr⟩
      | outgrown => exact ⟨_, a₁, w₁, hq, harr⟩
  obtain ⟨e, a₁, w₁, hq, harr⟩ := first b (.inScope c :: k) cs
  cases e with
  | normal => exact ⟨.normal, a₁, w₁, hq, .head step_scope (Steps.trans harr (.one step_inScope))⟩
  | exit id => exact ⟨.exit id, a₁, w₁, hq, fun k' hk => .head step_scope (harr k' (by simp [exitTo, hk]))⟩
  | goto l' =>
    obtain ⟨rest', hf', e₂, a₂, w₂, hq₂, harr₂⟩ := key _ l' a₁ w₁ rfl hq
    have hg : gotoIn l' (.inScope c :: k) = some (.code rest' :: .inScope c :: k) := by simp [gotoIn, hf']
    exact ⟨e₂, a₂, w₂, hq₂, .of_steps (.head step_scope (harr _ hg)) harr₂⟩
  | ret => exact ⟨_, a₁, w₁, hq, .of_steps (.one step_scope) harr⟩
  | panic ch => exact ⟨_, a₁, w₁, hq, .of_steps (.one step_scope) harr⟩
  | outgrown => exact ⟨_, a₁, w₁, hq, .of_steps (.one step_scope) harr⟩
/-- from label l on, whatever holds at the labels that follow -/
def PassAt (P : Program) (J : Nat → Act → World → Prop) (μ : Nat → Act → World → Nat) (Q : Exit → Act → World → Prop) (l : Nat) (r : Code) : Prop :=
  ∀ (JJ : Nat → Act → World → Prop) (a : Act) (w : World), J l a w → (∀ l' a' w', J l' a' w' → μ l' a' w' < μ l a w → JJ l' a' w') → r.wp P (jumpsQ JJ Q) a w
theorem wp_scope4 {c r1 r2 r3 r4 : Code} (J : Nat → Act → World → Prop) (μ : Nat → Act → World → Nat) (l1 l2 l3 l4 : Nat) (hl : ∀ l a w, J l a w → l = l1 ∨ l = l2 ∨ l = l3 ∨ l = l4)
    (f1 : findLabel c l1 = some (Code.skip.seq r1)) (f2 : findLabel c l2 = some (Code.skip.seq r2)) (f3 : findLabel c l3 = some (Code.skip.seq r3)) (f4 : findLabel c l4 = some (Code.skip.seq r4))
    (p1 : PassAt P J μ Q l1 r1) (p2 : PassAt P J μ Q l1 r1 → PassAt P J μ Q l2 r2) (p3 : PassAt P J μ Q l1 r1 → PassAt P J μ Q l2 r2 → PassAt P J μ Q l3 r3) (p4 : PassAt P J μ Q l1 r1 → PassAt P J μ Q l2 r2 → PassAt P J μ Q l3 r3 → PassAt P J μ Q l4 r4)
    (first : PassAt P J μ Q l4 r4 → c.wp P (jumpsQ J Q) a w) : (Code.scope c).wp P Q a w := by
  have q2 := p2 p1
  have q3 := p3 p1 q2
  have q4 := p4 p1 q2 q3
  refine wp_scope_labels J μ (first q4) fun l a w hJ => ?_
  rcases hl l a w hJ with rfl | rfl | rfl | rfl
  · exact ⟨_, f1, wp_seq (wp_skip (p1 _ a w hJ fun _ _ _ h h' => ⟨h, h'⟩))⟩
  · exact ⟨_, f2, wp_seq (wp_skip (q2 _ a w hJ fun _ _ _ h h' => ⟨h, h'⟩))⟩
  · exact ⟨_, f3, wp_seq (wp_skip (q3 _ a w hJ fun _ _ _ h h' => ⟨h, h'⟩))⟩
  · exact ⟨_, f4, wp_seq (wp_skip (q4 _ a w hJ fun _ _ _ h h' => ⟨h, h'⟩))⟩
end
end Go
namespace Go.Proofs.YtbhfnigblhfikaaGreat
open Go Go.RowKit Go.PlainAid Fil

/-- digits without noughts ahead -/
def goodL (l : List UInt8) : Prop := allDec l ∧ bare l
instance (l : List UInt8) : Decidable (allDec l) := by unfold allDec; infer_instance
instance (l : List UInt8) : Decidable (bare l) := by unfold bare; infer_instance
instance (l : List UInt8) : Decidable (goodL l) := by unfold goodL; infer_instance
def goodB (l : List UInt8) : Bool := decide (goodL l)
theorem byte_get {s : ByteArray} {i : Nat} (h : i < s.size) : s.data.toList[i]'(by rw [Array.length_toList]; exact h) = s[i]'h := rfl
theorem good_all {s : ByteArray} (h : goodL s.data.toList) : ∀ (i : Nat) (h : i < s.size), 48 ≤ (s[i]'h).toNat ∧ (s[i]'h).toNat ≤ 57 := fun _ hi =>
  of_decide_eq_true (h.1 _ (byte_get hi ▸ List.getElem_mem _))
theorem good_pos {s : ByteArray} (h : goodL s.data.toList) : 0 < s.size := by
  rcases Nat.eq_zero_or_pos s.size with h0 | h0
  · exact absurd (List.eq_nil_of_length_eq_zero (by rw [Array.length_toList]; exact h0)) h.2.1
  · exact h0
theorem head_get {s : ByteArray} (h : 0 < s.size) : s.data.toList.head? = some (s[0]'h) := by
  rw [List.head?_eq_getElem?, List.getElem?_eq_getElem (by rw [Array.length_toList]; exact h)]; rfl
theorem good_head {s : ByteArray} (h : goodL s.data.toList) : (s[0]'(good_pos h)).toNat = 48 → s.size = 1 := fun h48 => by
  have := h.2.2 (by rw [head_get (good_pos h)]; exact congrArg some (UInt8.toNat_inj.1 h48))
  rwa [Array.length_toList] at this
theorem first_bad {s : ByteArray} (h : ¬ ∀ (i : Nat) (h : i < s.size), 48 ≤ (s[i]'h).toNat ∧ (s[i]'h).toNat ≤ 57) :
    ∃ (i0 : Nat) (h0 : i0 < s.size), (∀ (i : Nat) (h : i < i0), 48 ≤ (s[i]'(by omega)).toNat ∧ (s[i]'(by omega)).toNat ≤ 57) ∧ ¬ (48 ≤ (s[i0]'h0).toNat ∧ (s[i0]'h0).toNat ≤ 57) := by
  have key : ∀ n, n ≤ s.size → (∀ (i : Nat) (h : i < s.size), i < n → 48 ≤ (s[i]'h).toNat ∧ (s[i]'h).toNat ≤ 57) ∨ ∃ (i0 : Nat) (h0 : i0 < s.size), (∀ (i : Nat) (h : i < i0), 48 ≤ (s[i]'(by omega)).toNat ∧ (s[i]'(by omega)).toNat ≤ 57) ∧ ¬ (48 ≤ (s[i0]'h0).toNat ∧ (s[i0]'h0).toNat ≤ 57) := by
    intro n
    induction n with
    | zero => intro _; exact .inl fun i _ hi => absurd hi (by omega)
    | succ n ih =>
      intro hn
      rcases ih (by omega) with h1 | h1
      · by_cases hb : 48 ≤ (s[n]'(by omega)).toNat ∧ (s[n]'(by omega)).toNat ≤ 57
        · left
          intro i hi hin
          rcases Nat.lt_or_ge i n with h2 | h2
          · exact h1 i hi h2
          · obtain rfl : i = n := by omega
            exact hb
        · right
          exact ⟨n, by omega, fun i hi => h1 i (by omega) hi, hb⟩
      · exact .inr h1
  rcases key s.size (Nat.le_refl _) with h1 | h1
  · exact absurd (fun i hi => h1 i hi hi) h
  · exact h1
theorem good_of {s : ByteArray} (h0 : 0 < s.size) (hd : ∀ (i : Nat) (h : i < s.size), 48 ≤ (s[i]'h).toNat ∧ (s[i]'h).toNat ≤ 57) (hh : (s[0]'h0).toNat = 48 → s.size = 1) : goodL s.data.toList := by
  refine ⟨fun c hc => ?_, fun hn => ?_, fun h48 => ?_⟩
  · obtain ⟨i, hi, rfl⟩ := List.getElem_of_mem hc
    exact decide_eq_true (hd i (by rwa [Array.length_toList] at hi))
  · have := congrArg List.length hn
    rw [Array.length_toList] at this
    have h2 : s.data.size = 0 := this
    have h3 : s.size = s.data.size := rfl
    omega
  · rw [head_get h0] at h48
    rw [Array.length_toList]
    exact hh (congrArg UInt8.toNat (Option.some.inj h48))
theorem kdigits_val (s : ByteArray) (w : World) (h1 : s.size ≤ 1000000) (hg : goodL s.data.toList) :
    Calls Tryz.prog 26 #[.string s] w fun e w' => ∃ B, e = .returned (.tuple #[.pointer (some ⟨B, 0, none⟩), .bool true]) ∧ IntAt w' B 0 (dval 0 s.data.toList : Int) ∧ w.heap.size ≤ B ∧ Below w.heap.size w w' := by
  rw [← dvt_size]
  exact kdigits_good s w (good_pos hg) h1 (good_all hg) (good_head hg) _ fun W b R => setstring_any b s W R (good_pos hg) h1 (good_all hg)
theorem kdigits_bad (s : ByteArray) (w : World) (h1 : s.size ≤ 1000000) (hg : ¬ goodL s.data.toList) :
    Calls Tryz.prog 26 #[.string s] w fun e w' => e = .returned (.tuple #[.pointer none, .bool false]) ∧ Below w.heap.size w w' := by
  rcases Nat.eq_zero_or_pos s.size with h0 | h0
  · exact kdigits_empty s w h0
  · by_cases h48 : (s[0]'h0).toNat = 48
    · by_cases h2 : s.size = 1
      · refine absurd (good_of h0 (fun i hi => ?_) fun _ => h2) hg
        obtain rfl : i = 0 := by omega
        omega
      · exact kdigits_nought s w (by omega) h1 h48
    · by_cases hd : ∀ (i : Nat) (h : i < s.size), 48 ≤ (s[i]'h).toNat ∧ (s[i]'h).toNat ≤ 57
      · exact absurd (good_of h0 hd fun h => absurd h h48) hg
      · obtain ⟨i0, hi0, ha, hb⟩ := first_bad hd
        exact kdigits_other s w i0 hi0 h1 ha hb h48
theorem kdigits_ok (s : ByteArray) (w : World) (h1 : s.size ≤ 1000000) :
    Calls Tryz.prog 26 #[.string s] w fun e w' => ∃ p, e = .returned (.tuple #[.pointer p, .bool (goodB s.data.toList)]) ∧ Below w.heap.size w w' := by
  by_cases hg : goodL s.data.toList
  · refine (kdigits_val s w h1 hg).mono ?_
    rintro e w' ⟨B, rfl, _, _, hb⟩
    exact ⟨_, by unfold goodB; rw [decide_eq_true hg], hb⟩
  · refine (kdigits_bad s w h1 hg).mono ?_
    rintro e w' ⟨rfl, hb⟩
    exact ⟨_, by unfold goodB; rw [decide_eq_false hg], hb⟩
end Go.Proofs.YtbhfnigblhfikaaGreat
