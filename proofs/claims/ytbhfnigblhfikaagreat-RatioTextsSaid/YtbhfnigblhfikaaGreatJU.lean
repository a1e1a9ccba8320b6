/- What split tells, in plain Lean; Rat.SetInt. -/
import Derived.Test.YtbhfnigblhfikaaGreatJT
import Derived.Test.YtbhfnigblhfikaaGreatJR
import Derived.Test.YtbhfnigblhfikaaGreatJI
namespace Go.Proofs.YtbhfnigblhfikaaGreat
open Go Go.RowKit Go.PlainAid Fil

/-- what is known of a decimal that split has told -/
structure DcmOk (s : ByteArray) (d : Dcm) : Prop where
  head : goodL d.head.data.toList
  tail : allDec d.tail.data.toList
  power : d.power.size = 0 ∧ d.down = false ∨ goodL d.power.data.toList
  sizes : d.head.size + d.tail.size ≤ s.size
  psize : d.power.size ≤ s.size
theorem goodB_true {l : List UInt8} (h : goodB l = true) : goodL l := of_decide_eq_true h
theorem PW_ok {s : ByteArray} {d d' : Dcm} {j : Nat} (hs : d.head.size + d.tail.size ≤ s.size) (ht : allDec d.tail.data.toList) (h : PW s d j = (d', true)) : DcmOk s d' := by
  by_cases he : byt s j = 101
  · by_cases hm : byt s (j + 1) = 45
    · rw [PW_down he hm] at h
      obtain ⟨h1, h2⟩ := Prod.mk.inj h
      subst h1
      simp only [Bool.and_eq_true] at h2
      exact ⟨goodB_true h2.2, ht, .inr (goodB_true h2.1.1), hs, ext_size (Nat.le_refl _)⟩
    · rw [PW_up he hm] at h
      obtain ⟨h1, h2⟩ := Prod.mk.inj h
      subst h1
      simp only [Bool.and_eq_true] at h2
      exact ⟨goodB_true h2.2, ht, .inr (goodB_true h2.1), hs, ext_size (Nat.le_refl _)⟩
  · rw [PW_not he] at h
    exact absurd (Prod.mk.inj h).2 (by simp)
theorem ext_dec {s : ByteArray} {f i : Nat} (hi : i ≤ s.size) (h : ∀ k, f ≤ k → k < i → dgt s k) : allDec (s.extract f i).data.toList := by
  intro c hc
  obtain ⟨k, hk, rfl⟩ := List.getElem_of_mem hc
  have hk' : k < (s.extract f i).size := by rwa [Array.length_toList] at hk
  have hk2 := hk'
  rw [ByteArray.size_extract] at hk2
  have h2 := h (f + k) (by omega) (by omega)
  have hlt := dgt_lt h2
  have e : (s.extract f i).data.toList[k] = s[f + k] := by
    rw [Array.getElem_toList]
    show (s.extract f i)[k]'hk' = _
    exact ByteArray.getElem_extract _
  rw [e]
  unfold dgt at h2
  rw [byt_in hlt] at h2
  exact decide_eq_true h2
theorem TL_ok {s : ByteArray} {d d' : Dcm} {f : Nat} (hd : d.down = false) (hp : d.power.size = 0) (hs : d.head.size + (s.size - f) ≤ s.size) : ∀ n i, n = s.size - i → f ≤ i → i ≤ s.size → (∀ k, f ≤ k → k < i → dgt s k) → TL s d f i = (d', true) → DcmOk s d' := by
  intro n
  induction n with
  | zero =>
    intro i hn hf hi hk h
    obtain rfl : i = s.size := by omega
    have hdg : ¬ dgt s s.size := fun h => absurd (dgt_lt h) (by omega)
    by_cases hfe : s.size = f
    · subst hfe
      rw [TL_none hdg] at h
      exact absurd (Prod.mk.inj h).2 (by simp)
    · rw [TL_end hdg hfe rfl] at h
      obtain ⟨h1, h2⟩ := Prod.mk.inj h
      subst h1
      exact ⟨goodB_true h2, ext_dec (Nat.le_refl _) hk, .inl ⟨hp, hd⟩, by show d.head.size + (s.extract f s.size).size ≤ _; rw [ByteArray.size_extract]; omega, by show d.power.size ≤ _; omega⟩
  | succ n ih =>
    intro i hn hf hi hk h
    by_cases hdg : dgt s i
    · rw [TL_dig hdg] at h
      refine ih (i + 1) (by omega) (by omega) (by omega) (fun k hk1 hk2 => ?_) h
      rcases Nat.lt_or_ge k i with h3 | h3
      · exact hk k hk1 h3
      · obtain rfl : k = i := by omega
        exact hdg
    · by_cases hfe : i = f
      · subst hfe
        rw [TL_none hdg] at h
        exact absurd (Prod.mk.inj h).2 (by simp)
      · rw [TL_pw hdg hfe (by omega)] at h
        exact PW_ok (d := { d with tail := s.extract f i }) (by show d.head.size + (s.extract f i).size ≤ _; rw [ByteArray.size_extract]; omega) (ext_dec hi hk) h
theorem HD_ok {s : ByteArray} {d d' : Dcm} {f : Nat} (hd : d.down = false) (hp : d.power.size = 0) (ht : d.tail.size = 0) : ∀ n i, n = s.size - i → f ≤ i → i ≤ s.size → HD s d f i = (d', true) → DcmOk s d' := by
  have htd : allDec d.tail.data.toList := by
    have : d.tail.data.toList = [] := List.eq_nil_of_length_eq_zero (by rw [Array.length_toList]; exact ht)
    rw [this]; intro c hc; simp at hc
  intro n
  induction n with
  | zero =>
    intro i hn hf hi h
    obtain rfl : i = s.size := by omega
    have hdg : ¬ dgt s s.size := fun h => absurd (dgt_lt h) (by omega)
    rw [HD_end hdg rfl] at h
    obtain ⟨h1, h2⟩ := Prod.mk.inj h
    subst h1
    exact ⟨goodB_true h2, htd, .inl ⟨hp, hd⟩, by show (s.extract f s.size).size + d.tail.size ≤ _; rw [ByteArray.size_extract]; omega, by show d.power.size ≤ _; omega⟩
  | succ n ih =>
    intro i hn hf hi h
    by_cases hdg : dgt s i
    · rw [HD_dig hdg] at h
      exact ih (i + 1) (by omega) (by omega) (by omega) h
    · by_cases h46 : byt s i = 46
      · rw [HD_pt h46] at h
        exact TL_ok (d := { d with head := s.extract f i }) hd hp (by show (s.extract f i).size + _ ≤ _; rw [ByteArray.size_extract]; omega) _ (i + 1) rfl (Nat.le_refl _) (by omega) (fun k h1 h2 => absurd h1 (by omega)) h
      · rw [HD_pw hdg (by omega) h46] at h
        exact PW_ok (d := { d with head := s.extract f i }) (by show (s.extract f i).size + d.tail.size ≤ _; rw [ByteArray.size_extract]; omega) htd h
theorem SP_ok {s : ByteArray} {d : Dcm} (h : SP s = (d, true)) : DcmOk s d := by
  unfold SP at h
  split at h
  · rename_i hm
    have := byt_lt (s := s) (i := 0) (by omega)
    exact HD_ok (d := dcm0 true) rfl rfl rfl _ 1 rfl (Nat.le_refl _) (by omega) h
  · exact HD_ok (d := dcm0 false) rfl rfl rfl _ 0 rfl (Nat.le_refl _) (by omega) h
theorem ksplit_as (s : ByteArray) (dn dd : Bool) (H T Q : ByteArray) (ok : Bool) (w : World) (h1 : s.size ≤ 1000000) (h : SP s = (⟨dn, dd, H, T, Q⟩, ok)) :
    Calls Tryz.prog 30 #[.string s] w fun e w' => e = .returned (.tuple #[.agg #[.bool dn, .bool dd, .string H, .string T, .string Q], .bool ok]) ∧ Below w.heap.size w w' := by
  have hk := ksplit_any s w h1
  rw [h] at hk
  exact hk
/-- the exponent of a decimal -/
def dcmP (d : Dcm) : Int := (if d.down then -((dval 0 d.power.data.toList : Nat) : Int) else (dval 0 d.power.data.toList : Nat)) - d.tail.size
/-- the whole number of a decimal's digits -/
def dcmN (d : Dcm) : Nat := dval 0 (d.head ++ d.tail).data.toList
/-- the number of a decimal -/
def dcmR (d : Dcm) : Rat := if 0 ≤ dcmP d then Rat.divInt (sz d.neg (dcmN d) * ((10 ^ (dcmP d).natAbs : Nat) : Int)) 1 else Rat.divInt (sz d.neg (dcmN d)) ((10 ^ (dcmP d).natAbs : Nat) : Int)
set_option maxHeartbeats 1000000 in
theorem ratsetint_any (b b1 : Nat) (p : Int) (w : World) (hr : RRoom w b) (h1 : IntAt w b1 0 p) (n1 : b1 ≠ b) (sp : Fil.dn 32 p.natAbs ≤ 1099511627000) :
    Calls Tryz.prog 38 #[.pointer (some ⟨b, 0, none⟩), .pointer (some ⟨b1, 0, none⟩)] w fun e w' => e = .returned (.pointer (some ⟨b, 0, none⟩)) ∧ RatAt w' b (Rat.divInt p 1) ∧ Far w w' b := by
  have hn := fun W b2 a b' c n2 => norm_any b b1 0 b2 0 p 1 W a b' c n1 n2 (by decide) sp (by decide)
  have Hr := Lib.hid (And.intro hr h1)
  have lb := hr.lt
  clear n1 sp hr h1
  go_enter Tryz.func38, Tryz.ntmps38
  go_wp2_with fail
  refine (newint_any 1 w (by decide) (by decide)).mono ?_
  rintro r w1 ⟨rfl, I, hB⟩
  have R := Hr.out.1.below hB
  have J := Hr.out.2.below hB
  have HF := Lib.hid hB
  clear hB
  go_wp2_with fail
  refine (hn _ _ R J I (by omega)).mono ?_
  rintro r w2 ⟨rfl, Q, hF⟩
  clear hn R J I
  go_wp2
  go_ret
  exact ⟨rfl, Q, Far.after HF.out hF Hr.out.1⟩
end Go.Proofs.YtbhfnigblhfikaaGreat
