/- dyad.Read of a text that is no Dyad's. -/
import Derived.Test.YtjldfclncipbgaaGreatDoorMT
namespace Go.Proofs.YtjldfclncipbgaaGreatDoor
open Go Go.RowKit Go.PlainAid Fil

theorem least_of {P : Nat → Prop} : ∀ n : Nat, P n → ∃ m, P m ∧ ∀ k, k < m → ¬ P k := by
  intro n
  induction n using Nat.strongRecOn with
  | ind n ih =>
    intro h
    by_cases hk : ∃ k, k < n ∧ P k
    · obtain ⟨k, h1, h2⟩ := hk
      exact ih k h1 h2
    · exact ⟨n, h, fun k h1 h2 => hk ⟨k, h1, h2⟩⟩
theorem nread_cases (b : ByteArray) : ∃ (m : ByteArray) (e : Int), nreadV b = .tuple #[.string m, .int .i64 e] ∧ ((e != 0) = true ∨ (e = 0 ∧ ∃ x, m = bstr x ∧ dn 8 x ≤ 16384)) := by
  unfold nreadV
  split
  · split
    · exact ⟨_, _, rfl, .inl rfl⟩
    · unfold shutV
      split
      · rename_i h; exact ⟨_, _, rfl, .inr ⟨rfl, _, rfl, h⟩⟩
      · exact ⟨_, _, rfl, .inl rfl⟩
  · exact ⟨_, _, rfl, .inl rfl⟩
theorem cutp_cases (a : ByteArray) : ∃ (b : ByteArray) (ng : Bool), b.size ≤ a.size ∧ ∀ W, Calls Tryz.prog 28 #[.string a, .string ⟨#[45]⟩] W fun r w' => r = .returned (.tuple #[.string b, .bool ng]) ∧ Below W.heap.size W w' := by
  by_cases h : byt a 0 = 45
  · refine ⟨a.extract 1 a.size, true, by rw [ByteArray.size_extract]; omega, fun W => (cutp_yes a W (byt_lt (by omega)) h).mono ?_⟩
    rintro r w' ⟨rfl, rfl⟩
    exact ⟨rfl, Below.refl _ _⟩
  · refine ⟨a, false, Nat.le_refl _, fun W => (cutp_no a W h).mono ?_⟩
    rintro r w' ⟨rfl, rfl⟩
    exact ⟨rfl, Below.refl _ _⟩
theorem dread_bad (s : ByteArray) (w : World) (hT : TabK w) (hs : s.size ≤ 9223372036854775807) (hno : ∀ n x e, okD n x e → s.data.toList ≠ dtext n x e) :
    Calls Tryz.prog 8 #[.string s] w fun r w' => r = .returned (.tuple #[.agg #[.bool false, .string { data := #[] }, .int .i64 0], .int .i64 30]) ∧ Below w.heap.size w w' := by
  have hs0 : (s.toList == [48]) = false := by
    rw [ByteArray.toList_eq, beq_eq_false_iff_ne]
    exact hno false 0 0 (.inl ⟨rfl, rfl, rfl⟩)
  by_cases hex : ∃ i, ∃ hi : i < s.size, s[i]'hi = 112
  · obtain ⟨i0, hi0⟩ := hex
    obtain ⟨i, ⟨hi, hc⟩, hleast⟩ := least_of (P := fun i => ∃ hi : i < s.size, s[i]'hi = 112) i0 hi0
    have hcut : ∀ W, Calls Tryz.prog 27 #[.string s, .string ⟨#[112]⟩] W fun r w' => r = .returned (.tuple #[.string (s.extract 0 i), .string (s.extract (i + 1) s.size), .bool true]) ∧ Below W.heap.size W w' := fun W =>
      (scut_yes_p s i W hi hc (fun k hk h => hleast k hk ⟨by omega, h⟩) hs).mono fun r w' hh => by
        obtain ⟨h1, k, rfl⟩ := hh
        exact ⟨h1, ⟨rfl, rfl, rfl, Nat.le_refl _, fun _ _ => rfl⟩⟩
    have haz : (s.extract 0 i).size ≤ s.size := by rw [ByteArray.size_extract]; omega
    obtain ⟨a, ha⟩ : ∃ a, a = s.extract 0 i := ⟨_, rfl⟩
    obtain ⟨p, hp⟩ : ∃ p, p = s.extract (i + 1) s.size := ⟨_, rfl⟩
    rw [← ha, ← hp] at hcut
    rw [← ha] at haz
    by_cases hl : (49152 : Int) < (s.size : Int)
    · exact dread_long s a p w hs0 hcut hl
    by_cases hpl : (10 : Int) < (p.size : Int)
    · exact dread_plong s a p w hs0 hcut hl hpl
    obtain ⟨b, ng, hbz, hx⟩ := cutp_cases a
    obtain ⟨m, e, hm, hme⟩ := nread_cases b
    have hn : ∀ W, Calls Tryz.prog 29 #[.string b] W fun r w' => r = .returned (.tuple #[.string m, .int .i64 e]) ∧ Below W.heap.size W w' := fun W => by
      have := nread_any b W (by omega)
      rw [hm] at this
      exact this
    rcases hat : Lib.atoi p.data.toList with _ | v
    · have hA := fun W (hb : Below w.heap.size w W) => catoi_bad p W (hT.below hb) (by omega) hat
      rcases hme with he | ⟨rfl, _⟩
      · exact dread_enf s a p b m ng e w hs0 hcut hl hpl hx hn hA he
      · exact dread_ef s a p b m ng w hs0 hcut hl hpl hx hn hA
    · have hA := fun W (_ : Below w.heap.size w W) => catoi p v W (by omega) hat
      rcases hme with he | ⟨rfl, x, rfl, hdn⟩
      · exact dread_en s a p b m ng e v w hs0 hcut hl hpl hx hn hA he
      by_cases hx0 : x = 0
      · subst hx0
        rw [bstr_zero] at hn
        exact dread_n0 s a p b ng v w hs0 hcut hl hpl hx hn hA
      have hsz : (bstr x).size ≤ 9223372036854775807 := by
        rw [bstr_size]
        omega
      cases hmay : mayB ng (bstr x) v with
      | false =>
        refine dread_chk s a p b (bstr x) ng v 2 w hs0 hcut hl hpl hx hn hA (bstr_nz hx0) ?_ rfl
        intro W
        have := check_any ng (bstr x) v W hsz
        rw [hmay] at this
        exact this
      | true =>
        obtain ⟨y, hy, hok⟩ := ok_of_may hmay
        have hck : ∀ W, Calls Tryz.prog 13 #[.agg #[.bool ng, .string (bstr x), .int .i64 v]] W fun r w' => r = .returned (.int .i64 0) ∧ Below W.heap.size W w' := fun W => by
          have := check_any ng (bstr x) v W hsz
          rw [hmay] at this
          exact this
        refine dread_ne s a p b (bstr x) ng v 0 ⟨(dtext ng y v).toArray⟩ w hs0 hcut hl hpl hx hn hA (bstr_nz hx0) hck ?_ ?_
        · intro W hb
          rw [hy]
          exact dshow_good ng y v W hok (hT.below hb)
        · rw [ByteArray.toList_eq, ByteArray.toList_eq, beq_eq_false_iff_ne]
          exact fun h => hno ng y v hok h.symm
  · refine dread_nocut s s ⟨#[]⟩ w hs0 ?_
    intro W
    refine (scut_no_p s W fun k hk h => hex ⟨k, hk, h⟩).mono ?_
    rintro r w' ⟨rfl, rfl⟩
    exact ⟨rfl, Below.refl _ _⟩
end Go.Proofs.YtjldfclncipbgaaGreatDoor
