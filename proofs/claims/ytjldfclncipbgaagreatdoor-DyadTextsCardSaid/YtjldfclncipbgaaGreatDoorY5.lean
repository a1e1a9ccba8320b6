/- DyadTexts: true at every input. -/
import Derived.Test.YtjldfclncipbgaaGreatDoorY4
import Derived.Test.YtjldfclncipbgaaGreatDoorMZ
namespace Go.Proofs.YtjldfclncipbgaaGreatDoor
open Go Go.RowKit Go.PlainAid Fil

theorem cut_uniq {c : UInt8} : ∀ (D D2 E E2 : List UInt8), (∀ x ∈ D, x ≠ c) → (∀ x ∈ D2, x ≠ c) → D ++ c :: E = D2 ++ c :: E2 → D = D2 ∧ E = E2
  | [], [], E, E2, _, _, h => by
    rw [List.nil_append, List.nil_append] at h
    injection h with _ h2
    exact ⟨rfl, h2⟩
  | [], d :: D2, E, E2, _, h2, h => by
    rw [List.nil_append, List.cons_append] at h
    injection h with h3 _
    exact absurd h3.symm (h2 d (List.mem_cons_self ..))
  | d :: D, [], E, E2, h1, _, h => by
    rw [List.nil_append, List.cons_append] at h
    injection h with h3 _
    exact absurd h3 (h1 d (List.mem_cons_self ..))
  | d :: D, d2 :: D2, E, E2, h1, h2, h => by
    rw [List.cons_append, List.cons_append] at h
    injection h with h3 h4
    obtain ⟨h5, h6⟩ := cut_uniq D D2 E E2 (fun x hx => h1 x (List.mem_cons_of_mem _ hx)) (fun x hx => h2 x (List.mem_cons_of_mem _ hx)) h4
    exact ⟨by rw [h3, h5], h6⟩
theorem dtext_inj {n m : Bool} {x y : Nat} {e f : Int} (h1 : okD n x e) (h2 : okD m y f) (h : dtext n x e = dtext m y f) : n = m ∧ x = y ∧ e = f := by
  by_cases hx : x = 0
  · by_cases hy : y = 0
    · rcases h1 with ⟨_, rfl, rfl⟩ | h1
      · rcases h2 with ⟨_, rfl, rfl⟩ | h2
        · exact ⟨rfl, by omega, rfl⟩
        · omega
      · omega
    · subst hx
      exact absurd h.symm (dtext_no48 hy)
  · by_cases hy : y = 0
    · subst hy
      exact absurd h (dtext_no48 hx)
    · unfold dtext at h
      rw [if_neg hx, if_neg hy] at h
      obtain ⟨h3, h4⟩ := cut_uniq _ _ _ _ dhead_p dhead_p h
      exact ⟨(dhead_inj h3).1, (dhead_inj h3).2, itx_inj h4⟩
/-- both Reads answer alike -/
theorem reads_alike (s : ByteArray) (hs : s.size ≤ 9223372036854775807) : ∃ (n : Bool) (t : ByteArray) (k f : Int), (f = 0 → ∃ x, t = bstr x ∧ okD n x k ∧ s.data.toList = dtext n x k) ∧ (f ≠ 0 → ∀ n x k, okD n x k → s.data.toList ≠ dtext n x k) ∧ (∀ W, TabK W → Calls Tryz.prog 8 #[.string s] W fun r w' => r = .returned (.tuple #[.agg #[.bool n, .string t, .int .i64 k], .int .i64 f]) ∧ Below W.heap.size W w') ∧ (∀ W, Calls Tryz.prog 9 #[.string s] W fun r w' => r = .returned (.tuple #[.agg #[.bool n, .string t, .int .i64 k], .int .i64 f]) ∧ Below W.heap.size W w') := by
  by_cases hex : ∃ n x k, okD n x k ∧ s.data.toList = dtext n x k
  · obtain ⟨n, x, k, hok, hl⟩ := hex
    refine ⟨n, bstr x, k, 0, fun _ => ⟨x, rfl, hok, hl⟩, fun h => absurd rfl h, fun W hT => dread_good s n x k W hT hok hl, fun W => (r3read_any s W hs).mono fun r w' h => ⟨?_, h.2⟩⟩
    rcases h.1 with ⟨m, y, f, hok2, hl2, hr⟩ | ⟨hno, _⟩
    · obtain ⟨rfl, rfl, rfl⟩ := dtext_inj hok hok2 (hl.symm.trans hl2)
      exact hr
    · exact absurd hl (hno n x k hok)
  · refine ⟨false, { data := #[] }, 0, 30, fun h => absurd h (by decide), fun _ n x k h1 h2 => hex ⟨n, x, k, h1, h2⟩, fun W hT => dread_bad s W hT hs fun n x k h1 h2 => hex ⟨n, x, k, h1, h2⟩, fun W => (r3read_any s W hs).mono fun r w' h => ⟨?_, h.2⟩⟩
    rcases h.1 with ⟨m, y, f, hok2, hl2, _⟩ | ⟨_, hr⟩
    · exact absurd ⟨m, y, f, hok2, hl2⟩ hex
    · exact hr
theorem dyadTexts_any (xn : Bool) (xS : ByteArray) (xe : Int) (s : ByteArray) (w : World) (hT : TabK w) (hx : xS.size ≤ 9223372036854775807) (hs : s.size ≤ 9223372036854775807) :
    Calls Tryz.prog 3 #[.agg #[.bool xn, .string xS, .int .i64 xe], .string s] w fun r w' => r = .returned (.bool true) ∧ Below w.heap.size w w' := by
  have hl := fun W (hb : Below w.heap.size w W) => awake_any W (hT.below hb).tab
  obtain ⟨n, t, k, f, _, _, hR, hr⟩ := reads_alike s hs
  have hRd := fun W (hb : Below w.heap.size w W) => hR W (hT.below hb)
  have hM := fun W => rmay_any xn xS xe W hx
  cases hm : mayB xn xS xe with
  | false =>
    rw [hm] at hM
    exact dtexts_bad s xn xS xe n t k f w (fun W _ => dshow_no xn xS xe W hx hm) hRd hr hM hl
  | true =>
    rw [hm] at hM
    obtain ⟨x, rfl, hok⟩ := ok_of_may hm
    exact dtexts_good s xn (bstr x) xe n t k f ⟨(dtext xn x xe).toArray⟩ w (fun W hb => dshow_good xn x xe W hok (hT.below hb)) hRd hr hM (fun W => r3show_ok xn x xe W hok) hl
end Go.Proofs.YtjldfclncipbgaaGreatDoor
