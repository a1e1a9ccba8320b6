/- DyadBack: true at every input. -/
import Derived.Test.YtjldfclncipbgaaGreatDoorMV
namespace Go.Proofs.YtjldfclncipbgaaGreatDoor
open Go Go.RowKit Go.PlainAid Fil

theorem dyadBack_any (xn : Bool) (xS : ByteArray) (xe : Int) (s : ByteArray) (w : World) (hT : TabK w) (hx : xS.size ≤ 9223372036854775807) (hs : s.size ≤ 9223372036854775807) :
    Calls Tryz.prog 4 #[.agg #[.bool xn, .string xS, .int .i64 xe], .string s] w fun r w' => r = .returned (.bool true) ∧ Below w.heap.size w w' := by
  have hl := fun W (hb : Below w.heap.size w W) => awake_any W (hT.below hb).tab
  have hck : ∀ W, Calls Tryz.prog 13 #[.agg #[.bool xn, .string xS, .int .i64 xe]] W fun r w' => r = .returned (.int .i64 (okE (mayB xn xS xe))) ∧ Below W.heap.size W w' := fun W => check_any xn xS xe W hx
  have hsh := fun (n : Bool) (y : Nat) (e : Int) (h : okD n y e) W (hb : Below w.heap.size w W) => dshow_good n y e W h (hT.below hb)
  cases hm : mayB xn xS xe with
  | false =>
    rw [hm] at hck
    by_cases hex : ∃ n y e, okD n y e ∧ s.data.toList = dtext n y e
    · obtain ⟨n, y, e, hok, hl2⟩ := hex
      have hse := ba_of hl2
      refine back_no_good s xn xS xe n (bstr y) e w hl hck (fun W hb => dread_good s n y e W (hT.below hb) hok hl2) ?_
      rw [hse]
      exact hsh n y e hok
    · exact back_no_bad s xn xS xe w hl hck (fun W hb => dread_bad s W (hT.below hb) hs fun n y e h1 h2 => hex ⟨n, y, e, h1, h2⟩)
  | true =>
    rw [hm] at hck
    obtain ⟨x, rfl, hxo⟩ := ok_of_may hm
    have hR := fun W (hb : Below w.heap.size w W) => dread_good ⟨(dtext xn x xe).toArray⟩ xn x xe W (hT.below hb) hxo rfl
    by_cases hex : ∃ n y e, okD n y e ∧ s.data.toList = dtext n y e
    · obtain ⟨n, y, e, hok, hl2⟩ := hex
      have hse := ba_of hl2
      refine back_yes_good s xn (bstr x) xe ⟨(dtext xn x xe).toArray⟩ n (bstr y) e w hl hck (hsh xn x xe hxo) hR (fun W hb => dread_good s n y e W (hT.below hb) hok hl2) ?_
      rw [hse]
      exact hsh n y e hok
    · exact back_yes_bad s xn (bstr x) xe ⟨(dtext xn x xe).toArray⟩ w hl hck (hsh xn x xe hxo) hR (fun W hb => dread_bad s W (hT.below hb) hs fun n y e h1 h2 => hex ⟨n, y, e, h1, h2⟩)
end Go.Proofs.YtjldfclncipbgaaGreatDoor
