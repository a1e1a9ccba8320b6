/- The reference of layer 2: Read. -/
import Derived.Test.YtjldfclncipbgaaGreatDoorM1
import Derived.Test.YtjldfclncipbgaaGreatDoorJP
import Derived.Test.YtjldfclncipbgaaGreatDoorJQ
namespace Fil
end Fil
namespace Go.Proofs.YtjldfclncipbgaaGreatDoor
open Go Go.RowKit Go.PlainAid Fil

theorem Own.cap {w : World} {B : Nat} {v : Value} {n : Nat} {f : Nat → Int} (h : Own w B v n f) (h0 : 0 < n) : ∃ (g cap : Nat) (F : Nat → Value), v = .slice (some ⟨g, 0, none⟩) n cap ∧ B ≤ g ∧ g < w.heap.size ∧ n ≤ cap ∧ cap ≤ maxLen ∧ w.rowIs g 3 cap F ∧ ∀ (j : Nat), j < n → F j = .int .i64 (f j) := by
  rcases h.2 with ⟨rfl, rfl⟩ | ⟨g, cap, cur, rfl, hB, hh, hc, hx, hs, ht⟩
  · omega
  · refine ⟨g, cap, fun j => cur.getD j undef, rfl, hB, lt_of_heap hh, hc, hx, ⟨cur, hh, by simpa using hs, fun i hi => ?_⟩, fun j hj => ?_⟩
    · have : i < cur.size := by rw [show cur.size = cap by simpa using hs]; exact hi
      simp [this]
    · have h1 : (cur.toList.take (n * 1))[j]? = ((List.range n).map fun i => Value.int .i64 (f i))[j]? := by rw [ht]
      rw [List.getElem?_take_of_lt (by omega), List.getElem?_map, List.getElem?_range hj] at h1
      have h2 : cur[j]? = some (.int .i64 (f j)) := by simpa using h1
      show cur.getD j undef = _
      rw [Array.getD_eq_getD_getElem?, h2]; rfl
theorem Own.of_row {w : World} {B g n cap : Nat} {F : Nat → Value} {f : Nat → Int} (hg : B ≤ g) (hn : n ≤ cap) (hc : cap ≤ maxLen) (h : w.rowIs g 3 cap F) (hf : ∀ j, j < n → F j = .int .i64 (f j)) : Own w B (.slice (some ⟨g, 0, none⟩) n cap) n f := by
  obtain ⟨cur, hh, hs, hcell⟩ := h
  refine ⟨by simp, .inr ⟨g, cap, cur, rfl, hg, hh, hn, hc, by simpa using hs, ?_⟩⟩
  apply List.ext_getElem?
  intro j
  by_cases hj : j < n
  · rw [List.getElem?_take_of_lt (by omega), List.getElem?_map, List.getElem?_range hj]
    have := hcell j (by omega)
    rw [hf j hj] at this
    simpa using this
  · rw [List.getElem?_eq_none (by simp; omega), List.getElem?_eq_none (by simp; omega)]
theorem nil_of_size {s : ByteArray} (h : s.size = 0) : s = ⟨#[]⟩ := by
  have h2 : s.data.size = 0 := h
  have h3 : s.data = #[] := Array.eq_empty_of_size_eq_zero h2
  obtain ⟨d⟩ := s
  simp only at h3
  rw [h3]
end Go.Proofs.YtjldfclncipbgaaGreatDoor
