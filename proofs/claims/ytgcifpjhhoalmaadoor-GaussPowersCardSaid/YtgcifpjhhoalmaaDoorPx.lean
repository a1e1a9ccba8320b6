/- A slice of Gausses among a row's arguments. -/
import Derived.Test.YtgcifpjhhoalmaaDoorPe
import Derived.Test.YtgcifpjhhoalmaaDoorG4
import Derived.SizedLaws
import Derived.Carry
import Derived.Deep.Slices
import Derived.Deep.Fields
namespace Go.Proofs.YtgcifpjhhoalmaaDoor
open Go Go.RowKit Go.PlainAid Fil Go.Joins Go.ChangeShapes Go.WideShapes Go.ChangeAt Go.Deep

theorem add_plain (b o k : Nat) : (Addr.add ⟨b, o, none⟩ k) = ⟨b, o + k, none⟩ := by
  unfold Addr.add
  split
  · rename_i h; subst h; rfl
  · rfl
theorem spot_none {w : World} {a : Addr} {v : Value} (h : w.cell? a = some v) : a.spot = none := by
  unfold World.cell? at h
  split at h
  · split at h
    · cases h
    · rename_i hs; simpa using hs
  · cases h

section
variable {H : Type} {enc : TypeId × Value → H} {w : World}
/-- a Gauss's six cells, read -/
theorem six_gauss {sp : Nat → Bool} {held : Bool} {base n : Nat} {cs : List Value} {x : DataW H × List MemPlace} (hl : cs.length = 6) (h : DataW.trod enc Tryd.prog w base sp held n 49 cs = some x) :
    ∃ g : GR, cs = [.bool g.n, .string g.s, .int .i64 g.e, .bool g.m, .string g.t, .int .i64 g.f] ∧ g.s.size ≤ maxLen ∧ g.t.size ≤ maxLen := by
  match cs, hl with
  | [c0, c1, c2, c3, c4, c5], _ =>
    obtain ⟨y0, y1, k, hx, _, h0, h1⟩ := trod_struct2 Tryd.underlying49 h
    dsimp only at h0 h1
    rw [cells_dyad] at h0 h1
    obtain ⟨n, s, e, rfl, rfl, rfl, _, hs, _⟩ := dyad_cells h0
    obtain ⟨m, t, f, rfl, rfl, rfl, _, ht, _⟩ := dyad_cells h1
    exact ⟨⟨n, s, e, m, t, f⟩, rfl, hs, ht⟩
set_option maxRecDepth 20000 in
theorem open_gausses {r : Reach} {b0 : Nat} {v : Value} {d : DataW H} {p : List MemPlace} (hv : Value.okWide Tryd.prog w r b0 90 v) (h : DataW.Trod enc Tryd.prog w 0 (fun _ => true) true 90 v d p) :
    ∃ (A : Option Addr) (n c : Nat) (G : Nat → GR), v = .slice A n c ∧ (n = 0 ∨ ∃ xs ys, d = .slice xs ys ∧ xs.length = n) ∧ Gss w A n G ∧ ∀ i, i < n → (G i).fit := by
  obtain ⟨a0, len, cap, rfl⟩ := okWide_slice Tryd.underlying90 hv
  obtain ⟨fuel, hf⟩ := h
  have hC : Tryd.prog.cellsOf 49 = 6 := by kernel_rfl
  have hM : maxLen ≤ 9223372036854775807 := by unfold maxLen; omega
  rcases open_slice Tryd.underlying90 hf with ⟨hcs, hx⟩ | ⟨a, len', cap', m, n, D, Pl, hcs, hb, hl, hm, hmm, hx, hi⟩
  · simp [Value.cells] at hcs
    obtain ⟨rfl, rfl, rfl⟩ := hcs
    exact ⟨none, 0, 0, fun _ => ⟨false, { data := #[] }, 0, false, { data := #[] }, 0⟩, rfl, .inl rfl, fun h => absurd h (by omega), fun i hi => absurd hi (by omega)⟩
  · simp [Value.cells] at hcs
    obtain ⟨rfl, rfl, rfl⟩ := hcs
    simp only [if_true] at hmm
    subst hmm
    rw [hC] at hi
    have each : ∀ i, ∃ g : GR, i < len → w.cell? ((a.add (i * 6)).add 0) = some (.bool g.n) ∧ w.cell? ((a.add (i * 6)).add 1) = some (.string g.s) ∧ w.cell? ((a.add (i * 6)).add 2) = some (.int .i64 g.e) ∧ w.cell? ((a.add (i * 6)).add 3) = some (.bool g.m) ∧ w.cell? ((a.add (i * 6)).add 4) = some (.string g.t) ∧ w.cell? ((a.add (i * 6)).add 5) = some (.int .i64 g.f) ∧ g.s.size ≤ maxLen ∧ g.t.size ≤ maxLen := fun i => by
      by_cases hin : i < len
      · obtain ⟨cs', hc, ht⟩ := hi i (by omega)
        obtain ⟨_, hcl, hat⟩ := World.cells?_some hc
        obtain ⟨g, rfl, hs, ht'⟩ := six_gauss hcl ht
        exact ⟨g, fun _ => ⟨hat 0 (by omega), hat 1 (by omega), hat 2 (by omega), hat 3 (by omega), hat 4 (by omega), hat 5 (by omega), hs, ht'⟩⟩
      · exact ⟨⟨false, { data := #[] }, 0, false, { data := #[] }, 0⟩, fun h => absurd h hin⟩
    obtain ⟨T, hT⟩ := Classical.axiomOfChoice each
    refine ⟨some a, len, _, T, rfl, .inr ⟨_, _, (Prod.mk.inj hx).1, by simp⟩, fun hn => ?_, fun i hi => ?_⟩
    · have hs0 : a.spot = none := spot_none (by have := (hT 0 hn).1; simpa [Addr.add] using this)
      obtain ⟨b, o, sp⟩ := a
      simp only at hs0
      subst hs0
      have hlt : b < w.heap.size := by
        have := (hT 0 hn).1
        rw [Nat.zero_mul, add_plain, add_plain] at this
        exact World.block_lt_of_cell? _ _ this
      refine ⟨b, o, rfl, hlt, fun i hi => ?_⟩
      obtain ⟨h1, h2, h3, h4, h5, h6, _⟩ := hT i hi
      rw [add_plain, add_plain] at h1 h2 h3 h4 h5 h6
      rw [Nat.add_zero] at h1
      exact ⟨h1, h2, h3, h4, h5, h6⟩
    · obtain ⟨_, _, _, _, _, _, h7, h8⟩ := hT i hi
      exact ⟨Nat.le_trans h7 hM, Nat.le_trans h8 hM⟩
end
end Go.Proofs.YtgcifpjhhoalmaaDoor
