/- A slice of Dyads among a row's arguments. -/
import Derived.Test.YtgcifpjhhoalmaaDoorPa
import Derived.SizedLaws
import Derived.Carry
import Derived.Deep.Slices
import Derived.Deep.Fields
namespace Go.Proofs.YtgcifpjhhoalmaaDoor
open Go Go.RowKit Go.PlainAid Fil Go.Joins Go.ChangeShapes Go.WideShapes Go.ChangeAt Go.Deep

theorem add_plain (b o k : Nat) : (Addr.add ⟨b, o, none⟩ k) = ⟨b, o + k, none⟩ := by
  unfold Addr.add
  split
  · rename_i h; subst h; rfl
  · rfl
theorem spot_none {w : World} {a : Addr} {v : Value} (h : w.cell? a = some v) : a.spot = none := by
  unfold World.cell? at h
  split at h
  · split at h
    · cases h
    · rename_i hs; simpa using hs
  · cases h

section
variable {H : Type} {enc : TypeId × Value → H} {w : World}
theorem cells3 {P : Program} {base n : Nat} {sp : Nat → Bool} {held : Bool} {t : TypeId} {f0 f1 f2 : Field} {c0 c1 c2 : Value} {x : DataW H × List MemPlace} (hs : P.underlying t = some (.struct #[f0, f1, f2])) (hone : oneCellFields P #[f0, f1, f2] = true)
    (h : DataW.trod enc P w base sp held n t [c0, c1, c2] = some x) :
    ∃ (y0 y1 y2 : DataW H × List MemPlace) (m : Nat), DataW.trod enc P w base sp held m f0.type [c0] = some y0 ∧ DataW.trod enc P w base sp held m f1.type [c1] = some y1 ∧ DataW.trod enc P w base sp held m f2.type [c2] = some y2 := by
  obtain ⟨y0, y1, y2, m, _, _, h0, h1, h2⟩ := trod_struct3 hs h
  obtain ⟨o0, k0⟩ := hone_of hone 0 f0 rfl
  obtain ⟨o1, k1⟩ := hone_of hone 1 f1 rfl
  obtain ⟨o2, k2⟩ := hone_of hone 2 f2 rfl
  exact ⟨y0, y1, y2, m, by simpa [o0, k0] using h0, by simpa [o1, k1] using h1, by simpa [o2, k2] using h2⟩
/-- a Dyad's three cells, read -/
theorem cells_dyad {sp : Nat → Bool} {held : Bool} {base n : Nat} {cs : List Value} {x : DataW H × List MemPlace} (hl : cs.length = 3) (h : DataW.trod enc Tryd.prog w base sp held n 24 cs = some x) :
    ∃ (neg : Bool) (s : ByteArray) (e : Int), cs = [.bool neg, .string s, .int .i64 e] ∧ s.size ≤ maxLen := by
  match cs, hl with
  | [c0, c1, c2], _ =>
    obtain ⟨y0, y1, y2, m, g0, g1, g2⟩ := cells3 Tryd.underlying24 (by kernel_rfl) h
    obtain ⟨neg, e0, _⟩ := DataW.trod_bool Tryd.underlying4 g0
    obtain ⟨s, e1, _, hs⟩ := DataW.trod_string Tryd.underlying22 g1
    obtain ⟨e, e2, _, _⟩ := DataW.trod_int Tryd.underlying3 g2
    obtain rfl := (List.cons.inj e0).1
    obtain rfl := (List.cons.inj e1).1
    obtain rfl := (List.cons.inj e2).1
    exact ⟨neg, s, e, rfl, hs⟩
set_option maxRecDepth 20000 in
theorem open_dyads {r : Reach} {b0 : Nat} {v : Value} {d : DataW H} {p : List MemPlace} (hv : Value.okWide Tryd.prog w r b0 33 v) (h : DataW.Trod enc Tryd.prog w 0 (fun _ => true) true 33 v d p) :
    ∃ (A : Option Addr) (n c : Nat) (N : Nat → Bool) (S : Nat → ByteArray) (E : Nat → Int), v = .slice A n c ∧ (n = 0 ∨ ∃ xs ys, d = .slice xs ys ∧ xs.length = n) ∧ Dys w A n N S E ∧ ∀ i, i < n → (S i).size ≤ maxLen := by
  obtain ⟨a0, len, cap, rfl⟩ := okWide_slice Tryd.underlying33 hv
  obtain ⟨fuel, hf⟩ := h
  have hC : Tryd.prog.cellsOf 24 = 3 := by kernel_rfl
  rcases open_slice Tryd.underlying33 hf with ⟨hcs, hx⟩ | ⟨a, len', cap', m, n, D, Pl, hcs, hb, hl, hm, hmm, hx, hi⟩
  · simp [Value.cells] at hcs
    obtain ⟨rfl, rfl, rfl⟩ := hcs
    exact ⟨none, 0, 0, fun _ => false, fun _ => { data := #[] }, fun _ => 0, rfl, .inl rfl, fun h => absurd h (by omega), fun i hi => absurd hi (by omega)⟩
  · simp [Value.cells] at hcs
    obtain ⟨rfl, rfl, rfl⟩ := hcs
    simp only [if_true] at hmm
    subst hmm
    rw [hC] at hi
    have each : ∀ i, ∃ t : Bool × ByteArray × Int, i < len → w.cell? ((a.add (i * 3)).add 0) = some (.bool t.1) ∧ w.cell? ((a.add (i * 3)).add 1) = some (.string t.2.1) ∧ w.cell? ((a.add (i * 3)).add 2) = some (.int .i64 t.2.2) ∧ t.2.1.size ≤ maxLen := fun i => by
      by_cases hin : i < len
      · obtain ⟨cs', hc, ht⟩ := hi i (by omega)
        obtain ⟨_, hcl, hat⟩ := World.cells?_some hc
        obtain ⟨neg, s, e, rfl, hs⟩ := cells_dyad hcl ht
        exact ⟨(neg, s, e), fun _ => ⟨hat 0 (by omega), hat 1 (by omega), hat 2 (by omega), hs⟩⟩
      · exact ⟨(false, { data := #[] }, 0), fun h => absurd h hin⟩
    obtain ⟨T, hT⟩ := Classical.axiomOfChoice each
    refine ⟨some a, len, _, fun i => (T i).1, fun i => (T i).2.1, fun i => (T i).2.2, rfl, .inr ⟨_, _, (Prod.mk.inj hx).1, by simp⟩, fun hn => ?_, fun i hi => (hT i hi).2.2.2⟩
    have hs0 : a.spot = none := spot_none (by have := (hT 0 hn).1; simpa [Addr.add] using this)
    obtain ⟨b, o, sp⟩ := a
    simp only at hs0
    subst hs0
    have hlt : b < w.heap.size := by
      have := (hT 0 hn).1
      rw [Nat.zero_mul, add_plain, add_plain] at this
      exact World.block_lt_of_cell? _ _ this
    refine ⟨b, o, rfl, hlt, fun i hi => ?_⟩
    obtain ⟨h1, h2, h3, _⟩ := hT i hi
    rw [add_plain, add_plain] at h1 h2 h3
    rw [Nat.add_zero] at h1
    exact ⟨h1, h2, h3⟩
end
end Go.Proofs.YtgcifpjhhoalmaaDoor
