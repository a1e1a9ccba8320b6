/- From a row's hypotheses to what the walks ask: a Window, a Square among the arguments. -/
import Derived.Test.YtfbkopepkklkjaaGreatDoorPe
namespace Go.Proofs.YtfbkopepkklkjaaGreatDoor
open Go Go.RowKit Go.PlainAid Fil Go.Joins Go.ChangeShapes Go.WideShapes Go.ChangeAt Go.Deep

section
variable {H : Type} {enc : TypeId × Value → H} {w w' : World} {base : Nat} {sp : Nat → Bool} {held : Bool}

theorem cells_square : Tryz.prog.cellsOf 26 = 7 := by kernel_rfl
theorem array7 {α : Type} {cs : Array α} (h : cs.size = 7) : ∃ c0 c1 c2 c3 c4 c5 c6, cs = #[c0, c1, c2, c3, c4, c5, c6] := by
  obtain ⟨l⟩ := cs
  match l, h with
  | [c0, c1, c2, c3, c4, c5, c6], _ => exact ⟨c0, c1, c2, c3, c4, c5, c6, rfl⟩
theorem int_cell {fuel : Nat} {c : Value} {y : DataW H × List MemPlace} (h : DataW.trod enc Tryz.prog w base sp held fuel 3 [c] = some y) : ∃ e : Int, c = .int .i64 e ∧ y = (.lit (.int .i64 e), []) ∧ (Lit.int .i64 e).wf = true := by
  obtain ⟨e, e2, rfl, he⟩ := DataW.trod_int Tryz.underlying3 h
  exact ⟨e, (List.cons.inj e2).1, rfl, he⟩
set_option maxRecDepth 20000 in
theorem open_square {r : Reach} {b0 : Nat} {v : Value} {d : DataW H} {p : List MemPlace} (hv : Value.okWide Tryz.prog w r b0 26 v) (h : DataW.Trod enc Tryz.prog w base sp held 26 v d p) :
    ∃ (n : Bool) (s : ByteArray) (e : Int) (m : Bool) (t : ByteArray) (f x : Int), v = .agg #[.bool n, .string s, .int .i64 e, .bool m, .string t, .int .i64 f, .int .i64 x] ∧
      d = .agg [.agg [.lit (.bool n), .lit (.string s.data.toList), .lit (.int .i64 e)], .agg [.lit (.bool m), .lit (.string t.data.toList), .lit (.int .i64 f)], .lit (.int .i64 x)] ∧ p = [] ∧ s.size ≤ maxLen ∧ (Lit.int .i64 e).wf = true ∧ t.size ≤ maxLen ∧ (Lit.int .i64 f).wf = true ∧ (Lit.int .i64 x).wf = true := by
  obtain ⟨cs, rfl, hsz⟩ := okWide_struct Tryz.underlying26 hv
  obtain ⟨c0, c1, c2, c3, c4, c5, c6, rfl⟩ := array7 (hsz.trans cells_square)
  obtain ⟨fuel, hf⟩ := h
  obtain ⟨y0, y1, y2, k, hx, _, h0, h1, h2⟩ := trod_struct3 Tryz.underlying26 hf
  dsimp only at h0 h1 h2
  rw [cells_dyad] at h0 h1
  rw [cells_int] at h2
  obtain ⟨n, s, e, rfl, rfl, rfl, rfl, hs, he⟩ := dyad_cells h0
  obtain ⟨m, t, f, rfl, rfl, rfl, rfl, ht, hf'⟩ := dyad_cells h1
  obtain ⟨x, rfl, rfl, wx⟩ := int_cell h2
  exact ⟨n, s, e, m, t, f, x, rfl, (Prod.mk.inj hx).1, (Prod.mk.inj hx).2, hs, he, ht, hf', wx⟩
theorem shut_square (n : Bool) (s : ByteArray) (e : Int) (m : Bool) (t : ByteArray) (f x : Int) (hs : s.size ≤ maxLen) (he : (Lit.int .i64 e).wf = true) (ht : t.size ≤ maxLen) (hf : (Lit.int .i64 f).wf = true) (hx : (Lit.int .i64 x).wf = true) :
    DataW.Trod enc Tryz.prog w base sp held 26 (.agg #[.bool n, .string s, .int .i64 e, .bool m, .string t, .int .i64 f, .int .i64 x]) (.agg [.agg [.lit (.bool n), .lit (.string s.data.toList), .lit (.int .i64 e)], .agg [.lit (.bool m), .lit (.string t.data.toList), .lit (.int .i64 f)], .lit (.int .i64 x)]) [] := by
  obtain ⟨k0, h0⟩ : DataW.Trod enc Tryz.prog w base sp held 24 (.agg #[.bool n, .string s, .int .i64 e]) (.agg [.lit (.bool n), .lit (.string s.data.toList), .lit (.int .i64 e)]) [] := shut_dyad n s e hs he
  obtain ⟨k1, h1⟩ : DataW.Trod enc Tryz.prog w base sp held 24 (.agg #[.bool m, .string t, .int .i64 f]) (.agg [.lit (.bool m), .lit (.string t.data.toList), .lit (.int .i64 f)]) [] := shut_dyad m t f ht hf
  obtain ⟨k2, h2⟩ : DataW.Trod enc Tryz.prog w base sp held 3 (.int .i64 x) (.lit (.int .i64 x)) [] := shut_int Tryz.underlying3 hx
  have l0 : k0 ≤ k0 + k1 + k2 := by omega
  have l1 : k1 ≤ k0 + k1 + k2 := by omega
  have l2 : k2 ≤ k0 + k1 + k2 := by omega
  have ts := trod_struct3_mk (enc := enc) (w := w) (base := base) (spare := sp) (held := held) (n := k0 + k1 + k2) (cs := [.bool n, .string s, .int .i64 e, .bool m, .string t, .int .i64 f, .int .i64 x]) (y0 := (_, [])) (y1 := (_, [])) (y2 := (_, [])) Tryz.underlying26 (by rw [cells_square]; rfl)
    (by dsimp only; rw [cells_dyad]; exact DataW.trod_le l0 h0) (by dsimp only; rw [cells_dyad]; exact DataW.trod_le l1 h1) (by dsimp only; rw [cells_int]; exact DataW.trod_le l2 h2)
  exact ⟨_, ts⟩
end
end Go.Proofs.YtfbkopepkklkjaaGreatDoor
