/- From a row's hypotheses to what the walks ask: a Gauss among the arguments. -/
import Derived.Test.YtfbkopepkklkjaaGreatDoorPa
import Derived.Deep.Strs
namespace Go.Proofs.YtfbkopepkklkjaaGreatDoor
open Go Go.RowKit Go.PlainAid Fil Go.Joins Go.ChangeShapes Go.WideShapes Go.ChangeAt Go.Deep

section
variable {H : Type} {enc : TypeId × Value → H} {w w' : World} {base : Nat} {sp : Nat → Bool} {held : Bool}

theorem cells_dyad : Tryz.prog.cellsOf 24 = 3 := by kernel_rfl
theorem cells_gauss : Tryz.prog.cellsOf 28 = 6 := by kernel_rfl
theorem cells_bool : Tryz.prog.cellsOf 4 = 1 := by kernel_rfl
theorem cells_nat : Tryz.prog.cellsOf 22 = 1 := by kernel_rfl
theorem cells_int : Tryz.prog.cellsOf 3 = 1 := by kernel_rfl
theorem array6 {α : Type} {cs : Array α} (h : cs.size = 6) : ∃ c0 c1 c2 c3 c4 c5, cs = #[c0, c1, c2, c3, c4, c5] := by
  obtain ⟨l⟩ := cs
  match l, h with
  | [c0, c1, c2, c3, c4, c5], _ => exact ⟨c0, c1, c2, c3, c4, c5, rfl⟩
theorem dyad_cells {n : Nat} {c0 c1 c2 : Value} {y : DataW H × List MemPlace} (h : DataW.trod enc Tryz.prog w base sp held n 24 [c0, c1, c2] = some y) :
    ∃ (neg : Bool) (s : ByteArray) (e : Int), c0 = .bool neg ∧ c1 = .string s ∧ c2 = .int .i64 e ∧ y = (.agg [.lit (.bool neg), .lit (.string s.data.toList), .lit (.int .i64 e)], []) ∧ s.size ≤ maxLen ∧ (Lit.int .i64 e).wf = true := by
  obtain ⟨y0, y1, y2, k, hx, _, h0, h1, h2⟩ := trod_struct3 Tryz.underlying24 h
  dsimp only at h0 h1 h2
  rw [cells_bool] at h0
  rw [cells_nat] at h1
  rw [cells_int] at h2
  obtain ⟨neg, e0, rfl⟩ := DataW.trod_bool Tryz.underlying4 h0
  obtain ⟨s, e1, rfl, hs⟩ := DataW.trod_string Tryz.underlying22 h1
  obtain ⟨e, e2, rfl, he⟩ := DataW.trod_int Tryz.underlying3 h2
  have f0 := (List.cons.inj e0).1
  have f1 := (List.cons.inj e1).1
  have f2 := (List.cons.inj e2).1
  exact ⟨neg, s, e, f0, f1, f2, hx, hs, he⟩
set_option maxRecDepth 20000 in
theorem open_gauss {r : Reach} {b0 : Nat} {v : Value} {d : DataW H} {p : List MemPlace} (hv : Value.okWide Tryz.prog w r b0 28 v) (h : DataW.Trod enc Tryz.prog w base sp held 28 v d p) :
    ∃ (n : Bool) (s : ByteArray) (e : Int) (m : Bool) (t : ByteArray) (f : Int), v = .agg #[.bool n, .string s, .int .i64 e, .bool m, .string t, .int .i64 f] ∧
      d = .agg [.agg [.lit (.bool n), .lit (.string s.data.toList), .lit (.int .i64 e)], .agg [.lit (.bool m), .lit (.string t.data.toList), .lit (.int .i64 f)]] ∧ p = [] ∧ s.size ≤ maxLen ∧ (Lit.int .i64 e).wf = true ∧ t.size ≤ maxLen ∧ (Lit.int .i64 f).wf = true := by
  obtain ⟨cs, rfl, hsz⟩ := okWide_struct Tryz.underlying28 hv
  obtain ⟨c0, c1, c2, c3, c4, c5, rfl⟩ := array6 (hsz.trans cells_gauss)
  obtain ⟨fuel, hf⟩ := h
  obtain ⟨y0, y1, k, hx, _, h0, h1⟩ := trod_struct2 Tryz.underlying28 hf
  dsimp only at h0 h1
  rw [cells_dyad] at h0 h1
  obtain ⟨n, s, e, rfl, rfl, rfl, rfl, hs, he⟩ := dyad_cells h0
  obtain ⟨m, t, f, rfl, rfl, rfl, rfl, ht, hf'⟩ := dyad_cells h1
  have h1 := (Prod.mk.inj hx).1
  have h2 := (Prod.mk.inj hx).2
  exact ⟨n, s, e, m, t, f, rfl, h1, h2, hs, he, ht, hf'⟩
theorem shut_gauss (n : Bool) (s : ByteArray) (e : Int) (m : Bool) (t : ByteArray) (f : Int) (hs : s.size ≤ maxLen) (he : (Lit.int .i64 e).wf = true) (ht : t.size ≤ maxLen) (hf : (Lit.int .i64 f).wf = true) :
    DataW.Trod enc Tryz.prog w base sp held 28 (.agg #[.bool n, .string s, .int .i64 e, .bool m, .string t, .int .i64 f]) (.agg [.agg [.lit (.bool n), .lit (.string s.data.toList), .lit (.int .i64 e)], .agg [.lit (.bool m), .lit (.string t.data.toList), .lit (.int .i64 f)]]) [] := by
  obtain ⟨k0, h0⟩ : DataW.Trod enc Tryz.prog w base sp held 24 (.agg #[.bool n, .string s, .int .i64 e]) (.agg [.lit (.bool n), .lit (.string s.data.toList), .lit (.int .i64 e)]) [] := shut_dyad n s e hs he
  obtain ⟨k1, h1⟩ : DataW.Trod enc Tryz.prog w base sp held 24 (.agg #[.bool m, .string t, .int .i64 f]) (.agg [.lit (.bool m), .lit (.string t.data.toList), .lit (.int .i64 f)]) [] := shut_dyad m t f ht hf
  have ts := trod_struct2_mk (enc := enc) (w := w) (base := base) (spare := sp) (held := held) (n := max k0 k1) (cs := [.bool n, .string s, .int .i64 e, .bool m, .string t, .int .i64 f]) (y0 := (_, [])) (y1 := (_, [])) Tryz.underlying28 (by rw [cells_gauss]; rfl)
    (by dsimp only; rw [cells_dyad]; exact DataW.trod_le (Nat.le_max_left k0 k1) h0) (by dsimp only; rw [cells_dyad]; exact DataW.trod_le (Nat.le_max_right k0 k1) h1)
  exact ⟨_, ts⟩
end
end Go.Proofs.YtfbkopepkklkjaaGreatDoor
