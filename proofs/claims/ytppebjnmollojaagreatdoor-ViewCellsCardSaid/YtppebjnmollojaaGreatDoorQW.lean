/- From a row's hypotheses to what the walks ask: a Window, a Square among the arguments. -/
import Derived.Test.YtppebjnmollojaaGreatDoorPe
namespace Go.Proofs.YtppebjnmollojaaGreatDoor
open Go Go.RowKit Go.PlainAid Fil Go.Joins Go.ChangeShapes Go.WideShapes Go.ChangeAt Go.Deep

section
variable {H : Type} {enc : TypeId × Value → H} {w w' : World} {base : Nat} {sp : Nat → Bool} {held : Bool}

theorem cells_window : Tryz.prog.cellsOf 28 = 9 := by kernel_rfl
theorem array9 {α : Type} {cs : Array α} (h : cs.size = 9) : ∃ c0 c1 c2 c3 c4 c5 c6 c7 c8, cs = #[c0, c1, c2, c3, c4, c5, c6, c7, c8] := by
  obtain ⟨l⟩ := cs
  match l, h with
  | [c0, c1, c2, c3, c4, c5, c6, c7, c8], _ => exact ⟨c0, c1, c2, c3, c4, c5, c6, c7, c8, rfl⟩
theorem gauss_cells {fuel : Nat} {c0 c1 c2 c3 c4 c5 : Value} {y : DataW H × List MemPlace} (hf : DataW.trod enc Tryz.prog w base sp held fuel 26 [c0, c1, c2, c3, c4, c5] = some y) :
    ∃ (n : Bool) (s : ByteArray) (e : Int) (m : Bool) (t : ByteArray) (f : Int), c0 = .bool n ∧ c1 = .string s ∧ c2 = .int .i64 e ∧ c3 = .bool m ∧ c4 = .string t ∧ c5 = .int .i64 f ∧
      y = (.agg [.agg [.lit (.bool n), .lit (.string s.data.toList), .lit (.int .i64 e)], .agg [.lit (.bool m), .lit (.string t.data.toList), .lit (.int .i64 f)]], []) ∧ s.size ≤ maxLen ∧ (Lit.int .i64 e).wf = true ∧ t.size ≤ maxLen ∧ (Lit.int .i64 f).wf = true := by
  obtain ⟨y0, y1, k, hx, _, h0, h1⟩ := trod_struct2 Tryz.underlying26 hf
  dsimp only at h0 h1
  rw [cells_dyad] at h0 h1
  obtain ⟨n, s, e, rfl, rfl, rfl, rfl, hs, he⟩ := dyad_cells h0
  obtain ⟨m, t, f, rfl, rfl, rfl, rfl, ht, hf'⟩ := dyad_cells h1
  exact ⟨n, s, e, m, t, f, rfl, rfl, rfl, rfl, rfl, rfl, hx, hs, he, ht, hf'⟩
theorem int_cell {fuel : Nat} {c : Value} {y : DataW H × List MemPlace} (h : DataW.trod enc Tryz.prog w base sp held fuel 3 [c] = some y) : ∃ e : Int, c = .int .i64 e ∧ y = (.lit (.int .i64 e), []) ∧ (Lit.int .i64 e).wf = true := by
  obtain ⟨e, e2, rfl, he⟩ := DataW.trod_int Tryz.underlying3 h
  exact ⟨e, (List.cons.inj e2).1, rfl, he⟩
set_option maxRecDepth 20000 in
theorem open_window {r : Reach} {b0 : Nat} {v : Value} {d : DataW H} {p : List MemPlace} (hv : Value.okWide Tryz.prog w r b0 28 v) (h : DataW.Trod enc Tryz.prog w base sp held 28 v d p) :
    ∃ (n : Bool) (s : ByteArray) (e : Int) (m : Bool) (t : ByteArray) (f x y z : Int), v = .agg #[.bool n, .string s, .int .i64 e, .bool m, .string t, .int .i64 f, .int .i64 x, .int .i64 y, .int .i64 z] ∧
      d = .agg [.agg [.agg [.lit (.bool n), .lit (.string s.data.toList), .lit (.int .i64 e)], .agg [.lit (.bool m), .lit (.string t.data.toList), .lit (.int .i64 f)]], .lit (.int .i64 x), .lit (.int .i64 y), .lit (.int .i64 z)] ∧ p = [] ∧ s.size ≤ maxLen ∧ (Lit.int .i64 e).wf = true ∧ t.size ≤ maxLen ∧ (Lit.int .i64 f).wf = true ∧ (Lit.int .i64 x).wf = true ∧ (Lit.int .i64 y).wf = true ∧ (Lit.int .i64 z).wf = true := by
  obtain ⟨cs, rfl, hsz⟩ := okWide_struct Tryz.underlying28 hv
  obtain ⟨c0, c1, c2, c3, c4, c5, c6, c7, c8, rfl⟩ := array9 (hsz.trans cells_window)
  obtain ⟨fuel, hf⟩ := h
  obtain ⟨y0, y1, y2, y3, k, hx, _, h0, h1, h2, h3⟩ := trod_struct4 Tryz.underlying28 hf
  dsimp only at h0 h1 h2 h3
  rw [cells_gauss] at h0
  rw [cells_int] at h1 h2 h3
  obtain ⟨n, s, e, m, t, f, rfl, rfl, rfl, rfl, rfl, rfl, rfl, hs, he, ht, hf'⟩ := gauss_cells h0
  obtain ⟨x, rfl, rfl, wx⟩ := int_cell h1
  obtain ⟨y, rfl, rfl, wy⟩ := int_cell h2
  obtain ⟨z, rfl, rfl, wz⟩ := int_cell h3
  exact ⟨n, s, e, m, t, f, x, y, z, rfl, (Prod.mk.inj hx).1, (Prod.mk.inj hx).2, hs, he, ht, hf', wx, wy, wz⟩
theorem shut_window (n : Bool) (s : ByteArray) (e : Int) (m : Bool) (t : ByteArray) (f x y z : Int) (hs : s.size ≤ maxLen) (he : (Lit.int .i64 e).wf = true) (ht : t.size ≤ maxLen) (hf : (Lit.int .i64 f).wf = true) (hx : (Lit.int .i64 x).wf = true) (hy : (Lit.int .i64 y).wf = true) (hz : (Lit.int .i64 z).wf = true) :
    DataW.Trod enc Tryz.prog w base sp held 28 (.agg #[.bool n, .string s, .int .i64 e, .bool m, .string t, .int .i64 f, .int .i64 x, .int .i64 y, .int .i64 z]) (.agg [.agg [.agg [.lit (.bool n), .lit (.string s.data.toList), .lit (.int .i64 e)], .agg [.lit (.bool m), .lit (.string t.data.toList), .lit (.int .i64 f)]], .lit (.int .i64 x), .lit (.int .i64 y), .lit (.int .i64 z)]) [] := by
  obtain ⟨k0, h0⟩ : DataW.Trod enc Tryz.prog w base sp held 26 (.agg #[.bool n, .string s, .int .i64 e, .bool m, .string t, .int .i64 f]) (.agg [.agg [.lit (.bool n), .lit (.string s.data.toList), .lit (.int .i64 e)], .agg [.lit (.bool m), .lit (.string t.data.toList), .lit (.int .i64 f)]]) [] := shut_gauss n s e m t f hs he ht hf
  obtain ⟨k1, h1⟩ : DataW.Trod enc Tryz.prog w base sp held 3 (.int .i64 x) (.lit (.int .i64 x)) [] := shut_int Tryz.underlying3 hx
  obtain ⟨k2, h2⟩ : DataW.Trod enc Tryz.prog w base sp held 3 (.int .i64 y) (.lit (.int .i64 y)) [] := shut_int Tryz.underlying3 hy
  obtain ⟨k3, h3⟩ : DataW.Trod enc Tryz.prog w base sp held 3 (.int .i64 z) (.lit (.int .i64 z)) [] := shut_int Tryz.underlying3 hz
  have l0 : k0 ≤ k0 + k1 + k2 + k3 := by omega
  have l1 : k1 ≤ k0 + k1 + k2 + k3 := by omega
  have l2 : k2 ≤ k0 + k1 + k2 + k3 := by omega
  have l3 : k3 ≤ k0 + k1 + k2 + k3 := by omega
  have ts := trod_struct4_mk (enc := enc) (w := w) (base := base) (spare := sp) (held := held) (n := k0 + k1 + k2 + k3) (cs := [.bool n, .string s, .int .i64 e, .bool m, .string t, .int .i64 f, .int .i64 x, .int .i64 y, .int .i64 z]) (y0 := (_, [])) (y1 := (_, [])) (y2 := (_, [])) (y3 := (_, [])) Tryz.underlying28 (by rw [cells_window]; rfl)
    (by dsimp only; rw [cells_gauss]; exact DataW.trod_le l0 h0) (by dsimp only; rw [cells_int]; exact DataW.trod_le l1 h1) (by dsimp only; rw [cells_int]; exact DataW.trod_le l2 h2) (by dsimp only; rw [cells_int]; exact DataW.trod_le l3 h3)
  exact ⟨_, ts⟩
end
end Go.Proofs.YtppebjnmollojaaGreatDoor
