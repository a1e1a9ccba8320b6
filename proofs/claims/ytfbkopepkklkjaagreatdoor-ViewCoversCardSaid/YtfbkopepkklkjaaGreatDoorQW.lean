/- Merged: Pa Pe QW -/
import Derived.Test.YtfbkopepkklkjaaGreatDoorRows
import Derived.Test.YtfbkopepkklkjaaGreatDoorB4
import Derived.ProofKit
import Derived.Lib.SmallJoins
import Derived.Lib.LaidTab
import Derived.ChangeMaps5
import Derived.Lay
import Derived.LaidOnce
import Derived.LaidMore
import Derived.ChangeArms
import Derived.OpenShut
import Derived.Laws.Cover2
import Derived.Deep.Strs

/- From a row's hypotheses to what the walks ask: a Dyad among the arguments; the listed table. -/
namespace Go.Proofs.YtfbkopepkklkjaaGreatDoor
open Go Go.RowKit Go.PlainAid Fil Go.Joins Go.ChangeShapes Go.WideShapes Go.ChangeAt

theorem own : ownKnob Tryz.prog.godebug = none := by kernel_rfl
/-- the listed variables -/
def laidL : List (String × DataW Unit) := [("math/bits.deBruijn32tab", Rows.laid_math_bits_deBruijn32tab)]
theorem door_met (os : Os) (args : Array Value) : laidMetH Tryz.prog laidL ((World.doorLaid Tryz.prog 200 os).forCall (fun _ _ => 0) ⟨#[], args, []⟩).memory :=
 laidMetH_of_parts3 (fuel := 8) (laidMet_of_run' 8 (by kernel_rfl) (by kernel_rfl)) (by kernel_rfl) (by kernel_rfl)
/-- the table's numbers -/
def tabZ : List Int := [0, 1, 28, 2, 29, 14, 24, 3, 30, 22, 20, 15, 25, 17, 4, 8, 31, 27, 13, 23, 21, 19, 16, 7, 26, 12, 18, 6, 11, 5, 10, 9]
theorem tab_of_laid {W : World} (hL : laidMetH Tryz.prog laidL W) : Tab W := by
 rw [MakeChecks.laidMetH_plain _ _ _ (by kernel_rfl)] at hL
 have h : Lib.TabIs Tryz.prog W "math/bits.deBruijn32tab" .u8 tabZ := Lib.tabIs_of_head (g := 1) (t := 190) (e := 5) (n := 32) (rest := []) (by kernel_rfl) (by kernel_rfl) (by kernel_rfl) (by kernel_rfl) (by kernel_rfl) (by kernel_rfl) hL
 intro j hj
 have hc := World.var?_cell (P := Tryz.prog) (n := "math/bits.deBruijn32tab") (by kernel_rfl : Tryz.prog.globalNamed "math/bits.deBruijn32tab" = some 1) h j
 rw [hc]
 have ht : ∀ j, j < 32 → tabZ[j]? = some ((Lib.deBruijn32tab.getD j 0 : Nat) : Int) := by decide
 rw [List.getElem?_toArray, List.getElem?_map, ht j hj]
 rfl

section
variable {H : Type} {enc : TypeId × Value → H} {w w' : World} {base : Nat} {sp : Nat → Bool} {held : Bool}

theorem shut_dyad (neg : Bool) (s : ByteArray) (e : Int) (hs : s.size ≤ maxLen) (he : (Lit.int .i64 e).wf = true) : DataW.Trod enc Tryz.prog w base sp held 24 (.agg #[.bool neg, .string s, .int .i64 e]) (.agg [.lit (.bool neg), .lit (.string s.data.toList), .lit (.int .i64 e)]) [] := by
 have h1 : DataW.Trod enc Tryz.prog w base sp held 22 (.string s) (.lit (.string s.data.toList)) [] := Go.ChangeMaps.shut_string Tryz.underlying22 hs
 have h0 : DataW.Trod enc Tryz.prog w base sp held 4 (.bool neg) (.lit (.bool neg)) [] := shut_bool Tryz.underlying4 neg
 have h2 : DataW.Trod enc Tryz.prog w base sp held 3 (.int .i64 e) (.lit (.int .i64 e)) [] := shut_int Tryz.underlying3 he
 obtain ⟨n0, k0⟩ := h0
 obtain ⟨n1, k1⟩ := h1
 obtain ⟨n2, k2⟩ := h2
 exact shut_agg3 (y0 := (_, [])) (y1 := (_, [])) (y2 := (_, [])) Tryz.underlying24 (by kernel_rfl) (by kernel_rfl) ⟨n0, k0⟩ ⟨n1, k1⟩ ⟨n2, k2⟩
end
end Go.Proofs.YtfbkopepkklkjaaGreatDoor

/- From a row's hypotheses to what the walks ask: a Gauss among the arguments. -/
namespace Go.Proofs.YtfbkopepkklkjaaGreatDoor
open Go Go.RowKit Go.PlainAid Fil Go.Joins Go.ChangeShapes Go.WideShapes Go.ChangeAt Go.Deep

section
variable {H : Type} {enc : TypeId × Value → H} {w w' : World} {base : Nat} {sp : Nat → Bool} {held : Bool}

theorem cells_dyad : Tryz.prog.cellsOf 24 = 3 := by kernel_rfl
theorem cells_bool : Tryz.prog.cellsOf 4 = 1 := by kernel_rfl
theorem cells_nat : Tryz.prog.cellsOf 22 = 1 := by kernel_rfl
theorem cells_int : Tryz.prog.cellsOf 3 = 1 := by kernel_rfl
theorem dyad_cells {n : Nat} {c0 c1 c2 : Value} {y : DataW H × List MemPlace} (h : DataW.trod enc Tryz.prog w base sp held n 24 [c0, c1, c2] = some y) :
  ∃ (neg : Bool) (s : ByteArray) (e : Int), c0 = .bool neg ∧ c1 = .string s ∧ c2 = .int .i64 e ∧ y = (.agg [.lit (.bool neg), .lit (.string s.data.toList), .lit (.int .i64 e)], []) ∧ s.size ≤ maxLen ∧ (Lit.int .i64 e).wf = true := by
 obtain ⟨y0, y1, y2, k, hx, _, h0, h1, h2⟩ := trod_struct3 Tryz.underlying24 h
 dsimp only at h0 h1 h2
 rw [cells_bool] at h0
 rw [cells_nat] at h1
 rw [cells_int] at h2
 obtain ⟨neg, e0, rfl⟩ := DataW.trod_bool Tryz.underlying4 h0
 obtain ⟨s, e1, rfl, hs⟩ := DataW.trod_string Tryz.underlying22 h1
 obtain ⟨e, e2, rfl, he⟩ := DataW.trod_int Tryz.underlying3 h2
 have f0 := (List.cons.inj e0).1
 have f1 := (List.cons.inj e1).1
 have f2 := (List.cons.inj e2).1
 exact ⟨neg, s, e, f0, f1, f2, hx, hs, he⟩
end
end Go.Proofs.YtfbkopepkklkjaaGreatDoor

/- From a row's hypotheses to what the walks ask: a Window, a Square among the arguments. -/
namespace Go.Proofs.YtfbkopepkklkjaaGreatDoor
open Go Go.RowKit Go.PlainAid Fil Go.Joins Go.ChangeShapes Go.WideShapes Go.ChangeAt Go.Deep

section
variable {H : Type} {enc : TypeId × Value → H} {w w' : World} {base : Nat} {sp : Nat → Bool} {held : Bool}

theorem cells_square : Tryz.prog.cellsOf 26 = 7 := by kernel_rfl
theorem array7 {α : Type} {cs : Array α} (h : cs.size = 7) : ∃ c0 c1 c2 c3 c4 c5 c6, cs = #[c0, c1, c2, c3, c4, c5, c6] := by
 obtain ⟨l⟩ := cs
 match l, h with
 | [c0, c1, c2, c3, c4, c5, c6], _ => exact ⟨c0, c1, c2, c3, c4, c5, c6, rfl⟩
theorem int_cell {fuel : Nat} {c : Value} {y : DataW H × List MemPlace} (h : DataW.trod enc Tryz.prog w base sp held fuel 3 [c] = some y) : ∃ e : Int, c = .int .i64 e ∧ y = (.lit (.int .i64 e), []) ∧ (Lit.int .i64 e).wf = true := by
 obtain ⟨e, e2, rfl, he⟩ := DataW.trod_int Tryz.underlying3 h
 exact ⟨e, (List.cons.inj e2).1, rfl, he⟩
set_option maxRecDepth 20000 in
theorem open_square {r : Reach} {b0 : Nat} {v : Value} {d : DataW H} {p : List MemPlace} (hv : Value.okWide Tryz.prog w r b0 26 v) (h : DataW.Trod enc Tryz.prog w base sp held 26 v d p) :
  ∃ (n : Bool) (s : ByteArray) (e : Int) (m : Bool) (t : ByteArray) (f x : Int), v = .agg #[.bool n, .string s, .int .i64 e, .bool m, .string t, .int .i64 f, .int .i64 x] ∧
   d = .agg [.agg [.lit (.bool n), .lit (.string s.data.toList), .lit (.int .i64 e)], .agg [.lit (.bool m), .lit (.string t.data.toList), .lit (.int .i64 f)], .lit (.int .i64 x)] ∧ p = [] ∧ s.size ≤ maxLen ∧ (Lit.int .i64 e).wf = true ∧ t.size ≤ maxLen ∧ (Lit.int .i64 f).wf = true ∧ (Lit.int .i64 x).wf = true := by
 obtain ⟨cs, rfl, hsz⟩ := okWide_struct Tryz.underlying26 hv
 obtain ⟨c0, c1, c2, c3, c4, c5, c6, rfl⟩ := array7 (hsz.trans cells_square)
 obtain ⟨fuel, hf⟩ := h
 obtain ⟨y0, y1, y2, k, hx, _, h0, h1, h2⟩ := trod_struct3 Tryz.underlying26 hf
 dsimp only at h0 h1 h2
 rw [cells_dyad] at h0 h1
 rw [cells_int] at h2
 obtain ⟨n, s, e, rfl, rfl, rfl, rfl, hs, he⟩ := dyad_cells h0
 obtain ⟨m, t, f, rfl, rfl, rfl, rfl, ht, hf'⟩ := dyad_cells h1
 obtain ⟨x, rfl, rfl, wx⟩ := int_cell h2
 exact ⟨n, s, e, m, t, f, x, rfl, (Prod.mk.inj hx).1, (Prod.mk.inj hx).2, hs, he, ht, hf', wx⟩
theorem shut_square (n : Bool) (s : ByteArray) (e : Int) (m : Bool) (t : ByteArray) (f x : Int) (hs : s.size ≤ maxLen) (he : (Lit.int .i64 e).wf = true) (ht : t.size ≤ maxLen) (hf : (Lit.int .i64 f).wf = true) (hx : (Lit.int .i64 x).wf = true) :
  DataW.Trod enc Tryz.prog w base sp held 26 (.agg #[.bool n, .string s, .int .i64 e, .bool m, .string t, .int .i64 f, .int .i64 x]) (.agg [.agg [.lit (.bool n), .lit (.string s.data.toList), .lit (.int .i64 e)], .agg [.lit (.bool m), .lit (.string t.data.toList), .lit (.int .i64 f)], .lit (.int .i64 x)]) [] := by
 obtain ⟨k0, h0⟩ : DataW.Trod enc Tryz.prog w base sp held 24 (.agg #[.bool n, .string s, .int .i64 e]) (.agg [.lit (.bool n), .lit (.string s.data.toList), .lit (.int .i64 e)]) [] := shut_dyad n s e hs he
 obtain ⟨k1, h1⟩ : DataW.Trod enc Tryz.prog w base sp held 24 (.agg #[.bool m, .string t, .int .i64 f]) (.agg [.lit (.bool m), .lit (.string t.data.toList), .lit (.int .i64 f)]) [] := shut_dyad m t f ht hf
 obtain ⟨k2, h2⟩ : DataW.Trod enc Tryz.prog w base sp held 3 (.int .i64 x) (.lit (.int .i64 x)) [] := shut_int Tryz.underlying3 hx
 have l0 : k0 ≤ k0 + k1 + k2 := by omega
 have l1 : k1 ≤ k0 + k1 + k2 := by omega
 have l2 : k2 ≤ k0 + k1 + k2 := by omega
 have ts := trod_struct3_mk (enc := enc) (w := w) (base := base) (spare := sp) (held := held) (n := k0 + k1 + k2) (cs := [.bool n, .string s, .int .i64 e, .bool m, .string t, .int .i64 f, .int .i64 x]) (y0 := (_, [])) (y1 := (_, [])) (y2 := (_, [])) Tryz.underlying26 (by rw [cells_square]; rfl)
  (by dsimp only; rw [cells_dyad]; exact DataW.trod_le l0 h0) (by dsimp only; rw [cells_dyad]; exact DataW.trod_le l1 h1) (by dsimp only; rw [cells_int]; exact DataW.trod_le l2 h2)
 exact ⟨_, ts⟩
end
end Go.Proofs.YtfbkopepkklkjaaGreatDoor
