/- From TopRoots' row to what its walk asks: a slice of Spots among the arguments; the listed table. -/
import Derived.Test.YtfdnbogbankjjaaGreatDoorRows
import Derived.Test.YtfdnbogbankjjaaGreatDoorD5
import Derived.ProofKit
import Derived.Lib.SmallJoins
import Derived.Lib.LaidTab
import Derived.ChangeMaps5
import Derived.Lay
import Derived.LaidOnce
import Derived.LaidMore
import Derived.ChangeArms
import Derived.OpenShut
import Derived.Laws.Cover2
import Derived.SizedLaws
import Derived.Carry
import Derived.Deep.Slices
import Derived.Deep.Fields
namespace Go.Proofs.YtfdnbogbankjjaaGreatDoor
open Go Go.RowKit Go.PlainAid Fil Go.Joins Go.ChangeShapes Go.WideShapes Go.ChangeAt Go.Deep

theorem own : ownKnob Tryz.prog.godebug = none := by kernel_rfl
/-- the listed variable -/
def laidL : List (String × DataW Unit) := [("math/bits.deBruijn64tab", Rows.laid_math_bits_deBruijn64tab)]
theorem door_met (os : Os) (args : Array Value) : laidMetH Tryz.prog laidL ((World.doorLaid Tryz.prog 200 os).forCall (fun _ _ => 0) ⟨#[], args, []⟩).memory :=
 laidMetH_of_parts3 (fuel := 8) (laidMet_of_run' 8 (by kernel_rfl) (by kernel_rfl)) (by kernel_rfl) (by kernel_rfl)
/-- the table's numbers -/
def tabY : List Int := [0, 1, 56, 2, 57, 49, 28, 3, 61, 58, 42, 50, 38, 29, 17, 4, 62, 47, 59, 36, 45, 43, 51, 22, 53, 39, 33, 30, 24, 18, 12, 5, 63, 55, 48, 27, 60, 41, 37, 16, 46, 35, 44, 21, 52, 32, 23, 11, 54, 26, 40, 15, 34, 20, 31, 10, 25, 14, 19, 9, 13, 8, 7, 6]
theorem taby_of_laid {W : World} (hL : laidMetH Tryz.prog laidL W) : Tab64 W := by
 rw [MakeChecks.laidMetH_plain _ _ _ (by kernel_rfl)] at hL
 have h : Lib.TabIs Tryz.prog W "math/bits.deBruijn64tab" .u8 tabY := Lib.tabIs_of_head (g := 1) (t := 162) (e := 5) (n := 64) (rest := []) (by kernel_rfl) (by kernel_rfl) (by kernel_rfl) (by kernel_rfl) (by kernel_rfl) (by kernel_rfl) hL
 intro j hj
 have hc := World.var?_cell (P := Tryz.prog) (n := "math/bits.deBruijn64tab") (by kernel_rfl : Tryz.prog.globalNamed "math/bits.deBruijn64tab" = some 1) h j
 rw [hc]
 have ht : ∀ j, j < 64 → tabY[j]? = some ((Lib.deBruijn64tab.getD j 0 : Nat) : Int) := by decide
 rw [List.getElem?_toArray, List.getElem?_map, ht j hj]
 rfl
theorem add_plain (b o k : Nat) : (Addr.add ⟨b, o, none⟩ k) = ⟨b, o + k, none⟩ := by
 unfold Addr.add
 split
 ·rename_i h; subst h; rfl
 ·rfl
theorem spot_none {w : World} {a : Addr} {v : Value} (h : w.cell? a = some v) : a.spot = none := by
 unfold World.cell? at h
 split at h
 ·split at h
  ·cases h
  ·rename_i hs; simpa using hs
 ·cases h

section
variable {H : Type} {enc : TypeId × Value → H} {w : World}
theorem cells_int : Tryz.prog.cellsOf 3 = 1 := by kernel_rfl
/-- a Spot's two cells, read -/
theorem two_spot {sp : Nat → Bool} {held : Bool} {base n : Nat} {cs : List Value} {x : DataW H × List MemPlace} (hl : cs.length = 2) (h : DataW.trod enc Tryz.prog w base sp held n 42 cs = some x) :
  ∃ u v : Int, cs = [.int .i64 u, .int .i64 v] ∧ (Lit.int .i64 u).wf = true ∧ (Lit.int .i64 v).wf = true := by
 match cs, hl with
 | [c0, c1], _ =>
  obtain ⟨y0, y1, k, hx, _, h0, h1⟩ := trod_struct2 Tryz.underlying42 h
  dsimp only at h0 h1
  rw [cells_int] at h0 h1
  obtain ⟨u, e0, _, hu⟩ := DataW.trod_int Tryz.underlying3 h0
  obtain ⟨v, e1, _, hv⟩ := DataW.trod_int Tryz.underlying3 h1
  obtain rfl := (List.cons.inj e0).1
  obtain rfl := (List.cons.inj e1).1
  exact ⟨u, v, rfl, hu, hv⟩
set_option maxRecDepth 20000 in
theorem open_spots {r : Reach} {b0 : Nat} {v : Value} {d : DataW H} {p : List MemPlace} (hv : Value.okWide Tryz.prog w r b0 22 v) (h : DataW.Trod enc Tryz.prog w 0 (fun _ => true) true 22 v d p) :
  ∃ (A : Option Addr) (n c : Nat) (U V : Nat → Int), v = .slice A n c ∧ Spt w A n U V ∧ ∀ i, i < n → (Lit.int .i64 (U i)).wf = true ∧ (Lit.int .i64 (V i)).wf = true := by
 obtain ⟨a0, len, cap, rfl⟩ := okWide_slice Tryz.underlying22 hv
 obtain ⟨fuel, hf⟩ := h
 have hC : Tryz.prog.cellsOf 42 = 2 := by kernel_rfl
 rcases open_slice Tryz.underlying22 hf with ⟨hcs, hx⟩ | ⟨a, len', cap', m, n, D, Pl, hcs, hb, hl, hm, hmm, hx, hi⟩
 ·simp [Value.cells] at hcs
  obtain ⟨rfl, rfl, rfl⟩ := hcs
  exact ⟨none, 0, 0, fun _ => 0, fun _ => 0, rfl, fun h => absurd h (by omega), fun i hi => absurd hi (by omega)⟩
 ·simp [Value.cells] at hcs
  obtain ⟨rfl, rfl, rfl⟩ := hcs
  simp only [if_true] at hmm
  subst hmm
  rw [hC] at hi
  have each : ∀ i, ∃ t : Int × Int, i < len → w.cell? ((a.add (i * 2)).add 0) = some (.int .i64 t.1) ∧ w.cell? ((a.add (i * 2)).add 1) = some (.int .i64 t.2) ∧ (Lit.int .i64 t.1).wf = true ∧ (Lit.int .i64 t.2).wf = true := fun i => by
   by_cases hin : i < len
   ·obtain ⟨cs', hc, ht⟩ := hi i (by omega)
    obtain ⟨_, hcl, hat⟩ := World.cells?_some hc
    obtain ⟨u, v, rfl, hu, hv⟩ := two_spot hcl ht
    exact ⟨(u, v), fun _ => ⟨hat 0 (by omega), hat 1 (by omega), hu, hv⟩⟩
   ·exact ⟨(0, 0), fun h => absurd h hin⟩
  obtain ⟨T, hT⟩ := Classical.axiomOfChoice each
  refine ⟨some a, len, _, fun i => (T i).1, fun i => (T i).2, rfl, fun hn => ?_, fun i hi => (hT i hi).2.2⟩
  have hs0 : a.spot = none := spot_none (by have := (hT 0 hn).1; simpa [Addr.add] using this)
  obtain ⟨b, o, sp⟩ := a
  simp only at hs0
  subst hs0
  have hlt : b < w.heap.size := by
   have := (hT 0 hn).1
   rw [Nat.zero_mul, add_plain, add_plain] at this
   exact World.block_lt_of_cell? _ _ this
  refine ⟨b, o, rfl, hlt, fun i hi => ?_⟩
  obtain ⟨h1, h2, _⟩ := hT i hi
  rw [add_plain, add_plain] at h1 h2
  rw [Nat.add_zero] at h1
  exact ⟨h1, h2⟩
end
end Go.Proofs.YtfdnbogbankjjaaGreatDoor
