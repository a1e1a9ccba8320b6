/- Blocks by their cells (as in the texts of package gauss); ratio.whole, laid; wide.Rat's Num, Denom. -/
import Derived.Test.YtbhfnigblhfikaaGreatB5
import Derived.Test.YtbhfnigblhfikaaGreatJ9
import Derived.OneCell
namespace Go.Proofs.YtbhfnigblhfikaaGreat
open Go Go.RowKit Go.PlainAid Fil

/-- a block of cells -/
def Blk (w : World) (b : Nat) (cs : Array Value) (t : TypeId) : Prop := w.heap[b]? = some (.cells cs t (0, 0))
section
variable {w w' : World} {b : Nat} {cs : Array Value} {t : TypeId} {v0 v1 v2 v3 : Value}
theorem Blk.lt (h : Blk w b cs t) : b < w.heap.size := lt_of_block h
theorem Blk.put (w : World) (cs : Array Value) (t : TypeId) : Blk (w.alloc (.cells cs t)) w.heap.size cs t := heap_alloc_new w _
theorem Blk.below (h : Blk w b cs t) {B : Nat} (hb : Below B w w') (hB : b < B) : Blk w' b cs t := (hb.block b hB).trans h
theorem Blk.keep (h : Blk w b cs t) (hb : Below w.heap.size w w') : Blk w' b cs t := h.below hb h.lt
theorem Blk.allocd (h : Blk w b cs t) (o : Obj) : Blk (w.alloc o) b cs t := h.keep ((Below.refl _ _).alloc (Nat.le_refl _) _)
theorem Blk.drew (h : Blk w b cs t) : Blk w.drew b cs t := h
theorem Blk.ofFar {k : Nat} (h : Blk w b cs t) (hb : Far w w' k) (hne : b ≠ k) : Blk w' b cs t := (hb.far b h.lt hne).trans h
theorem Blk.far (h : Blk w b cs t) {b' : Nat} (o : Nat) (v : Value) (hne : b ≠ b') : Blk (w.setCell ⟨b', o, none⟩ v) b cs t := (Below.heap_setCell _ _ _ _ hne).trans h
theorem Blk.at (h : Blk w b cs t) (i : Nat) (hi : i < cs.size) : w.cell? ⟨b, i, none⟩ = some cs[i] := by
  have h' : w.heap[b]? = some (.cells cs t (0, 0)) := h
  simp [World.cell?, h', hi]
theorem Blk.free (h : Blk w b cs t) (i : Nat) : w.frozen? ⟨b, i, none⟩ = false := by
  have h' : w.heap[b]? = some (.cells cs t (0, 0)) := h
  simp [World.frozen?, h']
theorem Blk.setAt (h : Blk w b cs t) (i : Nat) (u : Value) : Blk (w.setCell ⟨b, i, none⟩ u) b (cs.setIfInBounds i u) t := by
  have hlt := Blk.lt h
  have h' : w.heap[b] = .cells cs t (0, 0) := by
    have h0 : w.heap[b]? = some (.cells cs t (0, 0)) := h
    simpa [Array.getElem?_eq_getElem hlt] using h0
  show (w.heap.modify b _)[b]? = _
  rw [Array.getElem?_eq_getElem (by simpa using hlt), Array.getElem_modify_self, h']
  rfl
theorem Blk.ce1 (h : Blk w b #[v0] t) : w.cell? ⟨b, 0, none⟩ = some v0 := Blk.at h 0 (by simp)
theorem Blk.fr1 (h : Blk w b #[v0] t) : w.frozen? ⟨b, 0, none⟩ = false := Blk.free h 0
theorem Blk.ce3 (h : Blk w b #[v0, v1, v2] t) : w.cell? ⟨b, 0, none⟩ = some v0 ∧ w.cell? ⟨b, 1, none⟩ = some v1 ∧ w.cell? ⟨b, 2, none⟩ = some v2 := ⟨Blk.at h 0 (by simp), Blk.at h 1 (by simp), Blk.at h 2 (by simp)⟩
theorem Blk.fr3 (h : Blk w b #[v0, v1, v2] t) : w.frozen? ⟨b, 0, none⟩ = false ∧ w.frozen? ⟨b, 1, none⟩ = false ∧ w.frozen? ⟨b, 2, none⟩ = false := ⟨Blk.free h 0, Blk.free h 1, Blk.free h 2⟩
end

/-- a fraction as a ratio -/
def kA (r : Rat) : Value := .agg #[.bool (sg r.num), .string (bstr r.num.natAbs), .string (bstr r.den)]
set_option maxHeartbeats 1000000 in
theorem kwhole_any (x : Nat) (w : World) (hx : Fil.dn 8 x ≤ 1099511627776) :
    Calls Tryz.prog 19 #[.string (bstr x)] w fun r w' => r = .returned (.pointer (some ⟨w.heap.size, 0, none⟩)) ∧ IntAt w' w.heap.size 0 x ∧ Below w.heap.size w w' := by
  have hsz := bstr_size x
  have hrc := run_conv
  go_enter Tryz.func19, Tryz.ntmps19
  go_wp2_with fail
  have hbx : Below w.heap.size w (w.alloc (Obj.cells #[Value.bool false, Value.slice none 0 0] 70)) := (Below.refl _ _).alloc (Nat.le_refl _) _
  have hr0 : Room (w.alloc (Obj.cells #[Value.bool false, Value.slice none 0 0] 70)) w.heap.size 0 := Room.new _ 70 _ (by decide) (by simp)
  have hsz2 : (w.alloc (Obj.cells #[Value.bool false, Value.slice none 0 0] 70)).heap.size = w.heap.size + 1 := by simp
  have hslc := convW_slc (w.alloc (Obj.cells #[Value.bool false, Value.slice none 0 0] 70)) x
  have hcb := convW_below (w.alloc (Obj.cells #[Value.bool false, Value.slice none 0 0] 70)) (bstr x)
  rw [hsz2] at hslc
  have hr1 := hr0.below hcb
  refine (setbytes_any w.heap.size 0 _ (Fil.dn 8 x) _ x _ hr1 (lt_dn (by omega) x) hx hslc).mono ?_
  rintro r w1 ⟨rfl, hI, hB⟩
  have hb2 := hbx.trans (hcb.mono (by rw [hsz2]; omega))
  have hb3 := hb2.trans (hB.below (B := w.heap.size) (Nat.le_refl _) (by have := hcb.size; omega))
  clear hb2 hB hr0 hr1 hslc hcb hbx hsz2 hrc hsz
  go_wp2
  go_ret
  exact ⟨rfl, hI, hb3⟩
set_option maxHeartbeats 1000000 in
theorem klaid_any (b o : Nat) (z : Int) (w : World) (h : IntAt w b o z) (hz : Fil.dn 32 z.natAbs ≤ 1099511627776) :
    Calls Tryz.prog 28 #[.pointer (some ⟨b, o, none⟩)] w fun r w' => r = .returned (.string (bstr z.natAbs)) ∧ Below w.heap.size w w' := by
  have hby := fun W h => bytes_any b o z W h hz
  go_enter Tryz.func28, Tryz.ntmps28
  go_wp2_with fail
  refine (hby _ h).mono ?_
  rintro r w1 ⟨rfl, hrow, hb1⟩
  have hrb := run_back w1 w.heap.size z.natAbs hrow
  clear hby h hrow
  go_wp2
  go_ret
  exact ⟨rfl, by first | exact hb1 | exact hb1.drew⟩
theorem ratnum_any (b : Nat) (w : World) : Calls Tryz.prog 72 #[.pointer (some ⟨b, 0, none⟩)] w fun e w' => e = .returned (.pointer (some ⟨b, 0, none⟩)) ∧ w = w' := by
  go_enter Tryz.func72, Tryz.ntmps72
  go_wp2
  go_ret
  exact ⟨rfl, rfl⟩
theorem ratden_any (b : Nat) (w : World) : Calls Tryz.prog 73 #[.pointer (some ⟨b, 0, none⟩)] w fun e w' => e = .returned (.pointer (some ⟨b, 2, none⟩)) ∧ w = w' := by
  go_enter Tryz.func73, Tryz.ntmps73
  go_wp2
  go_ret
  exact ⟨rfl, rfl⟩
end Go.Proofs.YtbhfnigblhfikaaGreat
