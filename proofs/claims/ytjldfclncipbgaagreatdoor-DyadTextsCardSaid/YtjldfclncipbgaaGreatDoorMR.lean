/- strconv.Itoa and Atoi where the card's tables lie. -/
import Derived.Test.YtjldfclncipbgaaGreatDoorMQ
import Derived.Test.YtjldfclncipbgaaGreatDoorMP
import Derived.WalkSmall
import Derived.ChangeBears2
namespace Go.Proofs.YtjldfclncipbgaaGreatDoor
open Go Go.RowKit Go.PlainAid Fil

/-- what the cards lay of the library's variables -/
def TabK (w : World) : Prop := Tab w ∧ Lib.TabIs Tryz.prog w "internal/strconv.uint64pow10" .u64 Lib.pow10Tab ∧ ∃ tp p, w.var? Tryz.prog "strconv.ErrSyntax" = some #[.iface tp p]
theorem TabK.tab {w : World} (h : TabK w) : Tab w := h.1
theorem var_lt {w : World} {n : String} {g : Nat} {v : Value} {l : List Value} (hg : Tryz.prog.globalNamed n = some g) (h : w.var? Tryz.prog n = some (v :: l).toArray) : g < w.heap.size :=
  World.block_lt_of_cell? _ ⟨g, 0, none⟩ (u := v) (by rw [World.var?_cell hg h 0]; rfl)
theorem TabK.below {w w' : World} (h : TabK w) (hb : Below w.heap.size w w') : TabK w' := by
  obtain ⟨h1, h2, tp, p, h3⟩ := h
  refine ⟨h1.below hb, ?_, tp, p, ?_⟩
  · exact var?_below hb (g := 4) (by kernel_rfl) (var_lt (v := .int .u64 1) (l := (Lib.pow10Tab.tail).map fun z => Value.int .u64 z) (by kernel_rfl) h2) h2
  · exact var?_below hb (g := 1) (by kernel_rfl) (var_lt (v := .iface tp p) (l := []) (by kernel_rfl) h3) h3
theorem below_grow9 (w : World) (k : Nat) (os : Array Obj) : Below w.heap.size w (Sort.grow (w.drewN k) os) :=
  ⟨rfl, rfl, rfl, by show w.heap.size ≤ (w.heap ++ os).size; rw [Array.size_append]; omega, fun j hj => by show (w.heap ++ os)[j]? = w.heap[j]?; rw [Array.getElem?_append_left hj]⟩
theorem citoa (e : Int) (w : World) (hT : TabK w) (h0 : -9223372036854775808 ≤ e) (h1 : e ≤ 9223372036854775807) :
    Calls Tryz.prog 26 #[.int .i64 e] w fun r w' => r = .returned (.string ⟨(itx e).toArray⟩) ∧ Below w.heap.size w w' := by
  refine (Tryz.strconv_Itoa e h0 h1 w hT.2.1).mono ?_
  rintro r w' ⟨rfl, k, os, rfl⟩
  exact ⟨by rw [itoa_itx], below_grow9 _ _ _⟩
theorem catoi (s : ByteArray) (n : Int) (w : World) (hl : s.size ≤ 18) (h : Lib.atoi s.data.toList = some n) :
    Calls Tryz.prog 30 #[.string s] w fun r w' => r = .returned (.tuple #[.int .i64 n, .nilIface]) ∧ Below w.heap.size w w' := by
  refine (Tryz.strconv_Atoi s n hl h w).mono ?_
  rintro r w' ⟨rfl, t, rfl⟩
  exact ⟨rfl, Lib.bytesWorld_below _ _ _⟩
theorem catoi_bad (s : ByteArray) (w : World) (hT : TabK w) (hl : s.size ≤ 18) (h : Lib.atoi s.data.toList = none) :
    Calls Tryz.prog 30 #[.string s] w fun r w' => (∃ tp pv, r = .returned (.tuple #[.int .i64 0, .iface tp pv])) ∧ Below w.heap.size w w' := by
  obtain ⟨tp, p, h3⟩ := hT.2.2
  refine (Tryz.strconv_Atoi_err_var s hl h tp p w h3).mono ?_
  rintro r w' ⟨N, rfl, _, _, hb⟩
  exact ⟨⟨_, _, rfl⟩, hb⟩
end Go.Proofs.YtjldfclncipbgaaGreatDoor
