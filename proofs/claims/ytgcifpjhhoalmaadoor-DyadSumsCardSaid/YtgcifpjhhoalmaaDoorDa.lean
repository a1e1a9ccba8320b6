/- The walks over nat.Check and dyad.Check. -/
import Derived.Test.YtgcifpjhhoalmaaDoorIf
import Derived.Test.YtgcifpjhhoalmaaDoorBs
namespace Go.Proofs.YtgcifpjhhoalmaaDoor
open Go Go.RowKit Go.PlainAid Fil

theorem str_nil {s : ByteArray} (h : s.size = 0) : s.toList = [] := by
  rw [ByteArray.toList_eq]; apply List.eq_nil_of_length_eq_zero; simpa using h
theorem str_cons {s : ByteArray} (h : 0 < s.size) : s.toList.isEmpty = false := by
  rw [ByteArray.toList_eq]
  cases hl : s.data.toList with
  | nil =>
    have h1 : s.data.toList.length = 0 := by rw [hl]; rfl
    have h2 : s.data.toList.length = s.size := Array.length_toList
    omega
  | cons _ _ => rfl

/-- may a Nat be? -/
def natB (s : ByteArray) : Bool := decide (s.size ≤ 16384) && (decide (s.size = 0) || !(bt s 0 == 0))

set_option maxHeartbeats 1000000 in
theorem natmay_one (s : ByteArray) (g : Nat) (w : World) (hc : w.cell? ⟨g, 0, none⟩ = some (.string s)) (hs : s.size ≤ 9223372036854775807) :
    Calls Tryd.prog 149 #[.slice (some ⟨g, 0, none⟩) 1 1] w fun e w' => e = .returned (.bool (natB s)) ∧ w = w' := by
  by_cases h1 : s.size ≤ 16384
  · by_cases h2 : s.size = 0
    · have hB : natB s = true := by simp [natB, h2]
      have h3 := str_nil h2
      have HB := Lib.hid hB
      have h4 : (s.size : Int) ≤ 16384 := by omega
      clear h2 hB h1
      go_enter Tryd.func149, Tryd.ntmps149
      go_wp2
      refine wp_loop_rounds 2 ?_
      rw [rounds_succ]
      go_wp2
      rw [rounds_succ]
      go_wp2
      go_ret
      exact ⟨by rw [HB.out]; rfl, rfl⟩
    · have h3 := str_cons (s := s) (by omega)
      have h4 : (s.size : Int) ≤ 16384 := by omega
      have h5 : 0 < s.size := by omega
      have hb := get_bt s
      cases h6 : (bt s 0 == 0)
      · have HB : Hid (natB s = true) := Lib.hid (by simp [natB, h1, h6])
        clear h1 h2
        go_enter Tryd.func149, Tryd.ntmps149
        go_wp2
        refine wp_loop_rounds 2 ?_
        rw [rounds_succ]
        go_wp2
        rw [rounds_succ]
        go_wp2
        go_ret
        exact ⟨by rw [HB.out]; rfl, rfl⟩
      · have HB : Hid (natB s = false) := Lib.hid (by simp [natB, h2, h6])
        clear h1 h2
        go_enter Tryd.func149, Tryd.ntmps149
        go_wp2
        refine wp_loop_rounds 2 ?_
        rw [rounds_succ]
        go_wp2
        go_ret
        exact ⟨by rw [HB.out]; rfl, rfl⟩
  · have HB : Hid (natB s = false) := Lib.hid (by simp [natB, h1])
    have h4 : (16384 : Int) < (s.size : Int) := by omega
    clear h1
    go_enter Tryd.func149, Tryd.ntmps149
    go_wp2
    refine wp_loop_rounds 2 ?_
    rw [rounds_succ]
    go_wp2
    go_ret
    exact ⟨by rw [HB.out]; rfl, rfl⟩

/-- the error beside an answer -/
def okE (b : Bool) : Int := if b then 0 else 2
theorem okE_t : okE true = 0 := rfl
theorem okE_f : okE false = 2 := rfl
theorem one_cell (w : World) (v : Value) (t : TypeId) : (w.alloc (.cells #[v] t)).cell? ⟨w.heap.size, 0, none⟩ = some v := by
  rw [cell_of_row _ w.heap.size 0 #[v] t (0, 0) (heap_alloc_new w _)]; rfl

set_option maxHeartbeats 1000000 in
theorem natcheck_any (s : ByteArray) (w : World) (hs : s.size ≤ 9223372036854775807) :
    Calls Tryd.prog 108 #[.string s] w fun e w' => e = .returned (.int .i64 (okE (natB s))) ∧ Below w.heap.size w w' := by
  have hc := one_cell w (.string s) 22
  cases hB : natB s
  · have HB := Lib.hid hB
    clear hB
    go_enter Tryd.func108, Tryd.ntmps108
    go_wp2_with (go_at_call 149; go_must (refine (natmay_one s w.heap.size _ hc hs).mono ?_); rintro e w' ⟨rfl, rfl⟩; rw [HB.out])
    go_ret
    exact ⟨rfl, (Below.refl _ _).alloc (Nat.le_refl _) _⟩
  · have HB := Lib.hid hB
    clear hB
    go_enter Tryd.func108, Tryd.ntmps108
    go_wp2_with (go_at_call 149; go_must (refine (natmay_one s w.heap.size _ hc hs).mono ?_); rintro e w' ⟨rfl, rfl⟩; rw [HB.out])
    go_ret
    exact ⟨rfl, (Below.refl _ _).alloc (Nat.le_refl _) _⟩
end Go.Proofs.YtgcifpjhhoalmaaDoor
