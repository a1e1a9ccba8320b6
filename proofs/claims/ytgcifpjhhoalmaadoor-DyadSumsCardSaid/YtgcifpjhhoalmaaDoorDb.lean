/- The walk over dyad.Check. -/
import Derived.Test.YtgcifpjhhoalmaaDoorDa
namespace Go.Proofs.YtgcifpjhhoalmaaDoor
open Go Go.RowKit Go.PlainAid Fil

/-- may a Dyad be? -/
def mayB (neg : Bool) (s : ByteArray) (e : Int) : Bool :=
  if s.size = 0 then !neg && (e == 0) else natB s && (bt s (s.size - 1) % 2 == 1) && decide (-1048576 ≤ e) && decide (e ≤ 1048576)
theorem mayB_low {neg : Bool} {s : ByteArray} {e : Int} (h0 : ¬ s.size = 0) (h : e < -1048576) : mayB neg s e = false := by
  have d : decide (-1048576 ≤ e) = false := by
    rw [decide_eq_false_iff_not]; omega
  unfold mayB; rw [if_neg h0, d]; simp
theorem mayB_high {neg : Bool} {s : ByteArray} {e : Int} (h0 : ¬ s.size = 0) (h : 1048576 < e) : mayB neg s e = false := by
  have d : decide (e ≤ 1048576) = false := by
    rw [decide_eq_false_iff_not]; omega
  unfold mayB; rw [if_neg h0, d]; simp
theorem mayB_yes {neg : Bool} {s : ByteArray} {e : Int} (h0 : ¬ s.size = 0) (hn : natB s = true) (ho : (bt s (s.size - 1) % 2 == 1) = true) (h1 : -1048576 ≤ e) (h2 : e ≤ 1048576) : mayB neg s e = true := by
  unfold mayB; rw [if_neg h0, hn, ho, decide_eq_true h1, decide_eq_true h2]; rfl
/-- a Dyad by its fields -/
def dyA (neg : Bool) (s : ByteArray) (e : Int) : Value := .agg #[.bool neg, .string s, .int .i64 e]

set_option maxHeartbeats 2000000 in
theorem check_any (neg : Bool) (s : ByteArray) (e : Int) (w : World) (hs : s.size ≤ 9223372036854775807) :
    Calls Tryd.prog 32 #[.agg #[.bool neg, .string s, .int .i64 e]] w fun r w' => r = .returned (.int .i64 (okE (mayB neg s e))) ∧ Below w.heap.size w w' := by
  have hb0 : Below w.heap.size w (w.alloc (.cells #[.bool neg, .string s, .int .i64 e] 24)) := (Below.refl _ _).alloc (Nat.le_refl _) _
  by_cases h0 : s.size = 0
  · have h1 := str_nil h0
    cases neg
    · by_cases he : e = 0
      · subst he
        have HB : Hid (mayB false s 0 = true) := Lib.hid (by simp [mayB, h0])
        clear h0
        go_enter Tryd.func32, Tryd.ntmps32
        go_wp2
        go_ret
        exact ⟨by rw [HB.out]; rfl, hb0⟩
      · have he' : (e == 0) = false := by simpa using he
        have HB : Hid (mayB false s e = false) := Lib.hid (by simp [mayB, h0, he'])
        clear h0 he
        go_enter Tryd.func32, Tryd.ntmps32
        go_wp2
        go_ret
        exact ⟨by rw [HB.out]; rfl, hb0⟩
    · have HB : Hid (mayB true s e = false) := Lib.hid (by simp [mayB, h0])
      clear h0
      go_enter Tryd.func32, Tryd.ntmps32
      go_wp2
      go_ret
      exact ⟨by rw [HB.out]; rfl, hb0⟩
  · have h3 := str_cons (s := s) (by omega)
    have h4 : s.toList ≠ [] := by intro h; rw [h] at h3; cases h3
    have h5 : 0 < s.size := by omega
    have hb := get_bt s
    have hle := bt_le s (s.size - 1)
    have hge := bt_nonneg s (s.size - 1)
    cases hn : natB s
    · have HB : Hid (mayB neg s e = false) := Lib.hid (by simp [mayB, h0, hn])
      have Hn := Lib.hid hn
      clear hn h0 hb hle hge
      go_enter Tryd.func32, Tryd.ntmps32
      go_wp2_with (go_at_call 108; go_must (refine (natcheck_any s _ hs).mono ?_); rintro r w1 ⟨rfl, hb1⟩; rw [Hn.out, okE_f])
      go_ret
      exact ⟨by rw [HB.out]; rfl, hb0.trans (hb1.mono (by simp))⟩
    · have Hn := Lib.hid hn
      have cc : ∀ w1, Below (w.alloc (.cells #[.bool neg, .string s, .int .i64 e] 24)).heap.size (w.alloc (.cells #[.bool neg, .string s, .int .i64 e] 24)) w1 → w1.cell? ⟨w.heap.size, 1, none⟩ = some (.string s) ∧ w1.cell? ⟨w.heap.size, 2, none⟩ = some (.int .i64 e) := fun w1 h =>
        ⟨(h.cell (p := ⟨w.heap.size, 1, none⟩) (by simp)).trans (by rw [cell_of_row _ w.heap.size 1 _ 24 (0, 0) (heap_alloc_new w _)]; rfl), (h.cell (p := ⟨w.heap.size, 2, none⟩) (by simp)).trans (by rw [cell_of_row _ w.heap.size 2 _ 24 (0, 0) (heap_alloc_new w _)]; rfl)⟩
      cases ho : (bt s (s.size - 1) % 2 == 0)
      · have hodd : (bt s (s.size - 1) % 2 == 1) = true := by simp at ho ⊢; omega
        by_cases h7 : e < -1048576
        · have HB : Hid (mayB neg s e = false) := Lib.hid (mayB_low h0 h7)
          clear hn h0 hodd
          go_enter Tryd.func32, Tryd.ntmps32
          go_wp2_with (go_at_call 108; go_must (refine (natcheck_any s _ hs).mono ?_); rintro r w1 ⟨rfl, hb1⟩; rw [Hn.out, okE_t]; obtain ⟨c1, c2⟩ := cc _ hb1)
          go_ret
          exact ⟨by rw [HB.out]; rfl, hb0.trans (hb1.mono (by simp))⟩
        · by_cases h8 : 1048576 < e
          · have HB : Hid (mayB neg s e = false) := Lib.hid (mayB_high h0 h8)
            clear hn h0 hodd
            go_enter Tryd.func32, Tryd.ntmps32
            go_wp2_with (go_at_call 108; go_must (refine (natcheck_any s _ hs).mono ?_); rintro r w1 ⟨rfl, hb1⟩; rw [Hn.out, okE_t]; obtain ⟨c1, c2⟩ := cc _ hb1)
            go_ret
            exact ⟨by rw [HB.out]; rfl, hb0.trans (hb1.mono (by simp))⟩
          · have HB : Hid (mayB neg s e = true) := Lib.hid (mayB_yes h0 hn hodd (by omega) (by omega))
            clear hn h0 hodd
            go_enter Tryd.func32, Tryd.ntmps32
            go_wp2_with (go_at_call 108; go_must (refine (natcheck_any s _ hs).mono ?_); rintro r w1 ⟨rfl, hb1⟩; rw [Hn.out, okE_t]; obtain ⟨c1, c2⟩ := cc _ hb1)
            go_ret
            exact ⟨by rw [HB.out]; rfl, hb0.trans (hb1.mono (by simp))⟩
      · have hodd : (bt s (s.size - 1) % 2 == 1) = false := by simp at ho ⊢; omega
        have HB : Hid (mayB neg s e = false) := Lib.hid (by simp [mayB, h0, hodd])
        clear hn h0 hodd
        go_enter Tryd.func32, Tryd.ntmps32
        go_wp2_with (go_at_call 108; go_must (refine (natcheck_any s _ hs).mono ?_); rintro r w1 ⟨rfl, hb1⟩; rw [Hn.out, okE_t]; obtain ⟨c1, c2⟩ := cc _ hb1)
        go_ret
        exact ⟨by rw [HB.out]; rfl, hb0.trans (hb1.mono (by simp))⟩
end Go.Proofs.YtgcifpjhhoalmaaDoor
