/- The walk over dyad.Near at the number 3 (awake). -/
import Derived.Test.YtgcifpjhhoalmaaDoorRb
namespace Go.Proofs.YtgcifpjhhoalmaaDoor
open Go Go.RowKit Go.PlainAid Fil

set_option maxHeartbeats 1000000 in
theorem ldexp_three (w : World) : Calls Tryd.prog 146 #[.float .f64 4843621399236968448, .int .i64 (-51)] w fun r w' => r = .returned (.float .f64 4613937818241073152) ∧ w = w' := by
  have h := fun W => ldexp_norm 1075 2251799813685248 1024 (-51) 1 4843621399236968448 4613937818241073152 4613937818241073152 W (by omega) (by omega) (by omega) (by kernel_rfl) (by kernel_rfl) (by kernel_rfl) (by kernel_rfl) (by omega) (by omega) (by omega) (by omega) (by omega) (by omega) (by omega) (by kernel_rfl)
  go_enter Tryd.func146, Tryd.ntmps146
  go_wp2_with (go_at_call 173; go_must (refine (h _).mono ?_); rintro r w1 ⟨rfl, rfl⟩)
  go_ret
  exact ⟨rfl, rfl⟩

theorem ok_three : okD false 3 0 := .inr ⟨by decide, by rw [dn8_bl]; decide, by omega, by omega⟩

set_option maxHeartbeats 2000000 in
theorem near_three (w : World) : Calls Tryd.prog 19 #[.agg #[.bool false, .string (bstr 3), .int .i64 0]] w fun r w' => r = .returned (.tuple #[.float .f64 4613937818241073152, .int .i64 0]) ∧ Below w.heap.size w w' := by
  have hround : ∀ W : World, Calls Tryd.prog 98 #[.agg #[.bool false, .string (bstr 3), .int .i64 0], .func (.func 99) #[] #[]] W fun r w' => r = .returned (.tuple #[.float .f64 4613937818241073152, .int .i64 0]) ∧ Below W.heap.size W w' := by
    intro W
    have hc := fun V => check_any false (bstr 3) 0 V (bstr_len ok_three)
    rw [mayB_ok ok_three, okE_t] at hc
    have ht := fun V => dtop_ok false 3 0 V ok_three
    rw [show topZ 3 0 = 1 from rfl, show decide (3 ≠ 0) = true from rfl] at ht
    have hcut := fun V => dcut_exact false 3 0 1 (-51) 51 V ok_three (by omega) (by omega) (by decide) (by omega) (by omega)
    rw [show ((3 * 2 ^ 51 : Nat) : Int) = 6755399441055744 from rfl] at hcut
    have hfl : floatOfInt .f64 6755399441055744 = 4843621399236968448 := by kernel_rfl
    have cc := fun (w1 : World) hb => box_cells W false (bstr 3) 0 (w' := w1) hb
    go_enter Tryd.func98, Tryd.ntmps98
    go_wp2_with fail
    refine (hc _).mono ?_
    rintro r w1 ⟨rfl, hb1⟩
    have hB1 : Below W.heap.size W w1 := ((Below.refl _ _).alloc (Nat.le_refl _) _).trans (hb1.mono (by simp))
    have hs1 := hb1.size
    obtain ⟨c0, c1, c2⟩ := cc _ hb1
    go_wp2_with fail
    refine (ht _).mono ?_
    rintro r w2 ⟨rfl, hb2⟩
    have hb2' := hb1.trans (hb2.mono hs1)
    have hs2 := hb2'.size
    have hB2 : Below W.heap.size W w2 := hB1.trans (hb2.mono hB1.size)
    clear c0 c1 c2 hb1 hb2 hB1 hs1
    obtain ⟨c0, c1, c2⟩ := cc _ hb2'
    go_wp2_with fail
    refine (hcut _).mono ?_
    rintro r w3 ⟨rfl, hb3⟩
    have hb3' := hb2'.trans (hb3.mono hs2)
    have hB3 : Below W.heap.size W w3 := hB2.trans (hb3.mono hB2.size)
    clear c0 c1 c2 hb2' hb3 hB2 hs2
    obtain ⟨c0, c1, c2⟩ := cc _ hb3'
    clear hb3' cc hc ht hcut
    go_wp2_with (go_at_call 146; go_must (refine (ldexp_three _).mono ?_); rintro r w4 ⟨rfl, rfl⟩)
    go_returns
    exact ⟨rfl, hB3⟩
  go_enter Tryd.func19, Tryd.ntmps19
  go_wp2_with fail
  refine (hround _).mono ?_
  rintro r w1 ⟨rfl, hb1⟩
  have hB1 : Below w.heap.size w w1 := ((Below.refl _ _).alloc (Nat.le_refl _) _).trans (hb1.mono (by simp))
  go_wp2
  go_returns
  exact ⟨rfl, hB1⟩
end Go.Proofs.YtgcifpjhhoalmaaDoor
