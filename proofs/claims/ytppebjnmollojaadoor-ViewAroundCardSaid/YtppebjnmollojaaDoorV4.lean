/- Bits alike or not, Nextafter towards plus infinity, Signbit; filigreelaw03.all of two and of four. -/
import Derived.Test.YtppebjnmollojaaDoorV2
import Derived.Test.YtppebjnmollojaaDoorBN
namespace Go.Proofs.YtppebjnmollojaaDoor
open Go Go.RowKit Go.PlainAid Fil

theorem ord_of {a b : Nat} (ha : fr a ≤ 9218868437227405312) (hb : fr b ≤ 9218868437227405312) : FloatKind.f64.format.order a b = some (compare (fk a) (fk b)) := order_some ha hb
theorem ord_eq {a b : Nat} (ha : fr a ≤ 9218868437227405312) (hb : fr b ≤ 9218868437227405312) : (FloatKind.f64.format.order a b == some .eq) = decide (fk a = fk b) := by
  rw [ord_of ha hb]
  rcases Int.lt_trichotomy (fk a) (fk b) with h | h | h
  · rw [Int.compare_eq_lt.2 h, decide_eq_false (by omega)]; rfl
  · rw [Int.compare_eq_eq.2 h, decide_eq_true h]; rfl
  · rw [Int.compare_eq_gt.2 h, decide_eq_false (by omega)]; rfl
theorem ord_ne {a b : Nat} (ha : fr a ≤ 9218868437227405312) (hb : fr b ≤ 9218868437227405312) : (FloatKind.f64.format.order a b != some .eq) = !decide (fk a = fk b) := by
  rw [← ord_eq ha hb]; rfl
theorem ord_le {a b : Nat} (ha : fr a ≤ 9218868437227405312) (hb : fr b ≤ 9218868437227405312) (h : fk a ≤ fk b) : (FloatKind.f64.format.order a b == some .lt || FloatKind.f64.format.order a b == some .eq) = true := by
  rw [ord_of ha hb]
  rcases Int.lt_trichotomy (fk a) (fk b) with h | h | h
  · rw [Int.compare_eq_lt.2 h]; rfl
  · rw [Int.compare_eq_eq.2 h]; rfl
  · omega

set_option maxRecDepth 20000 in
set_option maxHeartbeats 1000000 in
theorem copysign_least (w : World) : Calls Tryd.prog 53 #[.float .f64 1, .float .f64 9218868437227405312] w fun r w' => r = .returned (.float .f64 1) ∧ w = w' := by
  have h1 := run_f64bits
  have h2 := run_f64from
  have h3 : bits BinOp.andNot IntKind.u64 1 9223372036854775808 = 1 := by kernel_rfl
  have h4 : bits BinOp.and IntKind.u64 9218868437227405312 9223372036854775808 = 0 := by kernel_rfl
  have h5 : bits BinOp.or IntKind.u64 1 0 = 1 := by kernel_rfl
  go_enter Tryd.func53, Tryd.ntmps53
  go_wp2
  go_ret
  exact ⟨rfl, rfl⟩
theorem fk_top : fk 9218868437227405312 = 9218868437227405312 := by
  unfold fk; rw [fs_lt (by omega), fr_lt (by omega)]; rfl
theorem fr_top : fr 9218868437227405312 ≤ 9218868437227405312 := by rw [fr_lt (by omega)]; omega
theorem run_from_add (b : Nat) (w : World) : (callFunc 54 #[.int .u64 ((b : Int) + 1)]).run Tryd.prog w = .ok (.value (.float .f64 (b + 1))) w := by
  rw [run_f64from]; congr 3
theorem run_from_sub (b : Nat) (hb : 1 ≤ b) (w : World) : (callFunc 54 #[.int .u64 ((b : Int) - 1)]).run Tryd.prog w = .ok (.value (.float .f64 (b - 1))) w := by
  rw [run_f64from]; congr 3; omega

set_option maxRecDepth 20000 in
set_option maxHeartbeats 2000000 in
theorem nextafter_up (b : Nat) (w : World) (hb : b < 18446744073709551616) (hf : fr b ≤ 9218868437227405312) (hk : fk b < 9218868437227405312) : Calls Tryd.prog 24 #[.float .f64 b, .float .f64 9218868437227405312] w fun r w' => r = .returned (.float .f64 (nxt b)) ∧ w = w' := by
  have hi := fun c W (h : fr c ≤ 9218868437227405312) => isnan_any c W
  have hn1 := nan_no hf
  have hn2 := nan_no fr_top
  have hi1 := fun W => isnan_any b W
  have hi2 := fun W => isnan_any 9218868437227405312 W
  rw [hn1] at hi1
  rw [hn2] at hi2
  have e1 : (FloatKind.f64.format.order b 9218868437227405312 == some .eq) = false := by rw [ord_eq hf fr_top, fk_top]; exact decide_eq_false (by omega)
  have e2 : (FloatKind.f64.format.order 9218868437227405312 b == some .gt) = true := by rw [ord_gt fr_top hf, fk_top]; exact decide_eq_true hk
  have z0 : fr 0 ≤ 9218868437227405312 := by decide
  have e3 : (FloatKind.f64.format.order b 0 == some .eq) = decide (fk b = 0) := ord_eq hf z0
  have e4 : (FloatKind.f64.format.order b 0 == some .gt) = decide (0 < fk b) := ord_gt hf z0
  have hcs := copysign_least
  have h1 := run_f64bits
  have h2 := run_f64from
  by_cases h0 : fr b = 0
  · have k0 : fk b = 0 := by unfold fk; rw [h0]; split <;> rfl
    rw [decide_eq_true k0] at e3
    have hr : nxt b = 1 := if_pos h0
    rw [hr]
    clear h0 k0 hk hr hi
    go_enter Tryd.func24, Tryd.ntmps24
    go_wp2_with (first
      | (go_at_call 49; go_must (first | refine (hi1 _).mono ?_ | refine (hi2 _).mono ?_); rintro r w1 ⟨rfl, rfl⟩)
      | (go_at_call 53; go_must (refine (hcs _).mono ?_); rintro r w1 ⟨rfl, rfl⟩))
    go_ret
    exact ⟨rfl, rfl⟩
  · cases hs : fs b
    · have k0 : 0 < fk b := by rw [fk_pos hs]; omega
      rw [decide_eq_false (by omega)] at e3
      rw [decide_eq_true k0] at e4
      have hr : nxt b = b + 1 := by unfold nxt; rw [if_neg h0, hs]; rfl
      have hb2 : b < 9223372036854775808 := by
        rw [fs_ge hb] at hs; simpa using hs
      have hu : IntKind.u64.wrap ((b : Int) + 1) = (b : Int) + 1 := by rw [IntKind.wrap_u64]; omega
      have hfr := fun W => run_from_add b W
      rw [hr]
      clear h0 k0 hk hr hs hi h2
      go_enter Tryd.func24, Tryd.ntmps24
      go_wp2_with (first
        | (go_at_call 49; go_must (first | refine (hi1 _).mono ?_ | refine (hi2 _).mono ?_); rintro r w1 ⟨rfl, rfl⟩))
      go_ret
      exact ⟨rfl, rfl⟩
    · have k0 : fk b < 0 := by rw [fk_neg hs]; omega
      rw [decide_eq_false (by omega)] at e3
      rw [decide_eq_false (by omega)] at e4
      have hr : nxt b = b - 1 := by unfold nxt; rw [if_neg h0, hs]; rfl
      have hb2 : 1 ≤ b := by
        rcases Nat.eq_zero_or_pos b with h | h
        · subst h; exact absurd rfl h0
        · exact h
      have hu : IntKind.u64.wrap ((b : Int) - 1) = (b : Int) - 1 := by rw [IntKind.wrap_u64]; omega
      have hfr := fun W => run_from_sub b hb2 W
      rw [hr]
      clear h0 k0 hk hr hs hi h2
      go_enter Tryd.func24, Tryd.ntmps24
      go_wp2_with (first
        | (go_at_call 49; go_must (first | refine (hi1 _).mono ?_ | refine (hi2 _).mono ?_); rintro r w1 ⟨rfl, rfl⟩))
      go_ret
      exact ⟨rfl, rfl⟩
theorem cnext (b : Nat) (w : World) (hb : b < 18446744073709551616) (hf : fr b ≤ 9218868437227405312) (hk : fk b < 9218868437227405312) : Calls Tryd.prog 24 #[.float .f64 b, .float .f64 9218868437227405312] w fun r w' => r = .returned (.float .f64 (nxt b)) ∧ Below w.heap.size w w' :=
  (nextafter_up b w hb hf hk).mono fun _ _ ⟨h1, h2⟩ => ⟨h1, h2 ▸ Below.refl _ _⟩
theorem cinf (w : World) : Calls Tryd.prog 109 #[.int .i64 1] w fun r w' => r = .returned (.float .f64 9218868437227405312) ∧ Below w.heap.size w w' :=
  (minf_pos w).mono fun _ _ ⟨h1, h2⟩ => ⟨h1, h2 ▸ Below.refl _ _⟩
end Go.Proofs.YtppebjnmollojaaDoor
