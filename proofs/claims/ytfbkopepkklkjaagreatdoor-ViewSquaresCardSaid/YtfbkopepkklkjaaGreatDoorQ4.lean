/- sort.Search; floats as Dyads, their squares; bits.Finite. -/
import Derived.Test.YtfbkopepkklkjaaGreatDoorQ1
import Derived.Test.YtfbkopepkklkjaaGreatDoorV3
import Derived.Test.YtfbkopepkklkjaaGreatDoorBN
namespace Go.Proofs.YtfbkopepkklkjaaGreatDoor
open Go Go.RowKit Go.PlainAid Fil

set_option maxHeartbeats 4000000 in
set_option maxRecDepth 100000 in
theorem search_any (g : Nat) (cb : Array Value) (z : Int) (n : Nat) (p : Nat → Bool) (w : World) (hz : z = (n : Int)) (eg : ∀ args w, (callFunc g args).run Tryz.prog w = .ok (.enter g args) w) (hsz : n < 9223372036854775808)
    (hf : ∀ (W : World) (i : Nat), i < n → Below w.heap.size w W → Calls Tryz.prog g (#[.int .i64 i] ++ cb) W fun e w' => e = .returned (.bool (p i)) ∧ Below W.heap.size W w')
    (hmono : ∀ a b, a ≤ b → b < n → p a = true → p b = true) :
    Calls Tryz.prog 84 #[.int .i64 z, .func (.func g) #[] cb] w fun e w' => e = .returned (.int .i64 (lst p n : Nat)) ∧ Below w.heap.size w w' := by
  subst hz
  have HF := Lib.hid hf
  have M := Lib.hid hmono
  clear hf hmono
  generalize hcnt : lst p n = cnt
  have CN := Lib.hid hcnt
  clear hcnt
  go_enter Tryz.func84, Tryz.ntmps84
  go_wp2
  go_loopg [5, 6] n (fun kx s5 s6 wr => ∃ (lo hi : Nat), s5 = .int .i64 lo ∧ s6 = .int .i64 hi ∧ lo ≤ hi ∧ hi ≤ n ∧ hi - lo ≤ kx ∧ Hid ((∀ t, t < lo → p t = false) ∧ (hi < n → p hi = true)) ∧ Below w.heap.size w wr)
  case atStart => exact ⟨0, n, rfl, rfl, Nat.zero_le _, Nat.le_refl _, by omega, Lib.hid ⟨fun t ht => absurd ht (Nat.not_lt_zero _), fun h => absurd h (Nat.lt_irrefl _)⟩, Below.refl _ _⟩
  case round =>
    obtain ⟨lo, hi, rfl, rfl, hlh, hin, hg, I, hB⟩ := hrel
    by_cases hlt : lo < hi
    · have hc := HF.out _ ((lo + hi) / 2) (by omega) hB
      rw [show (((lo + hi) / 2 : Nat) : Int) = ((lo : Int) + (hi : Int)) / 2 by omega] at hc
      have hw : IntKind.u64.wrap (wrap64 ((lo : Int) + (hi : Int))) = (lo : Int) + hi := by
        rw [IntKind.wrap_u64]; unfold wrap64; omega
      cases hp : p ((lo + hi) / 2) <;> rw [hp] at hc
      · have HP := Lib.hid hp
        clear hp
        go_wp2_with (go_at_fn g; refine hc.mono ?_; rintro e w' ⟨rfl, hb'⟩)
        go_roundg (hi - ((lo + hi) / 2 + 1))
        case measure => omega
        case rel =>
          refine ⟨(lo + hi) / 2 + 1, hi, by rw [show ((lo : Int) + (hi : Int)) / 2 + 1 = (((lo + hi) / 2 + 1 : Nat) : Int) by omega], rfl, by omega, hin, Nat.le_refl _, Lib.hid ⟨fun t ht => ?_, I.out.2⟩, hB.trans (hb'.mono hB.size)⟩
          cases h : p t with
          | false => rfl
          | true => have := M.out t ((lo + hi) / 2) (by omega) (by omega) h; rw [HP.out] at this; cases this
      · have HP := Lib.hid hp
        clear hp
        go_wp2_with (go_at_fn g; refine hc.mono ?_; rintro e w' ⟨rfl, hb'⟩)
        go_roundg ((lo + hi) / 2 - lo)
        case measure => omega
        case rel =>
          exact ⟨lo, (lo + hi) / 2, rfl, by rw [show ((lo : Int) + (hi : Int)) / 2 = (((lo + hi) / 2 : Nat) : Int) by omega], by omega, by omega, Nat.le_refl _, Lib.hid ⟨I.out.1, fun _ => HP.out⟩, hB.trans (hb'.mono hB.size)⟩
    · obtain rfl : hi = lo := by omega
      have ecnt : cnt = hi := by
        rw [← CN.out]
        exact lst_is hin I.out.1 I.out.2
      subst ecnt
      go_wp2
      go_ret
      exact ⟨rfl, hB⟩

theorem cfl (b : Nat) (w : World) (hb : b < 18446744073709551616) (h : flQ b ≠ 2047) (hT : Tab w) :
    Calls Tryz.prog 76 #[.float .f64 b] w fun r w' => r = .returned (.tuple #[.agg #[.bool (flY b).n, .string (bstr (flY b).x), .int .i64 (flY b).e], .int .i64 0]) ∧ Below w.heap.size w w' := by
  have k := dfloat_ok b w hb h hT
  unfold mkV dyR at k
  rw [show mkR (sz (fs b) (flM b)) (flE b) = 0 from mkR_ok (fl_ok h)] at k
  exact k
theorem sz_not (s : Bool) (m : Nat) : sz (!s) m = -sz s m := by cases s <;> simp [sz]
theorem sub_self {b : Nat} (h : flQ b ≠ 2047) : floatBits .sub .f64 b b = some 0 := by
  show Ieee.double.sub b b = some 0
  unfold Ieee.Format.sub
  rw [read_fl h, show (Ieee.Datum.number (fs b) (flM b) (flE b)).opposite = .number (!fs b) (flM b) (flE b) from rfl, sum_num]
  have e : addZ (sz (fs b) (flM b)) (flE b) (sz (!fs b) (flM b)) (flE b) = 0 := by
    unfold addZ
    rw [sz_not, Int.neg_mul, Int.add_right_neg]
  rw [e, if_pos rfl, show (fs b && !fs b) = false by cases fs b <;> rfl]
  simp [Ieee.Format.write, Ieee.Format.nearest]
  rfl
theorem finite_any (b : Nat) (w : World) (h : flQ b ≠ 2047) : Calls Tryz.prog 85 #[.float .f64 b] w fun r w' => r = .returned (.bool true) ∧ Below w.heap.size w w' := by
  have B0 := Below.refl w.heap.size w
  have h1 := fun W => run_float_arith (P := Tryz.prog) W .sub 57 .f64 b b 0 (sub_self h)
  have e1 : (FloatKind.f64.format.order 0 0 == some .eq) = true := by kernel_rfl
  clear h
  go_enter Tryz.func85, Tryz.ntmps85
  go_wp2
  go_ret
  exact ⟨rfl, B0⟩

/-- the square of a float that is finite and not below 0 -/
theorem pos_fin {b : Nat} (h : b < 9218868437227405312) : flQ b ≠ 2047 := flQ_fin (by rw [fr_lt (by omega)]; exact h)
theorem fl_sq {b : Nat} (h : b < 9218868437227405312) : (yMul (flY b) (flY b)).2 = 0 ∧ (yMul (flY b) (flY b)).1.v * 2 ^ lowM = (flY b).v * (flY b).v := by
  have hd := flY_ok b
  have hk : mkOk (sz (fs b) (flM b) * sz (fs b) (flM b)) (flE b + flE b) = true := by
    have h1 := flE_bd b
    refine unit_ok (K := 106) (by omega) ?_ (by omega) (by omega)
    rw [Int.natAbs_mul, sz_abs]
    have h2 := flM_53 b
    exact Nat.lt_of_lt_of_le (Nat.mul_lt_mul'' h2 h2) (by rw [← Nat.pow_add]; exact Nat.le_refl _)
  have h3 : (flY b).v = W (sz (fs b) (flM b)) (flE b) := mkD_v (fl_ok (pos_fin h)) (flE_lo b)
  have h4 := flE_bd b
  have hl := lowM_ge
  have h5 := yMul_small hd hd h3 h3 (flE_lo b) (flE_lo b) (by omega) hk
  exact ⟨h5.1, yMul_v hd hd h5.1⟩
theorem fl_v {b : Nat} (h : b < 9218868437227405312) : (flY b).v = (mv b * uN : Nat) := by
  rw [flY_v (pos_fin h), fr_lt (by omega), fs_lt (by omega)]; rfl
/-- is the square of the float of these bits at least n? -/
def rpB (n : DY) (b : Nat) : Bool := decide (0 ≤ yCmp (yMul (flY b) (flY b)).1 n)
theorem yCmp_ge {a b : DY} : 0 ≤ yCmp a b ↔ b.v ≤ a.v := by
  have := @yCmp_lt a b
  omega
theorem rpB_iff {n : DY} {b : Nat} (h : b < 9218868437227405312) : rpB n b = true ↔ n.v * 2 ^ lowM ≤ ((mv b * uN : Nat) : Int) * ((mv b * uN : Nat) : Int) := by
  unfold rpB
  rw [decide_eq_true_iff, yCmp_ge, ← fl_v h, ← (fl_sq h).2]
  constructor
  · intro k; exact Int.mul_le_mul_of_nonneg_right k (Int.le_of_lt (ppi _))
  · intro k; exact Int.le_of_mul_le_mul_right k (ppi _)
theorem rpB_mono {n : DY} {a b : Nat} (hab : a ≤ b) (hb : b < 9218868437227405312) (h : rpB n a = true) : rpB n b = true := by
  rw [rpB_iff (by omega)] at h
  rw [rpB_iff hb]
  have h1 := mvu_le hab
  exact Int.le_trans h (by rw [← Int.natCast_mul, ← Int.natCast_mul]; exact Int.ofNat_le.2 (Nat.mul_le_mul h1 h1))
end Go.Proofs.YtfbkopepkklkjaaGreatDoor
