/- Merged: V2 V3 Q4 -/
import Derived.Test.YtfbkopepkklkjaaGreatDoorV1
import Derived.Test.YtfbkopepkklkjaaGreatDoorBC
import Derived.Test.YtfbkopepkklkjaaGreatDoorQ1
import Derived.Test.YtfbkopepkklkjaaGreatDoorBN

/- Floats around a Dyad: plain arithmetic, no program in sight. -/
namespace Go.Proofs.YtfbkopepkklkjaaGreatDoor
open Go Go.RowKit Go.PlainAid Fil

theorem fr_word {n : Bool} {r : Nat} (h : r < 9223372036854775808) : fr (Ieee.double.word n r) = r := by
 cases n
 ·rw [d_word_f]; unfold fr; omega
 ·rw [d_word_t]; unfold fr; omega
theorem word_lt {n : Bool} {r : Nat} (h : r < 9223372036854775808) : Ieee.double.word n r < 18446744073709551616 := by
 cases n
 ·rw [d_word_f]; omega
 ·rw [d_word_t]; omega
theorem W_sz (n : Bool) (x : Nat) (e : Int) : W (sz n x) e = sz n (mg x e) := by unfold W mg; exact sz_shl n x _
theorem fl_mg {b : Nat} : mg (flM b) (flE b) = mv (fr b) * uN ∨ flQ b = 2047 := by
 by_cases hi : flQ b = 2047
 ·exact .inr hi
 left
 have hq := flQ_lt b
 by_cases h0 : flQ b = 0
 ·have hm : flM b = b % 4503599627370496 := if_pos h0
  have he : flE b = -1074 := by unfold flE; rw [if_pos h0]; rfl
  have hr : fr b = b % 4503599627370496 := by unfold flQ at h0; unfold fr; omega
  have h1 := mv_unit (m := b % 4503599627370496) (q := -1074) (by omega) (by omega) (by omega)
  rw [show ((-1074 : Int) + 1074).toNat * 4503599627370496 + b % 4503599627370496 = fr b by omega] at h1
  rw [h1]; unfold mg; rw [hm, he]
 ·have hm : flM b = b % 4503599627370496 + 4503599627370496 := if_neg h0
  have he : flE b = (flQ b : Int) - 1075 := by unfold flE; rw [if_neg h0]
  have hr : fr b = flQ b * 4503599627370496 + b % 4503599627370496 := by unfold flQ; unfold fr; omega
  have h1 := mv_unit (m := b % 4503599627370496 + 4503599627370496) (q := (flQ b : Int) - 1075) (by omega) (by omega) (by omega)
  rw [show ((flQ b : Int) - 1075 + 1074).toNat * 4503599627370496 + (b % 4503599627370496 + 4503599627370496) = fr b by omega] at h1
  rw [h1]; unfold mg; rw [hm, he]
theorem fl_mg' {b : Nat} (h : flQ b ≠ 2047) : mg (flM b) (flE b) = mv (fr b) * uN := fl_mg.resolve_right h
theorem flQ_fin {b : Nat} (h : fr b < 9218868437227405312) : flQ b ≠ 2047 := fun e => by have := flQ_inf.1 e; omega
theorem fr_fin {b : Nat} (h : flQ b ≠ 2047) : fr b < 9218868437227405312 := by
 rcases Nat.lt_or_ge (fr b) 9218868437227405312 with h1 | h1
 ·exact h1
 ·exact absurd (flQ_inf.2 h1) h
theorem okD.lo {n : Bool} {x : Nat} {e : Int} (h : okD n x e) : -(lowM : Int) ≤ e := by have h1 := h.e1; have := lowM_ge; omega

theorem nearF_eq {n : Bool} {x : Nat} {e : Int} (h : x ≠ 0) : nearF n x e = Ieee.double.word n (rgN x e) := if_neg h
theorem nearF_z (n : Bool) (e : Int) : nearF n 0 e = 0 := rfl
theorem okD.rung {n : Bool} {x : Nat} {e : Int} (h : okD n x e) (hx : x ≠ 0) : Rung x e := Go.Proofs.YtfbkopepkklkjaaGreatDoor.rung hx h.lo
theorem rgN_le {x : Nat} {e : Int} (R : Rung x e) : rgN x e ≤ 9218868437227405312 := by
 have := R.lt; rcases rgN_or R with h | h <;> omega
theorem nearF_ok {n : Bool} {x : Nat} {e : Int} (h : okD n x e) : fr (nearF n x e) ≤ 9218868437227405312 ∧ nearF n x e < 18446744073709551616 := by
 by_cases hx : x = 0
 ·subst hx; rw [nearF_z]; exact ⟨by decide, by omega⟩
 ·have := rgN_le (h.rung hx)
  rw [nearF_eq hx, fr_word (by omega)]
  exact ⟨by omega, word_lt (by omega)⟩
/-- the Dyad of a float -/
def flY (b : Nat) : DY := mkD (sz (fs b) (flM b)) (flE b)
theorem flY_ok (b : Nat) : (flY b).ok := mkD_ok _ _
theorem flE_lo (b : Nat) : -(lowM : Int) ≤ flE b := by have h1 := flE_bd b; have := lowM_ge; omega
theorem flY_v {b : Nat} (h : flQ b ≠ 2047) : (flY b).v = sz (fs b) (mv (fr b) * uN) := by
 unfold flY
 rw [mkD_v (fl_ok h) (flE_lo b), W_sz, fl_mg' h]
end Go.Proofs.YtfbkopepkklkjaaGreatDoor

/- Go's own sums and products are the exact ones, rounded: plain arithmetic, no program in sight. -/
namespace Go.Proofs.YtfbkopepkklkjaaGreatDoor
open Go Go.RowKit Go.PlainAid Fil

theorem read_fl {b : Nat} (h : flQ b ≠ 2047) : Ieee.double.read b = .number (fs b) (flM b) (flE b) := by
 have hf := fr_fin h
 unfold Ieee.Format.read
 rw [d_sign, d_binade, d_inf, d_least]
 have e : b % 9223372036854775808 = fr b := rfl
 have e2 : (b / 9223372036854775808 % 2 == 1) = fs b := rfl
 simp only [e, e2]
 have hq : flQ b = fr b / 4503599627370496 := flQ_fr b
 have hm : fr b % 4503599627370496 = b % 4503599627370496 := by unfold fr; omega
 by_cases h1 : fr b < 4503599627370496
 ·rw [if_pos h1]
  have h0 : flQ b = 0 := by omega
  have e3 : flM b = fr b := by unfold flM; rw [if_pos h0]; omega
  have e4 : flE b = -1074 := by unfold flE; rw [if_pos h0]; rfl
  rw [e3, e4]
 ·rw [if_neg h1, if_pos hf]
  have h0 : flQ b ≠ 0 := by omega
  have e3 : flM b = 4503599627370496 + fr b % 4503599627370496 := by unfold flM; rw [if_neg h0]; omega
  have e4 : flE b = -1074 + ((fr b / 4503599627370496 - 1 : Nat) : Int) := by unfold flE; rw [if_neg h0]; omega
  rw [e3, e4]
theorem signed_sz (s : Bool) (m k : Nat) : Ieee.signed s m k = sz s m * 2 ^ k := by
 unfold Ieee.signed
 rw [Nat.shiftLeft_eq, sz_shl]
 rfl
theorem sum_num (s t : Bool) (m n : Nat) (i j : Int) : (Ieee.Datum.number s m i).sum (.number t n j) = some (.number (if addZ (sz s m) i (sz t n) j = 0 then (s && t) else decide (addZ (sz s m) i (sz t n) j < 0)) (addZ (sz s m) i (sz t n) j).natAbs (min i j)) := by
 simp only [Ieee.Datum.sum, signed_sz, addZ]
 rfl
theorem flM_53 (b : Nat) : flM b < 2 ^ 53 := flM_lt b
theorem yMul_small {a b : DY} (ha : a.ok) (hb : b.ok) {za ea zb eb : Int} (va : a.v = W za ea) (vb : b.v = W zb eb) (hea : -(lowM : Int) ≤ ea) (heb : -(lowM : Int) ≤ eb) (hs : -(lowM : Int) ≤ ea + eb) (hk : mkOk (za * zb) (ea + eb) = true) :
  (yMul a b).2 = 0 ∧ (yMul a b).1.v = W (za * zb) (ea + eb) := by
 have h1 : W (a.z * b.z) (a.e + b.e) = W (za * zb) (ea + eb) := by
  refine pow_cancel ?_
  rw [W_mul _ _ ha.lo hb.lo (lo_sum ha hb), W_mul _ _ hea heb hs, ← va, ← vb]; rfl
 have h2 := mkOk_congr h1 (lo_sum ha hb) hs
 have h3 : (yMul a b).2 = 0 := mkR_ok (h2.trans hk)
 exact ⟨h3, (mkD_v (h2.trans hk) (lo_sum ha hb)).trans h1⟩
/-- an exact number's nearest float is Go's own -/
structure Goes (d : DY) (o : Nat) : Prop where
 ok : d.ok
 lt : o < 18446744073709551616
 fr : fr o ≤ 9218868437227405312
 fk : fk (nearF d.n d.x d.e) = fk o
 same : d.x ≠ 0 → nearF d.n d.x d.e = o
end Go.Proofs.YtfbkopepkklkjaaGreatDoor

/- sort.Search; floats as Dyads, their squares; bits.Finite. -/
namespace Go.Proofs.YtfbkopepkklkjaaGreatDoor
open Go Go.RowKit Go.PlainAid Fil

set_option maxHeartbeats 4000000 in
set_option maxRecDepth 100000 in
theorem search_any (g : Nat) (cb : Array Value) (z : Int) (n : Nat) (p : Nat → Bool) (w : World) (hz : z = (n : Int)) (eg : ∀ args w, (callFunc g args).run Tryz.prog w = .ok (.enter g args) w) (hsz : n < 9223372036854775808)
  (hf : ∀ (W : World) (i : Nat), i < n → Below w.heap.size w W → Calls Tryz.prog g (#[.int .i64 i] ++ cb) W fun e w' => e = .returned (.bool (p i)) ∧ Below W.heap.size W w')
  (hmono : ∀ a b, a ≤ b → b < n → p a = true → p b = true) :
  Calls Tryz.prog 84 #[.int .i64 z, .func (.func g) #[] cb] w fun e w' => e = .returned (.int .i64 (lst p n : Nat)) ∧ Below w.heap.size w w' := by
 subst hz
 have HF := Lib.hid hf
 have M := Lib.hid hmono
 clear hf hmono
 generalize hcnt : lst p n = cnt
 have CN := Lib.hid hcnt
 clear hcnt
 go_enter Tryz.func84, Tryz.ntmps84
 go_wp2
 go_loopg [5, 6] n (fun kx s5 s6 wr => ∃ (lo hi : Nat), s5 = .int .i64 lo ∧ s6 = .int .i64 hi ∧ lo ≤ hi ∧ hi ≤ n ∧ hi - lo ≤ kx ∧ Hid ((∀ t, t < lo → p t = false) ∧ (hi < n → p hi = true)) ∧ Below w.heap.size w wr)
 case atStart => exact ⟨0, n, rfl, rfl, Nat.zero_le _, Nat.le_refl _, by omega, Lib.hid ⟨fun t ht => absurd ht (Nat.not_lt_zero _), fun h => absurd h (Nat.lt_irrefl _)⟩, Below.refl _ _⟩
 case round =>
  obtain ⟨lo, hi, rfl, rfl, hlh, hin, hg, I, hB⟩ := hrel
  by_cases hlt : lo < hi
  ·have hc := HF.out _ ((lo + hi) / 2) (by omega) hB
   rw [show (((lo + hi) / 2 : Nat) : Int) = ((lo : Int) + (hi : Int)) / 2 by omega] at hc
   have hw : IntKind.u64.wrap (wrap64 ((lo : Int) + (hi : Int))) = (lo : Int) + hi := by
    rw [IntKind.wrap_u64]; unfold wrap64; omega
   cases hp : p ((lo + hi) / 2) <;> rw [hp] at hc
   ·have HP := Lib.hid hp
    clear hp
    go_wp2_with (go_at_fn g; refine hc.mono ?_; rintro e w' ⟨rfl, hb'⟩)
    go_roundg (hi - ((lo + hi) / 2 + 1))
    case measure => omega
    case rel =>
     refine ⟨(lo + hi) / 2 + 1, hi, by rw [show ((lo : Int) + (hi : Int)) / 2 + 1 = (((lo + hi) / 2 + 1 : Nat) : Int) by omega], rfl, by omega, hin, Nat.le_refl _, Lib.hid ⟨fun t ht => ?_, I.out.2⟩, hB.trans (hb'.mono hB.size)⟩
     cases h : p t with
     | false => rfl
     | true => have := M.out t ((lo + hi) / 2) (by omega) (by omega) h; rw [HP.out] at this; cases this
   ·have HP := Lib.hid hp
    clear hp
    go_wp2_with (go_at_fn g; refine hc.mono ?_; rintro e w' ⟨rfl, hb'⟩)
    go_roundg ((lo + hi) / 2 - lo)
    case measure => omega
    case rel =>
     exact ⟨lo, (lo + hi) / 2, rfl, by rw [show ((lo : Int) + (hi : Int)) / 2 = (((lo + hi) / 2 : Nat) : Int) by omega], by omega, by omega, Nat.le_refl _, Lib.hid ⟨I.out.1, fun _ => HP.out⟩, hB.trans (hb'.mono hB.size)⟩
  ·obtain rfl : hi = lo := by omega
   have ecnt : cnt = hi := by
    rw [← CN.out]
    exact lst_is hin I.out.1 I.out.2
   subst ecnt
   go_wp2
   go_ret
   exact ⟨rfl, hB⟩

theorem cfl (b : Nat) (w : World) (hb : b < 18446744073709551616) (h : flQ b ≠ 2047) (hT : Tab w) :
  Calls Tryz.prog 76 #[.float .f64 b] w fun r w' => r = .returned (.tuple #[.agg #[.bool (flY b).n, .string (bstr (flY b).x), .int .i64 (flY b).e], .int .i64 0]) ∧ Below w.heap.size w w' := by
 have k := dfloat_ok b w hb h hT
 unfold mkV dyR at k
 rw [show mkR (sz (fs b) (flM b)) (flE b) = 0 from mkR_ok (fl_ok h)] at k
 exact k
theorem sz_not (s : Bool) (m : Nat) : sz (!s) m = -sz s m := by cases s <;> simp [sz]
theorem sub_self {b : Nat} (h : flQ b ≠ 2047) : floatBits .sub .f64 b b = some 0 := by
 show Ieee.double.sub b b = some 0
 unfold Ieee.Format.sub
 rw [read_fl h, show (Ieee.Datum.number (fs b) (flM b) (flE b)).opposite = .number (!fs b) (flM b) (flE b) from rfl, sum_num]
 have e : addZ (sz (fs b) (flM b)) (flE b) (sz (!fs b) (flM b)) (flE b) = 0 := by
  unfold addZ
  rw [sz_not, Int.neg_mul, Int.add_right_neg]
 rw [e, if_pos rfl, show (fs b && !fs b) = false by cases fs b <;> rfl]
 simp [Ieee.Format.write, Ieee.Format.nearest]
 rfl
theorem finite_any (b : Nat) (w : World) (h : flQ b ≠ 2047) : Calls Tryz.prog 85 #[.float .f64 b] w fun r w' => r = .returned (.bool true) ∧ Below w.heap.size w w' := by
 have B0 := Below.refl w.heap.size w
 have h1 := fun W => run_float_arith (P := Tryz.prog) W .sub 57 .f64 b b 0 (sub_self h)
 have e1 : (FloatKind.f64.format.order 0 0 == some .eq) = true := by kernel_rfl
 clear h
 go_enter Tryz.func85, Tryz.ntmps85
 go_wp2
 go_ret
 exact ⟨rfl, B0⟩

/-- the square of a float that is finite and not below 0 -/
theorem pos_fin {b : Nat} (h : b < 9218868437227405312) : flQ b ≠ 2047 := flQ_fin (by rw [fr_lt (by omega)]; exact h)
theorem fl_sq {b : Nat} (h : b < 9218868437227405312) : (yMul (flY b) (flY b)).2 = 0 ∧ (yMul (flY b) (flY b)).1.v * 2 ^ lowM = (flY b).v * (flY b).v := by
 have hd := flY_ok b
 have hk : mkOk (sz (fs b) (flM b) * sz (fs b) (flM b)) (flE b + flE b) = true := by
  have h1 := flE_bd b
  refine unit_ok (K := 106) (by omega) ?_ (by omega) (by omega)
  rw [Int.natAbs_mul, sz_abs]
  have h2 := flM_53 b
  exact Nat.lt_of_lt_of_le (Nat.mul_lt_mul'' h2 h2) (by rw [← Nat.pow_add]; exact Nat.le_refl _)
 have h3 : (flY b).v = W (sz (fs b) (flM b)) (flE b) := mkD_v (fl_ok (pos_fin h)) (flE_lo b)
 have h4 := flE_bd b
 have hl := lowM_ge
 have h5 := yMul_small hd hd h3 h3 (flE_lo b) (flE_lo b) (by omega) hk
 exact ⟨h5.1, yMul_v hd hd h5.1⟩
theorem fl_v {b : Nat} (h : b < 9218868437227405312) : (flY b).v = (mv b * uN : Nat) := by
 rw [flY_v (pos_fin h), fr_lt (by omega), fs_lt (by omega)]; rfl
/-- is the square of the float of these bits at least n? -/
def rpB (n : DY) (b : Nat) : Bool := decide (0 ≤ yCmp (yMul (flY b) (flY b)).1 n)
theorem yCmp_ge {a b : DY} : 0 ≤ yCmp a b ↔ b.v ≤ a.v := by
 have := @yCmp_lt a b
 omega
theorem rpB_iff {n : DY} {b : Nat} (h : b < 9218868437227405312) : rpB n b = true ↔ n.v * 2 ^ lowM ≤ ((mv b * uN : Nat) : Int) * ((mv b * uN : Nat) : Int) := by
 unfold rpB
 rw [decide_eq_true_iff, yCmp_ge, ← fl_v h, ← (fl_sq h).2]
 constructor
 ·intro k; exact Int.mul_le_mul_of_nonneg_right k (Int.le_of_lt (ppi _))
 ·intro k; exact Int.le_of_mul_le_mul_right k (ppi _)
theorem rpB_mono {n : DY} {a b : Nat} (hab : a ≤ b) (hb : b < 9218868437227405312) (h : rpB n a = true) : rpB n b = true := by
 rw [rpB_iff (by omega)] at h
 rw [rpB_iff hb]
 have h1 := mvu_le hab
 exact Int.le_trans h (by rw [← Int.natCast_mul, ← Int.natCast_mul]; exact Int.ofNat_le.2 (Nat.mul_le_mul h1 h1))
end Go.Proofs.YtfbkopepkklkjaaGreatDoor
