/- Merged: BM V1 V2 V3 -/
import Derived.Test.YtfdnbogbankjjaaGreatDoorBL
import Derived.Test.YtfdnbogbankjjaaGreatDoorBI
import Derived.Test.YtfdnbogbankjjaaGreatDoorBH

/- The walks over math.IsInf with a sign, dyad.Against, the reference's Against. -/
namespace Go.Proofs.YtfdnbogbankjjaaGreatDoor
open Go Go.RowKit Go.PlainAid Fil

theorem fl_ok {b : Nat} (_h : flQ b ≠ 2047) : mkOk (sz (fs b) (flM b)) (flE b) = true := by
 have h1 := flM_lt b
 have h2 := flE_bd b
 have h3 : tz (flM b) ≤ 52 := by
  by_cases h0 : flM b = 0
  ·rw [h0, tz_zero]; omega
  ·have h4 := tz_le_log h0
   have h5 : (flM b).log2 < 53 := (Nat.log2_lt h0).2 (by omega)
   omega
 refine mkOk_yes ?_ ?_ ?_
 ·rw [sz_abs]
  refine Nat.le_trans (dn_le (n := 8) (by omega) ?_) (by omega)
  exact Nat.lt_of_le_of_lt (Nat.div_le_self _ _) (by omega)
 ·rw [sz_abs]; omega
 ·rw [sz_abs]; omega
end Go.Proofs.YtfdnbogbankjjaaGreatDoor

/- Rounding to floats by the number's magnitude: plain arithmetic, no program in sight. -/
namespace Go.Proofs.YtfdnbogbankjjaaGreatDoor
open Go Go.RowKit Go.PlainAid Fil

/-- the least place's unit, as a multiple of the low power's -/
def uN : Nat := 2 ^ (lowM - 1074)
/-- a magnitude as a multiple of the low power -/
def mg (x : Nat) (e : Int) : Nat := x * 2 ^ (e + lowM).toNat
theorem uN_pos : 0 < uN := Nat.two_pow_pos _
theorem mv_unit {m : Nat} {q : Int} (h0 : -1074 ≤ q) (h1 : -1074 < q → 4503599627370496 ≤ m) (hm : m ≤ 9007199254740992) : mv ((q + 1074).toNat * 4503599627370496 + m) * uN = m * 2 ^ (q + lowM).toNat := by
 have hl := lowM_ge
 rw [mv_rung h0 h1 hm]
 unfold uN
 rw [Nat.mul_assoc, ← Nat.pow_add]
 congr 2
 omega
theorem mg_zero (e : Int) : mg 0 e = 0 := Nat.zero_mul _
theorem mg_ne {x : Nat} (h : x ≠ 0) (e : Int) : mg x e ≠ 0 := Nat.mul_ne_zero h (by have := Nat.two_pow_pos (e + lowM).toNat; omega)

/-- what is kept below the highest float -/
theorem rd_spec {x : Nat} (hx : x ≠ 0) {e : Int} (he : -(lowM : Int) ≤ e) :
  mv (rdR x e) * uN ≤ mg x e ∧ mg x e < mv (rdR x e + 1) * uN ∧ (rdX x e = true → mg x e = mv (rdR x e) * uN) ∧ (x % 2 = 1 → rdX x e = false → mg x e ≠ mv (rdR x e) * uN) ∧
  (rdUp x e = true ↔ ((mv (rdR x e) + mv (rdR x e + 1)) * uN < 2 * mg x e ∨ ((mv (rdR x e) + mv (rdR x e + 1)) * uN = 2 * mg x e ∧ rdR x e % 2 = 1))) := by
 have hl := lowM_ge
 have hm := rdM_lt hx e
 have hq0 := rdQ_lo x e
 have hge := fun h => rdM_ge hx (e := e) h
 have e0 : mv (rdR x e) * uN = rdM x e * 2 ^ (rdQ x e + lowM).toNat := mv_unit hq0 hge (by omega)
 have e1 : mv (rdR x e + 1) * uN = (rdM x e + 1) * 2 ^ (rdQ x e + lowM).toNat := by
  rw [show rdR x e + 1 = (rdQ x e + 1074).toNat * 4503599627370496 + (rdM x e + 1) by unfold rdR; omega]
  exact mv_unit hq0 (fun h => by have := hge h; omega) (by omega)
 have hpar : rdR x e % 2 = rdM x e % 2 := by unfold rdR; omega
 rw [Nat.add_mul, e0, e1, hpar]
 have hP := Nat.two_pow_pos (rdQ x e + lowM).toNat
 by_cases hc : rdQ x e ≤ e
 ·have hX : rdX x e = true := decide_eq_true hc
  have hM : rdM x e = x * 2 ^ (e - rdQ x e).toNat := by unfold rdM; rw [if_pos hc]
  have hmg : mg x e = rdM x e * 2 ^ (rdQ x e + lowM).toNat := by
   unfold mg; rw [hM, show (e + lowM).toNat = (e - rdQ x e).toNat + (rdQ x e + lowM).toNat by omega, Nat.pow_add, Nat.mul_assoc]
  have hU : rdUp x e = false := by unfold rdUp; rw [hX]; rfl
  rw [hU, hX, hmg]
  generalize 2 ^ (rdQ x e + lowM).toNat = P at *
  generalize rdM x e = m at *
  rw [Nat.add_mul, Nat.one_mul]
  refine ⟨Nat.le_refl _, by omega, fun _ => rfl, fun _ h => by simp at h, ?_⟩
  constructor
  ·intro h; simp at h
  ·intro h; exfalso; generalize m * P = y at *; omega
 ·have hX : rdX x e = false := decide_eq_false hc
  obtain ⟨k, hk⟩ : ∃ k, k = (rdQ x e - e).toNat := ⟨_, rfl⟩
  have hM : rdM x e = x / 2 ^ k := by unfold rdM; rw [if_neg hc, hk]
  have hU : rdUp x e = upB x k := by unfold rdUp; rw [hX, hk]; rfl
  have hR := Nat.two_pow_pos (e + lowM).toNat
  have hPR : 2 ^ (rdQ x e + lowM).toNat = 2 ^ k * 2 ^ (e + lowM).toNat := by rw [show (rdQ x e + lowM).toNat = k + (e + lowM).toNat by omega, Nat.pow_add]
  have hodd : x % 2 = 1 → x % 2 ^ k ≠ 0 := by
   intro h1 h2
   obtain ⟨k', hk'⟩ : ∃ k', k = k' + 1 := ⟨k - 1, by omega⟩
   have h3 := Nat.div_add_mod x (2 ^ k)
   rw [h2, hk', Nat.pow_succ, Nat.add_zero] at h3
   have h4 : 2 ^ k' * 2 * (x / (2 ^ k' * 2)) = 2 * (2 ^ k' * (x / (2 ^ k' * 2))) := by rw [Nat.mul_comm (2 ^ k') 2, Nat.mul_assoc]
   omega
  have hd := Nat.div_add_mod x (2 ^ k)
  have hr := Nat.mod_lt x (Nat.two_pow_pos k)
  rw [hU, hX, hM, hPR]
  unfold upB mg
  generalize 2 ^ (e + lowM).toNat = R at *
  generalize 2 ^ k = p at *
  have hodd' := hodd
  generalize x % p = r at *
  obtain ⟨m, hm'⟩ : ∃ m, m = x / p := ⟨_, rfl⟩
  rw [← hm'] at hd ⊢
  have hxR : x * R = m * (p * R) + r * R := by
   rw [← hd, Nat.add_mul, Nat.mul_comm p m, Nat.mul_assoc]
  rw [hxR, Nat.add_mul, Nat.one_mul]
  have a1 : r * R < p * R := Nat.mul_lt_mul_of_pos_right hr hR
  have a2 : p * R < 2 * (r * R) ↔ p < 2 * r := by
   rw [← Nat.mul_assoc]; exact Nat.mul_lt_mul_right hR
  have a3 : p * R = 2 * (r * R) ↔ p = 2 * r := by
   rw [← Nat.mul_assoc]; exact ⟨fun h => Nat.eq_of_mul_eq_mul_right hR h, fun h => by rw [h]⟩
  have a4 : r * R = 0 → r = 0 := fun h => by
   rcases Nat.mul_eq_zero.1 h with h | h
   ·exact h
   ·omega
  generalize r * R = X at *
  generalize p * R = Y at *
  generalize m * Y = A at *
  refine ⟨by omega, by omega, fun h => by simp at h, fun h _ h2 => hodd h (a4 (by omega)), ?_⟩
  rw [Bool.or_eq_true, Bool.and_eq_true, decide_eq_true_eq, decide_eq_true_eq, decide_eq_true_eq, ← a2, ← a3]
  constructor
  ·rintro (h | ⟨h, h'⟩)
   ·left; omega
   ·right; exact ⟨by omega, h'⟩
  ·rintro (h | ⟨h, h'⟩)
   ·left; omega
   ·right; exact ⟨by omega, h'⟩
theorem rg_big {x : Nat} (hx : x ≠ 0) {e : Int} (he : -(lowM : Int) ≤ e) (ht : 1024 ≤ tpI x e) : mv 9218868437227405312 * uN ≤ mg x e := by
 have hl := lowM_ge
 have h1 := mv_unit (m := 4503599627370496) (q := 972) (by omega) (by omega) (by omega)
 rw [show ((972 : Int) + 1074).toNat * 4503599627370496 + 4503599627370496 = 9218868437227405312 from rfl] at h1
 rw [h1]
 have h2 := log_ge hx
 unfold tpI at ht
 have h3 : 2 ^ x.log2 * 2 ^ (e + lowM).toNat ≤ mg x e := Nat.mul_le_mul_right _ h2
 rw [← Nat.pow_add] at h3
 refine Nat.le_trans ?_ h3
 have h4 : (2 : Nat) ^ (52 + ((972 : Int) + lowM).toNat) ≤ 2 ^ (x.log2 + (e + lowM).toNat) := pmono (by omega)
 rw [Nat.pow_add 2 52, show (2 : Nat) ^ 52 = 4503599627370496 from rfl] at h4
 exact h4
/-- all that is needed of the rungs -/
structure Rung (x : Nat) (e : Int) : Prop where
 lt : rgL x e < 9218868437227405312
 lo : mv (rgL x e) * uN ≤ mg x e
 hi : mg x e < mv (rgL x e + 1) * uN ∨ (rgL x e = 9218868437227405311 ∧ mv 9218868437227405312 * uN ≤ mg x e ∧ rgX x e = false ∧ rgN x e = 9218868437227405312)
 ex : rgX x e = true → mg x e = mv (rgL x e) * uN
 od : x % 2 = 1 → rgX x e = false → mg x e ≠ mv (rgL x e) * uN
 up : mg x e < mv (rgL x e + 1) * uN → (rgN x e = rgL x e + 1 ∧ ((mv (rgL x e) + mv (rgL x e + 1)) * uN < 2 * mg x e ∨ ((mv (rgL x e) + mv (rgL x e + 1)) * uN = 2 * mg x e ∧ rgL x e % 2 = 1))) ∨ (rgN x e = rgL x e ∧ ¬ ((mv (rgL x e) + mv (rgL x e + 1)) * uN < 2 * mg x e ∨ ((mv (rgL x e) + mv (rgL x e + 1)) * uN = 2 * mg x e ∧ rgL x e % 2 = 1)))
theorem rung {x : Nat} (hx : x ≠ 0) {e : Int} (he : -(lowM : Int) ≤ e) : Rung x e := by
 by_cases ht : tpI x e < 1024
 ·obtain ⟨h1, h2, h3, h4, h5⟩ := rd_spec hx he
  have h6 := rdR_lt hx ht
  have hN : rgN x e = rdR x e + (rdUp x e).toNat := by unfold rgN; rw [if_neg (by omega)]
  refine ⟨?_, ?_, ?_, ?_, ?_, ?_⟩ <;> rw [rgL_small ht]
  ·exact h6
  ·exact h1
  ·exact .inl h2
  ·rw [rgX_small ht]; exact h3
  ·rw [rgX_small ht]; exact h4
  ·intro _
   rw [hN, ← h5]
   cases rdUp x e
   ·exact .inr ⟨Nat.add_zero _, by simp⟩
   ·exact .inl ⟨rfl, rfl⟩
 ·have ht' : 1024 ≤ tpI x e := by omega
  have h1 := rg_big hx he ht'
  have h2 : mv 9218868437227405311 * uN < mv 9218868437227405312 * uN := Nat.mul_lt_mul_of_pos_right (mv_lt (by omega)) uN_pos
  have hN : rgN x e = 9218868437227405312 := by unfold rgN; rw [if_pos ht']
  refine ⟨?_, ?_, ?_, ?_, ?_, ?_⟩ <;> rw [rgL_big ht']
  ·omega
  ·omega
  ·exact .inr ⟨rfl, h1, rgX_big ht', hN⟩
  ·rw [rgX_big ht']; simp
  ·intro _ _; omega
  ·intro h; rw [show 9218868437227405311 + 1 = 9218868437227405312 from rfl] at h; omega
theorem mvu_le {r s : Nat} (h : r ≤ s) : mv r * uN ≤ mv s * uN := Nat.mul_le_mul_right _ (mv_le h)
theorem mvu_lt {r s : Nat} (h : r < s) : mv r * uN < mv s * uN := Nat.mul_lt_mul_of_pos_right (mv_lt h) uN_pos
theorem lt_of_mvu {r s : Nat} (h : mv r * uN < mv s * uN) : r < s := by
 rcases Nat.lt_or_ge r s with h1 | h1
 ·exact h1
 ·have := mvu_le h1; omega
theorem Rung.cap {x : Nat} {e : Int} (h : Rung x e) {r : Nat} (hr : mg x e < mv r * uN) : rgL x e < r := lt_of_mvu (Nat.lt_of_le_of_lt h.lo hr)
theorem Rung.big {x : Nat} {e : Int} (h : Rung x e) : mg x e < mv 9218868437227405312 * uN ↔ mg x e < mv (rgL x e + 1) * uN := by
 have h1 := h.lt
 constructor
 ·intro h2; rcases h.hi with h3 | h3
  ·exact h3
  ·omega
 ·intro h2; exact Nat.lt_of_lt_of_le h2 (mvu_le (by omega))
theorem rgL_mono {x y : Nat} {e f : Int} (hx : Rung x e) (hy : Rung y f) (h : mg x e ≤ mg y f) : rgL x e ≤ rgL y f := by
 have h0 := hx.lt
 rcases hy.hi with h1 | h1
 ·have := hx.cap (Nat.lt_of_le_of_lt h h1); omega
 ·omega
theorem rgN_or {x : Nat} {e : Int} (h : Rung x e) : rgN x e = rgL x e ∨ (rgN x e = rgL x e + 1 ∧ rgX x e = false) := by
 rcases h.hi with h1 | h1
 ·rcases h.up h1 with ⟨h2, h3⟩ | ⟨h2, h3⟩
  ·right
   refine ⟨h2, ?_⟩
   cases hX : rgX x e
   ·rfl
   ·exfalso
    have h4 := h.ex hX
    have h5 := mvu_lt (show rgL x e < rgL x e + 1 by omega)
    rw [Nat.add_mul] at h3
    omega
  ·exact .inl h2
 ·exact .inr ⟨by omega, h1.2.2.1⟩
theorem rgN_mono {x y : Nat} {e f : Int} (hx : Rung x e) (hy : Rung y f) (h : mg x e ≤ mg y f) : rgN x e ≤ rgN y f := by
 have h0 := hx.lt
 have h1 := rgL_mono hx hy h
 have h2 := rgN_or hx
 have h3 := rgN_or hy
 by_cases h4 : rgL x e < rgL y f
 ·omega
 ·have h5 : rgL x e = rgL y f := by omega
  rcases hy.hi with h6 | h6
  ·have h7 := hy.up h6
   have h8 := hx.up (by rw [h5]; omega)
   rw [h5] at h8
   rw [h5] at h2
   generalize (mv (rgL y f) + mv (rgL y f + 1)) * uN = T at *
   omega
  ·omega
/-- one magnitude, one nearest float -/
theorem rgN_one {x y : Nat} {e f : Int} (hx : Rung x e) (hy : Rung y f) (h : mg x e = mg y f) : rgN x e = rgN y f := by
 have h1 := rgN_mono hx hy (by omega)
 have h2 := rgN_mono hy hx (by omega)
 omega
/-- a float's own number -/
theorem rg_own {x r : Nat} {e : Int} (hx : Rung x e) (ox : x % 2 = 1) (hr : r < 9218868437227405312) (h : mg x e = mv r * uN) : rgL x e = r ∧ rgX x e = true ∧ rgN x e = r := by
 have h1 : mg x e < mv (r + 1) * uN := by rw [h]; exact mvu_lt (by omega)
 have h2 := hx.cap h1
 have h0 : mg x e < mv 9218868437227405312 * uN := by rw [h]; exact mvu_lt (by omega)
 have h3 := hx.big.1 h0
 have h4 : r < rgL x e + 1 := lt_of_mvu (by omega)
 have h5 : rgL x e = r := by omega
 have hX : rgX x e = true := by
  cases hX : rgX x e
  ·exfalso; exact hx.od ox hX (by rw [h5, h])
  ·rfl
 refine ⟨h5, hX, ?_⟩
 rcases rgN_or hx with h6 | h6
 ·omega
 ·rw [hX] at h6; simp at h6
end Go.Proofs.YtfdnbogbankjjaaGreatDoor

/- Floats around a Dyad: plain arithmetic, no program in sight. -/
namespace Go.Proofs.YtfdnbogbankjjaaGreatDoor
open Go Go.RowKit Go.PlainAid Fil

theorem fr_word {n : Bool} {r : Nat} (h : r < 9223372036854775808) : fr (Ieee.double.word n r) = r := by
 cases n
 ·rw [d_word_f]; unfold fr; omega
 ·rw [d_word_t]; unfold fr; omega
theorem fs_word {n : Bool} {r : Nat} (h : r < 9223372036854775808) : fs (Ieee.double.word n r) = n := by
 cases n
 ·rw [d_word_f]; exact fs_lt h
 ·rw [d_word_t]; unfold fs
  rw [show (9223372036854775808 + r) / 9223372036854775808 % 2 = 1 by omega]; rfl
theorem word_lt {n : Bool} {r : Nat} (h : r < 9223372036854775808) : Ieee.double.word n r < 18446744073709551616 := by
 cases n
 ·rw [d_word_f]; omega
 ·rw [d_word_t]; omega
theorem W_sz (n : Bool) (x : Nat) (e : Int) : W (sz n x) e = sz n (mg x e) := by unfold W mg; exact sz_shl n x _
theorem fl_mg {b : Nat} : mg (flM b) (flE b) = mv (fr b) * uN ∨ flQ b = 2047 := by
 by_cases hi : flQ b = 2047
 ·exact .inr hi
 left
 have hq := flQ_lt b
 by_cases h0 : flQ b = 0
 ·have hm : flM b = b % 4503599627370496 := if_pos h0
  have he : flE b = -1074 := by unfold flE; rw [if_pos h0]; rfl
  have hr : fr b = b % 4503599627370496 := by unfold flQ at h0; unfold fr; omega
  have h1 := mv_unit (m := b % 4503599627370496) (q := -1074) (by omega) (by omega) (by omega)
  rw [show ((-1074 : Int) + 1074).toNat * 4503599627370496 + b % 4503599627370496 = fr b by omega] at h1
  rw [h1]; unfold mg; rw [hm, he]
 ·have hm : flM b = b % 4503599627370496 + 4503599627370496 := if_neg h0
  have he : flE b = (flQ b : Int) - 1075 := by unfold flE; rw [if_neg h0]
  have hr : fr b = flQ b * 4503599627370496 + b % 4503599627370496 := by unfold flQ; unfold fr; omega
  have h1 := mv_unit (m := b % 4503599627370496 + 4503599627370496) (q := (flQ b : Int) - 1075) (by omega) (by omega) (by omega)
  rw [show ((flQ b : Int) - 1075 + 1074).toNat * 4503599627370496 + (b % 4503599627370496 + 4503599627370496) = fr b by omega] at h1
  rw [h1]; unfold mg; rw [hm, he]
theorem fl_mg' {b : Nat} (h : flQ b ≠ 2047) : mg (flM b) (flE b) = mv (fr b) * uN := fl_mg.resolve_right h
theorem flQ_fin {b : Nat} (h : fr b < 9218868437227405312) : flQ b ≠ 2047 := fun e => by have := flQ_inf.1 e; omega
theorem fr_fin {b : Nat} (h : flQ b ≠ 2047) : fr b < 9218868437227405312 := by
 rcases Nat.lt_or_ge (fr b) 9218868437227405312 with h1 | h1
 ·exact h1
 ·exact absurd (flQ_inf.2 h1) h
theorem sz_f (x : Nat) : sz false x = (x : Int) := rfl
theorem sz_t (x : Nat) : sz true x = -(x : Int) := rfl
theorem okD.lo {n : Bool} {x : Nat} {e : Int} (h : okD n x e) : -(lowM : Int) ≤ e := by have h1 := h.e1; have := lowM_ge; omega

theorem nearF_eq {n : Bool} {x : Nat} {e : Int} (h : x ≠ 0) : nearF n x e = Ieee.double.word n (rgN x e) := if_neg h
theorem nearF_z (n : Bool) (e : Int) : nearF n 0 e = 0 := rfl
theorem okD.rung {n : Bool} {x : Nat} {e : Int} (h : okD n x e) (hx : x ≠ 0) : Rung x e := Go.Proofs.YtfdnbogbankjjaaGreatDoor.rung hx h.lo
theorem rgN_le {x : Nat} {e : Int} (R : Rung x e) : rgN x e ≤ 9218868437227405312 := by
 have := R.lt; rcases rgN_or R with h | h <;> omega
theorem nearF_ok {n : Bool} {x : Nat} {e : Int} (h : okD n x e) : fr (nearF n x e) ≤ 9218868437227405312 ∧ nearF n x e < 18446744073709551616 := by
 by_cases hx : x = 0
 ·subst hx; rw [nearF_z]; exact ⟨by decide, by omega⟩
 ·have := rgN_le (h.rung hx)
  rw [nearF_eq hx, fr_word (by omega)]
  exact ⟨by omega, word_lt (by omega)⟩
/-- the Dyad of a float -/
def flY (b : Nat) : DY := mkD (sz (fs b) (flM b)) (flE b)
theorem flY_ok (b : Nat) : (flY b).ok := mkD_ok _ _
theorem flE_lo (b : Nat) : -(lowM : Int) ≤ flE b := by have h1 := flE_bd b; have := lowM_ge; omega
theorem flY_v {b : Nat} (h : flQ b ≠ 2047) : (flY b).v = sz (fs b) (mv (fr b) * uN) := by
 unfold flY
 rw [mkD_v (fl_ok h) (flE_lo b), W_sz, fl_mg' h]
end Go.Proofs.YtfdnbogbankjjaaGreatDoor

/- Go's own sums and products are the exact ones, rounded: plain arithmetic, no program in sight. -/
namespace Go.Proofs.YtfdnbogbankjjaaGreatDoor
open Go Go.RowKit Go.PlainAid Fil

theorem read_fl {b : Nat} (h : flQ b ≠ 2047) : Ieee.double.read b = .number (fs b) (flM b) (flE b) := by
 have hf := fr_fin h
 unfold Ieee.Format.read
 rw [d_sign, d_binade, d_inf, d_least]
 have e : b % 9223372036854775808 = fr b := rfl
 have e2 : (b / 9223372036854775808 % 2 == 1) = fs b := rfl
 simp only [e, e2]
 have hq : flQ b = fr b / 4503599627370496 := flQ_fr b
 have hm : fr b % 4503599627370496 = b % 4503599627370496 := by unfold fr; omega
 by_cases h1 : fr b < 4503599627370496
 ·rw [if_pos h1]
  have h0 : flQ b = 0 := by omega
  have e3 : flM b = fr b := by unfold flM; rw [if_pos h0]; omega
  have e4 : flE b = -1074 := by unfold flE; rw [if_pos h0]; rfl
  rw [e3, e4]
 ·rw [if_neg h1, if_pos hf]
  have h0 : flQ b ≠ 0 := by omega
  have e3 : flM b = 4503599627370496 + fr b % 4503599627370496 := by unfold flM; rw [if_neg h0]; omega
  have e4 : flE b = -1074 + ((fr b / 4503599627370496 - 1 : Nat) : Int) := by unfold flE; rw [if_neg h0]; omega
  rw [e3, e4]
/-- the float of an exact number -/
def OwnOf (o : Nat) (z e : Int) : Prop := (z ≠ 0 ∧ o = Ieee.double.word (sg z) (rgN z.natAbs e)) ∨ (z = 0 ∧ fr o = 0 ∧ o < 18446744073709551616)
theorem own_write {s : Bool} {z e : Int} (hs : z ≠ 0 → s = sg z) : OwnOf (Ieee.double.write (.number s z.natAbs e)) z e := by
 by_cases hz : z = 0
 ·right
  subst hz
  refine ⟨rfl, ?_⟩
  show fr (Ieee.double.nearest s 0 e) = 0 ∧ Ieee.double.nearest s 0 e < _
  unfold Ieee.Format.nearest
  rw [if_pos rfl]
  exact ⟨fr_word (by omega), word_lt (by omega)⟩
 ·left
  refine ⟨hz, ?_⟩
  show Ieee.double.nearest s z.natAbs e = _
  rw [nearest_eq s (by omega) e, hs hz]
theorem signed_sz (s : Bool) (m k : Nat) : Ieee.signed s m k = sz s m * 2 ^ k := by
 unfold Ieee.signed
 rw [Nat.shiftLeft_eq, sz_shl]
 rfl
theorem sum_num (s t : Bool) (m n : Nat) (i j : Int) : (Ieee.Datum.number s m i).sum (.number t n j) = some (.number (if addZ (sz s m) i (sz t n) j = 0 then (s && t) else decide (addZ (sz s m) i (sz t n) j < 0)) (addZ (sz s m) i (sz t n) j).natAbs (min i j)) := by
 simp only [Ieee.Datum.sum, signed_sz, addZ]
 rfl
theorem sg_if {z : Int} (a : Bool) (h : z ≠ 0) : (if z = 0 then a else decide (z < 0)) = sg z := by rw [if_neg h]; rfl
theorem add_own {x y : Nat} (hx : flQ x ≠ 2047) (hy : flQ y ≠ 2047) : ∃ o, Ieee.double.add x y = some o ∧ OwnOf o (addZ (sz (fs x) (flM x)) (flE x) (sz (fs y) (flM y)) (flE y)) (min (flE x) (flE y)) := by
 unfold Ieee.Format.add
 rw [read_fl hx, read_fl hy, sum_num]
 exact ⟨_, rfl, own_write (fun h => sg_if _ h)⟩
theorem xor_ne (a b : Bool) : (a ^^ b) = (a != b) := by cases a <;> cases b <;> rfl
theorem prod_num (s t : Bool) (m n : Nat) (i j : Int) : (Ieee.Datum.number s m i).product (.number t n j) = some (.number (s != t) (m * n) (i + j)) := by
 rw [← xor_ne]; rfl
theorem mul_own {x y : Nat} (hx : flQ x ≠ 2047) (hy : flQ y ≠ 2047) : ∃ o, Ieee.double.mul x y = some o ∧ OwnOf o (sz (fs x) (flM x) * sz (fs y) (flM y)) (flE x + flE y) := by
 unfold Ieee.Format.mul
 rw [read_fl hx, read_fl hy, prod_num]
 have e := sz_mul (fs x) (fs y) (flM x) (flM y)
 rw [← e]
 refine ⟨_, rfl, ?_⟩
 have h := own_write (s := fs x != fs y) (z := sz (fs x != fs y) (flM x * flM y)) (e := flE x + flE y) (fun h => (sg_sz (fun h0 => h (by rw [h0]; exact sz_zero _))).symm)
 rw [sz_abs] at h
 exact h
theorem small_ok {z e : Int} {K : Nat} (hK : K ≤ 16384) (hz : z.natAbs < 2 ^ K) (h1 : -5000 ≤ e) (h2 : e ≤ 5000) : mkOk z e = true := by
 by_cases h0 : z = 0
 ·subst h0; exact (mk_zero e).1
 have hn : z.natAbs ≠ 0 := by omega
 have h3 : tz z.natAbs < K := Nat.lt_of_le_of_lt (tz_le_log hn) ((Nat.log2_lt hn).2 hz)
 refine mkOk_yes ?_ ?_ ?_
 ·refine Nat.le_trans (dn_le (n := K) (by omega) ?_) hK
  exact Nat.lt_of_lt_of_le (Nat.lt_of_le_of_lt (Nat.div_le_self _ _) hz) (pmono (by omega))
 ·omega
 ·omega
theorem shl_lt {z : Int} {a b k : Nat} (hz : z.natAbs < 2 ^ a) (hk : k ≤ b) : (z * 2 ^ k).natAbs < 2 ^ (a + b) := by
 rw [abs_shl, Nat.pow_add]
 exact Nat.lt_of_lt_of_le (Nat.mul_lt_mul_of_pos_right hz (Nat.two_pow_pos k)) (Nat.mul_le_mul_left _ (pmono hk))
theorem sum_lt {a b : Int} {n : Nat} (ha : a.natAbs < 2 ^ n) (hb : b.natAbs < 2 ^ n) : (a + b).natAbs < 2 ^ (n + 1) := by
 have h := Int.natAbs_add_le a b
 rw [Nat.pow_succ]
 generalize 2 ^ n = p at *
 omega
theorem addZ_bd {za zb ea eb : Int} {a b : Nat} (ha : za.natAbs < 2 ^ a) (hb : zb.natAbs < 2 ^ a) (h1 : (ea - min ea eb).toNat ≤ b) (h2 : (eb - min ea eb).toNat ≤ b) : (addZ za ea zb eb).natAbs < 2 ^ (a + b + 1) := sum_lt (shl_lt ha h1) (shl_lt hb h2)
theorem yAdd_small {a b : DY} (ha : a.ok) (hb : b.ok) {za ea zb eb : Int} (va : a.v = W za ea) (vb : b.v = W zb eb) (hea : -(lowM : Int) ≤ ea) (heb : -(lowM : Int) ≤ eb) (hk : mkOk (addZ za ea zb eb) (min ea eb) = true) :
  (yAdd a b).2 = 0 ∧ (yAdd a b).1.v = W (addZ za ea zb eb) (min ea eb) := by
 have h1 : W (addZ a.z a.e b.z b.e) (min a.e b.e) = W (addZ za ea zb eb) (min ea eb) := by
  rw [W_add _ _ ha.lo hb.lo, W_add _ _ hea heb, ← va, ← vb]; rfl
 have h2 := mkOk_congr h1 (lo_min ha hb) (by omega)
 have h3 : (yAdd a b).2 = 0 := mkR_ok (h2.trans hk)
 exact ⟨h3, (mkD_v (h2.trans hk) (lo_min ha hb)).trans h1⟩
theorem yMul_small {a b : DY} (ha : a.ok) (hb : b.ok) {za ea zb eb : Int} (va : a.v = W za ea) (vb : b.v = W zb eb) (hea : -(lowM : Int) ≤ ea) (heb : -(lowM : Int) ≤ eb) (hs : -(lowM : Int) ≤ ea + eb) (hk : mkOk (za * zb) (ea + eb) = true) :
  (yMul a b).2 = 0 ∧ (yMul a b).1.v = W (za * zb) (ea + eb) := by
 have h1 : W (a.z * b.z) (a.e + b.e) = W (za * zb) (ea + eb) := by
  refine pow_cancel ?_
  rw [W_mul _ _ ha.lo hb.lo (lo_sum ha hb), W_mul _ _ hea heb hs, ← va, ← vb]; rfl
 have h2 := mkOk_congr h1 (lo_sum ha hb) hs
 have h3 : (yMul a b).2 = 0 := mkR_ok (h2.trans hk)
 exact ⟨h3, (mkD_v (h2.trans hk) (lo_sum ha hb)).trans h1⟩
/-- an exact number's nearest float is Go's own -/
structure Goes (d : DY) (o : Nat) : Prop where
 ok : d.ok
 lt : o < 18446744073709551616
 fr : fr o ≤ 9218868437227405312
 fk : fk (nearF d.n d.x d.e) = fk o
 same : d.x ≠ 0 → nearF d.n d.x d.e = o
end Go.Proofs.YtfdnbogbankjjaaGreatDoor
