/- Merged: BM V1 -/
import Derived.Test.YtfbkopepkklkjaaGreatDoorBL
import Derived.Test.YtfbkopepkklkjaaGreatDoorBI
import Derived.Test.YtfbkopepkklkjaaGreatDoorBD

/- The walks over math.IsInf with a sign, dyad.Against, the reference's Against. -/
namespace Go.Proofs.YtfbkopepkklkjaaGreatDoor
open Go Go.RowKit Go.PlainAid Fil

theorem ord_gt {a b : Nat} (ha : fr a ≤ 9218868437227405312) (hb : fr b ≤ 9218868437227405312) : (FloatKind.f64.format.order a b == some .gt) = decide (fk b < fk a) := by
 rw [show FloatKind.f64.format = Ieee.double from rfl, order_some ha hb]
 rcases Int.lt_trichotomy (fk a) (fk b) with h1 | h1 | h1
 ·rw [cmp_lt h1, decide_eq_false (by omega)]; rfl
 ·rw [h1, cmp_eq, decide_eq_false (by omega)]; rfl
 ·rw [cmp_gt h1, decide_eq_true h1]; rfl
theorem fl_ok {b : Nat} (_h : flQ b ≠ 2047) : mkOk (sz (fs b) (flM b)) (flE b) = true := by
 have h1 := flM_lt b
 have h2 := flE_bd b
 have h3 : tz (flM b) ≤ 52 := by
  by_cases h0 : flM b = 0
  ·rw [h0, tz_zero]; omega
  ·have h4 := tz_le_log h0
   have h5 : (flM b).log2 < 53 := (Nat.log2_lt h0).2 (by omega)
   omega
 refine mkOk_yes ?_ ?_ ?_
 ·rw [sz_abs]
  refine Nat.le_trans (dn_le (n := 8) (by omega) ?_) (by omega)
  exact Nat.lt_of_le_of_lt (Nat.div_le_self _ _) (by omega)
 ·rw [sz_abs]; omega
 ·rw [sz_abs]; omega
end Go.Proofs.YtfbkopepkklkjaaGreatDoor

/- Rounding to floats by the number's magnitude: plain arithmetic, no program in sight. -/
namespace Go.Proofs.YtfbkopepkklkjaaGreatDoor
open Go Go.RowKit Go.PlainAid Fil

/-- the least place's unit, as a multiple of the low power's -/
def uN : Nat := 2 ^ (lowM - 1074)
/-- a magnitude as a multiple of the low power -/
def mg (x : Nat) (e : Int) : Nat := x * 2 ^ (e + lowM).toNat
theorem uN_pos : 0 < uN := Nat.two_pow_pos _
theorem mv_unit {m : Nat} {q : Int} (h0 : -1074 ≤ q) (h1 : -1074 < q → 4503599627370496 ≤ m) (hm : m ≤ 9007199254740992) : mv ((q + 1074).toNat * 4503599627370496 + m) * uN = m * 2 ^ (q + lowM).toNat := by
 have hl := lowM_ge
 rw [mv_rung h0 h1 hm]
 unfold uN
 rw [Nat.mul_assoc, ← Nat.pow_add]
 congr 2
 omega
/-- what is kept below the highest float -/
theorem rd_spec {x : Nat} (hx : x ≠ 0) {e : Int} (he : -(lowM : Int) ≤ e) :
  mv (rdR x e) * uN ≤ mg x e ∧ mg x e < mv (rdR x e + 1) * uN ∧ (rdX x e = true → mg x e = mv (rdR x e) * uN) ∧ (x % 2 = 1 → rdX x e = false → mg x e ≠ mv (rdR x e) * uN) ∧
  (rdUp x e = true ↔ ((mv (rdR x e) + mv (rdR x e + 1)) * uN < 2 * mg x e ∨ ((mv (rdR x e) + mv (rdR x e + 1)) * uN = 2 * mg x e ∧ rdR x e % 2 = 1))) := by
 have hl := lowM_ge
 have hm := rdM_lt hx e
 have hq0 := rdQ_lo x e
 have hge := fun h => rdM_ge hx (e := e) h
 have e0 : mv (rdR x e) * uN = rdM x e * 2 ^ (rdQ x e + lowM).toNat := mv_unit hq0 hge (by omega)
 have e1 : mv (rdR x e + 1) * uN = (rdM x e + 1) * 2 ^ (rdQ x e + lowM).toNat := by
  rw [show rdR x e + 1 = (rdQ x e + 1074).toNat * 4503599627370496 + (rdM x e + 1) by unfold rdR; omega]
  exact mv_unit hq0 (fun h => by have := hge h; omega) (by omega)
 have hpar : rdR x e % 2 = rdM x e % 2 := by unfold rdR; omega
 rw [Nat.add_mul, e0, e1, hpar]
 have hP := Nat.two_pow_pos (rdQ x e + lowM).toNat
 by_cases hc : rdQ x e ≤ e
 ·have hX : rdX x e = true := decide_eq_true hc
  have hM : rdM x e = x * 2 ^ (e - rdQ x e).toNat := by unfold rdM; rw [if_pos hc]
  have hmg : mg x e = rdM x e * 2 ^ (rdQ x e + lowM).toNat := by
   unfold mg; rw [hM, show (e + lowM).toNat = (e - rdQ x e).toNat + (rdQ x e + lowM).toNat by omega, Nat.pow_add, Nat.mul_assoc]
  have hU : rdUp x e = false := by unfold rdUp; rw [hX]; rfl
  rw [hU, hX, hmg]
  generalize 2 ^ (rdQ x e + lowM).toNat = P at *
  generalize rdM x e = m at *
  rw [Nat.add_mul, Nat.one_mul]
  refine ⟨Nat.le_refl _, by omega, fun _ => rfl, fun _ h => by simp at h, ?_⟩
  constructor
  ·intro h; simp at h
  ·intro h; exfalso; generalize m * P = y at *; omega
 ·have hX : rdX x e = false := decide_eq_false hc
  obtain ⟨k, hk⟩ : ∃ k, k = (rdQ x e - e).toNat := ⟨_, rfl⟩
  have hM : rdM x e = x / 2 ^ k := by unfold rdM; rw [if_neg hc, hk]
  have hU : rdUp x e = upB x k := by unfold rdUp; rw [hX, hk]; rfl
  have hR := Nat.two_pow_pos (e + lowM).toNat
  have hPR : 2 ^ (rdQ x e + lowM).toNat = 2 ^ k * 2 ^ (e + lowM).toNat := by rw [show (rdQ x e + lowM).toNat = k + (e + lowM).toNat by omega, Nat.pow_add]
  have hodd : x % 2 = 1 → x % 2 ^ k ≠ 0 := by
   intro h1 h2
   obtain ⟨k', hk'⟩ : ∃ k', k = k' + 1 := ⟨k - 1, by omega⟩
   have h3 := Nat.div_add_mod x (2 ^ k)
   rw [h2, hk', Nat.pow_succ, Nat.add_zero] at h3
   have h4 : 2 ^ k' * 2 * (x / (2 ^ k' * 2)) = 2 * (2 ^ k' * (x / (2 ^ k' * 2))) := by rw [Nat.mul_comm (2 ^ k') 2, Nat.mul_assoc]
   omega
  have hd := Nat.div_add_mod x (2 ^ k)
  have hr := Nat.mod_lt x (Nat.two_pow_pos k)
  rw [hU, hX, hM, hPR]
  unfold upB mg
  generalize 2 ^ (e + lowM).toNat = R at *
  generalize 2 ^ k = p at *
  have hodd' := hodd
  generalize x % p = r at *
  obtain ⟨m, hm'⟩ : ∃ m, m = x / p := ⟨_, rfl⟩
  rw [← hm'] at hd ⊢
  have hxR : x * R = m * (p * R) + r * R := by
   rw [← hd, Nat.add_mul, Nat.mul_comm p m, Nat.mul_assoc]
  rw [hxR, Nat.add_mul, Nat.one_mul]
  have a1 : r * R < p * R := Nat.mul_lt_mul_of_pos_right hr hR
  have a2 : p * R < 2 * (r * R) ↔ p < 2 * r := by
   rw [← Nat.mul_assoc]; exact Nat.mul_lt_mul_right hR
  have a3 : p * R = 2 * (r * R) ↔ p = 2 * r := by
   rw [← Nat.mul_assoc]; exact ⟨fun h => Nat.eq_of_mul_eq_mul_right hR h, fun h => by rw [h]⟩
  have a4 : r * R = 0 → r = 0 := fun h => by
   rcases Nat.mul_eq_zero.1 h with h | h
   ·exact h
   ·omega
  generalize r * R = X at *
  generalize p * R = Y at *
  generalize m * Y = A at *
  refine ⟨by omega, by omega, fun h => by simp at h, fun h _ h2 => hodd h (a4 (by omega)), ?_⟩
  rw [Bool.or_eq_true, Bool.and_eq_true, decide_eq_true_eq, decide_eq_true_eq, decide_eq_true_eq, ← a2, ← a3]
  constructor
  ·rintro (h | ⟨h, h'⟩)
   ·left; omega
   ·right; exact ⟨by omega, h'⟩
  ·rintro (h | ⟨h, h'⟩)
   ·left; omega
   ·right; exact ⟨by omega, h'⟩
theorem rg_big {x : Nat} (hx : x ≠ 0) {e : Int} (he : -(lowM : Int) ≤ e) (ht : 1024 ≤ tpI x e) : mv 9218868437227405312 * uN ≤ mg x e := by
 have hl := lowM_ge
 have h1 := mv_unit (m := 4503599627370496) (q := 972) (by omega) (by omega) (by omega)
 rw [show ((972 : Int) + 1074).toNat * 4503599627370496 + 4503599627370496 = 9218868437227405312 from rfl] at h1
 rw [h1]
 have h2 := log_ge hx
 unfold tpI at ht
 have h3 : 2 ^ x.log2 * 2 ^ (e + lowM).toNat ≤ mg x e := Nat.mul_le_mul_right _ h2
 rw [← Nat.pow_add] at h3
 refine Nat.le_trans ?_ h3
 have h4 : (2 : Nat) ^ (52 + ((972 : Int) + lowM).toNat) ≤ 2 ^ (x.log2 + (e + lowM).toNat) := pmono (by omega)
 rw [Nat.pow_add 2 52, show (2 : Nat) ^ 52 = 4503599627370496 from rfl] at h4
 exact h4
/-- all that is needed of the rungs -/
structure Rung (x : Nat) (e : Int) : Prop where
 lt : rgL x e < 9218868437227405312
 lo : mv (rgL x e) * uN ≤ mg x e
 hi : mg x e < mv (rgL x e + 1) * uN ∨ (rgL x e = 9218868437227405311 ∧ mv 9218868437227405312 * uN ≤ mg x e ∧ rgX x e = false ∧ rgN x e = 9218868437227405312)
 ex : rgX x e = true → mg x e = mv (rgL x e) * uN
 od : x % 2 = 1 → rgX x e = false → mg x e ≠ mv (rgL x e) * uN
 up : mg x e < mv (rgL x e + 1) * uN → (rgN x e = rgL x e + 1 ∧ ((mv (rgL x e) + mv (rgL x e + 1)) * uN < 2 * mg x e ∨ ((mv (rgL x e) + mv (rgL x e + 1)) * uN = 2 * mg x e ∧ rgL x e % 2 = 1))) ∨ (rgN x e = rgL x e ∧ ¬ ((mv (rgL x e) + mv (rgL x e + 1)) * uN < 2 * mg x e ∨ ((mv (rgL x e) + mv (rgL x e + 1)) * uN = 2 * mg x e ∧ rgL x e % 2 = 1)))
theorem rung {x : Nat} (hx : x ≠ 0) {e : Int} (he : -(lowM : Int) ≤ e) : Rung x e := by
 by_cases ht : tpI x e < 1024
 ·obtain ⟨h1, h2, h3, h4, h5⟩ := rd_spec hx he
  have h6 := rdR_lt hx ht
  have hN : rgN x e = rdR x e + (rdUp x e).toNat := by unfold rgN; rw [if_neg (by omega)]
  refine ⟨?_, ?_, ?_, ?_, ?_, ?_⟩ <;> rw [rgL_small ht]
  ·exact h6
  ·exact h1
  ·exact .inl h2
  ·rw [rgX_small ht]; exact h3
  ·rw [rgX_small ht]; exact h4
  ·intro _
   rw [hN, ← h5]
   cases rdUp x e
   ·exact .inr ⟨Nat.add_zero _, by simp⟩
   ·exact .inl ⟨rfl, rfl⟩
 ·have ht' : 1024 ≤ tpI x e := by omega
  have h1 := rg_big hx he ht'
  have h2 : mv 9218868437227405311 * uN < mv 9218868437227405312 * uN := Nat.mul_lt_mul_of_pos_right (mv_lt (by omega)) uN_pos
  have hN : rgN x e = 9218868437227405312 := by unfold rgN; rw [if_pos ht']
  refine ⟨?_, ?_, ?_, ?_, ?_, ?_⟩ <;> rw [rgL_big ht']
  ·omega
  ·omega
  ·exact .inr ⟨rfl, h1, rgX_big ht', hN⟩
  ·rw [rgX_big ht']; simp
  ·intro _ _; omega
  ·intro h; rw [show 9218868437227405311 + 1 = 9218868437227405312 from rfl] at h; omega
theorem mvu_le {r s : Nat} (h : r ≤ s) : mv r * uN ≤ mv s * uN := Nat.mul_le_mul_right _ (mv_le h)
theorem mvu_lt {r s : Nat} (h : r < s) : mv r * uN < mv s * uN := Nat.mul_lt_mul_of_pos_right (mv_lt h) uN_pos
theorem rgN_or {x : Nat} {e : Int} (h : Rung x e) : rgN x e = rgL x e ∨ (rgN x e = rgL x e + 1 ∧ rgX x e = false) := by
 rcases h.hi with h1 | h1
 ·rcases h.up h1 with ⟨h2, h3⟩ | ⟨h2, h3⟩
  ·right
   refine ⟨h2, ?_⟩
   cases hX : rgX x e
   ·rfl
   ·exfalso
    have h4 := h.ex hX
    have h5 := mvu_lt (show rgL x e < rgL x e + 1 by omega)
    rw [Nat.add_mul] at h3
    omega
  ·exact .inl h2
 ·exact .inr ⟨by omega, h1.2.2.1⟩
end Go.Proofs.YtfbkopepkklkjaaGreatDoor
