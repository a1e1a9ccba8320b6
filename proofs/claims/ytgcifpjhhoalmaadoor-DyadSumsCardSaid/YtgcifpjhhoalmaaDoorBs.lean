/- Numbers and their bytes: no program in sight. -/
import Derived.Test.YtgcifpjhhoalmaaDoorDg
namespace Fil
/-- the number of some bytes, the highest first -/
def nb : List UInt8 → Nat
  | [] => 0
  | b :: l => b.toNat * 2 ^ (8 * l.length) + nb l
theorem nb_lt : ∀ l : List UInt8, nb l < 2 ^ (8 * l.length)
  | [] => by simp [nb]
  | b :: l => by
    have h := nb_lt l
    have hb : b.toNat < 256 := b.toNat_lt
    rw [List.length_cons, pstep]
    show b.toNat * 2 ^ (8 * l.length) + nb l < _
    have : (b.toNat + 1) * 2 ^ (8 * l.length) ≤ 256 * 2 ^ (8 * l.length) := Nat.mul_le_mul_right _ hb
    rw [Nat.add_mul] at this; omega
theorem nb_dg : ∀ (l : List UInt8) (i : Nat) (h : i < l.length), dg 8 (nb l) i = (l[l.length - 1 - i]'(by omega)).toNat
  | b :: l, i, h => by
    rw [List.length_cons] at h
    by_cases e : i = l.length
    · subst e
      have hl : nb (b :: l) = b.toNat * 2 ^ (8 * l.length) + nb l := rfl
      have hb : b.toNat < 256 := b.toNat_lt
      have h1 := nb_lt l
      rw [dg_div_eq (by have := nb_lt (b :: l); simpa using this), hl, Nat.add_comm, Nat.add_mul_div_right _ _ (pp _), Nat.div_eq_of_lt h1]
      simp
    · have hi : i < l.length := by omega
      have h1 := nb_dg l i hi
      have hl : nb (b :: l) = b.toNat * 2 ^ (8 * l.length) + nb l := rfl
      rw [← dg_mod (n := l.length) hi, hl, Nat.mul_add_mod_self_right, dg_mod hi, h1]
      congr 1
      have e2 : (b :: l).length - 1 - i = (l.length - 1 - i) + 1 := by simp; omega
      simp only [e2, List.getElem_cons_succ]
/-- the bytes of a number, the highest first, none of them a 0 ahead -/
def bs (x : Nat) : List UInt8 := (List.range (dn 8 x)).map fun i => UInt8.ofNat (dg 8 x (dn 8 x - 1 - i))
theorem bs_length (x : Nat) : (bs x).length = dn 8 x := by simp [bs]
theorem bs_get (x i : Nat) (h : i < (bs x).length) : (bs x)[i].toNat = dg 8 x (dn 8 x - 1 - i) := by
  have := dg_lt 8 x (dn 8 x - 1 - i)
  simp [bs]
  omega
theorem nb_bs (x : Nat) : nb (bs x) = x := by
  have h1 := nb_lt (bs x)
  rw [bs_length] at h1
  refine dg_ext h1 (lt_dn (by omega) x) fun i hi => ?_
  rw [nb_dg _ i (by rw [bs_length]; exact hi), bs_get]
  congr 1
  rw [bs_length]; omega
/-- no 0 stands ahead -/
def cano (l : List UInt8) : Prop := ∀ h : 0 < l.length, l[0] ≠ 0
theorem dn_nb {l : List UInt8} (h : cano l) : dn 8 (nb l) = l.length := by
  by_cases hl : 0 < l.length
  · have h1 := h hl
    have h2 := nb_lt l
    have e : l.length = (l.length - 1) + 1 := by omega
    have h3 := nb_dg l (l.length - 1) (by omega)
    have h4 : dg 8 (nb l) (l.length - 1) ≠ 0 := by
      rw [h3]
      simp only [show l.length - 1 - (l.length - 1) = 0 by omega]
      intro h5
      exact h1 (UInt8.toNat_inj.1 (by simpa using h5))
    rw [e] at h2
    rw [cut_stop (by omega) h2 h4]; omega
  · have : l = [] := List.eq_nil_of_length_eq_zero (by omega)
    subst this; simp [nb, dn]
theorem bs_nb {l : List UInt8} (h : cano l) : bs (nb l) = l := by
  have h1 := dn_nb h
  apply List.ext_getElem
  · rw [bs_length, h1]
  · intro i h2 h3
    apply UInt8.toNat_inj.1
    rw [bs_get, nb_dg _ _ (by omega)]
    simp only [h1]
    congr 2
    omega
theorem cano_bs (x : Nat) : cano (bs x) := by
  intro h h0
  have h1 := bs_get x 0 h
  rw [bs_length] at h
  have hx : x ≠ 0 := by rintro rfl; simp [dn] at h
  have h2 := dg_top (k := 8) (by omega) hx
  rw [h0] at h1
  simp only [Nat.sub_zero] at h1
  exact h2 h1.symm
theorem nb_eq_zero {l : List UInt8} (h : cano l) : nb l = 0 ↔ l = [] := by
  constructor
  · intro h0
    have := dn_nb h
    rw [h0, dn_zero] at this
    exact List.eq_nil_of_length_eq_zero this.symm
  · rintro rfl; rfl
theorem bs_inj {x y : Nat} (h : bs x = bs y) : x = y := by rw [← nb_bs x, h, nb_bs]
theorem bs_zero : bs 0 = [] := by simp [bs, dn]
theorem bs_eq_nil {x : Nat} : bs x = [] ↔ x = 0 := by
  constructor
  · intro h; exact bs_inj (h.trans bs_zero.symm)
  · rintro rfl; exact bs_zero
/-- odd by the last byte -/
theorem nb_odd {l : List UInt8} (h : 0 < l.length) : nb l % 2 = (l[l.length - 1]).toNat % 2 := by
  have h1 := nb_dg l 0 h
  simp only [Nat.sub_zero] at h1
  rw [← h1]
  simp only [dg, Nat.mul_zero, Nat.pow_zero, Nat.div_one]
  omega
end Fil
