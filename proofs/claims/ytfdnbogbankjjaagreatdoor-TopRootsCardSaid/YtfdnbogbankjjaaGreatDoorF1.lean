/- Merged: C3 C5 C6 F1 -/
import Derived.Test.YtfdnbogbankjjaaGreatDoorC2
import Derived.Test.YtfdnbogbankjjaaGreatDoorB7

/- A ball that a Newton step draws together holds just one root of a product of factors, and a simple one. In plain Lean. -/
namespace Fil

/-- the value of a product of factors, and of its derivative -/
def rev : List CQ → CQ → CQ
 | [], _ => ⟨1, 0⟩
 | z :: l, x => (x - z) * rev l x
def rdv : List CQ → CQ → CQ
 | [], _ => ⟨0, 0⟩
 | z :: l, x => rev l x + (x - z) * rdv l x
theorem cq_mul_zero (a : CQ) : a * (⟨0, 0⟩ : CQ) = ⟨0, 0⟩ := by simp only [cq_mul]; apply CQ.ext <;> grind
theorem cq_zero_mul (a : CQ) : (⟨0, 0⟩ : CQ) * a = ⟨0, 0⟩ := by simp only [cq_mul]; apply CQ.ext <;> grind
theorem cq_self (a : CQ) : a - a = ⟨0, 0⟩ := by simp only [cq_sub]; apply CQ.ext <;> grind
theorem cq_of_sub {a b : CQ} (h : a - b = ⟨0, 0⟩) : a = b := by
 have h1 := congrArg CQ.re h
 have h2 := congrArg CQ.im h
 simp only [cq_sub] at h1 h2
 apply CQ.ext <;> grind
theorem nsq_zero {a : CQ} (h : a.nsq = 0) : a = ⟨0, 0⟩ := by
 have h1 := rsq_nn a.re
 have h2 := rsq_nn a.im
 unfold CQ.nsq at h
 have h3 : a.re * a.re = 0 := by grind
 have h4 : a.im * a.im = 0 := by grind
 apply CQ.ext
 ·rcases Rat.mul_eq_zero.1 h3 with h | h <;> exact h
 ·rcases Rat.mul_eq_zero.1 h4 with h | h <;> exact h
/-- does the ball about z0 hold z? -/
def inB (z0 : CQ) (r : Rat) (z : CQ) : Bool := decide ((z - z0).nsq ≤ r * r)
theorem rev_mem {z0 : CQ} {r : Rat} : ∀ l : List CQ, 0 < l.countP (inB z0 r) → ∃ w, inB z0 r w = true ∧ rev l w = ⟨0, 0⟩
 | [], h => by simp at h
 | z :: l, h => by
  by_cases hz : inB z0 r z = true
  ·exact ⟨z, hz, by show (z - z) * rev l z = _; rw [cq_self, cq_zero_mul]⟩
  ·rw [List.countP_cons_of_neg hz] at h
   obtain ⟨w, h1, h2⟩ := rev_mem l h
   exact ⟨w, h1, by show (w - z) * rev l w = _; rw [h2, cq_mul_zero]⟩
theorem two_roots {z0 : CQ} {r : Rat} : ∀ l : List CQ, 1 < l.countP (inB z0 r) → ∃ z w, inB z0 r z = true ∧ inB z0 r w = true ∧ rev l z = ⟨0, 0⟩ ∧ rev l w = ⟨0, 0⟩ ∧ (z ≠ w ∨ rdv l z = ⟨0, 0⟩)
 | [], h => by simp at h
 | x :: l, h => by
  by_cases hx : inB z0 r x = true
  ·rw [List.countP_cons_of_pos hx] at h
   obtain ⟨w, h1, h2⟩ := rev_mem (z0 := z0) (r := r) l (by omega)
   have r1 : rev (x :: l) x = ⟨0, 0⟩ := by show (x - x) * rev l x = _; rw [cq_self, cq_zero_mul]
   have r2 : rev (x :: l) w = ⟨0, 0⟩ := by show (w - x) * rev l w = _; rw [h2, cq_mul_zero]
   by_cases e : x = w
   ·subst e
    exact ⟨x, x, hx, hx, r1, r1, .inr (by show rev l x + (x - x) * rdv l x = _; rw [h2, cq_self, cq_zero_mul]; simp only [cq_add]; apply CQ.ext <;> grind)⟩
   ·exact ⟨x, w, hx, h1, r1, r2, .inl e⟩
  ·rw [List.countP_cons_of_neg hx] at h
   obtain ⟨z, w, h1, h2, h3, h4, h5⟩ := two_roots l h
   refine ⟨z, w, h1, h2, by show (z - x) * rev l z = _; rw [h3, cq_mul_zero], by show (w - x) * rev l w = _; rw [h4, cq_mul_zero], ?_⟩
   rcases h5 with h5 | h5
   ·exact .inl h5
   ·exact .inr (by show rev l z + (z - x) * rdv l z = _; rw [h3, h5, cq_mul_zero]; simp only [cq_add]; apply CQ.ext <;> grind)
/-- where no root is, the product stays away from 0 -/
theorem rev_away {z0 : CQ} {r : Rat} (hr : 0 ≤ r) : ∀ l : List CQ, l.countP (inB z0 r) = 0 → ∃ D, 0 < D ∧ ∀ x, Nb (x - z0) r → D ≤ (rev l x).nsq
 | [], _ => ⟨1, by decide, fun x _ => by show (1 : Rat) ≤ 1 * 1 + 0 * 0; grind⟩
 | z :: l, h => by
  by_cases hz : inB z0 r z = true
  ·rw [List.countP_cons_of_pos hz] at h; omega
  rw [List.countP_cons_of_neg hz] at h
  obtain ⟨D, hD, hl⟩ := rev_away hr l h
  have hX : ¬ (z - z0).nsq ≤ r * r := fun k => hz (decide_eq_true k)
  have hex : ∃ n : Nat, 0 < n ∧ ¬ (z - z0).nsq ≤ (r + 1 / (n : Rat)) * (r + 1 / (n : Rat)) := by
   by_cases k : ∃ n : Nat, 0 < n ∧ ¬ (z - z0).nsq ≤ (r + 1 / (n : Rat)) * (r + 1 / (n : Rat))
   ·exact k
   ·exfalso
    refine hX (sq_limit (K := 1) (by decide) fun n hn => ?_)
    by_cases m : (z - z0).nsq ≤ (r + 1 / (n : Rat)) * (r + 1 / (n : Rat))
    ·exact m
    ·exact absurd ⟨n, hn, m⟩ k
  obtain ⟨n, hn, hfar⟩ := hex
  have hn1 : (1 : Rat) ≤ (n : Rat) := by exact_mod_cast hn
  obtain ⟨s, hs⟩ : ∃ s, s = 1 / (n : Rat) := ⟨_, rfl⟩
  rw [← hs] at hfar
  have hsn : s * (n : Rat) = 1 := by rw [hs]; exact Rat.div_mul_cancel (by grind)
  have hs0 : 0 < s := by
   rcases Rat.le_total (a := s) (b := 0) with k | k
   ·have := Rat.mul_le_mul_of_nonneg_right k (show (0 : Rat) ≤ (n : Rat) by grind)
    grind
   ·by_cases e : s = 0
    ·rw [e] at hsn; grind
    ·grind
  refine ⟨s * s * D, Rat.mul_pos (Rat.mul_pos hs0 hs0) hD, fun x hx => ?_⟩
  show s * s * D ≤ ((x - z) * rev l x).nsq
  rw [nsq_mul]
  have h1 : s * s ≤ (x - z).nsq := by
   rcases Rat.le_total (a := s * s) (b := (x - z).nsq) with k | k
   ·exact k
   ·exfalso
    have h2 := nb_sub hx (⟨Rat.le_of_lt hs0, k⟩ : Nb (x - z) s)
    have e : x - z0 - (x - z) = z - z0 := by simp only [cq_sub]; apply CQ.ext <;> grind
    rw [e] at h2
    exact hfar h2.2
  exact Rat.le_trans (Rat.mul_le_mul_of_nonneg_right h1 (Rat.le_of_lt hD)) (Rat.mul_le_mul_of_nonneg_left (hl x hx) (nsq_nn _))
/-- no rational is above all its own parts -/
theorem no_small {E m q : Rat} (hE : 0 < E) (h0 : 0 ≤ q) (h1 : q < 1) (h : ∀ k : Nat, E ≤ q ^ k * m * (q ^ k * m)) : False := by
 have hc : 0 < 1 - q := by grind
 obtain ⟨n, hn, hle⟩ := rat_arch ((m * m + E) / (E * (1 - q)))
 have hEc : 0 < E * (1 - q) := Rat.mul_pos hE hc
 have h2 : m * m + E ≤ (n : Rat) * (E * (1 - q)) := by
  have h3 : (m * m + E) / (E * (1 - q)) * (E * (1 - q)) = m * m + E := Rat.div_mul_cancel (by grind)
  have h4 := Rat.mul_le_mul_of_nonneg_right hle (Rat.le_of_lt hEc)
  rw [h3] at h4; exact h4
 have hk := h n
 have hp := pow_small h0 n
 have hq0 : 0 ≤ q ^ n := Rat.pow_nonneg h0
 obtain ⟨t, ht⟩ : ∃ t, t = q ^ n := ⟨_, rfl⟩
 rw [← ht] at hk hp hq0
 obtain ⟨g, hg⟩ : ∃ g, g = (n : Rat) * (1 - q) := ⟨_, rfl⟩
 rw [← hg] at hp
 have hg2 : m * m + E ≤ g * E := by rw [hg]; grind
 have hm := rsq_nn m
 have hg1 : 1 ≤ g := by
  rcases Rat.le_total (a := 1) (b := g) with k | k
  ·exact k
  ·have := Rat.mul_le_mul_of_nonneg_right k (Rat.le_of_lt hE)
   by_cases e : g = 1
   ·rw [e]; exact Rat.le_refl
   ·have : g * E < 1 * E := Rat.mul_lt_mul_of_pos_right (by grind) hE
    grind
 have hgt : t * g ≤ 1 := by grind
 have hgt0 : 0 ≤ t * g := Rat.mul_nonneg hq0 (by grind)
 have h5 : (t * g) * (t * g) ≤ 1 := by have := rsq_le hgt0 hgt; grind
 have h6 : E * (g * g) ≤ t * m * (t * m) * (g * g) := Rat.mul_le_mul_of_nonneg_right hk (rsq_nn g)
 have h7 : t * m * (t * m) * (g * g) = (t * g) * (t * g) * (m * m) := by grind
 have h8 : (t * g) * (t * g) * (m * m) ≤ 1 * (m * m) := Rat.mul_le_mul_of_nonneg_right h5 hm
 have h9 : g * E * 1 ≤ g * E * g := Rat.mul_le_mul_of_nonneg_left hg1 (Rat.mul_nonneg (by grind) (Rat.le_of_lt hE))
 have h10 : E * (g * g) = g * E * g := by grind
 grind
theorem one_root (p l : List CQ) (y z0 : CQ) (r q m : Rat) (hp : ∀ x, pev p x = rev l x) (hpd : ∀ x, pdv p x = rdv l x) (hr : 0 ≤ r) (h0 : 0 ≤ q) (h1 : q < 1)
  (hd : ∀ z, Nb (z - z0) r → Nb ((⟨1, 0⟩ : CQ) - y * pdv p z) q) (hm : Nb (y * pev p z0) m) (hmr : m + q * r ≤ r) : l.countP (inB z0 r) = 1 := by
 have hz0 : Nb (z0 - z0) r := by rw [cq_self]; exact nb_zero r hr
 have one_no : ¬ Nb (⟨1, 0⟩ : CQ) q := fun k => by
  have h2 : (1 : Rat) * 1 + 0 * 0 ≤ q * q := k.2
  have h3 : q * q ≤ q * 1 := Rat.mul_le_mul_of_nonneg_left (Rat.le_of_lt h1) h0
  grind
 have fix : ∀ z, rev l z = ⟨0, 0⟩ → nw p y z = z := fun z h => by
  unfold nw
  rw [hp, h, cq_mul_zero]
  simp only [cq_sub]; apply CQ.ext <;> grind
 have inb : ∀ z, inB z0 r z = true → Nb (z - z0) r := fun z h => ⟨hr, of_decide_eq_true h⟩
 rcases Nat.lt_trichotomy (l.countP (inB z0 r)) 1 with hc | hc | hc
 ·exfalso
  obtain ⟨D, hD, hfar⟩ := rev_away (z0 := z0) hr l (by omega)
  have st : ∃ x : Nat → CQ, x 0 = z0 ∧ ∀ k, x (k + 1) = nw p y (x k) := ⟨fun k => Nat.rec z0 (fun _ v => nw p y v) k, rfl, fun _ => rfl⟩
  obtain ⟨x, x0, xs⟩ := st
  have hy : 0 < y.nsq := by
   have := nsq_nn y
   by_cases e : y.nsq = 0
   ·exfalso
    refine one_no ?_
    have := hd z0 hz0
    rw [nsq_zero e, cq_zero_mul] at this
    have e2 : (⟨1, 0⟩ : CQ) - ⟨0, 0⟩ = ⟨1, 0⟩ := by simp only [cq_sub]; apply CQ.ext <;> grind
    rw [e2] at this; exact this
   ·grind
  have key : ∀ k, Nb (x k - z0) r ∧ Nb (x (k + 1) - x k) (q ^ k * m) := by
   have nwz : Nb (nw p y z0 - z0) m := by
    have := nb_neg hm
    have e : -(y * pev p z0) = nw p y z0 - z0 := by unfold nw; simp only [cq_sub, cq_neg]; apply CQ.ext <;> grind
    rw [e] at this; exact this
   intro k
   induction k with
   | zero => exact ⟨by rw [x0]; exact hz0, by rw [xs, x0, Rat.pow_zero, Rat.one_mul]; exact nwz⟩
   | succ k ih =>
    have hin : Nb (x (k + 1) - z0) r := by
     have h2 := nb_add (lip p y z0 r q h0 hd ih.1 hz0 ih.1) nwz
     have e : nw p y (x k) - nw p y z0 + (nw p y z0 - z0) = x (k + 1) - z0 := by rw [xs]; simp only [cq_add, cq_sub]; apply CQ.ext <;> grind
     rw [e] at h2
     exact nb_mono h2 (by grind)
    refine ⟨hin, ?_⟩
    have h2 := lip p y z0 r q h0 hd hin ih.1 ih.2
    rw [← xs, ← xs] at h2
    rw [Rat.pow_succ]
    have e : q * (q ^ k * m) = q ^ k * q * m := by grind
    rw [e] at h2; exact h2
  refine no_small (E := y.nsq * D) (Rat.mul_pos hy hD) h0 h1 (m := m) fun k => ?_
  obtain ⟨k1, k2⟩ := key k
  have h2 : x (k + 1) - x k = -(y * rev l (x k)) := by rw [xs]; unfold nw; rw [hp]; simp only [cq_sub, cq_neg]; apply CQ.ext <;> grind
  rw [h2] at k2
  have h3 := nb_neg k2
  have e : -(-(y * rev l (x k))) = y * rev l (x k) := by simp only [cq_neg]; apply CQ.ext <;> grind
  rw [e] at h3
  have h4 := h3.2
  rw [nsq_mul] at h4
  exact Rat.le_trans (Rat.mul_le_mul_of_nonneg_left (hfar _ k1) (nsq_nn y)) h4
 ·exact hc
 ·exfalso
  obtain ⟨z, w, hz, hw, rz, rw', h5⟩ := two_roots l hc
  by_cases e : z = w
  ·have hdz : rdv l z = ⟨0, 0⟩ := h5.resolve_left (fun h => h e)
   refine one_no ?_
   have := hd z (inb z hz)
   rw [hpd, hdz, cq_mul_zero] at this
   have e2 : (⟨1, 0⟩ : CQ) - ⟨0, 0⟩ = ⟨1, 0⟩ := by simp only [cq_sub]; apply CQ.ext <;> grind
   rw [e2] at this; exact this
  ·obtain ⟨ρ, hρ⟩ := nb_some (z - w)
   have hpos : 0 < (z - w).nsq := by
    have := nsq_nn (z - w)
    by_cases k : (z - w).nsq = 0
    ·exact absurd (cq_of_sub (nsq_zero k)) e
    ·grind
   have all : ∀ k : Nat, Nb (z - w) (q ^ k * ρ) := by
    intro k
    induction k with
    | zero => rw [Rat.pow_zero, Rat.one_mul]; exact hρ
    | succ k ih =>
     have h2 := lip p y z0 r q h0 hd (inb z hz) (inb w hw) ih
     rw [fix z rz, fix w rw'] at h2
     rw [Rat.pow_succ]
     have e : q * (q ^ k * ρ) = q ^ k * q * ρ := by grind
     rw [e] at h2; exact h2
   exact no_small hpos h0 h1 fun k => (all k).2
end Fil

/- Balls over the complex rationals: sums, products, bounds. In plain Lean. -/
namespace Fil

/-- the ball of centre c and radius r holds u -/
def InR (c : CQ) (r : Rat) (u : CQ) : Prop := Nb (u - c) r
theorem inr_point (c : CQ) : InR c 0 c := by unfold InR; rw [cq_self]; exact nb_zero 0 (by decide)
theorem inr_neg {c u : CQ} {r : Rat} (h : InR c r u) : InR (-c) r (-u) := by
 have := nb_neg h
 have e : -(u - c) = -u - -c := by simp only [cq_neg, cq_sub]; apply CQ.ext <;> grind
 rw [e] at this; exact this
theorem inr_add {a b c u v : CQ} {r s e R : Rat} (h : InR a r u) (k : InR b s v) (hc : Nb (c - (a + b)) e) (hR : r + s + e ≤ R) : InR c R (u + v) := by
 have := nb_sub (nb_add h k) hc
 have e1 : u - a + (v - b) - (c - (a + b)) = u + v - c := by simp only [cq_add, cq_sub]; apply CQ.ext <;> grind
 rw [e1] at this
 exact nb_mono this hR
theorem inr_sub {a b c u v : CQ} {r s e R : Rat} (h : InR a r u) (k : InR b s v) (hc : Nb (c - (a - b)) e) (hR : r + s + e ≤ R) : InR c R (u - v) := by
 have := nb_sub (nb_sub h k) hc
 have e1 : u - a - (v - b) - (c - (a - b)) = u - v - c := by simp only [cq_sub]; apply CQ.ext <;> grind
 rw [e1] at this
 exact nb_mono this hR
theorem inr_mul {a b c u v : CQ} {r s e p q R : Rat} (h : InR a r u) (k : InR b s v) (ha : Nb a p) (hb : Nb b q) (hc : Nb (c - a * b) e) (hR : p * s + q * r + r * s + e ≤ R) : InR c R (u * v) := by
 have := nb_sub (nb_add (nb_add (nb_mul ha k) (nb_mul hb h)) (nb_mul h k)) hc
 have e1 : a * (v - b) + b * (u - a) + (u - a) * (v - b) - (c - a * b) = u * v - c := by simp only [cq_add, cq_mul, cq_sub]; apply CQ.ext <;> grind
 rw [e1] at this
 exact nb_mono this hR
theorem inr_hi {c u : CQ} {r h : Rat} (k : InR c r u) (hc : Nb c h) : Nb u (h + r) := by
 have := nb_add hc k
 have e : c + (u - c) = u := by simp only [cq_add, cq_sub]; apply CQ.ext <;> grind
 rw [e] at this; exact this
/-- of two parts, each off by so much -/
theorem nb_parts {u : CQ} {a b : Rat} (ha : 0 ≤ a) (hb : 0 ≤ b) (h1 : u.re ≤ a) (h2 : -a ≤ u.re) (h3 : u.im ≤ b) (h4 : -b ≤ u.im) : Nb u (a + b) := by
 refine ⟨Rat.add_nonneg ha hb, ?_⟩
 have sq : ∀ {x y : Rat}, 0 ≤ y → x ≤ y → -y ≤ x → x * x ≤ y * y := fun {x y} hy k1 k2 => by
  rcases Rat.le_total (a := 0) (b := x) with h | h
  ·exact rsq_le h k1
  ·have := rsq_le (x := -x) (y := y) (by grind) (by grind)
   grind
 have k1 := sq ha h1 h2
 have k2 := sq hb h3 h4
 have k3 := Rat.mul_nonneg ha hb
 unfold CQ.nsq
 grind
/-- the greater part times the root of 1 and the square of the quotient -/
theorem nb_hi {x y p q t s h : Rat} (hp : 0 < p) (hq : 0 ≤ q) (hxy : (x * x = p * p ∧ y * y = q * q) ∨ (x * x = q * q ∧ y * y = p * p)) (ht : q ≤ t * p) (hs0 : 0 ≤ s) (hs : 1 + t * t ≤ s * s) (hh : p * s ≤ h) : Nb ⟨x, y⟩ h := by
 have h0 : 0 ≤ p * s := Rat.mul_nonneg (Rat.le_of_lt hp) hs0
 refine ⟨Rat.le_trans h0 hh, ?_⟩
 have e : (⟨x, y⟩ : CQ).nsq = p * p + q * q := by show x * x + y * y = _; rcases hxy with ⟨h1, h2⟩ | ⟨h1, h2⟩ <;> grind
 rw [e]
 have k1 := rsq_le hq ht
 have k2 : p * p * (1 + t * t) ≤ p * p * (s * s) := Rat.mul_le_mul_of_nonneg_left hs (rsq_nn p)
 have k3 := rsq_le h0 hh
 grind
/-- apart: what the squares say -/
theorem nb_apart {a b u : CQ} {r s : Rat} (h : (r + s) * (r + s) < (a - b).nsq) (ha : InR a r u) (hb : InR b s u) : False := by
 have := nb_sub hb ha
 have e : u - b - (u - a) = a - b := by simp only [cq_sub]; apply CQ.ext <;> grind
 rw [e] at this
 have k := this.2
 have : (s + r) * (s + r) = (r + s) * (r + s) := by grind
 grind
end Fil

/- Floats as rationals: sums and products, and what they lose. In plain Lean. (NOT BUILT YET) -/
namespace Go.Proofs.YtfdnbogbankjjaaGreatDoor
open Go Go.RowKit Go.PlainAid Fil

/-- the scale -/
def PP : Rat := ((2 ^ lowM : Nat) : Rat)
theorem PP_pos : 0 < PP := by
 have h : (1 : Rat) ≤ PP := by
  unfold PP
  have : 1 ≤ 2 ^ lowM := Nat.one_le_two_pow
  exact_mod_cast this
 grind
/-- the number of a finite float -/
def fq (b : Nat) : Rat := (fu b : Rat) / PP
theorem fq_mul (b : Nat) : fq b * PP = (fu b : Rat) := Rat.div_mul_cancel (by have := PP_pos; grind)
/-- finite -/
def Fn (b : Nat) : Prop := fr b < 9218868437227405312
theorem Fn.q {b : Nat} (h : Fn b) : flQ b ≠ 2047 := flQ_fin h
theorem fu_flY {b : Nat} (h : Fn b) : fu b = W (sz (fs b) (flM b)) (flE b) := by
 unfold fu
 rw [W_sz, fl_mg' h.q]
/-- the exact sum, in least units -/
theorem sum_W {x y : Nat} (hx : Fn x) (hy : Fn y) : W (addZ (sz (fs x) (flM x)) (flE x) (sz (fs y) (flM y)) (flE y)) (min (flE x) (flE y)) = fu x + fu y := by
 rw [fu_flY hx, fu_flY hy]
 have h1 := flE_lo x
 have h2 := flE_lo y
 unfold W addZ
 rw [Int.add_mul, Int.mul_assoc, Int.mul_assoc, ← Int.pow_add, ← Int.pow_add]
 congr 3 <;> congr 1 <;> omega
end Go.Proofs.YtfdnbogbankjjaaGreatDoor

/- Floats by what they are worth: any NaN is none. In plain Lean, and the laws of the model's operations on them. -/
namespace Go.Proofs.YtfdnbogbankjjaaGreatDoor
open Go Go.RowKit Go.PlainAid Fil

abbrev FV := Option Nat
abbrev CV := FV × FV
abbrev BV := CV × FV
/-- a float's bits, but none for a NaN -/
def al (b : Nat) : FV := if 9218868437227405312 < fr b then none else some b
/-- the float b is worth v -/
def Fl (b : Nat) (v : FV) : Prop := b < 18446744073709551616 ∧ al b = v
theorem Fl.lt {b : Nat} {v : FV} (h : Fl b v) : b < 18446744073709551616 := h.1
theorem al_some {b : Nat} (h : fr b ≤ 9218868437227405312) : al b = some b := if_neg (by omega)
theorem al_none {b : Nat} (h : 9218868437227405312 < fr b) : al b = none := if_pos h
theorem fl_some {b : Nat} (hb : b < 18446744073709551616) (h : fr b ≤ 9218868437227405312) : Fl b (some b) := ⟨hb, al_some h⟩
theorem Fl.cases {b : Nat} {v : FV} (h : Fl b v) : (9218868437227405312 < fr b ∧ v = none) ∨ (fr b ≤ 9218868437227405312 ∧ v = some b) := by
  rcases Nat.lt_or_ge 9218868437227405312 (fr b) with k | k
  · exact .inl ⟨k, (al_none k).symm.trans h.2 |>.symm⟩
  · exact .inr ⟨k, (al_some k).symm.trans h.2 |>.symm⟩
theorem Fl.val {b c : Nat} (h : Fl b (some c)) : b = c ∧ fr c ≤ 9218868437227405312 ∧ c < 18446744073709551616 := by
  rcases h.cases with ⟨_, k⟩ | ⟨k, e⟩
  · cases k
  · cases e; exact ⟨rfl, k, h.1⟩
def fop (op : BinOp) (x y : FV) : FV := x.bind fun a => y.bind fun b => floatBits op .f64 a b
def ford (x y : FV) : Option Ordering := x.bind fun a => y.bind fun b => Ieee.double.order a b
def flt (x y : FV) : Bool := ford x y == some .lt
def fgt (x y : FV) : Bool := ford x y == some .gt
def feq (x y : FV) : Bool := ford x y == some .eq
def fle (x y : FV) : Bool := ford x y == some .lt || ford x y == some .eq
def fge (x y : FV) : Bool := ford x y == some .gt || ford x y == some .eq
def fneg (x : FV) : FV := x.bind fun a => some (if a < 9223372036854775808 then a + 9223372036854775808 else a - 9223372036854775808)
def fabs (x : FV) : FV := x.bind fun a => some (a % 9223372036854775808)
def fsqrt (x : FV) : FV := x.bind fun a => Ieee.double.sqrt a
def fmax (x y : FV) : FV := x.bind fun a => y.bind fun b => match Ieee.double.order a b with
  | some .lt => some b
  | some .gt => some a
  | some .eq => some (if fs a then b else a)
  | none => none

theorem write_fr (d : Ieee.Datum) (h : d.isNaN = false) : fr (Ieee.double.write d) ≤ 9218868437227405312 := by
  cases d with
  | nan n f => cases h
  | infinity s => cases s <;> decide
  | number s m e =>
    show fr (Ieee.double.nearest s m e) ≤ _
    by_cases hm : m = 0
    · subst hm
      unfold Ieee.Format.nearest
      rw [if_pos rfl]
      cases s <;> decide
    · rw [nearest_eq s hm e]
      have hr : rgN m e ≤ 9218868437227405312 := by
        unfold rgN
        split
        · omega
        · rename_i ht
          have h1 := rdR_lt hm (e := e) (by omega)
          have : (rdUp m e).toNat ≤ 1 := by cases rdUp m e <;> decide
          omega
      unfold fr Ieee.Format.word
      rw [d_sign]
      cases s <;> simp <;> omega
theorem sum_num' {a b d : Ieee.Datum} (h : a.sum b = some d) : d.isNaN = false := by
  cases a <;> cases b <;> simp only [Ieee.Datum.sum] at h <;> (try split at h) <;> cases h <;> rfl
theorem product_num' {a b d : Ieee.Datum} (h : a.product b = some d) : d.isNaN = false := by
  cases a <;> cases b <;> simp only [Ieee.Datum.product] at h <;> (try split at h) <;> cases h <;> rfl
theorem quotient_num' {k : Nat} {a b d : Ieee.Datum} (h : a.quotient k b = some d) : d.isNaN = false := by
  cases a <;> cases b <;> simp only [Ieee.Datum.quotient] at h <;> (try split at h) <;> (try split at h) <;> cases h <;> rfl
theorem root_num' {k : Nat} {a d : Ieee.Datum} (h : a.root k = some d) : d.isNaN = false := by
  cases a <;> simp only [Ieee.Datum.root] at h <;> (try split at h) <;> (try split at h) <;> cases h <;> rfl
theorem bits_fr {op : BinOp} {x y r : Nat} (h : floatBits op .f64 x y = some r) : fr r ≤ 9218868437227405312 ∧ r < 18446744073709551616 := by
  have key : ∀ {o : Option Ieee.Datum}, (∀ d, o = some d → d.isNaN = false) → o.map Ieee.double.write = some r → fr r ≤ 9218868437227405312 ∧ r < 18446744073709551616 := by
    intro o ho k
    cases o with
    | none => cases k
    | some d =>
      have e : Ieee.double.write d = r := Option.some.inj k
      rw [← e]
      exact ⟨write_fr d (ho d rfl), Nat.lt_of_lt_of_le (Ieee.Format.write_lt Ieee.double d) (by decide)⟩
  unfold floatBits at h
  split at h
  · exact key (fun d hd => sum_num' hd) h
  · exact key (fun d hd => sum_num' hd) h
  · exact key (fun d hd => product_num' hd) h
  · exact key (fun d hd => quotient_num' hd) h
  · cases h
theorem bits_nan {op : BinOp} {x y : Nat} (h : 9218868437227405312 < fr x ∨ 9218868437227405312 < fr y) : floatBits op .f64 x y = none := by
  have key : ∀ a, 9218868437227405312 < fr a → ∃ s t, Ieee.double.read a = .nan s t := fun a ha => ⟨_, read_nan ha⟩
  unfold floatBits
  split
  all_goals first
    | (show Option.map _ _ = _
       rcases h with h | h
       · obtain ⟨s, t, e⟩ := key _ h
         show Option.map Ieee.double.write _ = none
         simp only [FloatKind.format, e, Ieee.Datum.sum, Ieee.Datum.product, Ieee.Datum.quotient, Option.map_none]
       · obtain ⟨s, t, e⟩ := key _ h
         show Option.map Ieee.double.write _ = none
         simp only [FloatKind.format, e, Ieee.Datum.opposite]
         cases Ieee.double.read x <;> rfl)
    | rfl
/-- the words that the tape may give for a NaN -/
def nanB (t : Nat) : Nat := (t % 2) * 9223372036854775808 + 9218868437227405312 + 1 + (t / 2) % 4503599627370495
theorem nanB_fl (t : Nat) : Fl (nanB t) none := by
  have h1 : t % 2 < 2 := Nat.mod_lt _ (by decide)
  have h2 : (t / 2) % 4503599627370495 < 4503599627370495 := Nat.mod_lt _ (by decide)
  generalize (t / 2) % 4503599627370495 = u at *
  unfold nanB
  refine ⟨by omega, al_none ?_⟩
  unfold fr
  rcases (show t % 2 = 0 ∨ t % 2 = 1 by omega) with h | h <;> rw [h] <;> omega
/-- the operation in the model -/
theorem run_fop (P : Program) (w : World) (op : BinOp) (t : TypeId) (hop : op = .add ∨ op = .sub ∨ op = .mul ∨ op = .quo) {x y : Nat} {X Y : FV} (hx : Fl x X) (hy : Fl y Y) :
    ∃ r w', (binOp op t (.float .f64 x) (.float .f64 y)).run P w = .ok (.float .f64 r) w' ∧ Fl r (fop op X Y) ∧ Below w.heap.size w w' := by
  have e : fop op X Y = floatBits op .f64 x y := by
    rcases hx.cases with ⟨k, rfl⟩ | ⟨k, rfl⟩
    · exact (bits_nan (.inl k)).symm
    · rcases hy.cases with ⟨k2, rfl⟩ | ⟨k2, rfl⟩
      · exact (bits_nan (.inr k2)).symm
      · rfl
  rw [e]
  cases hb : floatBits op .f64 x y with
  | some r =>
    obtain ⟨h1, h2⟩ := bits_fr hb
    exact ⟨r, w, run_float_arith w op t .f64 x y r hb, fl_some h2 h1, Below.refl _ _⟩
  | none =>
    let T := w.tape w.drawn (.nanBits .f64 x y)
    refine ⟨nanB T, w.drew, ?_, nanB_fl T, (Below.refl _ _).drew⟩
    rcases hop with rfl | rfl | rfl | rfl
    · have h2 : FloatKind.f64.format.add x y = none := hb
      simp [binOp, Op.floatArith, h2, Question.forced, Question.cut, nanB, T]
    · have h2 : FloatKind.f64.format.sub x y = none := hb
      simp [binOp, Op.floatArith, h2, Question.forced, Question.cut, nanB, T]
    · have h2 : FloatKind.f64.format.mul x y = none := hb
      simp [binOp, Op.floatArith, h2, Question.forced, Question.cut, nanB, T]
    · have h2 : FloatKind.f64.format.div x y = none := hb
      simp [binOp, Op.floatArith, h2, Question.forced, Question.cut, nanB, T]
theorem ord_al {x y : Nat} {X Y : FV} (hx : Fl x X) (hy : Fl y Y) : FloatKind.f64.format.order x y = ford X Y := by
  rcases hx.cases with ⟨k, rfl⟩ | ⟨k, rfl⟩
  · exact order_nan (.inl k)
  · rcases hy.cases with ⟨k2, rfl⟩ | ⟨k2, rfl⟩
    · exact order_nan (.inr k2)
    · rfl
theorem c_lt {x y : Nat} {X Y : FV} (hx : Fl x X) (hy : Fl y Y) : (FloatKind.f64.format.order x y == some .lt) = flt X Y := by rw [ord_al hx hy]; rfl
theorem c_gt {x y : Nat} {X Y : FV} (hx : Fl x X) (hy : Fl y Y) : (FloatKind.f64.format.order x y == some .gt) = fgt X Y := by rw [ord_al hx hy]; rfl
theorem c_eq {x y : Nat} {X Y : FV} (hx : Fl x X) (hy : Fl y Y) : (FloatKind.f64.format.order x y == some .eq) = feq X Y := by rw [ord_al hx hy]; rfl
theorem c_ne {x y : Nat} {X Y : FV} (hx : Fl x X) (hy : Fl y Y) : (FloatKind.f64.format.order x y != some .eq) = !feq X Y := by rw [ord_al hx hy]; rfl
theorem c_le {x y : Nat} {X Y : FV} (hx : Fl x X) (hy : Fl y Y) : (FloatKind.f64.format.order x y == some .lt || FloatKind.f64.format.order x y == some .eq) = fle X Y := by rw [ord_al hx hy]; rfl
theorem c_ge {x y : Nat} {X Y : FV} (hx : Fl x X) (hy : Fl y Y) : (FloatKind.f64.format.order x y == some .gt || FloatKind.f64.format.order x y == some .eq) = fge X Y := by rw [ord_al hx hy]; rfl
theorem run_fmax (P : Program) (w : World) (ts : Array TypeId) (t : TypeId) {x y : Nat} {X Y : FV} (hx : Fl x X) (hy : Fl y Y) :
    ∃ r w', (Builtin.max_ ts t #[.float .f64 x, .float .f64 y]).run P w = .ok (.float .f64 r) w' ∧ Fl r (fmax X Y) ∧ Below w.heap.size w w' := by
  have nn : 9218868437227405312 < fr x ∨ 9218868437227405312 < fr y → ∃ r w', (Builtin.max_ ts t #[.float .f64 x, .float .f64 y]).run P w = .ok (.float .f64 r) w' ∧ Fl r none ∧ Below w.heap.size w w' := by
    intro k
    have ho : FloatKind.f64.format.order x y = none := order_nan k
    let T := w.tape w.drawn (.nanMinMax .f64 true x y)
    refine ⟨nanB T, w.drew, ?_, nanB_fl T, (Below.refl _ _).drew⟩
    simp [Builtin.max_, Builtin.max2, ho, Question.forced, Question.cut, nanB, T]
  rcases hx.cases with ⟨k, rfl⟩ | ⟨k, rfl⟩
  · exact nn (.inl k)
  · rcases hy.cases with ⟨k2, rfl⟩ | ⟨k2, rfl⟩
    · exact nn (.inr k2)
    · have ho : FloatKind.f64.format.order x y = some (compare (fk x) (fk y)) := order_some k k2
      have hneg : (FloatKind.f64.decode x).neg = fs x := by
        show (Ieee.double.read x).neg = _
        rcases Nat.lt_or_eq_of_le k with h | h
        · obtain ⟨m, p, e, _⟩ := read_num h
          rw [e]; rfl
        · rw [read_inf h]; rfl
      have hd : Ieee.double.order x y = some (compare (fk x) (fk y)) := ho
      cases hc : compare (fk x) (fk y) with
      | lt => exact ⟨y, w, by simp [Builtin.max_, Builtin.max2, ho, hc], by show Fl y (match Ieee.double.order x y with | some .lt => some y | some .gt => some x | some .eq => some (if fs x then y else x) | none => none); rw [hd, hc]; exact hy, Below.refl _ _⟩
      | gt => exact ⟨x, w, by simp [Builtin.max_, Builtin.max2, ho, hc], by show Fl x (match Ieee.double.order x y with | some .lt => some y | some .gt => some x | some .eq => some (if fs x then y else x) | none => none); rw [hd, hc]; exact hx, Below.refl _ _⟩
      | eq => exact ⟨if fs x then y else x, w, by simp [Builtin.max_, Builtin.max2, ho, hc, hneg], by
          show Fl (if fs x then y else x) (match Ieee.double.order x y with | some .lt => some y | some .gt => some x | some .eq => some (if fs x then y else x) | none => none); rw [hd, hc]
          cases fs x
          · exact hx
          · exact hy, Below.refl _ _⟩
end Go.Proofs.YtfdnbogbankjjaaGreatDoor
