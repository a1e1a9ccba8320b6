/- The walks over the reference's Near, Below, Above. -/
import Derived.Test.YtfdnbogbankjjaaGreatDoorBE
namespace Go.Proofs.YtfdnbogbankjjaaGreatDoor
open Go Go.RowKit Go.PlainAid Fil

/-- where the magnitude lies between the two floats; is the lower one's last bit 0? -/
def whZ (x : Nat) (e : Int) : Int := if 1024 ≤ tpI x e then 3 else if rdX x e = true then 0 else 2 + cmpZ (x % 2 ^ (rdQ x e - e).toNat * 2) (2 ^ (rdQ x e - e).toNat)
def evB (x : Nat) (e : Int) : Bool := if 1024 ≤ tpI x e then false else decide (rdM x e % 2 = 0)
theorem raround_any (neg : Bool) (x : Nat) (e : Int) (w : World) (h : okD neg x e) (hx : x ≠ 0) :
  Calls Tryz.prog 51 #[.agg #[.bool neg, .string (bstr x), .int .i64 e]] w fun r w' => r = .returned (.tuple #[.float .f64 (rgL x e), .float .f64 (rgL x e + 1), .int .i64 (whZ x e), .bool (evB x e)]) ∧ Below w.heap.size w w' := by
 have he1 := h.e1
 have he2 := h.e2
 have htp := topZ_tpI hx e
 have hm := rdM_lt hx e
 by_cases ht : 1024 ≤ topZ x e
 ·rw [rgL_big (by omega), show whZ x e = 3 from if_pos (by omega), show evB x e = false from if_pos (by omega)]
  exact raround_big neg x e w h hx ht
 ·have hq : rdQ x e = max (topZ x e - 52) (-1074) := by rw [htp]; rfl
  rw [rgL_small (by omega), show evB x e = decide (rdM x e % 2 = 0) from if_neg (by omega)]
  have hM2 := fun hq => rdM_ge hx (e := e) hq
  unfold rdR
  rw [Nat.add_assoc]
  by_cases hc : rdQ x e ≤ e
  ·rw [show whZ x e = 0 by unfold whZ; rw [if_neg (by omega), if_pos (rdX_yes hc)]]
   exact raround_exact neg x e (rdQ x e) (rdM x e) w h hx (by omega) hq (by omega) hM2 hc (e - rdQ x e).toNat (by omega) (by unfold rdM; rw [if_pos hc])
  ·have hz : whZ x e = 2 + cmpZ (x % 2 ^ (rdQ x e - e).toNat * 2) (2 ^ (rdQ x e - e).toNat) := by
    unfold whZ; rw [if_neg (by omega), rdX_no hc, if_neg (by decide)]
   have hM : rdM x e = x / 2 ^ (rdQ x e - e).toNat := by unfold rdM; rw [if_neg hc]
   obtain ⟨k, hk⟩ : ∃ k, k = (rdQ x e - e).toNat := ⟨_, rfl⟩
   rw [← hk] at hz hM
   rw [hz]
   by_cases hf : 8 * Fil.dn 8 x < k
   ·have hxl := lt_dn (k := 8) (by omega) x
    have hp : 2 * 2 ^ (8 * Fil.dn 8 x) ≤ 2 ^ k := by
     have := pmono (show 8 * Fil.dn 8 x + 1 ≤ k by omega)
     rw [Nat.pow_succ] at this; omega
    have hM0 : rdM x e = 0 := by rw [hM]; exact Nat.div_eq_of_lt (by omega)
    have hQ0 : rdQ x e = -1074 := by
     have h1 := rdQ_lo x e
     rcases (show rdQ x e = -1074 ∨ -1074 < rdQ x e by omega) with h2 | h2
     ·exact h2
     ·have := hM2 h2; omega
    rw [Nat.mod_eq_of_lt (by omega), cmpZ_lt (by omega), show (2 : Int) + -1 = 1 from rfl]
    exact raround_far neg x e (rdQ x e) (rdM x e) w h hx (by omega) hq (by omega) hM2 hc k (by omega) hM0 hQ0 hf
   ·exact raround_part neg x e (rdQ x e) (rdM x e) w h hx (by omega) hq (by omega) hM2 hc k (by omega) hM hf
theorem rgL_lt {x : Nat} (hx : x ≠ 0) (e : Int) : rgL x e + 1 < 9223372036854775808 := by
 by_cases ht : tpI x e < 1024
 ·rw [rgL_small ht]; have := rdR_lt hx ht; omega
 ·rw [rgL_big (by omega)]; omega
theorem ift (a b : Int) : (if true = true then a else b) = a := rfl
theorem iff9 (a b : Int) : (if false = true then a else b) = b := rfl
theorem near_sel {x : Nat} {e : Int} (hx : x ≠ 0) : rgN x e = if 1024 ≤ topZ x e then rgL x e + 1 else if (decide (whZ x e < 2) || ((whZ x e == 2) && evB x e)) = true then rgL x e else rgL x e + 1 := by
 have htp := topZ_tpI hx e
 unfold rgN
 by_cases ht : 1024 ≤ tpI x e
 ·rw [if_pos ht, if_pos (by omega), rgL_big ht]
 ·rw [if_neg ht, if_neg (by omega), rgL_small (by omega)]
  generalize rdR x e = R
  unfold whZ evB rdUp
  rw [if_neg ht, if_neg ht]
  by_cases hc : rdQ x e ≤ e
  ·rw [rdX_yes hc, ift, show decide ((0 : Int) < 2) = true from rfl, Bool.true_or, if_pos rfl, Bool.not_true, Bool.false_and]; rfl
  ·have hM : rdM x e = x / 2 ^ (rdQ x e - e).toNat := by unfold rdM; rw [if_neg hc]
   rw [rdX_no hc, iff9, hM]
   unfold upB
   generalize 2 ^ (rdQ x e - e).toNat = p
   generalize x / p = m
   generalize x % p = r
   rcases Nat.lt_trichotomy (r * 2) p with h1 | h1 | h1
   ·rw [cmpZ_lt h1, decide_eq_false (show ¬ p < 2 * r by omega), decide_eq_false (show ¬ p = 2 * r by omega)]; rfl
   ·rw [h1, cmpZ_eq, decide_eq_false (show ¬ p < 2 * r by omega), decide_eq_true (show p = 2 * r by omega)]
    rcases (show m % 2 = 0 ∨ m % 2 = 1 by omega) with h2 | h2
    ·rw [h2]; rfl
    ·rw [h2]; rfl
   ·rw [cmpZ_gt h1, decide_eq_true (show p < 2 * r by omega)]; rfl
set_option maxHeartbeats 1000000 in
theorem rnear_zero (w : World) : Calls Tryz.prog 18 #[.agg #[.bool false, .string (bstr 0), .int .i64 0]] w fun r w' => r = .returned (.float .f64 0) ∧ Below w.heap.size w w' := by
 have p := bstr_nil
 go_enter Tryz.func18, Tryz.ntmps18
 go_wp2
 go_returns
 exact ⟨rfl, (Below.refl _ _).alloc (Nat.le_refl _) _⟩
set_option maxHeartbeats 4000000 in
theorem rnear_ne (neg : Bool) (x : Nat) (e : Int) (w : World) (h : okD neg x e) (hx : x ≠ 0) :
  Calls Tryz.prog 18 #[.agg #[.bool neg, .string (bstr x), .int .i64 e]] w fun r w' => r = .returned (.float .f64 (Ieee.double.word neg (rgN x e))) ∧ Below w.heap.size w w' := by
 have haro := fun W => raround_any neg x e W h hx
 have htop := fun V => rtop_ok neg x e V h
 rw [decide_eq_true hx] at htop
 obtain ⟨p1, p2⟩ := bstr_ne hx
 have cc := fun (w1 : World) hb => box_cells w neg (bstr x) e (w' := w1) hb
 have hlt := rgL_lt hx e
 obtain ⟨a, ha⟩ : ∃ a, a = rgL x e := ⟨_, rfl⟩
 obtain ⟨b, hb⟩ : ∃ b, b = rgL x e + 1 := ⟨_, rfl⟩
 have hsa := fun n V => rsigned_any n a V (by omega)
 have hsb := fun n V => rsigned_any n b V (by omega)
 rw [← hb, ← ha] at haro
 rw [near_sel hx, ← hb, ← ha]
 clear ha hb hlt h hx
 generalize topZ x e = T at *
 generalize whZ x e = Z at *
 generalize evB x e = E at *
 by_cases hT : 1024 ≤ T
 ·have d1 : decide (1024 ≤ T) = true := decide_eq_true hT
  rw [if_pos hT]
  clear hT
  go_enter Tryz.func18, Tryz.ntmps18
  go_wp2_with fail
  (with_reducible refine (haro _).mono ?_)
  rintro r w1 ⟨rfl, hb1⟩
  have hB1 : Below w.heap.size w w1 := ((Below.refl _ _).alloc (Nat.le_refl _) _).trans (hb1.mono (by simp))
  have hs1 := hb1.size
  obtain ⟨c0, c1, c2⟩ := cc _ hb1
  go_wp2_with fail
  (with_reducible refine (htop _).mono ?_)
  rintro r w2 ⟨rfl, hb2⟩
  have hB2 : Below w.heap.size w w2 := hB1.trans (hb2.mono hB1.size)
  have hb2' := hb1.trans (hb2.mono hs1)
  clear c0 c1 c2 hb1 hb2 hB1 hs1
  obtain ⟨c0, c1, c2⟩ := cc _ hb2'
  clear hb2' cc haro htop
  go_wp2_with (go_at_call 53; go_must (refine (hsb _ _).mono ?_); rintro r w5 ⟨rfl, rfl⟩)
  go_returns
  exact ⟨rfl, hB2⟩
 ·have d1 : decide (1024 ≤ T) = false := decide_eq_false hT
  rw [if_neg hT]
  clear hT
  by_cases h2 : Z < 2
  ·have d2 : decide (Z < 2) = true := decide_eq_true h2
   rw [d2, Bool.true_or, if_pos rfl]
   go_enter Tryz.func18, Tryz.ntmps18
   go_wp2_with fail
   (with_reducible refine (haro _).mono ?_)
   rintro r w1 ⟨rfl, hb1⟩
   have hB1 : Below w.heap.size w w1 := ((Below.refl _ _).alloc (Nat.le_refl _) _).trans (hb1.mono (by simp))
   have hs1 := hb1.size
   obtain ⟨c0, c1, c2⟩ := cc _ hb1
   go_wp2_with fail
   (with_reducible refine (htop _).mono ?_)
   rintro r w2 ⟨rfl, hb2⟩
   have hB2 : Below w.heap.size w w2 := hB1.trans (hb2.mono hB1.size)
   have hb2' := hb1.trans (hb2.mono hs1)
   clear c0 c1 c2 hb1 hb2 hB1 hs1
   obtain ⟨c0, c1, c2⟩ := cc _ hb2'
   clear hb2' cc haro htop
   go_wp2_with (go_at_call 53; go_must (refine (hsa _ _).mono ?_); rintro r w5 ⟨rfl, rfl⟩)
   go_returns
   exact ⟨rfl, hB2⟩
  ·have d2 : decide (Z < 2) = false := decide_eq_false h2
   rw [d2, Bool.false_or]
   by_cases h3 : Z = 2
   ·subst h3
    cases E
    ·rw [show ((2 : Int) == 2 && false) = false from rfl, if_neg (by decide)]
     go_enter Tryz.func18, Tryz.ntmps18
     go_wp2_with fail
     (with_reducible refine (haro _).mono ?_)
     rintro r w1 ⟨rfl, hb1⟩
     have hB1 : Below w.heap.size w w1 := ((Below.refl _ _).alloc (Nat.le_refl _) _).trans (hb1.mono (by simp))
     have hs1 := hb1.size
     obtain ⟨c0, c1, c2⟩ := cc _ hb1
     go_wp2_with fail
     (with_reducible refine (htop _).mono ?_)
     rintro r w2 ⟨rfl, hb2⟩
     have hB2 : Below w.heap.size w w2 := hB1.trans (hb2.mono hB1.size)
     have hb2' := hb1.trans (hb2.mono hs1)
     clear c0 c1 c2 hb1 hb2 hB1 hs1
     obtain ⟨c0, c1, c2⟩ := cc _ hb2'
     clear hb2' cc haro htop
     go_wp2_with (go_at_call 53; go_must (refine (hsb _ _).mono ?_); rintro r w5 ⟨rfl, rfl⟩)
     go_returns
     exact ⟨rfl, hB2⟩
    ·rw [show ((2 : Int) == 2 && true) = true from rfl, if_pos rfl]
     go_enter Tryz.func18, Tryz.ntmps18
     go_wp2_with fail
     (with_reducible refine (haro _).mono ?_)
     rintro r w1 ⟨rfl, hb1⟩
     have hB1 : Below w.heap.size w w1 := ((Below.refl _ _).alloc (Nat.le_refl _) _).trans (hb1.mono (by simp))
     have hs1 := hb1.size
     obtain ⟨c0, c1, c2⟩ := cc _ hb1
     go_wp2_with fail
     (with_reducible refine (htop _).mono ?_)
     rintro r w2 ⟨rfl, hb2⟩
     have hB2 : Below w.heap.size w w2 := hB1.trans (hb2.mono hB1.size)
     have hb2' := hb1.trans (hb2.mono hs1)
     clear c0 c1 c2 hb1 hb2 hB1 hs1
     obtain ⟨c0, c1, c2⟩ := cc _ hb2'
     clear hb2' cc haro htop
     go_wp2_with (go_at_call 53; go_must (refine (hsa _ _).mono ?_); rintro r w5 ⟨rfl, rfl⟩)
     go_returns
     exact ⟨rfl, hB2⟩
   ·have d3 : (Z == 2) = false := by simpa using h3
    rw [d3, Bool.false_and, if_neg (by decide)]
    go_enter Tryz.func18, Tryz.ntmps18
    go_wp2_with fail
    (with_reducible refine (haro _).mono ?_)
    rintro r w1 ⟨rfl, hb1⟩
    have hB1 : Below w.heap.size w w1 := ((Below.refl _ _).alloc (Nat.le_refl _) _).trans (hb1.mono (by simp))
    have hs1 := hb1.size
    obtain ⟨c0, c1, c2⟩ := cc _ hb1
    go_wp2_with fail
    (with_reducible refine (htop _).mono ?_)
    rintro r w2 ⟨rfl, hb2⟩
    have hB2 : Below w.heap.size w w2 := hB1.trans (hb2.mono hB1.size)
    have hb2' := hb1.trans (hb2.mono hs1)
    clear c0 c1 c2 hb1 hb2 hB1 hs1
    obtain ⟨c0, c1, c2⟩ := cc _ hb2'
    clear hb2' cc haro htop
    go_wp2_with (go_at_call 53; go_must (refine (hsb _ _).mono ?_); rintro r w5 ⟨rfl, rfl⟩)
    go_returns
    exact ⟨rfl, hB2⟩
theorem rnear_ok (neg : Bool) (x : Nat) (e : Int) (w : World) (h : okD neg x e) :
  Calls Tryz.prog 18 #[.agg #[.bool neg, .string (bstr x), .int .i64 e]] w fun r w' => r = .returned (.float .f64 (nearF neg x e)) ∧ Below w.heap.size w w' := by
 by_cases hx : x = 0
 ·subst hx
  obtain ⟨rfl, rfl⟩ := okD.nil h
  exact rnear_zero w
 ·unfold nearF
  rw [if_neg hx]
  exact rnear_ne neg x e w h hx
end Go.Proofs.YtfdnbogbankjjaaGreatDoor
