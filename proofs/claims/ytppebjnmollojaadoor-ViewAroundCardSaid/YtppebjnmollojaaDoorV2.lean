/- Floats around a Dyad: plain arithmetic, no program in sight. -/
import Derived.Test.YtppebjnmollojaaDoorV1
import Derived.Test.YtppebjnmollojaaDoorBC
namespace Go.Proofs.YtppebjnmollojaaDoor
open Go Go.RowKit Go.PlainAid Fil

theorem fr_word {n : Bool} {r : Nat} (h : r < 9223372036854775808) : fr (Ieee.double.word n r) = r := by
  cases n
  · rw [d_word_f]; unfold fr; omega
  · rw [d_word_t]; unfold fr; omega
theorem fs_word {n : Bool} {r : Nat} (h : r < 9223372036854775808) : fs (Ieee.double.word n r) = n := by
  cases n
  · rw [d_word_f]; exact fs_lt h
  · rw [d_word_t]; unfold fs
    rw [show (9223372036854775808 + r) / 9223372036854775808 % 2 = 1 by omega]; rfl
theorem word_lt {n : Bool} {r : Nat} (h : r < 9223372036854775808) : Ieee.double.word n r < 18446744073709551616 := by
  cases n
  · rw [d_word_f]; omega
  · rw [d_word_t]; omega
theorem fk_word {n : Bool} {r : Nat} (h : r < 9223372036854775808) : fk (Ieee.double.word n r) = if n = true then -(r : Int) else r := by
  unfold fk; rw [fr_word h, fs_word h]
theorem W_sz (n : Bool) (x : Nat) (e : Int) : W (sz n x) e = sz n (mg x e) := by unfold W mg; exact sz_shl n x _
theorem fl_mg {b : Nat} : mg (flM b) (flE b) = mv (fr b) * uN ∨ flQ b = 2047 := by
  by_cases hi : flQ b = 2047
  · exact .inr hi
  left
  have hq := flQ_lt b
  by_cases h0 : flQ b = 0
  · have hm : flM b = b % 4503599627370496 := if_pos h0
    have he : flE b = -1074 := by unfold flE; rw [if_pos h0]; rfl
    have hr : fr b = b % 4503599627370496 := by unfold flQ at h0; unfold fr; omega
    have h1 := mv_unit (m := b % 4503599627370496) (q := -1074) (by omega) (by omega) (by omega)
    rw [show ((-1074 : Int) + 1074).toNat * 4503599627370496 + b % 4503599627370496 = fr b by omega] at h1
    rw [h1]; unfold mg; rw [hm, he]
  · have hm : flM b = b % 4503599627370496 + 4503599627370496 := if_neg h0
    have he : flE b = (flQ b : Int) - 1075 := by unfold flE; rw [if_neg h0]
    have hr : fr b = flQ b * 4503599627370496 + b % 4503599627370496 := by unfold flQ; unfold fr; omega
    have h1 := mv_unit (m := b % 4503599627370496 + 4503599627370496) (q := (flQ b : Int) - 1075) (by omega) (by omega) (by omega)
    rw [show ((flQ b : Int) - 1075 + 1074).toNat * 4503599627370496 + (b % 4503599627370496 + 4503599627370496) = fr b by omega] at h1
    rw [h1]; unfold mg; rw [hm, he]
theorem fl_mg' {b : Nat} (h : flQ b ≠ 2047) : mg (flM b) (flE b) = mv (fr b) * uN := fl_mg.resolve_right h
theorem flQ_fin {b : Nat} (h : fr b < 9218868437227405312) : flQ b ≠ 2047 := fun e => by have := flQ_inf.1 e; omega
theorem fr_fin {b : Nat} (h : flQ b ≠ 2047) : fr b < 9218868437227405312 := by
  rcases Nat.lt_or_ge (fr b) 9218868437227405312 with h1 | h1
  · exact h1
  · exact absurd (flQ_inf.2 h1) h
theorem ag_fin {n : Bool} {x : Nat} {e : Int} {b : Nat} (h : fr b < 9218868437227405312) : agV (sz n x) e b = (sz n (mg x e) - sz (fs b) (mv (fr b) * uN)).sign := by
  unfold agV
  rw [if_neg (flQ_fin h)]
  unfold cmpD
  rw [W_sz, W_sz, fl_mg' (flQ_fin h)]
theorem ag_inf {z e : Int} {b : Nat} (h : fr b = 9218868437227405312) : agV z e b = if fs b = true then 1 else -1 := by
  unfold agV
  rw [if_pos (flQ_inf.2 (by omega)), if_neg (by omega)]
theorem agE_ok {b : Nat} (h : fr b ≤ 9218868437227405312) : agE b = 0 := by unfold agE; rw [if_neg (by omega)]
theorem sz_f (x : Nat) : sz false x = (x : Int) := rfl
theorem sz_t (x : Nat) : sz true x = -(x : Int) := rfl
theorem okD.lo {n : Bool} {x : Nat} {e : Int} (h : okD n x e) : -(lowM : Int) ≤ e := by have h1 := h.e1; have := lowM_ge; omega

/-- is the value a float's? -/
def exB (x : Nat) (e : Int) : Bool := decide (x = 0) || rgX x e
def lowR (n : Bool) (x : Nat) (e : Int) : Nat := rgL x e + (!rgX x e && n).toNat
def highR (n : Bool) (x : Nat) (e : Int) : Nat := rgL x e + (!rgX x e && !n).toNat
theorem lowF_eq {n : Bool} {x : Nat} {e : Int} (h : x ≠ 0) : lowF n x e = Ieee.double.word n (lowR n x e) := if_neg h
theorem highF_eq {n : Bool} {x : Nat} {e : Int} (h : x ≠ 0) : highF n x e = Ieee.double.word n (highR n x e) := if_neg h
theorem nearF_eq {n : Bool} {x : Nat} {e : Int} (h : x ≠ 0) : nearF n x e = Ieee.double.word n (rgN x e) := if_neg h
theorem lowF_z (n : Bool) (e : Int) : lowF n 0 e = 0 := rfl
theorem highF_z (n : Bool) (e : Int) : highF n 0 e = 0 := rfl
theorem nearF_z (n : Bool) (e : Int) : nearF n 0 e = 0 := rfl
theorem okD.rung {n : Bool} {x : Nat} {e : Int} (h : okD n x e) (hx : x ≠ 0) : Rung x e := Go.Proofs.YtppebjnmollojaaDoor.rung hx h.lo
theorem lowR_le {n : Bool} {x : Nat} {e : Int} (R : Rung x e) : lowR n x e ≤ 9218868437227405312 := by
  have := R.lt; unfold lowR; cases rgX x e <;> cases n <;> simp <;> omega
theorem highR_le {n : Bool} {x : Nat} {e : Int} (R : Rung x e) : highR n x e ≤ 9218868437227405312 := by
  have := R.lt; unfold highR; cases rgX x e <;> cases n <;> simp <;> omega
theorem rgN_le {x : Nat} {e : Int} (R : Rung x e) : rgN x e ≤ 9218868437227405312 := by
  have := R.lt; rcases rgN_or R with h | h <;> omega
theorem lowF_ok {n : Bool} {x : Nat} {e : Int} (h : okD n x e) : fr (lowF n x e) ≤ 9218868437227405312 ∧ lowF n x e < 18446744073709551616 := by
  by_cases hx : x = 0
  · subst hx; rw [lowF_z]; exact ⟨by decide, by omega⟩
  · have := lowR_le (n := n) (h.rung hx)
    rw [lowF_eq hx, fr_word (by omega)]
    exact ⟨by omega, word_lt (by omega)⟩
theorem highF_ok {n : Bool} {x : Nat} {e : Int} (h : okD n x e) : fr (highF n x e) ≤ 9218868437227405312 ∧ highF n x e < 18446744073709551616 := by
  by_cases hx : x = 0
  · subst hx; rw [highF_z]; exact ⟨by decide, by omega⟩
  · have := highR_le (n := n) (h.rung hx)
    rw [highF_eq hx, fr_word (by omega)]
    exact ⟨by omega, word_lt (by omega)⟩
theorem nearF_ok {n : Bool} {x : Nat} {e : Int} (h : okD n x e) : fr (nearF n x e) ≤ 9218868437227405312 ∧ nearF n x e < 18446744073709551616 := by
  by_cases hx : x = 0
  · subst hx; rw [nearF_z]; exact ⟨by decide, by omega⟩
  · have := rgN_le (h.rung hx)
    rw [nearF_eq hx, fr_word (by omega)]
    exact ⟨by omega, word_lt (by omega)⟩
theorem Rung.above {x : Nat} {e : Int} (R : Rung x e) (h : rgL x e + 1 < 9218868437227405312) : mg x e < mv (rgL x e + 1) * uN := by
  rcases R.hi with h1 | h1
  · exact h1
  · omega
theorem ag_low {n : Bool} {x : Nat} {e : Int} (h : okD n x e) : agV (sz n x) e (lowF n x e) = if exB x e = true then 0 else 1 := by
  by_cases hx : x = 0
  · subst hx
    obtain ⟨rfl, rfl⟩ := h.nil
    rw [lowF_z, ag_fin (by decide), mg_zero, show fr 0 = 0 from rfl, mv_zero, Nat.zero_mul, sz_zero, sz_zero]
    rfl
  · have R := h.rung hx
    have hl := lowR_le (n := n) R
    have h0 := R.lt
    rw [lowF_eq hx]
    unfold exB
    rw [decide_eq_false hx, Bool.false_or]
    have hR : lowR n x e = rgL x e + (!rgX x e && n).toNat := rfl
    have ho := R.od (h.odd hx)
    have hlo := R.lo
    by_cases hf : lowR n x e < 9218868437227405312
    · rw [ag_fin (by rw [fr_word (by omega)]; exact hf), fr_word (by omega), fs_word (by omega)]
      cases hX : rgX x e
      · have h2 := ho hX
        rw [hX] at hR
        rw [if_neg (by simp)]
        refine Int.sign_eq_one_of_pos ?_
        cases n
        · rw [sz_f, sz_f]
          simp only [Bool.and_false, Bool.toNat_false, Nat.add_zero] at hR
          rw [hR]; omega
        · rw [sz_t, sz_t]
          simp only [Bool.not_false, Bool.and_true, Bool.toNat_true] at hR
          have h3 := R.above (by omega)
          rw [hR]; omega
      · have h2 := R.ex hX
        rw [hX] at hR
        simp only [Bool.not_true, Bool.false_and, Bool.toNat_false, Nat.add_zero] at hR
        rw [if_pos rfl, hR, h2, Int.sub_self]; rfl
    · have e1 : lowR n x e = 9218868437227405312 := by omega
      rw [ag_inf (by rw [fr_word (by omega)]; exact e1), fs_word (by omega)]
      cases hX : rgX x e <;> cases n <;> rw [hX] at hR <;> simp at hR <;> first | omega | rfl
theorem ag_high {n : Bool} {x : Nat} {e : Int} (h : okD n x e) : agV (sz n x) e (highF n x e) = if exB x e = true then 0 else -1 := by
  by_cases hx : x = 0
  · subst hx
    obtain ⟨rfl, rfl⟩ := h.nil
    rw [highF_z, ag_fin (by decide), mg_zero, show fr 0 = 0 from rfl, mv_zero, Nat.zero_mul, sz_zero, sz_zero]
    rfl
  · have R := h.rung hx
    have hl := highR_le (n := n) R
    have h0 := R.lt
    rw [highF_eq hx]
    unfold exB
    rw [decide_eq_false hx, Bool.false_or]
    have hR : highR n x e = rgL x e + (!rgX x e && !n).toNat := rfl
    have ho := R.od (h.odd hx)
    have hlo := R.lo
    by_cases hf : highR n x e < 9218868437227405312
    · rw [ag_fin (by rw [fr_word (by omega)]; exact hf), fr_word (by omega), fs_word (by omega)]
      cases hX : rgX x e
      · have h2 := ho hX
        rw [hX] at hR
        rw [if_neg (by simp)]
        refine Int.sign_eq_neg_one_of_neg ?_
        cases n
        · rw [sz_f, sz_f]
          simp only [Bool.not_false, Bool.and_true, Bool.toNat_true] at hR
          have h3 := R.above (by omega)
          rw [hR]; omega
        · rw [sz_t, sz_t]
          simp only [Bool.not_true, Bool.and_false, Bool.toNat_false, Nat.add_zero] at hR
          rw [hR]; omega
      · have h2 := R.ex hX
        rw [hX] at hR
        simp only [Bool.not_true, Bool.false_and, Bool.toNat_false, Nat.add_zero] at hR
        rw [if_pos rfl, hR, h2, Int.sub_self]; rfl
    · have e1 : highR n x e = 9218868437227405312 := by omega
      rw [ag_inf (by rw [fr_word (by omega)]; exact e1), fs_word (by omega)]
      cases hX : rgX x e <;> cases n <;> rw [hX] at hR <;> simp at hR <;> first | omega | rfl
/-- Near is one of the two -/
theorem near_or {n : Bool} {x : Nat} {e : Int} (h : okD n x e) : nearF n x e = lowF n x e ∨ nearF n x e = highF n x e := by
  by_cases hx : x = 0
  · subst hx; exact .inl rfl
  · rw [nearF_eq hx, lowF_eq hx, highF_eq hx]
    unfold lowR highR
    rcases rgN_or (h.rung hx) with h1 | ⟨h1, h2⟩
    · rw [h1]
      cases rgX x e <;> cases n <;> simp
    · rw [h1, h2]
      cases n <;> simp
/-- the float behind one -/
def nxt (b : Nat) : Nat := if fr b = 0 then 1 else if fs b = true then b - 1 else b + 1
theorem nxt_low {n : Bool} {x : Nat} {e : Int} (h : okD n x e) (hE : exB x e = false) : nxt (lowF n x e) = highF n x e ∧ fk (lowF n x e) < 9218868437227405312 := by
  unfold exB at hE
  rw [Bool.or_eq_false_iff, decide_eq_false_iff_not] at hE
  obtain ⟨hx, hX⟩ := hE
  have R := h.rung hx
  have h0 := R.lt
  rw [lowF_eq hx, highF_eq hx]
  unfold nxt lowR highR
  rw [hX]
  cases n
  · simp only [Bool.not_false, Bool.and_false, Bool.toNat_false, Nat.add_zero, Bool.and_true, Bool.toNat_true]
    rw [fr_word (by omega), fs_word (by omega), fk_word (by omega), d_word_f, d_word_f, if_neg (by simp : ¬ (false = true)), if_neg (by simp : ¬ (false = true))]
    refine ⟨?_, by omega⟩
    split <;> omega
  · simp only [Bool.not_false, Bool.not_true, Bool.and_false, Bool.toNat_false, Nat.add_zero, Bool.and_true, Bool.toNat_true]
    rw [fr_word (by omega), fs_word (by omega), fk_word (by omega), d_word_t, d_word_t, if_pos rfl, if_pos rfl, if_neg (by omega)]
    exact ⟨by omega, by omega⟩
theorem fk_low {n : Bool} {x : Nat} {e : Int} (h : okD n x e) (hx : x ≠ 0) : fk (lowF n x e) = if n = true then -(rgH x e : Int) else rgL x e := by
  have h1 := lowR_le (n := n) (h.rung hx)
  rw [lowF_eq hx, fk_word (by omega)]
  cases n
  · unfold lowR; rw [Bool.and_false]; rfl
  · unfold lowR; rw [Bool.and_true]; rfl
theorem fk_high {n : Bool} {x : Nat} {e : Int} (h : okD n x e) (hx : x ≠ 0) : fk (highF n x e) = if n = true then -(rgL x e : Int) else rgH x e := by
  have h1 := highR_le (n := n) (h.rung hx)
  rw [highF_eq hx, fk_word (by omega)]
  cases n
  · unfold highR; rw [Bool.not_false, Bool.and_true]; rfl
  · unfold highR; rw [Bool.not_true, Bool.and_false]; rfl
theorem fk_near {n : Bool} {x : Nat} {e : Int} (h : okD n x e) (hx : x ≠ 0) : fk (nearF n x e) = if n = true then -(rgN x e : Int) else rgN x e := by
  have h1 := rgN_le (h.rung hx)
  rw [nearF_eq hx, fk_word (by omega)]
theorem fk_mono {F G : Nat → Int → Nat} {p q : Bool → Nat → Int → Nat} (_hp : p = p)
    (hF : ∀ {n : Bool} {x : Nat} {e : Int}, okD n x e → x ≠ 0 → fk (q n x e) = if n = true then -(F x e : Int) else G x e) (h0 : ∀ n e, q n 0 e = 0)
    (mF : ∀ {x y : Nat} {e f : Int}, Rung x e → Rung y f → x % 2 = 1 → y % 2 = 1 → mg x e ≤ mg y f → F x e ≤ F y f)
    (mG : ∀ {x y : Nat} {e f : Int}, Rung x e → Rung y f → x % 2 = 1 → y % 2 = 1 → mg x e ≤ mg y f → G x e ≤ G y f)
    {a b : DY} (ha : a.ok) (hb : b.ok) (h : a.v ≤ b.v) : fk (q a.n a.x a.e) ≤ fk (q b.n b.x b.e) := by
  have va : a.v = sz a.n (mg a.x a.e) := W_sz _ _ _
  have vb : b.v = sz b.n (mg b.x b.e) := W_sz _ _ _
  rw [va, vb] at h
  obtain ⟨n, x, e⟩ := a
  obtain ⟨m, y, f⟩ := b
  have ha' : okD n x e := ha
  have hb' : okD m y f := hb
  dsimp only at *
  by_cases hx : x = 0
  · subst hx
    obtain ⟨rfl, rfl⟩ := ha'.nil
    rw [h0, show fk 0 = 0 from rfl]
    by_cases hy : y = 0
    · subst hy; rw [h0]; exact Int.le_refl _
    · rw [hF hb' hy]
      rw [mg_zero, sz_zero] at h
      have := mg_ne hy f
      cases m
      · simp only [Bool.false_eq_true, if_false]; omega
      · rw [sz_t] at h; omega
  · rw [hF ha' hx]
    have h1 := mg_ne hx e
    by_cases hy : y = 0
    · subst hy
      obtain ⟨rfl, rfl⟩ := hb'.nil
      rw [h0, show fk 0 = 0 from rfl]
      rw [mg_zero, sz_zero] at h
      cases n
      · rw [sz_f] at h; omega
      · simp only [if_true]; omega
    · rw [hF hb' hy]
      have h2 := mg_ne hy f
      cases n <;> cases m
      · rw [sz_f, sz_f] at h
        have := mG (ha'.rung hx) (hb'.rung hy) (ha'.odd hx) (hb'.odd hy) (by omega)
        simp only [Bool.false_eq_true, if_false]; omega
      · rw [sz_f, sz_t] at h; omega
      · simp only [Bool.false_eq_true, if_false, if_true]; omega
      · rw [sz_t, sz_t] at h
        have := mF (hb'.rung hy) (ha'.rung hx) (hb'.odd hy) (ha'.odd hx) (by omega)
        simp only [if_true]; omega
theorem low_mono {a b : DY} (ha : a.ok) (hb : b.ok) (h : a.v ≤ b.v) : fk (lowF a.n a.x a.e) ≤ fk (lowF b.n b.x b.e) :=
  fk_mono (p := lowF) rfl (F := rgH) (G := rgL) (q := lowF) fk_low lowF_z rgH_mono (fun hx hy _ _ h => rgL_mono hx hy h) ha hb h
theorem high_mono {a b : DY} (ha : a.ok) (hb : b.ok) (h : a.v ≤ b.v) : fk (highF a.n a.x a.e) ≤ fk (highF b.n b.x b.e) :=
  fk_mono (p := lowF) rfl (F := rgL) (G := rgH) (q := highF) fk_high highF_z (fun hx hy _ _ h => rgL_mono hx hy h) rgH_mono ha hb h
theorem near_mono {a b : DY} (ha : a.ok) (hb : b.ok) (h : a.v ≤ b.v) : fk (nearF a.n a.x a.e) ≤ fk (nearF b.n b.x b.e) :=
  fk_mono (p := lowF) rfl (F := rgN) (G := rgN) (q := nearF) fk_near nearF_z (fun hx hy _ _ h => rgN_mono hx hy h) (fun hx hy _ _ h => rgN_mono hx hy h) ha hb h
theorem sz_inj {n m : Bool} {x y : Nat} (h : sz n x = sz m y) (hx : x ≠ 0) : n = m ∧ x = y := by
  unfold sz at h
  cases n <;> cases m <;> simp at h ⊢ <;> omega
/-- the Dyad of a float -/
def flY (b : Nat) : DY := mkD (sz (fs b) (flM b)) (flE b)
theorem flY_ok (b : Nat) : (flY b).ok := mkD_ok _ _
theorem flE_lo (b : Nat) : -(lowM : Int) ≤ flE b := by have h1 := flE_bd b; have := lowM_ge; omega
theorem flY_v {b : Nat} (h : flQ b ≠ 2047) : (flY b).v = sz (fs b) (mv (fr b) * uN) := by
  unfold flY
  rw [mkD_v (fl_ok h) (flE_lo b), W_sz, fl_mg' h]
/-- a float comes back, but a nought without its sign -/
def ownF (b : Nat) : Nat := if fr b = 0 then 0 else b
theorem own_fl {b : Nat} (hb : b < 18446744073709551616) (h : flQ b ≠ 2047) :
    nearF (flY b).n (flY b).x (flY b).e = ownF b ∧ lowF (flY b).n (flY b).x (flY b).e = ownF b ∧ highF (flY b).n (flY b).x (flY b).e = ownF b := by
  have hv := flY_v h
  have hk := flY_ok b
  rw [show (flY b).v = sz (flY b).n (mg (flY b).x (flY b).e) from W_sz _ _ _] at hv
  generalize flY b = d at *
  obtain ⟨n, x, e⟩ := d
  have hk' : okD n x e := hk
  dsimp only at *
  have hu := uN_pos
  unfold ownF
  by_cases hr : fr b = 0
  · rw [if_pos hr]
    rw [hr, mv_zero, Nat.zero_mul, sz_zero] at hv
    have hx : x = 0 := by
      by_cases hx : x = 0
      · exact hx
      · have h1 := mg_ne hx e
        exfalso; unfold sz at hv; split at hv <;> omega
    subst hx
    exact ⟨rfl, rfl, rfl⟩
  · rw [if_neg hr]
    have h1 : mv (fr b) * uN ≠ 0 := Nat.mul_ne_zero (mv_pos hr) (by omega)
    obtain ⟨h2, h3⟩ := sz_inj hv.symm h1
    have hx : x ≠ 0 := by rintro rfl; rw [mg_zero] at h3; omega
    obtain ⟨h4, h5, h6⟩ := rg_own (hk'.rung hx) (hk'.odd hx) (fr_fin h) h3.symm
    have hw := fw_eq hb
    rw [nearF_eq hx, lowF_eq hx, highF_eq hx]
    unfold lowR highR
    rw [h4, h5, h6, ← h2]
    simp only [Bool.not_true, Bool.false_and, Bool.toNat_false, Nat.add_zero]
    rw [← hw]
    exact ⟨rfl, rfl, rfl⟩
end Go.Proofs.YtppebjnmollojaaDoor
