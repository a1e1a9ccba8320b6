/- filigreelaw24.ViewAround at every input. -/
import Derived.Test.YtppebjnmollojaaDoorQS
import Derived.Test.YtppebjnmollojaaDoorQT
import Derived.Test.YtppebjnmollojaaDoorHA
namespace Go.Proofs.YtppebjnmollojaaDoor
open Go Go.RowKit Go.PlainAid Fil

theorem gSub_v' {a b : GY} (ha : a.ok) (hb : b.ok) (h : (gSub a b).2 = 0) : (gSub a b).1.re.v = a.re.v - b.re.v ∧ (gSub a b).1.im.v = a.im.v - b.im.v := by
  have e : gSub a b = gB (ySub a.re b.re) (ySub a.im b.im) := rfl
  rw [e] at h ⊢
  by_cases k : (ySub a.re b.re).2 = 0 ∧ (ySub a.im b.im).2 = 0
  · rw [gB_yes k.1 k.2]
    exact ⟨ySub_v ha.1 hb.1 k.1, ySub_v ha.2 hb.2 k.2⟩
  · rw [gB_no k] at h; exact absurd h (by decide)
theorem gNorm_v' {a : GY} (ha : a.ok) (h : (gNorm a).2 = 0) : (gNorm a).1.v * 2 ^ lowM = a.re.v * a.re.v + a.im.v * a.im.v := by
  have e : gNorm a = yTwo a.re a.re a.im a.im false := rfl
  rw [e] at h ⊢
  by_cases hp : (yMul a.re a.re).2 = 0 ∧ (yMul a.im a.im).2 = 0
  · rw [yTwo_at hp] at h ⊢
    have m1 := yMul_v ha.1 ha.1 hp.1
    have m2 := yMul_v ha.2 ha.2 hp.2
    simp only [Bool.false_eq_true, if_false] at h ⊢
    rw [yAdd_v (yMul_ok _ _) (yMul_ok _ _) h, Int.add_mul, m1, m2]
  · rw [yTwo_no hp] at h
    cases h
theorem sq_nn' (a : Int) : 0 ≤ a * a := by
  rcases Int.le_total 0 a with h | h
  · exact Int.mul_nonneg h h
  · exact Int.mul_nonneg_of_nonpos_of_nonpos h h
theorem sq_pos' {a : Int} (h : a ≠ 0) : 0 < a * a := by
  rcases Int.lt_or_gt_of_ne h with k | k
  · exact Int.mul_pos_of_neg_of_neg k k
  · exact Int.mul_pos k k
theorem flY_n {b : Nat} (h : b < 9218868437227405312) : (flY b).n = false := by
  have hv : 0 ≤ (flY b).v := by rw [fl_v h]; exact Int.natCast_nonneg _
  have hs := DY.v_sign (flY b)
  have hk : okD (flY b).n (flY b).x (flY b).e := flY_ok b
  generalize flY b = a at *
  obtain ⟨n, x, e⟩ := a
  cases n
  · rfl
  · exfalso
    rcases hk with ⟨_, h2, _⟩ | ⟨h1, _⟩
    · cases h2
    · have hz : (DY.z ⟨true, x, e⟩) = -(x : Int) := by simp [DY.z, sz]
      have h1' : x % 2 = 1 := h1
      rw [hz, Int.sign_eq_neg_one_of_neg (show (-(x : Int)) < 0 by omega)] at hs
      have := Int.sign_eq_neg_one_iff_neg.1 hs
      omega
/-- In, of a disc whose squared radius is worked out -/
theorem gIn_is {c Z r : _} (h1 : (gSub c Z).2 = 0) (h2 : (gNorm (gSub c Z).1).2 = 0) (h3 : (yMul r r).2 = 0) : gIn c Z r = (decide (yCmp (gNorm (gSub c Z).1).1 (yMul r r).1 ≤ 0), 0) := by
  have h : gFar c Z r = (yCmp (gNorm (gSub c Z).1).1 (yMul r r).1, 0) := by
    unfold gFar
    rw [if_pos h1, if_pos h2, if_pos h3]
  unfold gIn
  rw [h]
  rfl
theorem cIn (c Z : GY) (b : Nat) (W : World) (hc : c.ok) (hZ : Z.ok) (hb : b < 9218868437227405312) (h1 : (gSub c Z).2 = 0) (h2 : (gNorm (gSub c Z).1).2 = 0) (hT : Tab W) :
    Calls Tryd.prog 25 #[.agg #[.bool c.re.n, .string (bstr c.re.x), .int .i64 c.re.e, .bool c.im.n, .string (bstr c.im.x), .int .i64 c.im.e], .agg #[.bool Z.re.n, .string (bstr Z.re.x), .int .i64 Z.re.e, .bool Z.im.n, .string (bstr Z.im.x), .int .i64 Z.im.e], .agg #[.bool (flY b).n, .string (bstr (flY b).x), .int .i64 (flY b).e]] W
      fun r9 w' => r9 = .returned (.tuple #[.bool (decide (yCmp (gNorm (gSub c Z).1).1 (yMul (flY b) (flY b)).1 ≤ 0)), .int .i64 0]) ∧ Below W.heap.size W w' := by
  have h := gin c Z (flY b) W hc hZ (flY_ok b) (flY_n hb) hT
  rw [gIn_is h1 h2 (fl_sq hb).1] at h
  exact h
theorem decNo {a b : Int} (h : a ≤ b) (q : DY) (N : DY) (hq : b = q.v) (hN : N.v = a) : decide (yCmp N q ≤ 0) = true := decide_eq_true (yCmp_le.2 (by omega))
/-- of two corners at one height, one is not the centre -/
theorem not_both {l p Z : DY} {b : DY} {Y : DY} (hl : l.ok) (hp : p.ok) (hb : b.ok) (hX : Z.ok) (hY : Y.ok) (hne : l.v ≠ p.v) {U : DY}
    (h0 : cvK ⟨l, b⟩ ⟨Z, Y⟩ U) (h1 : cvK ⟨p, b⟩ ⟨Z, Y⟩ U) : 0 < U.v := by
  obtain ⟨a1, a2, a3⟩ := h0
  obtain ⟨b1, b2, b3⟩ := h1
  have n0 := gNorm_v' (gSub_ok _ _) a2
  have n1 := gNorm_v' (gSub_ok _ _) b2
  have s0 := (gSub_v' (a := ⟨l, b⟩) (b := ⟨Z, Y⟩) ⟨hl, hb⟩ ⟨hX, hY⟩ a1).1
  have s1 := (gSub_v' (a := ⟨p, b⟩) (b := ⟨Z, Y⟩) ⟨hp, hb⟩ ⟨hX, hY⟩ b1).1
  have q0 := sq_nn' (gSub ⟨l, b⟩ ⟨Z, Y⟩).1.im.v
  have q1 := sq_nn' (gSub ⟨p, b⟩ ⟨Z, Y⟩).1.im.v
  have hpw : (0 : Int) < 2 ^ lowM := ppi lowM
  by_cases hz : l.v - Z.v = 0
  · have k : 0 < (gSub ⟨p, b⟩ ⟨Z, Y⟩).1.re.v * (gSub ⟨p, b⟩ ⟨Z, Y⟩).1.re.v := sq_pos' (by rw [s1]; show p.v - Z.v ≠ 0; omega)
    have : 0 < (gNorm (gSub ⟨p, b⟩ ⟨Z, Y⟩).1).1.v * 2 ^ lowM := by omega
    have := Int.pos_of_mul_pos_left this hpw
    omega
  · have k : 0 < (gSub ⟨l, b⟩ ⟨Z, Y⟩).1.re.v * (gSub ⟨l, b⟩ ⟨Z, Y⟩).1.re.v := sq_pos' (by rw [s0]; exact hz)
    have : 0 < (gNorm (gSub ⟨l, b⟩ ⟨Z, Y⟩).1).1.v * 2 ^ lowM := by omega
    have := Int.pos_of_mul_pos_left this hpw
    omega
theorem flY_zero : (flY 0).v = 0 := by
  rw [fl_v (by omega), show mv 0 = 0 from rfl, Nat.zero_mul]; rfl
theorem and_ways (a n : Bool) : (a = false ∧ (a && n) = false) ∨ (a = true ∧ n = (a && n)) := by cases a <;> simp
set_option maxHeartbeats 1000000 in
theorem viewAround_any (ln : Bool) (lS : ByteArray) (le : Int) (bn : Bool) (bS : ByteArray) (be e : Int) (w : World) (hT : Tab w)
    (fl : lS.size ≤ 9223372036854775807) (fb : bS.size ≤ 9223372036854775807) :
    Calls Tryd.prog 7 #[.agg #[.bool ln, .string lS, .int .i64 le, .bool bn, .string bS, .int .i64 be, .int .i64 e]] w fun r w' => r = .returned (.bool true) ∧ Below w.heap.size w w' := by
  cases hW : sqB ⟨ln, lS, le⟩ ⟨bn, bS, be⟩ e
  · exact around_err e 240 _ _ _ _ _ _ w (fun W _ => vcover_bad ⟨ln, lS, le⟩ ⟨bn, bS, be⟩ e W fl fb hW) (by decide) hT
  unfold sqB at hW
  rw [Bool.and_eq_true, Bool.and_eq_true, sideB_iff] at hW
  obtain ⟨hl, hb, e1, e2⟩ := hW
  obtain ⟨x, hx, kx⟩ := ok_of_may (show mayB ln lS le = true from hl)
  obtain ⟨y, hy, ky⟩ := ok_of_may (show mayB bn bS be = true from hb)
  obtain ⟨l, rfl, hx2, rfl, okl⟩ : ∃ l : DY, ln = l.n ∧ lS = bstr l.x ∧ le = l.e ∧ l.ok := ⟨⟨ln, x, le⟩, rfl, hx, rfl, kx⟩
  obtain ⟨b, rfl, hy2, rfl, okb⟩ : ∃ b : DY, bn = b.n ∧ bS = bstr b.x ∧ be = b.e ∧ b.ok := ⟨⟨bn, y, be⟩, rfl, hy, rfl, ky⟩
  subst hx2
  subst hy2
  clear hl hb hx hy kx ky fl fb x y
  rcases cover_any l b e okl okb e1 e2 with ⟨er, hne, hc⟩ | ⟨x, y, U, ⟨fx, fy, x1, y1, hp, hq, okU, hr, k0, k1, k2, k3, hU⟩, hc⟩
  · exact around_err e er _ _ _ _ _ _ w hc hne hT
  have hC := fun W hW => vcorners_0 l b e _ _ rfl rfl W okl okb e1 e2 hp hq hW
  have okp := vM_ok l 2 (e - 1)
  have okq := vM_ok b 2 (e - 1)
  have vp := vM_v okl (n := 2) (e := e - 1) (by omega) (by omega) (by omega) hp
  have hw2 : W 2 (e - 1) = 2 * W 1 (e - 1) := W_unit _ _
  have hw := W_pos (e - 1)
  generalize (vM l 2 (e - 1)).1 = p at *
  generalize (vM b 2 (e - 1)).1 = q at *
  have okZ : (⟨flY x, flY y⟩ : GY).ok := ⟨flY_ok _, flY_ok _⟩
  have hZ := fun W hW => gcomplex_w x y _ _ rfl rfl W x1 fx y1 fy hW
  have hpos : 0 < U.v := not_both okl okp okb (flY_ok x) (flY_ok y) (by omega) k0 k1
  generalize flY x = X at *
  generalize flY y = Y at *
  -- the radius
  have hle := lst_le (rpB U) 9218868437227405311
  have hat : rpB U (lst (rpB U) 9218868437227405311) = true := by
    rcases Nat.lt_or_ge (lst (rpB U) 9218868437227405311) 9218868437227405311 with h | h
    · exact lst_at _ _ h
    · rw [show lst (rpB U) 9218868437227405311 = 9218868437227405311 by omega]; exact hr
  have hlow := lst_low (rpB U) 9218868437227405311
  generalize lst (rpB U) 9218868437227405311 = R at *
  have hR1 : 1 ≤ R := by
    rcases Nat.eq_zero_or_pos R with h | h
    · subst h
      rw [rpB_iff (by omega), ← fl_v (by omega), flY_zero] at hat
      have := Int.mul_pos hpos (ppi lowM)
      omega
    · exact h
  have hRb : R < 9218868437227405312 := by omega
  have hno := hlow (R - 1) (by omega)
  unfold rpB at hat hno
  rw [decide_eq_true_iff, yCmp_ge] at hat
  rw [decide_eq_false_iff_not, yCmp_ge] at hno
  have fkR : fk R = R := by rw [fk_pos (fs_lt (by omega)), fr_lt (by omega)]
  have frR : fr R ≤ 9218868437227405312 := by rw [fr_lt (by omega)]; omega
  have E1 : (FloatKind.f64.format.order R 0 == some .lt) = false := by rw [ord_neg frR, fkR]; exact decide_eq_false (by omega)
  have E2 : (FloatKind.f64.format.order R 0 == some .eq) = false := by rw [ord_eq frR (by decide), fkR, fk_nought]; exact decide_eq_false (by omega)
  have inside : ∀ c : GY, cvK c ⟨X, Y⟩ U → decide (yCmp (gNorm (gSub c ⟨X, Y⟩).1).1 (yMul (flY R) (flY R)).1 ≤ 0) = true := fun c hc => decide_eq_true (yCmp_le.2 (by have := hc.2.2; omega))
  have hR := fun W hW => cfl R W (by omega) (pos_fin hRb) hW
  have hN : ∀ W : World, Tab W → Calls Tryd.prog 24 #[.float .f64 R, .float .f64 0] W fun r w' => r = .returned (.float .f64 ((R - 1 : Nat))) ∧ Below W.heap.size W w' := fun W _ => (nextafter_down R W hR1 hRb).mono fun _ _ ⟨h1, h2⟩ => ⟨h1, h2 ▸ Below.refl _ _⟩
  have hL := fun W hW => cfl (R - 1) W (by omega) (pos_fin (by omega)) hW
  have i0 := fun W hW => cIn ⟨l, b⟩ ⟨X, Y⟩ R W ⟨okl, okb⟩ okZ hRb k0.1 k0.2.1 hW
  have i1 := fun W hW => cIn ⟨p, b⟩ ⟨X, Y⟩ R W ⟨okp, okb⟩ okZ hRb k1.1 k1.2.1 hW
  have i2 := fun W hW => cIn ⟨l, q⟩ ⟨X, Y⟩ R W ⟨okl, okq⟩ okZ hRb k2.1 k2.2.1 hW
  have i3 := fun W hW => cIn ⟨p, q⟩ ⟨X, Y⟩ R W ⟨okp, okq⟩ okZ hRb k3.1 k3.2.1 hW
  rw [inside _ k0] at i0
  rw [inside _ k1] at i1
  rw [inside _ k2] at i2
  rw [inside _ k3] at i3
  have j0 := fun W hW => cIn ⟨l, b⟩ ⟨X, Y⟩ (R - 1) W ⟨okl, okb⟩ okZ (by omega) k0.1 k0.2.1 hW
  have j1 := fun W hW => cIn ⟨p, b⟩ ⟨X, Y⟩ (R - 1) W ⟨okp, okb⟩ okZ (by omega) k1.1 k1.2.1 hW
  have j2 := fun W hW => cIn ⟨l, q⟩ ⟨X, Y⟩ (R - 1) W ⟨okl, okq⟩ okZ (by omega) k2.1 k2.2.1 hW
  have j3 := fun W hW => cIn ⟨p, q⟩ ⟨X, Y⟩ (R - 1) W ⟨okp, okq⟩ okZ (by omega) k3.1 k3.2.1 hW
  refine around_main e x y R (R - 1) _ _ _ _ _ _ _ _ _ _ _ _ _ _ _ _ _ _ _ _ _ _ _ _ _ _ _ _ _ _ _ w hc hC hZ hR hN hL E1 E2 i0 j0 i1 j1 i2 j2 i3 j3 (and_ways _ _) (and_ways _ _) (and_ways _ _) ?_ hT
  rcases hU with h | h | h | h | h
  · subst h; rw [DY.zero_v] at hpos; omega
  · rw [decide_eq_false (p := yCmp (gNorm (gSub (⟨l, b⟩ : GY) ⟨X, Y⟩).1).1 (yMul (flY (R - 1)) (flY (R - 1))).1 ≤ 0) (by rw [yCmp_le, ← h]; exact hno)]; rfl
  · rw [decide_eq_false (p := yCmp (gNorm (gSub (⟨p, b⟩ : GY) ⟨X, Y⟩).1).1 (yMul (flY (R - 1)) (flY (R - 1))).1 ≤ 0) (by rw [yCmp_le, ← h]; exact hno)]; simp
  · rw [decide_eq_false (p := yCmp (gNorm (gSub (⟨l, q⟩ : GY) ⟨X, Y⟩).1).1 (yMul (flY (R - 1)) (flY (R - 1))).1 ≤ 0) (by rw [yCmp_le, ← h]; exact hno)]; simp
  · rw [decide_eq_false (p := yCmp (gNorm (gSub (⟨p, q⟩ : GY) ⟨X, Y⟩).1).1 (yMul (flY (R - 1)) (flY (R - 1))).1 ≤ 0) (by rw [yCmp_le, ← h]; exact hno)]; simp
end Go.Proofs.YtppebjnmollojaaDoor
