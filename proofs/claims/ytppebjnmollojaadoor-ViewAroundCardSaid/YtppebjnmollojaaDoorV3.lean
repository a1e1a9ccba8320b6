/- Go's own sums and products are the exact ones, rounded: plain arithmetic, no program in sight. -/
import Derived.Test.YtppebjnmollojaaDoorV2
namespace Go.Proofs.YtppebjnmollojaaDoor
open Go Go.RowKit Go.PlainAid Fil

theorem read_fl {b : Nat} (h : flQ b ≠ 2047) : Ieee.double.read b = .number (fs b) (flM b) (flE b) := by
  have hf := fr_fin h
  unfold Ieee.Format.read
  rw [d_sign, d_binade, d_inf, d_least]
  have e : b % 9223372036854775808 = fr b := rfl
  have e2 : (b / 9223372036854775808 % 2 == 1) = fs b := rfl
  simp only [e, e2]
  have hq : flQ b = fr b / 4503599627370496 := flQ_fr b
  have hm : fr b % 4503599627370496 = b % 4503599627370496 := by unfold fr; omega
  by_cases h1 : fr b < 4503599627370496
  · rw [if_pos h1]
    have h0 : flQ b = 0 := by omega
    have e3 : flM b = fr b := by unfold flM; rw [if_pos h0]; omega
    have e4 : flE b = -1074 := by unfold flE; rw [if_pos h0]; rfl
    rw [e3, e4]
  · rw [if_neg h1, if_pos hf]
    have h0 : flQ b ≠ 0 := by omega
    have e3 : flM b = 4503599627370496 + fr b % 4503599627370496 := by unfold flM; rw [if_neg h0]; omega
    have e4 : flE b = -1074 + ((fr b / 4503599627370496 - 1 : Nat) : Int) := by unfold flE; rw [if_neg h0]; omega
    rw [e3, e4]
/-- the float of an exact number -/
def OwnOf (o : Nat) (z e : Int) : Prop := (z ≠ 0 ∧ o = Ieee.double.word (sg z) (rgN z.natAbs e)) ∨ (z = 0 ∧ fr o = 0 ∧ o < 18446744073709551616)
theorem own_write {s : Bool} {z e : Int} (hs : z ≠ 0 → s = sg z) : OwnOf (Ieee.double.write (.number s z.natAbs e)) z e := by
  by_cases hz : z = 0
  · right
    subst hz
    refine ⟨rfl, ?_⟩
    show fr (Ieee.double.nearest s 0 e) = 0 ∧ Ieee.double.nearest s 0 e < _
    unfold Ieee.Format.nearest
    rw [if_pos rfl]
    exact ⟨fr_word (by omega), word_lt (by omega)⟩
  · left
    refine ⟨hz, ?_⟩
    show Ieee.double.nearest s z.natAbs e = _
    rw [nearest_eq s (by omega) e, hs hz]
theorem signed_sz (s : Bool) (m k : Nat) : Ieee.signed s m k = sz s m * 2 ^ k := by
  unfold Ieee.signed
  rw [Nat.shiftLeft_eq, sz_shl]
  rfl
theorem sum_num (s t : Bool) (m n : Nat) (i j : Int) : (Ieee.Datum.number s m i).sum (.number t n j) = some (.number (if addZ (sz s m) i (sz t n) j = 0 then (s && t) else decide (addZ (sz s m) i (sz t n) j < 0)) (addZ (sz s m) i (sz t n) j).natAbs (min i j)) := by
  simp only [Ieee.Datum.sum, signed_sz, addZ]
  rfl
theorem sg_if {z : Int} (a : Bool) (h : z ≠ 0) : (if z = 0 then a else decide (z < 0)) = sg z := by rw [if_neg h]; rfl
theorem add_own {x y : Nat} (hx : flQ x ≠ 2047) (hy : flQ y ≠ 2047) : ∃ o, Ieee.double.add x y = some o ∧ OwnOf o (addZ (sz (fs x) (flM x)) (flE x) (sz (fs y) (flM y)) (flE y)) (min (flE x) (flE y)) := by
  unfold Ieee.Format.add
  rw [read_fl hx, read_fl hy, sum_num]
  exact ⟨_, rfl, own_write (fun h => sg_if _ h)⟩
theorem xor_ne (a b : Bool) : (a ^^ b) = (a != b) := by cases a <;> cases b <;> rfl
theorem prod_num (s t : Bool) (m n : Nat) (i j : Int) : (Ieee.Datum.number s m i).product (.number t n j) = some (.number (s != t) (m * n) (i + j)) := by
  rw [← xor_ne]; rfl
theorem mul_own {x y : Nat} (hx : flQ x ≠ 2047) (hy : flQ y ≠ 2047) : ∃ o, Ieee.double.mul x y = some o ∧ OwnOf o (sz (fs x) (flM x) * sz (fs y) (flM y)) (flE x + flE y) := by
  unfold Ieee.Format.mul
  rw [read_fl hx, read_fl hy, prod_num]
  have e := sz_mul (fs x) (fs y) (flM x) (flM y)
  rw [← e]
  refine ⟨_, rfl, ?_⟩
  have h := own_write (s := fs x != fs y) (z := sz (fs x != fs y) (flM x * flM y)) (e := flE x + flE y) (fun h => (sg_sz (fun h0 => h (by rw [h0]; exact sz_zero _))).symm)
  rw [sz_abs] at h
  exact h
theorem fma_own {x y z : Nat} (hx : flQ x ≠ 2047) (hy : flQ y ≠ 2047) (hz : flQ z ≠ 2047) : ∃ o, Ieee.double.fma x y z = some o ∧ OwnOf o (addZ (sz (fs x) (flM x) * sz (fs y) (flM y)) (flE x + flE y) (sz (fs z) (flM z)) (flE z)) (min (flE x + flE y) (flE z)) := by
  unfold Ieee.Format.fma
  rw [read_fl hx, read_fl hy, read_fl hz, prod_num, Option.bind_some, sum_num, ← sz_mul]
  exact ⟨_, rfl, own_write (fun h => sg_if _ h)⟩

theorem small_ok {z e : Int} {K : Nat} (hK : K ≤ 16384) (hz : z.natAbs < 2 ^ K) (h1 : -5000 ≤ e) (h2 : e ≤ 5000) : mkOk z e = true := by
  by_cases h0 : z = 0
  · subst h0; exact (mk_zero e).1
  have hn : z.natAbs ≠ 0 := by omega
  have h3 : tz z.natAbs < K := Nat.lt_of_le_of_lt (tz_le_log hn) ((Nat.log2_lt hn).2 hz)
  refine mkOk_yes ?_ ?_ ?_
  · refine Nat.le_trans (dn_le (n := K) (by omega) ?_) hK
    exact Nat.lt_of_lt_of_le (Nat.lt_of_le_of_lt (Nat.div_le_self _ _) hz) (pmono (by omega))
  · omega
  · omega
theorem shl_lt {z : Int} {a b k : Nat} (hz : z.natAbs < 2 ^ a) (hk : k ≤ b) : (z * 2 ^ k).natAbs < 2 ^ (a + b) := by
  rw [abs_shl, Nat.pow_add]
  exact Nat.lt_of_lt_of_le (Nat.mul_lt_mul_of_pos_right hz (Nat.two_pow_pos k)) (Nat.mul_le_mul_left _ (pmono hk))
theorem sum_lt {a b : Int} {n : Nat} (ha : a.natAbs < 2 ^ n) (hb : b.natAbs < 2 ^ n) : (a + b).natAbs < 2 ^ (n + 1) := by
  have h := Int.natAbs_add_le a b
  rw [Nat.pow_succ]
  generalize 2 ^ n = p at *
  omega
theorem sz_lt {b : Bool} {m K : Nat} (h : m < 2 ^ K) : (sz b m).natAbs < 2 ^ K := by rw [sz_abs]; exact h
theorem flM_53 (b : Nat) : flM b < 2 ^ 53 := flM_lt b
theorem addZ_bd {za zb ea eb : Int} {a b : Nat} (ha : za.natAbs < 2 ^ a) (hb : zb.natAbs < 2 ^ a) (h1 : (ea - min ea eb).toNat ≤ b) (h2 : (eb - min ea eb).toNat ≤ b) : (addZ za ea zb eb).natAbs < 2 ^ (a + b + 1) := sum_lt (shl_lt ha h1) (shl_lt hb h2)
theorem yAdd_small {a b : DY} (ha : a.ok) (hb : b.ok) {za ea zb eb : Int} (va : a.v = W za ea) (vb : b.v = W zb eb) (hea : -(lowM : Int) ≤ ea) (heb : -(lowM : Int) ≤ eb) (hk : mkOk (addZ za ea zb eb) (min ea eb) = true) :
    (yAdd a b).2 = 0 ∧ (yAdd a b).1.v = W (addZ za ea zb eb) (min ea eb) := by
  have h1 : W (addZ a.z a.e b.z b.e) (min a.e b.e) = W (addZ za ea zb eb) (min ea eb) := by
    rw [W_add _ _ ha.lo hb.lo, W_add _ _ hea heb, ← va, ← vb]; rfl
  have h2 := mkOk_congr h1 (lo_min ha hb) (by omega)
  have h3 : (yAdd a b).2 = 0 := mkR_ok (h2.trans hk)
  exact ⟨h3, (mkD_v (h2.trans hk) (lo_min ha hb)).trans h1⟩
theorem yMul_small {a b : DY} (ha : a.ok) (hb : b.ok) {za ea zb eb : Int} (va : a.v = W za ea) (vb : b.v = W zb eb) (hea : -(lowM : Int) ≤ ea) (heb : -(lowM : Int) ≤ eb) (hs : -(lowM : Int) ≤ ea + eb) (hk : mkOk (za * zb) (ea + eb) = true) :
    (yMul a b).2 = 0 ∧ (yMul a b).1.v = W (za * zb) (ea + eb) := by
  have h1 : W (a.z * b.z) (a.e + b.e) = W (za * zb) (ea + eb) := by
    refine pow_cancel ?_
    rw [W_mul _ _ ha.lo hb.lo (lo_sum ha hb), W_mul _ _ hea heb hs, ← va, ← vb]; rfl
  have h2 := mkOk_congr h1 (lo_sum ha hb) hs
  have h3 : (yMul a b).2 = 0 := mkR_ok (h2.trans hk)
  exact ⟨h3, (mkD_v (h2.trans hk) (lo_sum ha hb)).trans h1⟩
/-- an exact number's nearest float is Go's own -/
structure Goes (d : DY) (o : Nat) : Prop where
  ok : d.ok
  lt : o < 18446744073709551616
  fr : fr o ≤ 9218868437227405312
  fk : fk (nearF d.n d.x d.e) = fk o
  same : d.x ≠ 0 → nearF d.n d.x d.e = o
theorem goes {d : DY} (hd : d.ok) {z e : Int} {o : Nat} (he : -(lowM : Int) ≤ e) (hv : d.v = W z e) (h : OwnOf o z e) : Goes d o := by
  rcases h with ⟨hz, ho⟩ | ⟨hz, h1, h2⟩
  · have hv' := hv
    rw [← sz_self z, show d.v = sz d.n (mg d.x d.e) from W_sz _ _ _, W_sz] at hv
    have hn : z.natAbs ≠ 0 := by omega
    obtain ⟨h1, h2⟩ := sz_inj hv.symm (mg_ne hn e)
    have hx : d.x ≠ 0 := by
      intro h0; rw [h0, mg_zero] at h2; exact mg_ne hn e h2
    have R := Go.Proofs.YtppebjnmollojaaDoor.rung hn he
    have h3 := rgN_one (okD.rung hd hx) R h2.symm
    have h4 := rgN_le R
    have h5 : nearF d.n d.x d.e = o := by rw [nearF_eq hx, ho, h3, h1]
    refine ⟨hd, ?_, ?_, by rw [h5], fun _ => h5⟩
    · rw [ho]; exact word_lt (by omega)
    · rw [ho, fr_word (by omega)]; omega
  · subst hz
    rw [W_zero_left] at hv
    have hdz : d = DY.zero := DY.inj hd DY.zero_ok (by rw [hv, DY.zero_v])
    subst hdz
    refine ⟨hd, h2, by omega, ?_, fun h => absurd rfl h⟩
    rw [show nearF DY.zero.n DY.zero.x DY.zero.e = 0 from rfl, show Fil.fk 0 = 0 from rfl]
    unfold Fil.fk; rw [h1]; split <;> rfl
/-- the three of DyadGo -/
theorem go_three {x y z : Nat} (hx : flQ x ≠ 2047) (hy : flQ y ≠ 2047) (hz : flQ z ≠ 2047) :
    (yAdd (flY x) (flY y)).2 = 0 ∧ (yMul (flY x) (flY y)).2 = 0 ∧ (yAdd (yMul (flY x) (flY y)).1 (flY z)).2 = 0 ∧
    (∃ o, Ieee.double.add x y = some o ∧ Goes (yAdd (flY x) (flY y)).1 o) ∧ (∃ o, Ieee.double.mul x y = some o ∧ Goes (yMul (flY x) (flY y)).1 o) ∧ (∃ o, Ieee.double.fma x y z = some o ∧ Goes (yAdd (yMul (flY x) (flY y)).1 (flY z)).1 o) := by
  have hl := lowM_ge
  have ex := flE_bd x
  have ey := flE_bd y
  have ez := flE_bd z
  have vx : (flY x).v = W (sz (fs x) (flM x)) (flE x) := mkD_v (fl_ok hx) (flE_lo x)
  have vy : (flY y).v = W (sz (fs y) (flM y)) (flE y) := mkD_v (fl_ok hy) (flE_lo y)
  have vz : (flY z).v = W (sz (fs z) (flM z)) (flE z) := mkD_v (fl_ok hz) (flE_lo z)
  have mx := sz_lt (b := fs x) (flM_53 x)
  have my := sz_lt (b := fs y) (flM_53 y)
  have mz := sz_lt (b := fs z) (flM_53 z)
  obtain ⟨o1, a1, b1⟩ := add_own hx hy
  obtain ⟨o2, a2, b2⟩ := mul_own hx hy
  obtain ⟨o3, a3, b3⟩ := fma_own hx hy hz
  have mp : (sz (fs x) (flM x) * sz (fs y) (flM y)).natAbs < 2 ^ 106 := by
    rw [Int.natAbs_mul, show (106 : Nat) = 53 + 53 from rfl, Nat.pow_add]
    exact Nat.mul_lt_mul'' mx my
  have mz' : (sz (fs z) (flM z)).natAbs < 2 ^ 106 := Nat.lt_of_lt_of_le mz (pmono (by omega))
  have k1 : mkOk (addZ (sz (fs x) (flM x)) (flE x) (sz (fs y) (flM y)) (flE y)) (min (flE x) (flE y)) = true :=
    small_ok (K := 53 + 2046 + 1) (by omega) (addZ_bd mx my (by omega) (by omega)) (by omega) (by omega)
  have k2 : mkOk (sz (fs x) (flM x) * sz (fs y) (flM y)) (flE x + flE y) = true := small_ok (K := 106) (by omega) mp (by omega) (by omega)
  have k3 : mkOk (addZ (sz (fs x) (flM x) * sz (fs y) (flM y)) (flE x + flE y) (sz (fs z) (flM z)) (flE z)) (min (flE x + flE y) (flE z)) = true :=
    small_ok (K := 106 + 3200 + 1) (by omega) (addZ_bd mp mz' (by omega) (by omega)) (by omega) (by omega)
  obtain ⟨r1, w1⟩ := yAdd_small (flY_ok x) (flY_ok y) vx vy (by omega) (by omega) k1
  obtain ⟨r2, w2⟩ := yMul_small (flY_ok x) (flY_ok y) vx vy (by omega) (by omega) (by omega) k2
  obtain ⟨r3, w3⟩ := yAdd_small (yMul_ok (flY x) (flY y)) (flY_ok z) w2 vz (by omega) (by omega) k3
  exact ⟨r1, r2, r3, ⟨o1, a1, goes (yAdd_ok _ _) (by omega) w1 b1⟩, ⟨o2, a2, goes (yMul_ok _ _) (by omega) w2 b2⟩, ⟨o3, a3, goes (yAdd_ok _ _) (by omega) w3 b3⟩⟩
end Go.Proofs.YtppebjnmollojaaDoor
