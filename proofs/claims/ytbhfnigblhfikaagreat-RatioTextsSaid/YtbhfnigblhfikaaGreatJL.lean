/- ratio.nearest, ratio.Float. -/
import Derived.Test.YtbhfnigblhfikaaGreatJK
namespace Go.Proofs.YtbhfnigblhfikaaGreat
open Go Go.RowKit Go.PlainAid Fil

/-- the rung of the float nearest to a fraction -/
def kRung (x : Rat) : Nat := rgN (fV x.num.natAbs x.den) (fE x.num.natAbs x.den)
/-- is the fraction below all that is beyond the floats? -/
def kSmall (x : Rat) : Prop := tpI (fV x.num.natAbs x.den) (fE x.num.natAbs x.den) < 1024
/-- the float nearest to a fraction -/
def kFl (x : Rat) : Nat := if x.num = 0 then 0 else Ieee.double.word (sg x.num) (kRung x)
theorem fV_ne {n d : Nat} (hn : n ≠ 0) (hd : d ≠ 0) : fV n d ≠ 0 := by have := fQ_lo hn hd; unfold fV; omega
theorem kRung_lt {x : Rat} (h0 : x.num ≠ 0) (h : kSmall x) : kRung x ≤ 9218868437227405312 := by
  have h1 := rdR_lt (fV_ne (n := x.num.natAbs) (d := x.den) (by omega) x.den_nz) h
  have h2 : (rdUp (fV x.num.natAbs x.den) (fE x.num.natAbs x.den)).toNat ≤ 1 := by cases rdUp (fV x.num.natAbs x.den) (fE x.num.natAbs x.den) <;> simp
  unfold kRung rgN
  unfold kSmall at h
  rw [if_neg (by omega)]
  omega
theorem kld {x : Rat} (h0 : x.num ≠ 0) (h : kSmall x) (W : World) :
    Calls Tryz.prog 109 #[.float .f64 (floatOfInt .f64 ((rdM (fV x.num.natAbs x.den) (fE x.num.natAbs x.den) + (rdUp (fV x.num.natAbs x.den) (fE x.num.natAbs x.den)).toNat : Nat) : Int)), .int .i64 (rdQ (fV x.num.natAbs x.den) (fE x.num.natAbs x.den))] W fun r w' => r = .returned (.float .f64 (kRung x)) ∧ W = w' := by
  have hV := fV_ne (n := x.num.natAbs) (d := x.den) (by omega) x.den_nz
  have h1 := rdM_lt hV (fE x.num.natAbs x.den)
  have h2 : (rdUp (fV x.num.natAbs x.den) (fE x.num.natAbs x.den)).toNat ≤ 1 := by cases rdUp (fV x.num.natAbs x.den) (fE x.num.natAbs x.den) <;> simp
  have e : kRung x = (rdQ (fV x.num.natAbs x.den) (fE x.num.natAbs x.den) + 1074).toNat * 4503599627370496 + (rdM (fV x.num.natAbs x.den) (fE x.num.natAbs x.den) + (rdUp (fV x.num.natAbs x.den) (fE x.num.natAbs x.den)).toNat) := by
    unfold kRung rgN rdR
    unfold kSmall at h
    rw [if_neg (by omega)]
    omega
  rw [e]
  exact mldexp_fin _ _ W (by omega) (rdQ_lo _ _) (rdQ_hi h) (fun hq => Nat.le_trans (rdM_ge hV hq) (by omega))
theorem ord_word0 {R : Nat} (N : Bool) (h : R ≤ 9218868437227405312) : (FloatKind.f64.format.order (Ieee.double.word N R) 0 == some .eq) = (R == 0) := by
  have hw : fr (Ieee.double.word N R) = R ∧ fs (Ieee.double.word N R) = N := by
    cases N
    · rw [d_word_f]; exact ⟨fr_lt (by omega), fs_lt (by omega)⟩
    · rw [d_word_t]; unfold fr fs; exact ⟨by omega, by rw [show (9223372036854775808 + R) / 9223372036854775808 = 1 by omega]; rfl⟩
  rw [f64_double, order_some (by rw [hw.1]; exact h) (by decide)]
  have hk : fk (Ieee.double.word N R) = if N then -(R : Int) else R := by unfold fk; rw [hw.1, hw.2]
  rw [hk, show fk 0 = 0 from rfl]
  by_cases h0 : R = 0
  · subst h0; cases N <;> rfl
  · rw [show (R == 0) = false from beq_eq_false_iff_ne.2 h0]
    cases N
    · rw [if_neg (by decide), cmp_gt (by omega)]; rfl
    · rw [if_pos rfl, cmp_lt (by omega)]; rfl

set_option maxRecDepth 100000 in
set_option maxHeartbeats 2000000 in
theorem rfloat_zero (b : Nat) (x : Rat) (w : World) (X : RatAt w b x) (hx : x.num = 0) :
    Calls Tryz.prog 92 #[.pointer (some ⟨b, 0, none⟩)] w fun e w' => ∃ ex, e = .returned (.tuple #[.float .f64 0, .bool ex]) ∧ Below w.heap.size w w' := by
  have hsg := fun W h => ratsign_any b x W h
  rw [hx] at hsg
  simp only [Int.sign_zero] at hsg
  have hb := Below.refl w.heap.size w
  go_enter Tryz.func92, Tryz.ntmps92
  go_wp2_with fail
  refine (hsg _ X).mono ?_
  rintro r w1 ⟨rfl, rfl⟩
  clear hsg
  go_wp2_with fail
  go_returns
  exact ⟨_, rfl, hb⟩

set_option maxRecDepth 100000 in
set_option maxHeartbeats 2000000 in
theorem nearest_zero (b : Nat) (x : Rat) (w : World) (X : RatAt w b x) (hx : x.num = 0) :
    Calls Tryz.prog 78 #[.pointer (some ⟨b, 0, none⟩)] w fun e w' => e = .returned (.float .f64 0) ∧ Below w.heap.size w w' := by
  have hsg := fun W h => ratsign_any b x W h
  have hfl := rfloat_zero b x w X hx
  rw [hx] at hsg
  simp only [Int.sign_zero] at hsg
  have ho := ord_word0 (R := 0) false (by omega)
  rw [d_word_f] at ho
  have t0 : ((0 : Nat) == 0) = true := rfl
  rw [t0] at ho
  go_enter Tryz.func78, Tryz.ntmps78
  go_wp2_with fail
  refine hfl.mono ?_
  rintro r w1 ⟨ex, rfl, hB⟩
  have X1 := X.below hB
  go_wp2_with fail
  refine (hsg _ X1).mono ?_
  rintro r w2 ⟨rfl, rfl⟩
  go_wp2_with fail
  go_ret
  exact ⟨rfl, hB⟩

set_option maxRecDepth 100000 in
set_option maxHeartbeats 2000000 in
theorem nearest_some (b : Nat) (x : Rat) (w : World) (X : RatAt w b x) (hx : x.num ≠ 0) (hz : Szd 100000000 x) (hs : kSmall x) :
    Calls Tryz.prog 78 #[.pointer (some ⟨b, 0, none⟩)] w fun e w' => e = .returned (.float .f64 (Ieee.double.word (sg x.num) (kRung x))) ∧ Below w.heap.size w w' := by
  have hsg := fun W h => ratsign_any b x W h
  have hR := kRung_lt hx hs
  have hfl := rfloat_any b x w X hx hz (kRung x) (by omega) (kld hx hs)
  have ho := ord_word0 (sg x.num) hR
  have hcs := fun W => copysign_neg 0 W (by omega)
  have hsn : decide (x.num.sign < 0) = sg x.num := by
    unfold sg
    rw [Bool.eq_iff_iff, decide_eq_true_eq, decide_eq_true_eq]
    exact Int.sign_neg_iff
  generalize kRung x = R at *
  generalize x.num.sign = s0 at *
  generalize sg x.num = N at *
  clear hz hs hx
  by_cases h0 : R = 0
  · subst h0
    rw [show ((0 : Nat) == 0) = true from rfl] at ho
    cases N
    · rw [d_word_f] at *
      go_enter Tryz.func78, Tryz.ntmps78
      go_wp2_with fail
      refine hfl.mono ?_
      rintro r w1 ⟨ex, rfl, hB⟩
      have X1 := X.below hB
      go_wp2_with fail
      refine (hsg _ X1).mono ?_
      rintro r w2 ⟨rfl, rfl⟩
      go_wp2_with fail
      go_ret
      exact ⟨rfl, hB⟩
    · go_enter Tryz.func78, Tryz.ntmps78
      go_wp2_with fail
      refine hfl.mono ?_
      rintro r w1 ⟨ex, rfl, hB⟩
      have X1 := X.below hB
      go_wp2_with fail
      refine (hsg _ X1).mono ?_
      rintro r w2 ⟨rfl, rfl⟩
      go_wp2_with fail
      refine (hcs _).mono ?_
      rintro r w2 ⟨rfl, rfl⟩
      go_wp2_with fail
      go_ret
      exact ⟨rfl, hB⟩
  · rw [beq_eq_false_iff_ne.2 h0] at ho
    generalize Ieee.double.word N R = R9 at *
    clear hsg hcs hsn
    go_enter Tryz.func78, Tryz.ntmps78
    go_wp2_with fail
    refine hfl.mono ?_
    rintro r w1 ⟨ex, rfl, hB⟩
    go_wp2_with fail
    go_ret
    exact ⟨rfl, hB⟩

theorem nearest_any (b : Nat) (x : Rat) (w : World) (X : RatAt w b x) (hz : Szd 100000000 x) (hs : kSmall x) :
    Calls Tryz.prog 78 #[.pointer (some ⟨b, 0, none⟩)] w fun e w' => e = .returned (.float .f64 (kFl x)) ∧ Below w.heap.size w w' := by
  unfold kFl
  by_cases h : x.num = 0
  · rw [if_pos h]; exact nearest_zero b x w X h
  · rw [if_neg h]; exact nearest_some b x w X h hz hs

set_option maxRecDepth 100000 in
set_option maxHeartbeats 2000000 in
theorem kfloat_ok (x : Rat) (w : World) (hx : Fits x) (hs : kSmall x) :
    Calls Tryz.prog 45 #[kA x] w fun e w' => e = .returned (.tuple #[.float .f64 (kFl x), .int .i64 0]) ∧ Below w.heap.size w w' := by
  have hm1 := fun W => kmay_any (sg x.num) (bstr x.num.natAbs) (bstr x.den) W (by rw [bstr_size]; have := hx.1; omega) (by rw [bstr_size]; have := hx.2; omega)
  rw [may_of_rat hx] at hm1
  have hr1 := fun W => krat_any x W hx
  have hn := fun W B X => nearest_any B x W X (hx.szd.mono (by omega)) hs
  clear hs hx
  unfold kA at *
  generalize sg x.num = xn at *
  generalize bstr x.num.natAbs = xS at *
  generalize bstr x.den = xT at *
  generalize kFl x = R at *
  have hb := Below.refl w.heap.size w
  go_enter Tryz.func45, Tryz.ntmps45
  have F := Blk.put (w) #[.bool xn, .string xS, .string xT] 24
  replace hb := hb.alloc hb.size (.cells #[.bool xn, .string xS, .string xT] 24)
  obtain ⟨x0, x1, x2⟩ := F.ce3
  go_wp2_with fail
  refine (hm1 _).mono ?_
  rintro r w1 ⟨rfl, hB⟩
  replace F := F.keep hB
  replace hb := hb.trans (hB.mono hb.size)
  clear x0 x1 x2 hB hm1
  obtain ⟨x0, x1, x2⟩ := F.ce3
  go_wp2_with fail
  refine (hr1 _).mono ?_
  rintro r w2 ⟨B, rfl, X, _, _, hB⟩
  replace hb := hb.trans (hB.mono hb.size)
  clear x0 x1 x2 hB hr1 F
  go_wp2_with fail
  refine (hn _ _ X).mono ?_
  rintro r w3 ⟨rfl, hB⟩
  replace hb := hb.trans (hB.mono hb.size)
  clear hB hn X
  go_wp2_with fail
  go_returns
  exact ⟨rfl, hb⟩
end Go.Proofs.YtbhfnigblhfikaaGreat
