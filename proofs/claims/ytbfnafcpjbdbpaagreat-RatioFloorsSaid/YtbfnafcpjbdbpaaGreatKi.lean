/- Ldexp beyond the floats; Rat.Float64, ratio.Float of any ratio. -/
import Derived.Test.YtbfnafcpjbdbpaaGreatJL
namespace Go.Proofs.YtbfnafcpjbdbpaaGreat
open Go Go.RowKit Go.PlainAid Fil

set_option maxRecDepth 20000 in
set_option maxHeartbeats 2000000 in
theorem ldexp_infty (E F : Nat) (e : Int) (x : Nat) (w : World) (hx : x = E * 4503599627370496 + F) (hE : E < 2047) (hE1 : 1 ≤ E) (hF : F < 4503599627370496)
    (he1 : 0 ≤ e) (he2 : e ≤ 100000000000) (hk : 1023 < e + (E - 1023)) :
    Calls Tryz.prog 154 #[.float .f64 x, .int .i64 e] w fun r w' => r = .returned (.float .f64 9218868437227405312) ∧ w = w' := by
  have hxb : x < 18446744073709551616 := by omega
  have o0 := ord_zero (x := x) (by omega) (by omega)
  have hi := fun W => isinf_any x W hxb
  have hn := fun W => isnan_any x W
  have hm := fun W => normal_any x W hxb (ord_norm (by omega) (by omega))
  rw [ord_big (by omega)] at hi
  rw [ord_self (by omega)] at hn
  have h1 := run_f64bits
  have h2 := run_f64from
  have hE0 : 0 ≤ (E : Int) := by omega
  have hE2 : (E : Int) < 2047 := by omega
  have hd : (x : Int) / 4503599627370496 = (E : Int) := by omega
  have ha := exp_bits E (by omega)
  have o4 : (FloatKind.f64.format.order x 0 == some .lt) = false := by
    rw [order_pos (by omega) (by omega), cmp_gt (by omega)]; rfl
  obtain ⟨k, hk'⟩ : ∃ k, e + ((E : Int) - 1023) = k := ⟨_, rfl⟩
  rw [hk'] at hk
  have hk2 : k ≤ 100000002000 := by omega
  have Hx := Lib.hid (And.intro hx (And.intro hF (And.intro hE hE1)))
  clear hx hxb hF hE hE1
  go_enter Tryz.func154, Tryz.ntmps154
  go_wp2_with (first
    | (go_at_call 122; go_must (refine (hi _).mono ?_); rintro r w1 ⟨rfl, rfl⟩)
    | (go_at_call 159; go_must (refine (hn _).mono ?_); rintro r w1 ⟨rfl, rfl⟩)
    | (go_at_call 126; go_must (refine (minf_pos _).mono ?_); rintro r w1 ⟨rfl, rfl⟩)
    | (go_at_call 160; go_must (refine (hm _).mono ?_); rintro r w1 ⟨rfl, rfl⟩))
  go_ret
  exact ⟨rfl, rfl⟩
theorem mldexp_big (m : Nat) (q : Int) (w : World) (hm1 : 4503599627370496 ≤ m) (hm : m ≤ 9007199254740992) (hq0 : 972 ≤ q) (hq1 : q ≤ 100000000000) :
    Calls Tryz.prog 140 #[.float .f64 (floatOfInt .f64 (m : Int)), .int .i64 q] w fun r w' => r = .returned (.float .f64 9218868437227405312) ∧ w = w' := by
  have h0 : m ≠ 0 := by omega
  obtain ⟨L, F, hL, hl, hF, hv, h53⟩ := int_parts h0 hm
  have hf : floatOfInt .f64 (m : Int) = (L + 1023) * 4503599627370496 + F := by
    rw [← float_int hL hF hv]
    show Ieee.double.nearest (decide ((m : Int) < 0)) (m : Int).natAbs 0 = _
    rw [decide_eq_false (by omega), Int.natAbs_natCast]
  have h52 : 52 ≤ L := by rw [hl]; exact (Nat.le_log2 h0).2 hm1
  have h := fun W => ldexp_infty (L + 1023) F q _ W hf (by omega) (by omega) hF (by omega) hq1 (by omega)
  generalize floatOfInt .f64 (m : Int) = x at *
  clear hm hm1 hf hv h53 hl
  go_enter Tryz.func140, Tryz.ntmps140
  go_wp2_with (go_at_call 154; go_must (refine (h _).mono ?_); rintro r w1 ⟨rfl, rfl⟩)
  go_ret
  exact ⟨rfl, rfl⟩
theorem fE_le {n d : Nat} (hn : n ≠ 0) (hd : d ≠ 0) : tpI (fV n d) (fE n d) ≤ bl n + 1 := by
  have h1 := fQ_hi (n := n) hd
  have h2 := fQ_lo hn hd
  have h3 : (fV n d).log2 = (fQ n d).log2 + 1 := tl_log (by omega) (fT_le n d)
  have h4 : (fQ n d).log2 < 61 := (Nat.log2_lt (by omega)).2 (by rw [show (2 : Nat) ^ 61 = 2305843009213693952 by rfl]; exact h1)
  unfold tpI fE fS
  rw [h3]
  omega
theorem kRung_big {x : Rat} (h : ¬ kSmall x) : kRung x = 9218868437227405312 := by
  unfold kRung rgN
  unfold kSmall at h
  rw [if_pos (by omega)]
theorem bl_dn32 {n K : Nat} (h : Fil.dn 32 n ≤ K) : bl n ≤ 32 * K := bl_le (lt_of_dn (by omega) h)
theorem kld_big {x : Rat} (h0 : x.num ≠ 0) (h : ¬ kSmall x) (hz : Szd 100000000 x) (W : World) :
    Calls Tryz.prog 140 #[.float .f64 (floatOfInt .f64 ((rdM (fV x.num.natAbs x.den) (fE x.num.natAbs x.den) + (rdUp (fV x.num.natAbs x.den) (fE x.num.natAbs x.den)).toNat : Nat) : Int)), .int .i64 (rdQ (fV x.num.natAbs x.den) (fE x.num.natAbs x.den))] W fun r w' => r = .returned (.float .f64 9218868437227405312) ∧ W = w' := by
  have hV := fV_ne (n := x.num.natAbs) (d := x.den) (by omega) x.den_nz
  have h1 := rdM_lt hV (fE x.num.natAbs x.den)
  have h2 : (rdUp (fV x.num.natAbs x.den) (fE x.num.natAbs x.den)).toNat ≤ 1 := by cases rdUp (fV x.num.natAbs x.den) (fE x.num.natAbs x.den) <;> simp
  have h3 := fE_le (n := x.num.natAbs) (d := x.den) (by omega) x.den_nz
  have h4 := bl_dn32 hz.1
  unfold kSmall at h
  have h5 : rdQ (fV x.num.natAbs x.den) (fE x.num.natAbs x.den) = tpI (fV x.num.natAbs x.den) (fE x.num.natAbs x.den) - 52 := by unfold rdQ; omega
  have h6 := rdM_ge hV (e := fE x.num.natAbs x.den) (by omega)
  exact mldexp_big _ _ W (by omega) (by omega) (by omega) (by omega)
set_option maxRecDepth 100000 in
set_option maxHeartbeats 2000000 in
theorem nearest_all (b : Nat) (x : Rat) (w : World) (X : RatAt w b x) (hz : Szd 100000000 x) :
    Calls Tryz.prog 84 #[.pointer (some ⟨b, 0, none⟩)] w fun e w' => e = .returned (.float .f64 (kFl x)) ∧ Below w.heap.size w w' := by
  by_cases hs : kSmall x
  · exact nearest_any b x w X hz hs
  unfold kFl
  by_cases hx : x.num = 0
  · rw [if_pos hx]; exact nearest_zero b x w X hx
  rw [if_neg hx, kRung_big hs]
  have hfl := rfloat_any b x w X hx hz 9218868437227405312 (by omega) (kld_big hx hs hz)
  have ho := ord_word0 (R := 9218868437227405312) (sg x.num) (by omega)
  rw [show ((9218868437227405312 : Nat) == 0) = false from rfl] at ho
  generalize sg x.num = N at *
  clear hz hs hx
  generalize Ieee.double.word N 9218868437227405312 = R9 at *
  go_enter Tryz.func84, Tryz.ntmps84
  go_wp2_with fail
  refine hfl.mono ?_
  rintro r w1 ⟨ex, rfl, hB⟩
  go_wp2_with fail
  go_ret
  exact ⟨rfl, hB⟩
set_option maxRecDepth 100000 in
set_option maxHeartbeats 2000000 in
theorem kfloat_all (x : Rat) (w : World) (hx : Fits x) :
    Calls Tryz.prog 31 #[kA x] w fun e w' => e = .returned (.tuple #[.float .f64 (kFl x), .int .i64 0]) ∧ Below w.heap.size w w' := by
  have hm1 := fun W => kmay_any (sg x.num) (bstr x.num.natAbs) (bstr x.den) W (by rw [bstr_size]; have := hx.1; omega) (by rw [bstr_size]; have := hx.2; omega)
  rw [may_of_rat hx] at hm1
  have hr1 := fun W => krat_any x W hx
  have hn := fun W B X => nearest_all B x W X (hx.szd.mono (by omega))
  clear hx
  unfold kA at *
  generalize sg x.num = xn at *
  generalize bstr x.num.natAbs = xS at *
  generalize bstr x.den = xT at *
  generalize kFl x = R at *
  have hb := Below.refl w.heap.size w
  go_enter Tryz.func31, Tryz.ntmps31
  have F := Blk.put (w) #[.bool xn, .string xS, .string xT] 24
  replace hb := hb.alloc hb.size (.cells #[.bool xn, .string xS, .string xT] 24)
  obtain ⟨x0, x1, x2⟩ := F.ce3
  go_wp2_with fail
  refine (hm1 _).mono ?_
  rintro r w1 ⟨rfl, hB⟩
  replace F := F.keep hB
  replace hb := hb.trans (hB.mono hb.size)
  clear x0 x1 x2 hB hm1
  obtain ⟨x0, x1, x2⟩ := F.ce3
  go_wp2_with fail
  refine (hr1 _).mono ?_
  rintro r w2 ⟨B, rfl, X, _, _, hB⟩
  replace hb := hb.trans (hB.mono hb.size)
  clear x0 x1 x2 hB hr1 F
  go_wp2_with fail
  refine (hn _ _ X).mono ?_
  rintro r w3 ⟨rfl, hB⟩
  replace hb := hb.trans (hB.mono hb.size)
  clear hB hn X
  go_wp2_with fail
  go_returns
  exact ⟨rfl, hb⟩
end Go.Proofs.YtbfnafcpjbdbpaaGreat
