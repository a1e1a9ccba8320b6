/- Merged: BK RL Ki Kj M8 M7 M9 -/
import Derived.Test.YtbhfnigblhfikaaGreatBJ
import Derived.Test.YtbhfnigblhfikaaGreatM4
import Derived.Test.YtbhfnigblhfikaaGreatJI
import Derived.Test.YtbhfnigblhfikaaGreatB8
import Derived.Test.YtbhfnigblhfikaaGreatJZ
import Derived.Test.YtbhfnigblhfikaaGreatJU
import Derived.Test.YtbhfnigblhfikaaGreatJL
import Derived.Test.YtbhfnigblhfikaaGreatM6
import Derived.Deep.QuietTactic

/- The walks over dyad.Make, the reference's Make and Of. -/
namespace Go.Proofs.YtbhfnigblhfikaaGreat
open Go Go.RowKit Go.PlainAid Fil

theorem natB_bstr2 {x : Nat} (h : Fil.dn 8 x ≤ 16384) : natB (bstr x) = true := by
  by_cases hx : x = 0
  · subst hx
    unfold natB
    rw [bstr_size, dn_zero]; rfl
  · have hp := dn_pos (k := 8) hx
    unfold natB
    rw [bstr_size, bstr_bt x 0 hp]
    have ht := dg_top (k := 8) (by omega) hx
    have d1 : decide (Fil.dn 8 x ≤ 16384) = true := decide_eq_true h
    have d2 : ((dg 8 x (Fil.dn 8 x - 1 - 0) : Int) == 0) = false := by
      rw [beq_eq_false_iff_ne, Nat.sub_zero]; omega
    rw [d1, d2]; simp
theorem nat_of_natB2 {s : ByteArray} (h : natB s = true) : ∃ x, s = bstr x ∧ Fil.dn 8 x ≤ 16384 := by
  by_cases h0 : s.size = 0
  · refine ⟨0, ?_, by rw [dn_zero]; omega⟩
    apply ByteArray.ext
    rw [Array.eq_empty_of_size_eq_zero h0]
    simp [bstr, bs_zero]
  · have hl : s.data.toList.length = s.size := Array.length_toList
    unfold natB at h
    simp only [Bool.and_eq_true, Bool.or_eq_true, decide_eq_true_eq, Bool.not_eq_true', beq_eq_false_iff_ne] at h
    have hc : cano s.data.toList := by
      intro hp h00
      rcases h.2 with h3 | h3
      · exact h0 h3
      · apply h3
        rw [bt_get (by omega)]
        have : s[0] = s.data.toList[0] := by simp [ByteArray.getElem_eq_getElem_data]
        rw [this, h00]; rfl
    have hb := bs_nb hc
    refine ⟨nb s.data.toList, ?_, ?_⟩
    · unfold bstr; rw [hb]
    · rw [dn_nb hc, hl]; exact h.1
theorem DyAt.but9 {w w' : World} {b p o : Nat} {neg : Bool} {s : ByteArray} {e : Int} (h : DyAt w b neg s e) (hw : But w w' p o) (hb : b ≠ p) : DyAt w' b neg s e := by
  have hk := hw.far b h.lt hb
  have c : ∀ i : Nat, w'.cell? ⟨b, i, none⟩ = w.cell? ⟨b, i, none⟩ := fun i => World.cell?_of_block (w := w) hk
  have f : ∀ i : Nat, w'.frozen? ⟨b, i, none⟩ = w.frozen? ⟨b, i, none⟩ := fun i => by unfold World.frozen?; rw [hk]
  exact ⟨(c 0).trans h.c0, (c 1).trans h.c1, (c 2).trans h.c2, (f 0).trans h.f0, (f 1).trans h.f1, (f 2).trans h.f2⟩
theorem bstr_le {x : Nat} (h : Fil.dn 8 x ≤ 16384) : (bstr x).size ≤ 9223372036854775807 := by rw [bstr_size]; omega

end Go.Proofs.YtbhfnigblhfikaaGreat

/- Merged: RF RG RI RJ RK RL -/
/- The reference of layer 2: two, Shift, Bit, Low, Len. -/
namespace Go.Proofs.YtbhfnigblhfikaaGreat
open Go Go.RowKit Go.PlainAid Fil

theorem dg_two (n j : Nat) : dg 8 (2 ^ n) j = if j = n / 8 then 2 ^ (n % 8) else 0 := by
  unfold dg
  by_cases h : j = n / 8
  · rw [if_pos h, Nat.pow_div (by omega) (by omega), show n - 8 * j = n % 8 by omega]
    refine Nat.mod_eq_of_lt (Nat.pow_lt_pow_right (by omega) (by omega))
  · rw [if_neg h]
    rcases Nat.lt_or_ge j (n / 8) with h1 | h1
    · rw [Nat.pow_div (by omega) (by omega)]
      refine Nat.mod_eq_zero_of_dvd (Nat.pow_dvd_pow 2 (by omega))
    · rw [Nat.div_eq_of_lt (Nat.pow_lt_pow_right (by omega) (by omega))]
theorem dn_two (n : Nat) : Fil.dn 8 (2 ^ n) = n / 8 + 1 := by
  rw [dn8_bl, bl_eq (n := n) (Nat.le_refl _) (Nat.pow_lt_pow_right (by omega) (by omega))]
  omega
set_option maxRecDepth 100000 in
set_option maxHeartbeats 2000000 in
theorem r2two_any (n : Nat) (w : World) (hn : n ≤ 1000000) :
    Calls Tryz.prog 112 #[.int .i64 (n : Int)] w fun r w' => r = .returned (.string (bstr (2 ^ n))) ∧ Below w.heap.size w w' := by
  obtain ⟨q, hq⟩ : ∃ q, q = n / 8 := ⟨_, rfl⟩
  obtain ⟨s, hs⟩ : ∃ s, s = n % 8 := ⟨_, rfl⟩
  have hmk := run_make_row' (P := Tryz.prog) 103 3 (.int .i64 0) 8 Tryz.underlying103 Tryz.info3 rfl .i64 .i64 (q + 1) (by omega) (by omega)
  rw [show ((q + 1 : Nat) : Int) = (q : Int) + 1 by omega] at hmk
  have e1 : (n : Int) / 8 = (q : Int) := by omega
  have e2 : (n : Int) % 8 = (s : Int) := by omega
  have e3 : (n : Int).tmod 8 = (s : Int) := by rw [← e2]; exact Int.tmod_eq_emod_of_nonneg (by omega)
  have hlt : 2 ^ n < 2 ^ (8 * (q + 1)) := Nat.pow_lt_pow_right (by omega) (by omega)
  have hq8 : q ≤ 125000 := by omega
  have p0 : (0 : Int) ≤ (q : Int) := by omega
  have p1 : (q : Int) < (q : Int) + 1 := by omega
  obtain ⟨T, hT⟩ : ∃ T, T = 2 ^ s := ⟨_, rfl⟩
  have hT8 : T ≤ 128 := by rw [hT]; exact Nat.le_trans (Nat.pow_le_pow_right (by omega) (show s ≤ 7 by omega)) (by decide)
  have hs8 : s < 8 := by omega
  have e4 : RowKit.wrap64 (2 ^ s) = (T : Int) := by
    rw [show ((2 : Int) ^ s) = (T : Int) by rw [hT]; simp, ← i64_is]
    exact IntWalk.i64_in _ (by omega)
  have HQ := Lib.hid (And.intro hq (And.intro hs (And.intro hT hlt)))
  clear hq hs hT hlt
  go_enter Tryz.func112, Tryz.ntmps112
  go_upto_region 2 with fail
  have hr0 := World.rowIs_made w (.int .i64 0) (q + 1) 3
  have hbel := (Below.refl w.heap.size w).alloc (Nat.le_refl _) (.cells (madeCells #[.int .i64 0] (q + 1)) 3)
  clear hmk
  generalize w.alloc (.cells (madeCells #[.int .i64 0] (q + 1)) 3) = v at *
  have hc1 := hr0.cell (i := q) (by omega)
  have hc2 := hr0.frozen q
  go_upto_region 3 with fail
  obtain ⟨hq, hs, hT, hlt⟩ := HQ.out
  have hrow := (hr0.set q (.int .i64 (T : Int))).congr (g := i8 (2 ^ n)) (fun j hj => by
    rw [i8, dg_two, ← hq, ← hs, ← hT]
    by_cases h : j = q
    · rw [if_pos h, if_pos h]
    · rw [if_neg h, if_neg h]; rfl)
  have hbel2 := hbel.setCell (p := ⟨w.heap.size, q, none⟩) (Nat.le_refl _) (.int .i64 (T : Int))
  clear hc1 hc2 hr0 HQ hbel hs hT
  generalize v.setCell ⟨w.heap.size, q, none⟩ (.int .i64 (T : Int)) = v2 at *
  have hL := Lib.hid hlt
  clear hlt hq
  go_wp2_with fail
  refine (r2made_gen _ (q + 1) (q + 1) (2 ^ n) _ hL.out (by omega) (Slc.of_row hrow (by omega))).mono ?_
  rintro r w1 ⟨rfl, hb1⟩
  go_wp2
  go_ret
  exact ⟨rfl, hbel2.trans (hb1.mono hbel2.size)⟩
set_option maxHeartbeats 2000000 in
theorem r2shift_0 (x : Nat) (z : Int) (w : World) (hx8 : Fil.dn 8 x ≤ 400000) (h : x = 0 ∨ z = 0) :
    Calls Tryz.prog 95 #[.string (bstr x), .int .i64 z] w fun r w' => r = .returned (.tuple #[.string (bstr x), .int .i64 0]) ∧ w = w' := by
  by_cases h0 : x = 0
  · subst h0
    have e := bstr_nil
    clear h
    go_enter Tryz.func95, Tryz.ntmps95
    go_wp2
    go_returns
    exact ⟨rfl, rfl⟩
  · have hz : z = 0 := by rcases h with h | h; exact absurd h h0; exact h
    subst hz
    have e1 := (bstr_ne h0).1
    have e2 := (bstr_ne h0).2
    clear h
    go_enter Tryz.func95, Tryz.ntmps95
    go_wp2
    go_returns
    exact ⟨rfl, rfl⟩
set_option maxHeartbeats 2000000 in
theorem r2shift_up (x k : Nat) (w : World) (hx8 : Fil.dn 8 x ≤ 400000) (h0 : x ≠ 0) (hk : 0 < k) (hk8 : k ≤ 4611686018427387904) :
    Calls Tryz.prog 95 #[.string (bstr x), .int .i64 (k : Int)] w fun r w' => r = .returned (endV (x * 2 ^ k)) ∧ Below w.heap.size w w' := by
  have e1 := (bstr_ne h0).1
  have e2 := (bstr_ne h0).2
  have hk1 : (0 : Int) < (k : Int) := by omega
  have hk2 : ((k : Int) == 0) = false := by rw [beq_eq_false_iff_ne]; omega
  have hb := Below.refl w.heap.size w
  by_cases hl : 131072 < k
  · have e : endV (x * 2 ^ k) = .tuple #[.string { data := #[] }, .int .i64 4] := by
      refine endV_long ?_
      have h1 := dn_mul_ge h0 (show 2 ^ k ≠ 0 from Nat.ne_of_gt (pp k))
      rw [dn_two] at h1
      have := dn_pos (k := 8) h0
      omega
    rw [e]
    have hk3 : (131072 : Int) < (k : Int) := by omega
    clear e h0 hx8
    go_enter Tryz.func95, Tryz.ntmps95
    go_wp2
    go_returns
    exact ⟨rfl, hb⟩
  · have ht := fun W => r2two_any k W (by omega)
    have hm := fun W => r2Mul_any x (2 ^ k) W hx8 (by rw [dn_two]; omega) (.inl ⟨h0, Nat.ne_of_gt (pp k)⟩)
    obtain ⟨S, E, hE⟩ := endV_parts (x * 2 ^ k)
    rw [hE] at hm ⊢
    have hk3 : ¬ (131072 : Int) < (k : Int) := by omega
    clear hE h0 hx8 hl
    go_enter Tryz.func95, Tryz.ntmps95
    go_wp2_with fail
    refine (ht _).mono ?_
    rintro r w1 ⟨rfl, hb1⟩
    clear ht
    go_wp2_with fail
    refine (hm _).mono ?_
    rintro r w2 ⟨rfl, hb2⟩
    clear hm
    go_wp2
    go_returns
    exact ⟨rfl, hb1.trans (hb2.mono hb1.size)⟩
set_option maxRecDepth 100000 in
set_option maxHeartbeats 4000000 in
theorem r2shift_down (x k : Nat) (z : Int) (w : World) (hx8 : Fil.dn 8 x ≤ 400000) (h0 : x ≠ 0) (hk : 0 < k) (hk8 : k ≤ 131072) (hz : z = -(k : Int)) :
    Calls Tryz.prog 95 #[.string (bstr x), .int .i64 z] w fun r w' => r = .returned (.tuple #[.string (bstr (x / 2 ^ k)), .int .i64 0]) ∧ Below w.heap.size w w' := by
  have e1 := (bstr_ne h0).1
  have e2 := (bstr_ne h0).2
  have hd1 := fun W => r2digits_any x W (by omega)
  have hx := lt_dn (k := 8) (by omega) x
  obtain ⟨n, hn⟩ : ∃ n, n = Fil.dn 8 x := ⟨_, rfl⟩
  simp only [← hn] at hx hd1 hx8
  have Hn := Lib.hid hn
  obtain ⟨i0, hi, hp⟩ := Option.map_eq_some_iff.1 Tryz.info3
  have hz0 : i0.zero = some (.int .i64 0) := congrArg Prod.fst hp
  have hz1 : i0.size = 1 := congrArg (fun q => q.2.1) hp
  have hz2 : i0.bytes = 8 := congrArg (fun q => q.2.2) hp
  obtain ⟨q, hq⟩ : ∃ q, q = k / 8 := ⟨_, rfl⟩
  obtain ⟨s, hs⟩ : ∃ s, s = k % 8 := ⟨_, rfl⟩
  obtain ⟨M, hM⟩ : ∃ M, M = max n q := ⟨_, rfl⟩
  have HL : Hid (x / 2 ^ k < 2 ^ (8 * (M - q))) := Lib.hid (by
    rcases Nat.lt_or_ge q n with h | h
    · have := halved_lt (k := k) hx (by omega)
      exact Nat.lt_of_lt_of_le this (pmono (by omega))
    · rw [Nat.div_eq_of_lt (Nat.lt_of_lt_of_le hx (pmono (by omega)))]; exact pp _)
  have HD := Lib.hid (halved_dg x k)
  have y0 : ¬ (0 : Int) < z := by omega
  have y1 : (z == 0) = false := by rw [beq_eq_false_iff_ne]; omega
  have y2 : ¬ z < -131072 := by omega
  have y3 : -z = (k : Int) := by omega
  have y4 : (k : Int) / 8 = (q : Int) := by omega
  have y5 : (k : Int) % 8 = (s : Int) := by omega
  have y6 : (k : Int).tmod 8 = (s : Int) := by rw [← y5]; exact Int.tmod_eq_emod_of_nonneg (by omega)
  have y7 : (k : Int).tdiv 8 = (q : Int) := by rw [← y4]; exact Int.tdiv_eq_ediv_of_nonneg (by omega)
  have y8 : z < 0 := by omega
  have y9 : z ≤ -1 := by omega
  have hs8 : s < 8 := by omega
  have hq8 : q ≤ 16384 := by omega
  have hqM : q ≤ M := by omega
  have hnM : n ≤ M := by omega
  have hM8 : M ≤ 500000 := by omega
  have HQ := Lib.hid (And.intro hq (And.intro hs hM))
  have Hx := Lib.hid hx
  have hb0 := Below.refl w.heap.size w
  clear hn hp hx hq hs hM h0 hz
  go_enter Tryz.func95, Tryz.ntmps95
  go_wp2_with fail
  refine (hd1 _).mono ?_
  rintro r w2 ⟨v1, rfl, ho1, hb1⟩
  obtain ⟨A, c, rfl, hnc, ha⟩ := Own.slc ho1
  replace ha : Slc w2 3 A n (i8 x) := ha
  clear ho1 hd1
  go_wp2
  go_loopg [7, 8] (M - q) (fun g s7 s8 wr => ∃ p : Nat, q ≤ p ∧ p ≤ M ∧ g = M - p ∧ s8 = .int .i64 (p : Int) ∧ Own wr w2.heap.size s7 (p - q) (fun i => (dg 8 (x / 2 ^ k) i : Int)) ∧ Below w2.heap.size w2 wr)
  case atStart => exact ⟨q, by omega, by omega, rfl, rfl, by rw [Nat.sub_self]; exact Own.nil _ _ _, Below.refl _ _⟩
  case round =>
    obtain ⟨p, hqp, hp, hg, rfl, hown, hbel⟩ := hrel
    by_cases hpn : p < n
    · obtain ⟨b, o, rfl, hblt0, hc⟩ := (ha.below hbel).cell (by omega)
      have k1 := hc p hpn
      simp only [i8] at k1
      have hd0 := dg_lt 8 x p
      have hd1 := dg_lt 8 x (p + 1)
      have hHD := HD.out (p - q)
      rw [← HQ.out.1, ← HQ.out.2.1, show q + (p - q) = p by omega] at hHD
      have hs2 := ha.below hbel
      have hra := fun W => r2at_quiet (some ⟨b, o, none⟩) n c x ((p : Int) + 1) W Hn.out (by omega) (by omega)
      rw [show (((p : Int) + 1).toNat) = p + 1 by omega] at hra
      obtain ⟨d2, hd2⟩ : ∃ d2, d2 = dg 8 (x / 2 ^ k) (p - q) := ⟨_, rfl⟩
      rw [← hd2] at hHD
      have HE := Lib.hid hd2
      have HA := Lib.hid hra
      obtain ⟨d0, he0⟩ : ∃ d0, d0 = dg 8 x p := ⟨_, rfl⟩
      obtain ⟨d1, he1⟩ : ∃ d1, d1 = dg 8 x (p + 1) := ⟨_, rfl⟩
      rw [← he0] at hd0 hHD k1
      rw [← he1] at hd1 hHD HA
      obtain ⟨dd, hdd⟩ : ∃ dd, dd = d0 + 256 * d1 := ⟨_, rfl⟩
      obtain ⟨t, ht⟩ : ∃ t, t = dd / 2 ^ s := ⟨_, rfl⟩
      have ht8 : t ≤ dd := by rw [ht]; exact Nat.div_le_self _ _
      have hdd8 : dd ≤ 65535 := by omega
      rw [← hdd, ← ht] at hHD
      have W1 : IntKind.i64.wrap (256 * (d1 : Int)) = 256 * (d1 : Int) := IntWalk.i64_in _ (by omega)
      have W2 : IntKind.i64.wrap ((d0 : Int) + 256 * (d1 : Int)) = (dd : Int) := by rw [IntWalk.i64_in _ (by omega)]; omega
      have W3 : IntKind.i64.wrap ((p : Int) + 1) = (p : Int) + 1 := IntWalk.i64_in _ (by omega)
      have hsh : Op.shift BinOp.shr IntKind.i64 (dd : Int) IntKind.i64 (s : Int) = pure (Value.int .i64 (t : Int)) := by
        have h := shift_shr .i64 .i64 (dd : Int) (s : Int) (by omega) (by show (s : Int) ≤ 64; omega)
        rw [h, Int.toNat_natCast, div_cast, ht]
      have W5 : (dd : Int) / 2 ^ s = (t : Int) := by rw [ht]; simp
      have W6 : (t : Int) % 256 = (d2 : Int) := by rw [← hHD]; omega
      have W7 : (t : Int).tmod 256 = (d2 : Int) := by rw [← W6]; exact Int.tmod_eq_emod_of_nonneg (by omega)
      have P0 : (0 : Int) ≤ (p : Int) := by omega
      have P1 : (p : Int) < (n : Int) := by omega
      have hd2l : d2 < 256 := by rw [hd2]; exact dg_lt 8 _ _
      have hb2 := hbel.size
      have HG := Lib.hid (And.intro hg (And.intro hbel hHD))
      clear hg hbel hc ht hdd he0 he1 hra hHD hd2
      go_wp2_with fail
      go_quiet ((go_at_call 98; exact Calls.quiet_of (HA.out _ (by exact hs2.drewN _))))
      clear HA hs2 W1 W2 W3 k1
      go_wp2_with (at_builtin; refine wpList_append_own _ rfl _ _ 103 rfl w2.heap.size 3 i0 (.int .i64 0) 1 8 Tryz.underlying103 hi hz0 hz1 hz2 rfl (by decide) _ _ _ rfl (by exact hown.alloc _) ⟨wr.heap.size, 0, none⟩ 1 1 [.int .i64 (d2 : Int)] rfl rfl ?c1 ?c2 ?c3 ?c4 ?c5 ?_)
      case c1 =>
        intro j u hj
        match j, hj with
        | 0, hj => simp at hj; subst hj; simp [Addr.add]; exact one_cell (wr.drewN nq) _ _
      case c2 => intro u hu; simp at hu; subst hu; rfl
      case c3 => unfold maxLen; omega
      case c4 => omega
      case c5 => simp; omega
      · intro v' w1 hown' hgrow _
        rw [own_grow (g := fun i => (dg 8 (x / 2 ^ k) i : Int)) (fun _ _ => rfl) (by rw [HE.out])] at hown'
        have hb1' := ((Below.drewN' HG.out.2.1 nq).alloc hb2 (Obj.cells #[Value.int IntKind.i64 (d2 : Int)] 3)).grown hgrow (by simp; omega) (fun k hk => (hown.lt k hk).1)
        clear hown hgrow
        go_wp2
        go_roundg (M - (p + 1))
        case measure => have := HG.out.1; omega
        case rel => exact ⟨p + 1, by omega, by omega, rfl, by go_num, by rw [show p + 1 - q = p - q + 1 by omega]; exact hown', hb1'⟩
    · have hpM : p = M := by have := HQ.out.2.2; omega
      subst hpM
      obtain ⟨A', c', rfl, hnc', hs'⟩ := Own.slc hown
      replace hs' : Slc wr 3 A' (p - q) (i8 (x / 2 ^ k)) := hs'
      clear hown
      go_wp2_with fail
      refine (r2made_gen A' (p - q) c' (x / 2 ^ k) _ HL.out (by omega) hs').mono ?_
      rintro r w3 ⟨rfl, hb3⟩
      go_wp2
      go_returns
      exact ⟨rfl, hb1.trans ((hbel.trans (hb3.mono hbel.size)).mono hb1.size)⟩
end Go.Proofs.YtbhfnigblhfikaaGreat

/- ratio.Of and the reference's Of: ratios of Dyads. -/
namespace Go.Proofs.YtbhfnigblhfikaaGreat
open Go Go.RowKit Go.PlainAid Fil

end Go.Proofs.YtbhfnigblhfikaaGreat

/- ratio.New, Whole and the reference's. -/
namespace Go.Proofs.YtbhfnigblhfikaaGreat
open Go Go.RowKit Go.PlainAid Fil

set_option maxRecDepth 100000 in
set_option maxHeartbeats 8000000 in
theorem knew_bad0 (N : Bool) (P Q : ByteArray) (w : World) (h1 : ∀ W, Calls Tryz.prog 51 #[.string P] W fun r w' => r = .returned (.int .i64 2) ∧ Below W.heap.size W w') :
    Calls Tryz.prog 17 #[.bool N, .string P, .string Q] w fun r w' => r = .returned (.tuple #[.agg #[.bool false, .string { data := #[] }, .string { data := #[] }], .int .i64 2]) ∧ Below w.heap.size w w' := by
  go_enter Tryz.func17, Tryz.ntmps17
  have B0 := Below.refl w.heap.size w
  have q_w_F6 : Hid (w.heap.size ≤ w.heap.size) := Lib.hid (by omega)
  have F6 := Blk.put (w) #[.bool false, .string { data := #[] }, .string { data := #[] }] 24
  replace B0 := B0.alloc B0.size (.cells #[.bool false, .string { data := #[] }, .string { data := #[] }] 24)
  go_wp2_with fail
  (with_reducible refine (h1 _).mono ?_)
  rintro r w1 ⟨rfl, hb1⟩
  replace F6 := F6.keep hb1
  replace B0 := B0.trans (hb1.mono B0.size)
  clear hb1
  obtain ⟨xF61_0, xF61_1, xF61_2⟩ := F6.ce3
  obtain ⟨xF61_0f, xF61_1f, xF61_2f⟩ := F6.fr3
  replace F6 : Blk ((((w1).setCell ⟨w.heap.size, 0, none⟩ (.bool false)).setCell ⟨w.heap.size, 1, none⟩ (.string { data := #[] })).setCell ⟨w.heap.size, 2, none⟩ (.string { data := #[] })) (w.heap.size) #[.bool false, .string { data := #[] }, .string { data := #[] }] 24 := (((F6.setAt 0 (.bool false)).setAt 1 (.string { data := #[] })).setAt 2 (.string { data := #[] }))
  replace B0 := (((B0.setCell (p := ⟨w.heap.size, 0, none⟩) q_w_F6.out (.bool false)).setCell (p := ⟨w.heap.size, 1, none⟩) q_w_F6.out (.string { data := #[] })).setCell (p := ⟨w.heap.size, 2, none⟩) q_w_F6.out (.string { data := #[] }))
  obtain ⟨xF62_0, xF62_1, xF62_2⟩ := F6.ce3
  go_wp2
  exact bodyPost_ret (v := .tuple #[.agg #[.bool false, .string { data := #[] }, .string { data := #[] }], .int .i64 2]) (by simp [results, Tryz.results17, go_sem, xF62_0, xF62_1, xF62_2]) rfl ⟨rfl, B0⟩
set_option maxRecDepth 100000 in
set_option maxHeartbeats 8000000 in
theorem knew_bad1 (N : Bool) (P Q : ByteArray) (w : World) (h1 : ∀ W, Calls Tryz.prog 51 #[.string P] W fun r w' => r = .returned (.int .i64 0) ∧ Below W.heap.size W w') (h2 : ∀ W, Calls Tryz.prog 51 #[.string Q] W fun r w' => r = .returned (.int .i64 2) ∧ Below W.heap.size W w') :
    Calls Tryz.prog 17 #[.bool N, .string P, .string Q] w fun r w' => r = .returned (.tuple #[.agg #[.bool false, .string { data := #[] }, .string { data := #[] }], .int .i64 2]) ∧ Below w.heap.size w w' := by
  go_enter Tryz.func17, Tryz.ntmps17
  have B0 := Below.refl w.heap.size w
  have q_w_F6 : Hid (w.heap.size ≤ w.heap.size) := Lib.hid (by omega)
  have F6 := Blk.put (w) #[.bool false, .string { data := #[] }, .string { data := #[] }] 24
  replace B0 := B0.alloc B0.size (.cells #[.bool false, .string { data := #[] }, .string { data := #[] }] 24)
  go_wp2_with fail
  (with_reducible refine (h1 _).mono ?_)
  rintro r w1 ⟨rfl, hb1⟩
  replace F6 := F6.keep hb1
  replace B0 := B0.trans (hb1.mono B0.size)
  clear hb1
  go_wp2_with fail
  (with_reducible refine (h2 _).mono ?_)
  rintro r w2 ⟨rfl, hb2⟩
  replace F6 := F6.keep hb2
  replace B0 := B0.trans (hb2.mono B0.size)
  clear hb2
  obtain ⟨xF62_0, xF62_1, xF62_2⟩ := F6.ce3
  obtain ⟨xF62_0f, xF62_1f, xF62_2f⟩ := F6.fr3
  replace F6 : Blk ((((w2).setCell ⟨w.heap.size, 0, none⟩ (.bool false)).setCell ⟨w.heap.size, 1, none⟩ (.string { data := #[] })).setCell ⟨w.heap.size, 2, none⟩ (.string { data := #[] })) (w.heap.size) #[.bool false, .string { data := #[] }, .string { data := #[] }] 24 := (((F6.setAt 0 (.bool false)).setAt 1 (.string { data := #[] })).setAt 2 (.string { data := #[] }))
  replace B0 := (((B0.setCell (p := ⟨w.heap.size, 0, none⟩) q_w_F6.out (.bool false)).setCell (p := ⟨w.heap.size, 1, none⟩) q_w_F6.out (.string { data := #[] })).setCell (p := ⟨w.heap.size, 2, none⟩) q_w_F6.out (.string { data := #[] }))
  obtain ⟨xF63_0, xF63_1, xF63_2⟩ := F6.ce3
  go_wp2
  exact bodyPost_ret (v := .tuple #[.agg #[.bool false, .string { data := #[] }, .string { data := #[] }], .int .i64 2]) (by simp [results, Tryz.results17, go_sem, xF63_0, xF63_1, xF63_2]) rfl ⟨rfl, B0⟩
set_option maxRecDepth 100000 in
set_option maxHeartbeats 8000000 in
theorem knew_bad2 (N : Bool) (P Q : ByteArray) (w : World) (h1 : ∀ W, Calls Tryz.prog 51 #[.string P] W fun r w' => r = .returned (.int .i64 0) ∧ Below W.heap.size W w') (h2 : ∀ W, Calls Tryz.prog 51 #[.string Q] W fun r w' => r = .returned (.int .i64 0) ∧ Below W.heap.size W w') (hQ : Q.toList = []) :
    Calls Tryz.prog 17 #[.bool N, .string P, .string Q] w fun r w' => r = .returned (.tuple #[.agg #[.bool false, .string { data := #[] }, .string { data := #[] }], .int .i64 2]) ∧ Below w.heap.size w w' := by
  go_enter Tryz.func17, Tryz.ntmps17
  have B0 := Below.refl w.heap.size w
  have q_w_F6 : Hid (w.heap.size ≤ w.heap.size) := Lib.hid (by omega)
  have F6 := Blk.put (w) #[.bool false, .string { data := #[] }, .string { data := #[] }] 24
  replace B0 := B0.alloc B0.size (.cells #[.bool false, .string { data := #[] }, .string { data := #[] }] 24)
  go_wp2_with fail
  (with_reducible refine (h1 _).mono ?_)
  rintro r w1 ⟨rfl, hb1⟩
  replace F6 := F6.keep hb1
  replace B0 := B0.trans (hb1.mono B0.size)
  clear hb1
  go_wp2_with fail
  (with_reducible refine (h2 _).mono ?_)
  rintro r w2 ⟨rfl, hb2⟩
  replace F6 := F6.keep hb2
  replace B0 := B0.trans (hb2.mono B0.size)
  clear hb2
  obtain ⟨xF62_0, xF62_1, xF62_2⟩ := F6.ce3
  obtain ⟨xF62_0f, xF62_1f, xF62_2f⟩ := F6.fr3
  replace F6 : Blk ((((w2).setCell ⟨w.heap.size, 0, none⟩ (.bool false)).setCell ⟨w.heap.size, 1, none⟩ (.string { data := #[] })).setCell ⟨w.heap.size, 2, none⟩ (.string { data := #[] })) (w.heap.size) #[.bool false, .string { data := #[] }, .string { data := #[] }] 24 := (((F6.setAt 0 (.bool false)).setAt 1 (.string { data := #[] })).setAt 2 (.string { data := #[] }))
  replace B0 := (((B0.setCell (p := ⟨w.heap.size, 0, none⟩) q_w_F6.out (.bool false)).setCell (p := ⟨w.heap.size, 1, none⟩) q_w_F6.out (.string { data := #[] })).setCell (p := ⟨w.heap.size, 2, none⟩) q_w_F6.out (.string { data := #[] }))
  obtain ⟨xF63_0, xF63_1, xF63_2⟩ := F6.ce3
  go_wp2
  exact bodyPost_ret (v := .tuple #[.agg #[.bool false, .string { data := #[] }, .string { data := #[] }], .int .i64 2]) (by simp [results, Tryz.results17, go_sem, xF63_0, xF63_1, xF63_2]) rfl ⟨rfl, B0⟩
end Go.Proofs.YtbhfnigblhfikaaGreat

/- The reference of layer 2: Bit, Low, Len. -/
namespace Go.Proofs.YtbhfnigblhfikaaGreat
open Go Go.RowKit Go.PlainAid Fil

set_option maxHeartbeats 2000000 in
theorem r2bit_any (x i : Nat) (w : World) (hx8 : Fil.dn 8 x ≤ 400000) (hi8 : i ≤ 4611686018427387904) :
    Calls Tryz.prog 111 #[.string (bstr x), .int .i64 (i : Int)] w fun r w' => r = .returned (.int .i64 ((x / 2 ^ i % 2 : Nat) : Int)) ∧ w = w' := by
  have hsz := bstr_size x
  have hgb := get_bt (bstr x)
  have hx := lt_dn (k := 8) (by omega) x
  have hbt := fun k h => bstr_bt x k h
  obtain ⟨n, hn⟩ : ∃ n, n = Fil.dn 8 x := ⟨_, rfl⟩
  simp only [← hn] at hsz hx hx8 hbt
  obtain ⟨q, hq⟩ : ∃ q, q = i / 8 := ⟨_, rfl⟩
  obtain ⟨s, hs⟩ : ∃ s, s = i % 8 := ⟨_, rfl⟩
  have e1 : (i : Int) / 8 = (q : Int) := by omega
  have e2 : (i : Int) % 8 = (s : Int) := by omega
  have e3 : (i : Int).tmod 8 = (s : Int) := by rw [← e2]; exact Int.tmod_eq_emod_of_nonneg (by omega)
  have e4 : (i : Int).tdiv 8 = (q : Int) := by rw [← e1]; exact Int.tdiv_eq_ediv_of_nonneg (by omega)
  have hs8 : s < 8 := by omega
  have hq8 : q ≤ 576460752303423488 := by omega
  by_cases hqn : q < n
  · obtain ⟨k, hk⟩ : ∃ k, k = n - 1 - q := ⟨_, rfl⟩
    have ek : (n : Int) - 1 - (q : Int) = (k : Int) := by omega
    have hb := hbt k (by omega)
    rw [show n - 1 - k = q by omega] at hb
    have hd := dg_lt 8 x q
    have ha := Go.Proofs.and_one (dg 8 x q / 2 ^ s) (by have := Nat.div_le_self (dg 8 x q) (2 ^ s); omega)
    rw [hq, hs, bit_at, ← hq, ← hs] at ha
    rw [← div_cast] at ha
    have hk0 : (0 : Int) ≤ (k : Int) := by omega
    have hk1 : (k : Int) < (n : Int) := by omega
    have hks : k < (bstr x).size := by omega
    have hc : ¬ n ≤ q := by omega
    obtain ⟨R, hR⟩ : ∃ R, R = x / 2 ^ i % 2 := ⟨_, rfl⟩
    rw [← hR] at ha ⊢
    generalize dg 8 x q = d at *
    have W1 : IntKind.i64.wrap (d : Int) = (d : Int) := IntWalk.i64_in _ (by omega)
    have HA := Lib.hid ha
    clear hn hq hs hk hbt hx hR ha
    go_enter Tryz.func111, Tryz.ntmps111
    go_wp2
    go_ret
    exact ⟨congrArg (fun z => Ending.returned (Value.int IntKind.i64 z)) HA.out, rfl⟩
  · have h0 : x / 2 ^ i % 2 = 0 := by
      rw [Nat.div_eq_of_lt (Nat.lt_of_lt_of_le hx (pmono (by omega)))]
    rw [h0]
    have hc : n ≤ q := by omega
    clear hn hq hs hbt hx h0 hgb
    go_enter Tryz.func111, Tryz.ntmps111
    go_wp2
    go_ret
    exact ⟨rfl, rfl⟩

theorem bit_bl {x : Nat} (h : x ≠ 0) : x / 2 ^ (bl x - 1) % 2 = 1 := by
  have h1 := le_bl h
  have h2 := lt_bl x
  have h3 : bl x = bl x - 1 + 1 := by have : bl x ≠ 0 := by intro e; rw [e] at h2; omega
                                      omega
  have h4 : x / 2 ^ (bl x - 1) = 1 := by
    apply Nat.le_antisymm
    · have : x / 2 ^ (bl x - 1) < 2 := by
        rw [Nat.div_lt_iff_lt_mul (pp _), ← Nat.pow_succ']
        exact (show x < 2 ^ (bl x - 1 + 1) by rw [← h3]; exact h2)
      omega
    · exact (Nat.le_div_iff_mul_le (pp _)).2 (by rw [Nat.one_mul]; exact h1)
  rw [h4]
theorem bit_top {x j : Nat} (h : bl x ≤ j) : x / 2 ^ j % 2 = 0 := by rw [Nat.div_eq_of_lt (Nat.lt_of_lt_of_le (lt_bl x) (pmono h))]

set_option maxHeartbeats 2000000 in
theorem r2len_any (x : Nat) (w : World) (hx8 : Fil.dn 8 x ≤ 400000) :
    Calls Tryz.prog 93 #[.string (bstr x)] w fun r w' => r = .returned (.int .i64 ((bl x : Nat) : Int)) ∧ w = w' := by
  have hsz := bstr_size x
  have hle : bl x ≤ 8 * Fil.dn 8 x := bl_le (lt_dn (k := 8) (by omega) x)
  have hb0 : x = 0 → bl x = 0 := fun h => by rw [h]; rfl
  have hb := fun (j : Nat) (h : j ≤ 3200000) W => r2bit_any x j W hx8 (by omega)
  have Hb := Lib.hid (fun h => @bit_bl x h)
  have Hl := Lib.hid (fun j => @bit_top x j)
  have HB := Lib.hid hb
  have HZ := Lib.hid hb0
  clear hb hb0
  obtain ⟨n, hn⟩ : ∃ n, n = Fil.dn 8 x := ⟨_, rfl⟩
  rw [← hn] at hsz hle hx8
  clear hn
  generalize bl x = t at *
  go_enter Tryz.func93, Tryz.ntmps93
  go_wp2
  go_loopg [3] (8 * n) (fun g s3 wr => w = wr ∧ t ≤ g ∧ g ≤ 8 * n ∧ s3 = .int .i64 (g : Int))
  case atStart => exact ⟨rfl, hle, Nat.le_refl _, by go_num⟩
  case round =>
    obtain ⟨rfl, hg1, hg2, rfl⟩ := hrel
    by_cases hg : gk = 0
    · subst hg
      obtain rfl : t = 0 := by omega
      go_wp2
      go_ret
      exact ⟨rfl, rfl⟩
    · obtain ⟨m, hm⟩ : ∃ m, m = gk - 1 := ⟨_, rfl⟩
      have hb := HB.out m (by omega)
      have em : (gk : Int) - 1 = (m : Int) := by omega
      have hp : (0 : Int) < (gk : Int) := by omega
      have hp2 : 0 < gk := by omega
      by_cases ht : t = gk
      · have hx0 : x ≠ 0 := fun e => by have := HZ.out e; omega
        rw [hm, ← ht, Hb.out hx0, ht, ← hm] at hb
        have HT := Lib.hid ht
        clear ht hx0 hm
        go_wp2_with fail
        refine (hb _).mono ?_
        rintro r w1 ⟨rfl, rfl⟩
        clear hb
        go_wp2
        go_ret
        exact ⟨by rw [HT.out]; rfl, rfl⟩
      · rw [Hl.out m (by omega)] at hb
        have HT := Lib.hid (And.intro hm ht)
        clear ht hm
        go_wp2_with fail
        refine (hb _).mono ?_
        rintro r w1 ⟨rfl, rfl⟩
        clear hb
        go_wp2
        go_roundg m
        case measure => have := HT.out; omega
        case rel => exact ⟨rfl, by have := HT.out; omega, by have := HT.out; omega, rfl⟩
end Go.Proofs.YtbhfnigblhfikaaGreat

/- ratio.Dyad, ratio.Whole; the reference's Dyad. -/
namespace Go.Proofs.YtbhfnigblhfikaaGreat
open Go Go.RowKit Go.PlainAid Fil

end Go.Proofs.YtbhfnigblhfikaaGreat

/- ratios of Dyads and of numbers: the program and the reference agree. -/
namespace Go.Proofs.YtbhfnigblhfikaaGreat
open Go Go.RowKit Go.PlainAid Fil

theorem divInt_one (z : Int) : (Rat.divInt z ((1 : Nat) : Int)).num = z ∧ (Rat.divInt z ((1 : Nat) : Int)).den = 1 := by
  refine ⟨?_, ?_⟩
  · rw [Rat.num_divInt]; simp
  · rw [Rat.den_divInt]; simp
theorem natB_nil {S : ByteArray} (h : S.size = 0) : natB S = true := by unfold natB; rw [h]; rfl
theorem bl_two {q : Nat} (h : q ≠ 0) : q / 2 ^ tz q = 1 ↔ bl q = tz q + 1 := by
  have h1 : q / 2 ^ tz q * 2 ^ tz q = q := tz_mul
  have h2 : q / 2 ^ tz q ≠ 0 := fun e => by rw [e, Nat.zero_mul] at h1; exact h h1.symm
  have h3 : bl q = bl (q / 2 ^ tz q) + tz q := by
    have := bl_shift (k := tz q) h2
    rw [h1] at this
    exact this
  rw [h3]
  generalize q / 2 ^ tz q = o at *
  constructor
  · rintro rfl
    rw [show bl 1 = 1 by decide]; omega
  · intro h4
    have h5 : bl o = 1 := by omega
    have h6 := lt_bl o
    rw [h5] at h6
    omega
end Go.Proofs.YtbhfnigblhfikaaGreat

/- Ldexp beyond the floats; Rat.Float64, ratio.Float of any ratio. -/
namespace Go.Proofs.YtbhfnigblhfikaaGreat
open Go Go.RowKit Go.PlainAid Fil

set_option maxRecDepth 20000 in
set_option maxHeartbeats 2000000 in
theorem ldexp_infty (E F : Nat) (e : Int) (x : Nat) (w : World) (hx : x = E * 4503599627370496 + F) (hE : E < 2047) (hE1 : 1 ≤ E) (hF : F < 4503599627370496)
    (he1 : 0 ≤ e) (he2 : e ≤ 100000000000) (hk : 1023 < e + (E - 1023)) :
    Calls Tryz.prog 118 #[.float .f64 x, .int .i64 e] w fun r w' => r = .returned (.float .f64 9218868437227405312) ∧ w = w' := by
  have hxb : x < 18446744073709551616 := by omega
  have o0 := ord_zero (x := x) (by omega) (by omega)
  have hi := fun W => isinf_any x W hxb
  have hn := fun W => isnan_any x W
  have hm := fun W => normal_any x W hxb (ord_norm (by omega) (by omega))
  rw [ord_big (by omega)] at hi
  rw [ord_self (by omega)] at hn
  have h1 := run_f64bits
  have h2 := run_f64from
  have hE0 : 0 ≤ (E : Int) := by omega
  have hE2 : (E : Int) < 2047 := by omega
  have hd : (x : Int) / 4503599627370496 = (E : Int) := by omega
  have ha := exp_bits E (by omega)
  have o4 : (FloatKind.f64.format.order x 0 == some .lt) = false := by
    rw [order_pos (by omega) (by omega), cmp_gt (by omega)]; rfl
  obtain ⟨k, hk'⟩ : ∃ k, e + ((E : Int) - 1023) = k := ⟨_, rfl⟩
  rw [hk'] at hk
  have hk2 : k ≤ 100000002000 := by omega
  have Hx := Lib.hid (And.intro hx (And.intro hF (And.intro hE hE1)))
  clear hx hxb hF hE hE1
  go_enter Tryz.func118, Tryz.ntmps118
  go_wp2_with (first
    | (go_at_call 110; go_must (refine (hi _).mono ?_); rintro r w1 ⟨rfl, rfl⟩)
    | (go_at_call 120; go_must (refine (hn _).mono ?_); rintro r w1 ⟨rfl, rfl⟩)
    | (go_at_call 94; go_must (refine (minf_pos _).mono ?_); rintro r w1 ⟨rfl, rfl⟩)
    | (go_at_call 121; go_must (refine (hm _).mono ?_); rintro r w1 ⟨rfl, rfl⟩))
  go_ret
  exact ⟨rfl, rfl⟩
theorem mldexp_big (m : Nat) (q : Int) (w : World) (hm1 : 4503599627370496 ≤ m) (hm : m ≤ 9007199254740992) (hq0 : 972 ≤ q) (hq1 : q ≤ 100000000000) :
    Calls Tryz.prog 109 #[.float .f64 (floatOfInt .f64 (m : Int)), .int .i64 q] w fun r w' => r = .returned (.float .f64 9218868437227405312) ∧ w = w' := by
  have h0 : m ≠ 0 := by omega
  obtain ⟨L, F, hL, hl, hF, hv, h53⟩ := int_parts h0 hm
  have hf : floatOfInt .f64 (m : Int) = (L + 1023) * 4503599627370496 + F := by
    rw [← float_int hL hF hv]
    show Ieee.double.nearest (decide ((m : Int) < 0)) (m : Int).natAbs 0 = _
    rw [decide_eq_false (by omega), Int.natAbs_natCast]
  have h52 : 52 ≤ L := by rw [hl]; exact (Nat.le_log2 h0).2 hm1
  have h := fun W => ldexp_infty (L + 1023) F q _ W hf (by omega) (by omega) hF (by omega) hq1 (by omega)
  generalize floatOfInt .f64 (m : Int) = x at *
  clear hm hm1 hf hv h53 hl
  go_enter Tryz.func109, Tryz.ntmps109
  go_wp2_with (go_at_call 118; go_must (refine (h _).mono ?_); rintro r w1 ⟨rfl, rfl⟩)
  go_ret
  exact ⟨rfl, rfl⟩
theorem fE_le {n d : Nat} (hn : n ≠ 0) (hd : d ≠ 0) : tpI (fV n d) (fE n d) ≤ bl n + 1 := by
  have h1 := fQ_hi (n := n) hd
  have h2 := fQ_lo hn hd
  have h3 : (fV n d).log2 = (fQ n d).log2 + 1 := tl_log (by omega) (fT_le n d)
  have h4 : (fQ n d).log2 < 61 := (Nat.log2_lt (by omega)).2 (by rw [show (2 : Nat) ^ 61 = 2305843009213693952 by rfl]; exact h1)
  unfold tpI fE fS
  rw [h3]
  omega
theorem kRung_big {x : Rat} (h : ¬ kSmall x) : kRung x = 9218868437227405312 := by
  unfold kRung rgN
  unfold kSmall at h
  rw [if_pos (by omega)]
theorem bl_dn32 {n K : Nat} (h : Fil.dn 32 n ≤ K) : bl n ≤ 32 * K := bl_le (lt_of_dn (by omega) h)
theorem kld_big {x : Rat} (h0 : x.num ≠ 0) (h : ¬ kSmall x) (hz : Szd 100000000 x) (W : World) :
    Calls Tryz.prog 109 #[.float .f64 (floatOfInt .f64 ((rdM (fV x.num.natAbs x.den) (fE x.num.natAbs x.den) + (rdUp (fV x.num.natAbs x.den) (fE x.num.natAbs x.den)).toNat : Nat) : Int)), .int .i64 (rdQ (fV x.num.natAbs x.den) (fE x.num.natAbs x.den))] W fun r w' => r = .returned (.float .f64 9218868437227405312) ∧ W = w' := by
  have hV := fV_ne (n := x.num.natAbs) (d := x.den) (by omega) x.den_nz
  have h1 := rdM_lt hV (fE x.num.natAbs x.den)
  have h2 : (rdUp (fV x.num.natAbs x.den) (fE x.num.natAbs x.den)).toNat ≤ 1 := by cases rdUp (fV x.num.natAbs x.den) (fE x.num.natAbs x.den) <;> simp
  have h3 := fE_le (n := x.num.natAbs) (d := x.den) (by omega) x.den_nz
  have h4 := bl_dn32 hz.1
  unfold kSmall at h
  have h5 : rdQ (fV x.num.natAbs x.den) (fE x.num.natAbs x.den) = tpI (fV x.num.natAbs x.den) (fE x.num.natAbs x.den) - 52 := by unfold rdQ; omega
  have h6 := rdM_ge hV (e := fE x.num.natAbs x.den) (by omega)
  exact mldexp_big _ _ W (by omega) (by omega) (by omega) (by omega)
set_option maxRecDepth 100000 in
set_option maxHeartbeats 2000000 in
theorem nearest_all (b : Nat) (x : Rat) (w : World) (X : RatAt w b x) (hz : Szd 100000000 x) :
    Calls Tryz.prog 78 #[.pointer (some ⟨b, 0, none⟩)] w fun e w' => e = .returned (.float .f64 (kFl x)) ∧ Below w.heap.size w w' := by
  by_cases hs : kSmall x
  · exact nearest_any b x w X hz hs
  unfold kFl
  by_cases hx : x.num = 0
  · rw [if_pos hx]; exact nearest_zero b x w X hx
  rw [if_neg hx, kRung_big hs]
  have hfl := rfloat_any b x w X hx hz 9218868437227405312 (by omega) (kld_big hx hs hz)
  have ho := ord_word0 (R := 9218868437227405312) (sg x.num) (by omega)
  rw [show ((9218868437227405312 : Nat) == 0) = false from rfl] at ho
  generalize sg x.num = N at *
  clear hz hs hx
  generalize Ieee.double.word N 9218868437227405312 = R9 at *
  go_enter Tryz.func78, Tryz.ntmps78
  go_wp2_with fail
  refine hfl.mono ?_
  rintro r w1 ⟨ex, rfl, hB⟩
  go_wp2_with fail
  go_ret
  exact ⟨rfl, hB⟩
set_option maxRecDepth 100000 in
set_option maxHeartbeats 2000000 in
theorem kfloat_all (x : Rat) (w : World) (hx : Fits x) :
    Calls Tryz.prog 45 #[kA x] w fun e w' => e = .returned (.tuple #[.float .f64 (kFl x), .int .i64 0]) ∧ Below w.heap.size w w' := by
  have hm1 := fun W => kmay_any (sg x.num) (bstr x.num.natAbs) (bstr x.den) W (by rw [bstr_size]; have := hx.1; omega) (by rw [bstr_size]; have := hx.2; omega)
  rw [may_of_rat hx] at hm1
  have hr1 := fun W => krat_any x W hx
  have hn := fun W B X => nearest_all B x W X (hx.szd.mono (by omega))
  clear hx
  unfold kA at *
  generalize sg x.num = xn at *
  generalize bstr x.num.natAbs = xS at *
  generalize bstr x.den = xT at *
  generalize kFl x = R at *
  have hb := Below.refl w.heap.size w
  go_enter Tryz.func45, Tryz.ntmps45
  have F := Blk.put (w) #[.bool xn, .string xS, .string xT] 24
  replace hb := hb.alloc hb.size (.cells #[.bool xn, .string xS, .string xT] 24)
  obtain ⟨x0, x1, x2⟩ := F.ce3
  go_wp2_with fail
  refine (hm1 _).mono ?_
  rintro r w1 ⟨rfl, hB⟩
  replace F := F.keep hB
  replace hb := hb.trans (hB.mono hb.size)
  clear x0 x1 x2 hB hm1
  obtain ⟨x0, x1, x2⟩ := F.ce3
  go_wp2_with fail
  refine (hr1 _).mono ?_
  rintro r w2 ⟨B, rfl, X, _, _, hB⟩
  replace hb := hb.trans (hB.mono hb.size)
  clear x0 x1 x2 hB hr1 F
  go_wp2_with fail
  refine (hn _ _ X).mono ?_
  rintro r w3 ⟨rfl, hB⟩
  replace hb := hb.trans (hB.mono hb.size)
  clear hB hn X
  go_wp2_with fail
  go_returns
  exact ⟨rfl, hb⟩
end Go.Proofs.YtbhfnigblhfikaaGreat

/- ratio.Nearest of any text. -/
namespace Go.Proofs.YtbhfnigblhfikaaGreat
open Go Go.RowKit Go.PlainAid Fil

theorem dn8_of_ten {x m N : Nat} (hx : x < 10 ^ m) (h : 4 * m + 1 ≤ 8 * N) : Fil.dn 8 x ≤ N := dn_le (by decide) (Nat.lt_trans hx (Nat.lt_of_lt_of_le (ten_le m) (pmono h)))
theorem dn8_ten (m : Nat) {N : Nat} (h : 4 * (m + 1) + 1 ≤ 8 * N) : Fil.dn 8 (10 ^ m) ≤ N := dn8_of_ten (m := m + 1) (by rw [Nat.pow_succ]; have := Nat.pow_pos (a := 10) (n := m) (by decide); omega) h
/-- may a decimal be: its power is not too great -/
def dcmFew (d : Dcm) : Prop := d.power.size = 0 ∨ dval 0 d.power.data.toList ≤ 5000
theorem dcmP_lo {s : ByteArray} {d : Dcm} (h : DcmOk s d) (hs : s.size ≤ 4096) (hf : dcmFew d) : (dcmP d).natAbs ≤ 9096 := by
  have h1 := h.sizes
  have hp : dval 0 d.power.data.toList ≤ 5000 := by
    rcases hf with h2 | h2
    · have : d.power.data.toList = [] := List.eq_nil_of_length_eq_zero (by rw [Array.length_toList]; exact h2)
      rw [this, dval_nil]; omega
    · exact h2
  unfold dcmP
  split <;> omega
theorem dcmN_lt {s : ByteArray} {d : Dcm} (h : DcmOk s d) (hs : s.size ≤ 4096) : Fil.dn 8 (dcmN d) ≤ 2100 := by
  have h1 := dval_lt _ (dec_app h.head h.tail)
  refine dn8_of_ten h1 ?_
  rw [len_toList, ByteArray.size_append]
  have := h.sizes
  omega
theorem dcm_fits {s : ByteArray} {d : Dcm} (h : DcmOk s d) (hs : s.size ≤ 4096) (hf : dcmFew d) : Fits (dcmR d) := by
  have h1 := dcmP_lo h hs hf
  have h2 := dcmN_lt h hs
  have h3 : Fil.dn 8 (10 ^ (dcmP d).natAbs) ≤ 4600 := dn8_ten _ (by omega)
  have hb : Bts 7000 (dcmR d) := by
    unfold dcmR
    split
    · exact bts_div (by decide) (Nat.le_trans (dn8_mulI (j := 2100) (k := 4600) (by rw [sz_abs]; exact h2) (by rw [Int.natAbs_natCast]; exact h3)) (by omega)) (Nat.le_trans (dn_le (n := 1) (by decide) (by decide)) (by omega))
    · exact bts_div (ten_ne _) (by rw [sz_abs]; omega) (by rw [Int.natAbs_natCast]; omega)
  exact hb.fits (by omega)
/-- a decimal that is told: its pieces -/
def decOk (s : ByteArray) : Prop := s.size ≤ 4096 ∧ (SP s).2 = true ∧ dcmFew (SP s).1
theorem decOk.dcm {s : ByteArray} (h : decOk s) : DcmOk s (SP s).1 := SP_ok (by rw [← h.2.1])
theorem decV_ok {s : ByteArray} (h : decOk s) : decV s = .tuple #[kA (dcmR (SP s).1), .int .i64 0] := by
  unfold decV
  rw [if_neg (by have := h.1; omega), if_neg (by rw [h.2.1]; simp), if_neg (by
    rintro ⟨h1, h2⟩
    rcases h.2.2 with h3 | h3
    · exact h1 h3
    · omega), kTold_fits (dcm_fits h.dcm h.1 h.2.2)]
theorem decV_bad {s : ByteArray} (h : ¬ decOk s) : ∃ e : Int, (e = 4 ∨ e = 40) ∧ decV s = errV e := by
  unfold decV
  by_cases h1 : 4096 < s.size
  · exact ⟨4, .inl rfl, by rw [if_pos h1]⟩
  rw [if_neg h1]
  by_cases h2 : (SP s).2 = false
  · exact ⟨40, .inr rfl, by rw [if_pos h2]⟩
  rw [if_neg h2]
  refine ⟨4, .inl rfl, if_pos ⟨fun h3 => ?_, ?_⟩⟩
  · exact h ⟨by omega, by simpa using h2, .inl h3⟩
  · rcases Nat.lt_or_ge 5000 (dval 0 (SP s).1.power.data.toList) with h3 | h3
    · exact h3
    · exact absurd ⟨by omega, by simpa using h2, .inr h3⟩ h
set_option maxRecDepth 100000 in
set_option maxHeartbeats 2000000 in
theorem knearest_err (s : ByteArray) (w : World) (e : Int) (he : (e != 0) = true)
    (hd : ∀ W, Calls Tryz.prog 11 #[.string s] W fun r w' => r = .returned (errV e) ∧ Below W.heap.size W w') :
    Calls Tryz.prog 13 #[.string s] w fun r w' => r = .returned (.tuple #[.float .f64 0, .int .i64 e]) ∧ Below w.heap.size w w' := by
  have hb := Below.refl w.heap.size w
  go_enter Tryz.func13, Tryz.ntmps13
  go_wp2_with fail
  refine (hd _).mono ?_
  rintro r w1 ⟨rfl, hB⟩
  unfold errV
  replace hb := hb.trans (hB.mono hb.size)
  clear hB hd
  have F := Blk.put w1 #[.bool false, .string ⟨#[]⟩, .string ⟨#[]⟩] 24
  replace hb := hb.alloc hb.size (.cells #[.bool false, .string ⟨#[]⟩, .string ⟨#[]⟩] 24)
  obtain ⟨x0, x1, x2⟩ := F.ce3
  go_wp2_with fail
  go_returns
  exact ⟨rfl, hb⟩
set_option maxRecDepth 100000 in
set_option maxHeartbeats 2000000 in
theorem knearest_nil (s : ByteArray) (w : World) (xn : Bool) (xS xT : ByteArray) (b : Bool) (h0 : xS.toList = []) (hb9 : decide (0 < s.size ∧ byt s 0 = 45) = b)
    (hd : ∀ W, Calls Tryz.prog 11 #[.string s] W fun e w' => e = .returned (.tuple #[.agg #[.bool xn, .string xS, .string xT], .int .i64 0]) ∧ Below W.heap.size W w')
    (hf : ∀ W, Calls Tryz.prog 45 #[.agg #[.bool xn, .string xS, .string xT]] W fun e w' => e = .returned (.tuple #[.float .f64 0, .int .i64 0]) ∧ Below W.heap.size W w') :
    Calls Tryz.prog 13 #[.string s] w fun e w' => e = .returned (.tuple #[.float .f64 (if b then 9223372036854775808 else 0), .int .i64 0]) ∧ Below w.heap.size w w' := by
  have hp := fun W => shasprefix_minus s W b hb9
  have hc := fun W => copysign_neg 0 W (by omega)
  rw [d_word_t] at hc
  clear hb9
  have hb := Below.refl w.heap.size w
  cases b
  all_goals
    simp only [Bool.false_eq_true, if_false, if_true]
    go_enter Tryz.func13, Tryz.ntmps13
    go_wp2_with fail
    refine (hd _).mono ?_
    rintro e w1 ⟨rfl, hB⟩
    replace hb := hb.trans (hB.mono hb.size)
    clear hB hd
    have F := Blk.put w1 #[.bool xn, .string xS, .string xT] 24
    replace hb := hb.alloc hb.size (.cells #[.bool xn, .string xS, .string xT] 24)
    obtain ⟨x0, x1, x2⟩ := F.ce3
    go_wp2_with fail
    refine (hf _).mono ?_
    rintro e w2 ⟨rfl, hB⟩
    replace F := F.keep hB
    replace hb := hb.trans (hB.mono hb.size)
    clear x0 x1 x2 hB hf
    obtain ⟨x0, x1, x2⟩ := F.ce3
    go_wp2_with fail
    refine (hp _).mono ?_
    rintro e w3 ⟨rfl, rfl⟩
    go_wp2_with (go_at_call 47; go_must (refine (hc _).mono ?_); rintro e w4 ⟨rfl, rfl⟩)
    go_returns
    exact ⟨rfl, hb⟩
/-- the float that Nearest tells -/
def nrF (s : ByteArray) : Nat := if (dcmR (SP s).1).num = 0 then (if 0 < s.size ∧ byt s 0 = 45 then 9223372036854775808 else 0) else kFl (dcmR (SP s).1)
theorem knearest_good (s : ByteArray) (w : World) (hs : s.size ≤ 9223372036854775807) (h : decOk s) :
    Calls Tryz.prog 13 #[.string s] w fun e w' => e = .returned (.tuple #[.float .f64 (nrF s), .int .i64 0]) ∧ Below w.heap.size w w' := by
  have hd := fun W => kdecimal_any s W hs
  rw [decV_ok h] at hd
  have fz := dcm_fits h.dcm h.1 h.2.2
  have hf := fun W => kfloat_all (dcmR (SP s).1) W fz
  unfold kA at hd hf
  unfold nrF
  by_cases h0 : (dcmR (SP s).1).num = 0
  · rw [if_pos h0]
    have hk : kFl (dcmR (SP s).1) = 0 := by unfold kFl; rw [if_pos h0]
    rw [hk] at hf
    have := knearest_nil s w _ _ _ _ (bstr_eq_nil.2 (by rw [h0]; rfl)) rfl hd hf
    by_cases hm : 0 < s.size ∧ byt s 0 = 45
    · rw [if_pos hm]; rw [decide_eq_true hm] at this; exact this
    · rw [if_neg hm]; rw [decide_eq_false hm] at this; exact this
  · rw [if_neg h0]
    exact knearest_w s w _ _ _ _ (str_cons (by rw [bstr_size]; exact dn_pos (by omega))) hd hf
theorem knearest_bad (s : ByteArray) (w : World) (hs : s.size ≤ 9223372036854775807) (h : ¬ decOk s) :
    ∃ e : Int, (e = 4 ∨ e = 40) ∧ decV s = errV e ∧ Calls Tryz.prog 13 #[.string s] w fun r w' => r = .returned (.tuple #[.float .f64 0, .int .i64 e]) ∧ Below w.heap.size w w' := by
  obtain ⟨e, he, hv⟩ := decV_bad h
  refine ⟨e, he, hv, knearest_err s w e (by rcases he with rfl | rfl <;> rfl) fun W => ?_⟩
  rw [← hv]
  exact kdecimal_any s W hs
end Go.Proofs.YtbhfnigblhfikaaGreat

/- The reference of layer 2: Pow of ten. -/
namespace Go.Proofs.YtbhfnigblhfikaaGreat
open Go Go.RowKit Go.PlainAid Fil

theorem ten_dn {m : Nat} (h : m ≤ 9096) : Fil.dn 8 (10 ^ m) ≤ 16384 := Nat.le_trans (dn8_ten m (N := 4600) (by omega)) (by omega)
theorem bstr_ten : bstr 10 = { data := #[10] } := bstr_byte 10 (by decide) (by decide)
set_option maxRecDepth 1000000 in
set_option maxHeartbeats 2000000 in
theorem r2pow_ten (n : Nat) (w : World) (hn : n ≤ 9096) :
    Calls Tryz.prog 42 #[.string { data := #[10] }, .int .i64 (n : Int)] w fun r w' => r = .returned (.tuple #[.string (bstr (10 ^ n)), .int .i64 0]) ∧ Below w.heap.size w w' := by
  have B0 := Below.refl w.heap.size w
  by_cases h0 : n = 0
  · subst h0
    rw [show (10 : Nat) ^ 0 = 1 from rfl, bstr_one]
    go_enter Tryz.func42, Tryz.ntmps42
    go_wp2
    go_returns
    exact ⟨rfl, B0⟩
  · have t1 : decide ((n : Int) < 0) = false := decide_eq_false (by omega)
    have t2 : ((n : Int) == 0) = false := by simp; omega
    have t3 : decide ((131072 : Int) < n) = false := decide_eq_false (by omega)
    have hmul : ∀ a b, a + b ≤ 9096 → ∀ W, Calls Tryz.prog 77 #[.string (bstr (10 ^ a)), .string (bstr (10 ^ b))] W fun r w' => r = .returned (.tuple #[.string (bstr (10 ^ (a + b))), .int .i64 0]) ∧ Below W.heap.size W w' := fun a b hab W => by
      have h := r2Mul_any (10 ^ a) (10 ^ b) W (Nat.le_trans (ten_dn (by omega)) (by omega)) (Nat.le_trans (ten_dn (by omega)) (by omega)) (.inl ⟨by have := Nat.pow_pos (a := 10) (n := a) (by decide); omega, by have := Nat.pow_pos (a := 10) (n := b) (by decide); omega⟩)
      rw [← Nat.pow_add, endV_fit (ten_dn hab)] at h
      exact h
    have HM := Lib.hid hmul
    clear hmul
    have h18 : n / 2 ^ 18 = 0 := Nat.div_eq_of_lt (Nat.lt_of_le_of_lt hn (by decide))
    go_enter Tryz.func42, Tryz.ntmps42
    go_wp2_with fail
    go_loopg [6, 7, 8] 19 (fun g s6 s7 s8 wr => ∃ k : Nat, k ≤ 18 ∧ g = k + 1 ∧ s7 = .int .i64 ((k : Int) - 1) ∧ s6 = .string (bstr (10 ^ (n / 2 ^ k))) ∧ Below w.heap.size w wr)
    case atStart => exact ⟨18, Nat.le_refl _, rfl, by go_num, by rw [h18]; exact congrArg Value.string bstr_one.symm, B0⟩
    case round =>
      clear B0
      obtain ⟨k, hk, hg, rfl, rfl, hbel⟩ := hrel
      rcases Nat.eq_zero_or_pos k with rfl | hk0
      · have e0 : n / 2 ^ 0 = n := by rw [Nat.pow_zero, Nat.div_one]
        rw [e0]
        clear hg
        go_wp2
        go_returns
        exact ⟨rfl, hbel⟩
      · obtain ⟨j, rfl⟩ : ∃ j, k = j + 1 := ⟨k - 1, by omega⟩
        have ej : ((j + 1 : Nat) : Int) - 1 = (j : Int) := by omega
        rw [ej]
        obtain ⟨m, hm⟩ : ∃ m, m = n / 2 ^ (j + 1) := ⟨_, rfl⟩
        obtain ⟨p, hp⟩ : ∃ p, p = n / 2 ^ j := ⟨_, rfl⟩
        have hpm : p / 2 = m := by rw [hp, hm, Nat.div_div_eq_div_mul, Nat.pow_succ]
        have hpn : p ≤ n := by rw [hp]; exact Nat.div_le_self _ _
        have ha := Go.Proofs.and_one p (by omega)
        rw [hp, ← div_cast] at ha
        have hmm := fun W => HM.out m m (by omega) W
        rw [← hm]
        have HP := Lib.hid (And.intro hp (And.intro hpm (And.intro hg hbel)))
        have hj : j < 18 := by omega
        by_cases hb : p % 2 = 1
        · have tb : p % 2 = 1 := hb
          rw [← hp, hb] at ha
          have hb2 : m + m + 1 = p := by omega
          have hm1 := fun W => HM.out (m + m) 1 (by omega) W
          rw [show (10 : Nat) ^ 1 = 10 from rfl, bstr_ten] at hm1
          have HB := Lib.hid hb2
          clear hp hpm hg hbel hm hpn hk hk0 hb tb hb2
          go_wp2_with fail
          refine (hmm _).mono ?_
          rintro r w1 ⟨rfl, hB1⟩
          go_wp2_with fail
          refine (hm1 _).mono ?_
          rintro r w2 ⟨rfl, hB2⟩
          go_wp2
          go_roundg (j + 1)
          case measure => have := HP.out.2.2.1; omega
          case rel => exact ⟨j, by omega, rfl, by go_num, by rw [HB.out, HP.out.1], HP.out.2.2.2.trans ((hB1.trans (hB2.mono hB1.size)).mono HP.out.2.2.2.size)⟩
        · have hb0 : p % 2 = 0 := by omega
          rw [← hp, hb0] at ha
          have hb2 : m + m = p := by omega
          have HB := Lib.hid hb2
          clear hp hpm hg hbel hm hpn hk hk0 hb hb0 hb2
          go_wp2_with fail
          refine (hmm _).mono ?_
          rintro r w1 ⟨rfl, hB1⟩
          go_wp2
          go_roundg (j + 1)
          case measure => have := HP.out.2.2.1; omega
          case rel => exact ⟨j, by omega, rfl, by go_num, by rw [HB.out, HP.out.1], HP.out.2.2.2.trans (hB1.mono HP.out.2.2.2.size)⟩
end Go.Proofs.YtbhfnigblhfikaaGreat

/- The reference of layer 4: parted, its ways. -/
namespace Go.Proofs.YtbhfnigblhfikaaGreat
open Go Go.RowKit Go.PlainAid Fil

set_option maxRecDepth 1000000 in
set_option maxHeartbeats 2000000 in
theorem parted_b (t H R : ByteArray) (n : Nat) (w : World) (hn : n ≤ t.size) (hts : t.size ≤ 1000000) (hH : t.extract 0 n = H) (hR : t.extract n t.size = R)
    (hd : ∀ W, Calls Tryz.prog 75 #[.string t] W fun r w' => r = .returned (.int .i64 (n : Nat)) ∧ W = w')
    (hb : ∀ W, Calls Tryz.prog 76 #[.string H] W fun r w' => r = .returned (.bool false) ∧ W = w') :
    Calls Tryz.prog 41 #[.string t] w fun r w' => r = .returned (.tuple #[.string { data := #[] }, .string { data := #[] }, .string { data := #[] }, .bool false]) ∧ Below w.heap.size w w' := by
  have B0 := ((Below.refl w.heap.size w).drew)
  have q1 : 0 ≤ (n : Int) := by omega
  have q2 : (n : Int) ≤ t.size := by omega
  have hRs : R.size ≤ 1000000 := by rw [← hR, ByteArray.size_extract]; omega
  clear hn hts
  go_enter Tryz.func41, Tryz.ntmps41
  go_wp2_with fail
  refine (hd _).mono ?_
  rintro r w1 ⟨rfl, rfl⟩
  go_wp2_with fail
  refine wp_region_any (by kernel_rfl) ?_
  have hHeld : (fun _ : World => True) w.drew := trivial
  refine wpAny_of_held (S := fun _ : World => True) _ _ _ _ ?_
  refine wpAnyH_take (i := 0) (v := _) (by first | (simp only [List.getElem?_toArray, List.getElem?_cons_zero]; rfl) | rfl) (by kernel_rfl) (by kernel_rfl) (by kernel_rfl) (by exact fun _ _ _ h => h) (Or.inl ⟨by rfl, by (intro w hSw; (try dsimp only at hSw); go_simp; try with_reducible rfl)⟩) (by assumption) ?_
  (try dsimp only [Act.put]); (try go_frame)
  refine wpAnyH_take (i := 1) (v := _) (by first | (simp only [List.getElem?_toArray, List.getElem?_cons_zero, List.getElem?_cons_succ]; rfl) | rfl) (by kernel_rfl) (by kernel_rfl) (by kernel_rfl) (by exact fun _ _ _ h => h) (Or.inl ⟨by rfl, by (intro w hSw; (try dsimp only at hSw); go_simp; try with_reducible rfl)⟩) (by assumption) ?_
  (try dsimp only [Act.put]); (try go_frame)
  refine wpAnyH_take (i := 2) (v := _) (by first | (simp only [List.getElem?_toArray, List.getElem?_cons_zero, List.getElem?_cons_succ]; rfl) | rfl) (by kernel_rfl) (by kernel_rfl) (by kernel_rfl) (by exact fun _ _ _ h => h) (Or.inl ⟨by rfl, by (intro w hSw; (try dsimp only at hSw); go_simp; try with_reducible rfl)⟩) (by assumption) ?_
  (try dsimp only [Act.put]); (try go_frame)
  refine wpAnyH_take (i := 3) (v := _) (by first | (simp only [List.getElem?_toArray, List.getElem?_cons_zero, List.getElem?_cons_succ]; rfl) | rfl) (by kernel_rfl) (by kernel_rfl) (by kernel_rfl) (by exact fun _ _ _ h => h) (Or.inl ⟨by rfl, by (intro w hSw; (try dsimp only at hSw); go_simp; try with_reducible rfl)⟩) (by assumption) ?_
  (try dsimp only [Act.put]); (try go_frame)
  refine wpAnyH_take (i := 4) (v := _) (by first | (simp only [List.getElem?_toArray, List.getElem?_cons_zero, List.getElem?_cons_succ]; rfl) | rfl) (by kernel_rfl) (by kernel_rfl) (by kernel_rfl) (by exact fun _ _ _ h => h) (Or.inl ⟨by rfl, by (intro w hSw; (try dsimp only at hSw); go_simp; try with_reducible rfl)⟩) (by assumption) ?_
  (try dsimp only [Act.put]); (try go_frame)
  refine wpAnyH_take (i := 5) (v := _) (by first | (simp only [List.getElem?_toArray, List.getElem?_cons_zero, List.getElem?_cons_succ]; rfl) | rfl) (by kernel_rfl) (by kernel_rfl) (by kernel_rfl) (by exact fun _ _ _ h => h) (Or.inl ⟨by rfl, by (intro w hSw; (try dsimp only at hSw); go_simp; try with_reducible rfl)⟩) (by assumption) ?_
  (try dsimp only [Act.put]); (try go_frame)
  refine wpAnyH_take (i := 6) (v := _) (by first | (simp only [List.getElem?_toArray, List.getElem?_cons_zero, List.getElem?_cons_succ]; rfl) | rfl) (by kernel_rfl) (by kernel_rfl) (by kernel_rfl) (by exact fun _ _ _ h => h) (Or.inl ⟨by rfl, by (intro w hSw; (try dsimp only at hSw); go_simp; try with_reducible rfl)⟩) (by assumption) ?_
  (try dsimp only [Act.put]); (try go_frame)
  refine wpAnyH_take (i := 7) (v := _) (by first | (simp only [List.getElem?_toArray, List.getElem?_cons_zero, List.getElem?_cons_succ]; rfl) | rfl) (by kernel_rfl) (by kernel_rfl) (by kernel_rfl) (by exact fun _ _ _ h => h) (Or.inl ⟨by rfl, by (intro w hSw; (try dsimp only at hSw); go_simp; try with_reducible rfl)⟩) (by assumption) ?_
  (try dsimp only [Act.put]); (try go_frame)
  refine wpAnyH_done (by kernel_rfl) ?_ _
  try simp only [QCut]
  clear hHeld
  go_wp2_with fail
  refine (hb _).mono ?_
  rintro r w1 ⟨rfl, rfl⟩
  go_wp2
  go_returns
  exact ⟨rfl, B0⟩
set_option maxRecDepth 1000000 in
set_option maxHeartbeats 2000000 in
theorem parted_e (t H R : ByteArray) (n : Nat) (w : World) (hn : n ≤ t.size) (hts : t.size ≤ 1000000) (hH : t.extract 0 n = H) (hR : t.extract n t.size = R)
    (hd : ∀ W, Calls Tryz.prog 75 #[.string t] W fun r w' => r = .returned (.int .i64 (n : Nat)) ∧ W = w')
    (hb : ∀ W, Calls Tryz.prog 76 #[.string H] W fun r w' => r = .returned (.bool true) ∧ W = w')
    (hR0 : R = ⟨#[]⟩) :
    Calls Tryz.prog 41 #[.string t] w fun r w' => r = .returned (.tuple #[.string H, .string { data := #[] }, .string { data := #[48] }, .bool true]) ∧ Below w.heap.size w w' := by
  have B0 := ((Below.refl w.heap.size w).drew)
  have q1 : 0 ≤ (n : Int) := by omega
  have q2 : (n : Int) ≤ t.size := by omega
  have hRs : R.size ≤ 1000000 := by rw [← hR, ByteArray.size_extract]; omega
  clear hn hts
  subst hR0
  go_enter Tryz.func41, Tryz.ntmps41
  go_wp2_with fail
  refine (hd _).mono ?_
  rintro r w1 ⟨rfl, rfl⟩
  go_wp2_with fail
  refine wp_region_any (by kernel_rfl) ?_
  have hHeld : (fun _ : World => True) w.drew := trivial
  refine wpAny_of_held (S := fun _ : World => True) _ _ _ _ ?_
  refine wpAnyH_take (i := 0) (v := _) (by first | (simp only [List.getElem?_toArray, List.getElem?_cons_zero]; rfl) | rfl) (by kernel_rfl) (by kernel_rfl) (by kernel_rfl) (by exact fun _ _ _ h => h) (Or.inl ⟨by rfl, by (intro w hSw; (try dsimp only at hSw); go_simp; try with_reducible rfl)⟩) (by assumption) ?_
  (try dsimp only [Act.put]); (try go_frame)
  refine wpAnyH_take (i := 1) (v := _) (by first | (simp only [List.getElem?_toArray, List.getElem?_cons_zero, List.getElem?_cons_succ]; rfl) | rfl) (by kernel_rfl) (by kernel_rfl) (by kernel_rfl) (by exact fun _ _ _ h => h) (Or.inl ⟨by rfl, by (intro w hSw; (try dsimp only at hSw); go_simp; try with_reducible rfl)⟩) (by assumption) ?_
  (try dsimp only [Act.put]); (try go_frame)
  refine wpAnyH_take (i := 2) (v := _) (by first | (simp only [List.getElem?_toArray, List.getElem?_cons_zero, List.getElem?_cons_succ]; rfl) | rfl) (by kernel_rfl) (by kernel_rfl) (by kernel_rfl) (by exact fun _ _ _ h => h) (Or.inl ⟨by rfl, by (intro w hSw; (try dsimp only at hSw); go_simp; try with_reducible rfl)⟩) (by assumption) ?_
  (try dsimp only [Act.put]); (try go_frame)
  refine wpAnyH_take (i := 3) (v := _) (by first | (simp only [List.getElem?_toArray, List.getElem?_cons_zero, List.getElem?_cons_succ]; rfl) | rfl) (by kernel_rfl) (by kernel_rfl) (by kernel_rfl) (by exact fun _ _ _ h => h) (Or.inl ⟨by rfl, by (intro w hSw; (try dsimp only at hSw); go_simp; try with_reducible rfl)⟩) (by assumption) ?_
  (try dsimp only [Act.put]); (try go_frame)
  refine wpAnyH_take (i := 4) (v := _) (by first | (simp only [List.getElem?_toArray, List.getElem?_cons_zero, List.getElem?_cons_succ]; rfl) | rfl) (by kernel_rfl) (by kernel_rfl) (by kernel_rfl) (by exact fun _ _ _ h => h) (Or.inl ⟨by rfl, by (intro w hSw; (try dsimp only at hSw); go_simp; try with_reducible rfl)⟩) (by assumption) ?_
  (try dsimp only [Act.put]); (try go_frame)
  refine wpAnyH_take (i := 5) (v := _) (by first | (simp only [List.getElem?_toArray, List.getElem?_cons_zero, List.getElem?_cons_succ]; rfl) | rfl) (by kernel_rfl) (by kernel_rfl) (by kernel_rfl) (by exact fun _ _ _ h => h) (Or.inl ⟨by rfl, by (intro w hSw; (try dsimp only at hSw); go_simp; try with_reducible rfl)⟩) (by assumption) ?_
  (try dsimp only [Act.put]); (try go_frame)
  refine wpAnyH_take (i := 6) (v := _) (by first | (simp only [List.getElem?_toArray, List.getElem?_cons_zero, List.getElem?_cons_succ]; rfl) | rfl) (by kernel_rfl) (by kernel_rfl) (by kernel_rfl) (by exact fun _ _ _ h => h) (Or.inl ⟨by rfl, by (intro w hSw; (try dsimp only at hSw); go_simp; try with_reducible rfl)⟩) (by assumption) ?_
  (try dsimp only [Act.put]); (try go_frame)
  refine wpAnyH_take (i := 7) (v := _) (by first | (simp only [List.getElem?_toArray, List.getElem?_cons_zero, List.getElem?_cons_succ]; rfl) | rfl) (by kernel_rfl) (by kernel_rfl) (by kernel_rfl) (by exact fun _ _ _ h => h) (Or.inl ⟨by rfl, by (intro w hSw; (try dsimp only at hSw); go_simp; try with_reducible rfl)⟩) (by assumption) ?_
  (try dsimp only [Act.put]); (try go_frame)
  refine wpAnyH_done (by kernel_rfl) ?_ _
  try simp only [QCut]
  clear hHeld
  go_wp2_with fail
  refine (hb _).mono ?_
  rintro r w1 ⟨rfl, rfl⟩
  go_wp2
  go_returns
  exact ⟨rfl, B0⟩
set_option maxRecDepth 1000000 in
set_option maxHeartbeats 2000000 in
theorem parted_z (t H R : ByteArray) (n : Nat) (w : World) (hn : n ≤ t.size) (hts : t.size ≤ 1000000) (hH : t.extract 0 n = H) (hR : t.extract n t.size = R)
    (hd : ∀ W, Calls Tryz.prog 75 #[.string t] W fun r w' => r = .returned (.int .i64 (n : Nat)) ∧ W = w')
    (hb : ∀ W, Calls Tryz.prog 76 #[.string H] W fun r w' => r = .returned (.bool true) ∧ W = w')
    (h0 : 0 < R.size) (c : Nat) (hc : (R[0]'h0).toNat = c)
    (h46 : c = 46)
    (S : ByteArray) (hS : R.extract 1 R.size = S) (k : Nat) (hd1 : ∀ W, Calls Tryz.prog 75 #[.string S] W fun r w' => r = .returned (.int .i64 (k : Nat)) ∧ W = w')
    (hk : k = 0) :
    Calls Tryz.prog 41 #[.string t] w fun r w' => r = .returned (.tuple #[.string { data := #[] }, .string { data := #[] }, .string { data := #[] }, .bool false]) ∧ Below w.heap.size w w' := by
  have B0 := ((Below.refl w.heap.size w).drew)
  have q1 : 0 ≤ (n : Int) := by omega
  have q2 : (n : Int) ≤ t.size := by omega
  have hRs : R.size ≤ 1000000 := by rw [← hR, ByteArray.size_extract]; omega
  have t46 : ((c : Int) == 46) = true := by simp; omega
  subst hk
  clear hn hts
  clear h46
  go_enter Tryz.func41, Tryz.ntmps41
  go_wp2_with fail
  refine (hd _).mono ?_
  rintro r w1 ⟨rfl, rfl⟩
  go_wp2_with fail
  refine wp_region_any (by kernel_rfl) ?_
  have hHeld : (fun _ : World => True) w.drew := trivial
  refine wpAny_of_held (S := fun _ : World => True) _ _ _ _ ?_
  refine wpAnyH_take (i := 0) (v := _) (by first | (simp only [List.getElem?_toArray, List.getElem?_cons_zero]; rfl) | rfl) (by kernel_rfl) (by kernel_rfl) (by kernel_rfl) (by exact fun _ _ _ h => h) (Or.inl ⟨by rfl, by (intro w hSw; (try dsimp only at hSw); go_simp; try with_reducible rfl)⟩) (by assumption) ?_
  (try dsimp only [Act.put]); (try go_frame)
  refine wpAnyH_take (i := 1) (v := _) (by first | (simp only [List.getElem?_toArray, List.getElem?_cons_zero, List.getElem?_cons_succ]; rfl) | rfl) (by kernel_rfl) (by kernel_rfl) (by kernel_rfl) (by exact fun _ _ _ h => h) (Or.inl ⟨by rfl, by (intro w hSw; (try dsimp only at hSw); go_simp; try with_reducible rfl)⟩) (by assumption) ?_
  (try dsimp only [Act.put]); (try go_frame)
  refine wpAnyH_take (i := 2) (v := _) (by first | (simp only [List.getElem?_toArray, List.getElem?_cons_zero, List.getElem?_cons_succ]; rfl) | rfl) (by kernel_rfl) (by kernel_rfl) (by kernel_rfl) (by exact fun _ _ _ h => h) (Or.inl ⟨by rfl, by (intro w hSw; (try dsimp only at hSw); go_simp; try with_reducible rfl)⟩) (by assumption) ?_
  (try dsimp only [Act.put]); (try go_frame)
  refine wpAnyH_take (i := 3) (v := _) (by first | (simp only [List.getElem?_toArray, List.getElem?_cons_zero, List.getElem?_cons_succ]; rfl) | rfl) (by kernel_rfl) (by kernel_rfl) (by kernel_rfl) (by exact fun _ _ _ h => h) (Or.inl ⟨by rfl, by (intro w hSw; (try dsimp only at hSw); go_simp; try with_reducible rfl)⟩) (by assumption) ?_
  (try dsimp only [Act.put]); (try go_frame)
  refine wpAnyH_take (i := 4) (v := _) (by first | (simp only [List.getElem?_toArray, List.getElem?_cons_zero, List.getElem?_cons_succ]; rfl) | rfl) (by kernel_rfl) (by kernel_rfl) (by kernel_rfl) (by exact fun _ _ _ h => h) (Or.inl ⟨by rfl, by (intro w hSw; (try dsimp only at hSw); go_simp; try with_reducible rfl)⟩) (by assumption) ?_
  (try dsimp only [Act.put]); (try go_frame)
  refine wpAnyH_take (i := 5) (v := _) (by first | (simp only [List.getElem?_toArray, List.getElem?_cons_zero, List.getElem?_cons_succ]; rfl) | rfl) (by kernel_rfl) (by kernel_rfl) (by kernel_rfl) (by exact fun _ _ _ h => h) (Or.inl ⟨by rfl, by (intro w hSw; (try dsimp only at hSw); go_simp; try with_reducible rfl)⟩) (by assumption) ?_
  (try dsimp only [Act.put]); (try go_frame)
  refine wpAnyH_take (i := 6) (v := _) (by first | (simp only [List.getElem?_toArray, List.getElem?_cons_zero, List.getElem?_cons_succ]; rfl) | rfl) (by kernel_rfl) (by kernel_rfl) (by kernel_rfl) (by exact fun _ _ _ h => h) (Or.inl ⟨by rfl, by (intro w hSw; (try dsimp only at hSw); go_simp; try with_reducible rfl)⟩) (by assumption) ?_
  (try dsimp only [Act.put]); (try go_frame)
  refine wpAnyH_take (i := 7) (v := _) (by first | (simp only [List.getElem?_toArray, List.getElem?_cons_zero, List.getElem?_cons_succ]; rfl) | rfl) (by kernel_rfl) (by kernel_rfl) (by kernel_rfl) (by exact fun _ _ _ h => h) (Or.inl ⟨by rfl, by (intro w hSw; (try dsimp only at hSw); go_simp; try with_reducible rfl)⟩) (by assumption) ?_
  (try dsimp only [Act.put]); (try go_frame)
  refine wpAnyH_done (by kernel_rfl) ?_ _
  try simp only [QCut]
  clear hHeld
  go_wp2_with fail
  refine (hb _).mono ?_
  rintro r w1 ⟨rfl, rfl⟩
  go_wp2_with fail
  refine (hd1 _).mono ?_
  rintro r w1 ⟨rfl, rfl⟩
  go_wp2
  go_returns
  exact ⟨rfl, B0⟩
set_option maxRecDepth 1000000 in
set_option maxHeartbeats 2000000 in
theorem parted_nn (t H R : ByteArray) (n : Nat) (w : World) (hn : n ≤ t.size) (hts : t.size ≤ 1000000) (hH : t.extract 0 n = H) (hR : t.extract n t.size = R)
    (hd : ∀ W, Calls Tryz.prog 75 #[.string t] W fun r w' => r = .returned (.int .i64 (n : Nat)) ∧ W = w')
    (hb : ∀ W, Calls Tryz.prog 76 #[.string H] W fun r w' => r = .returned (.bool true) ∧ W = w')
    (h0 : 0 < R.size) (c : Nat) (hc : (R[0]'h0).toNat = c)
    (h46 : c ≠ 46)
    (h101 : c ≠ 101) :
    Calls Tryz.prog 41 #[.string t] w fun r w' => r = .returned (.tuple #[.string H, .string { data := #[] }, .string { data := #[48] }, .bool false]) ∧ Below w.heap.size w w' := by
  have B0 := ((Below.refl w.heap.size w).drew)
  have q1 : 0 ≤ (n : Int) := by omega
  have q2 : (n : Int) ≤ t.size := by omega
  have hRs : R.size ≤ 1000000 := by rw [← hR, ByteArray.size_extract]; omega
  have t46 : ((c : Int) == 46) = false := by simp; omega
  have t101 : ((c : Int) == 101) = false := by simp; omega
  have tq : (R.toList == []) = false := by have := str_cons h0; simpa [List.isEmpty_iff] using this
  clear hn hts
  clear h46
  clear h101
  go_enter Tryz.func41, Tryz.ntmps41
  go_wp2_with fail
  refine (hd _).mono ?_
  rintro r w1 ⟨rfl, rfl⟩
  go_wp2_with fail
  refine wp_region_any (by kernel_rfl) ?_
  have hHeld : (fun _ : World => True) w.drew := trivial
  refine wpAny_of_held (S := fun _ : World => True) _ _ _ _ ?_
  refine wpAnyH_take (i := 0) (v := _) (by first | (simp only [List.getElem?_toArray, List.getElem?_cons_zero]; rfl) | rfl) (by kernel_rfl) (by kernel_rfl) (by kernel_rfl) (by exact fun _ _ _ h => h) (Or.inl ⟨by rfl, by (intro w hSw; (try dsimp only at hSw); go_simp; try with_reducible rfl)⟩) (by assumption) ?_
  (try dsimp only [Act.put]); (try go_frame)
  refine wpAnyH_take (i := 1) (v := _) (by first | (simp only [List.getElem?_toArray, List.getElem?_cons_zero, List.getElem?_cons_succ]; rfl) | rfl) (by kernel_rfl) (by kernel_rfl) (by kernel_rfl) (by exact fun _ _ _ h => h) (Or.inl ⟨by rfl, by (intro w hSw; (try dsimp only at hSw); go_simp; try with_reducible rfl)⟩) (by assumption) ?_
  (try dsimp only [Act.put]); (try go_frame)
  refine wpAnyH_take (i := 2) (v := _) (by first | (simp only [List.getElem?_toArray, List.getElem?_cons_zero, List.getElem?_cons_succ]; rfl) | rfl) (by kernel_rfl) (by kernel_rfl) (by kernel_rfl) (by exact fun _ _ _ h => h) (Or.inl ⟨by rfl, by (intro w hSw; (try dsimp only at hSw); go_simp; try with_reducible rfl)⟩) (by assumption) ?_
  (try dsimp only [Act.put]); (try go_frame)
  refine wpAnyH_take (i := 3) (v := _) (by first | (simp only [List.getElem?_toArray, List.getElem?_cons_zero, List.getElem?_cons_succ]; rfl) | rfl) (by kernel_rfl) (by kernel_rfl) (by kernel_rfl) (by exact fun _ _ _ h => h) (Or.inl ⟨by rfl, by (intro w hSw; (try dsimp only at hSw); go_simp; try with_reducible rfl)⟩) (by assumption) ?_
  (try dsimp only [Act.put]); (try go_frame)
  refine wpAnyH_take (i := 4) (v := _) (by first | (simp only [List.getElem?_toArray, List.getElem?_cons_zero, List.getElem?_cons_succ]; rfl) | rfl) (by kernel_rfl) (by kernel_rfl) (by kernel_rfl) (by exact fun _ _ _ h => h) (Or.inl ⟨by rfl, by (intro w hSw; (try dsimp only at hSw); go_simp; try with_reducible rfl)⟩) (by assumption) ?_
  (try dsimp only [Act.put]); (try go_frame)
  refine wpAnyH_take (i := 5) (v := _) (by first | (simp only [List.getElem?_toArray, List.getElem?_cons_zero, List.getElem?_cons_succ]; rfl) | rfl) (by kernel_rfl) (by kernel_rfl) (by kernel_rfl) (by exact fun _ _ _ h => h) (Or.inl ⟨by rfl, by (intro w hSw; (try dsimp only at hSw); go_simp; try with_reducible rfl)⟩) (by assumption) ?_
  (try dsimp only [Act.put]); (try go_frame)
  refine wpAnyH_take (i := 6) (v := _) (by first | (simp only [List.getElem?_toArray, List.getElem?_cons_zero, List.getElem?_cons_succ]; rfl) | rfl) (by kernel_rfl) (by kernel_rfl) (by kernel_rfl) (by exact fun _ _ _ h => h) (Or.inl ⟨by rfl, by (intro w hSw; (try dsimp only at hSw); go_simp; try with_reducible rfl)⟩) (by assumption) ?_
  (try dsimp only [Act.put]); (try go_frame)
  refine wpAnyH_take (i := 7) (v := _) (by first | (simp only [List.getElem?_toArray, List.getElem?_cons_zero, List.getElem?_cons_succ]; rfl) | rfl) (by kernel_rfl) (by kernel_rfl) (by kernel_rfl) (by exact fun _ _ _ h => h) (Or.inl ⟨by rfl, by (intro w hSw; (try dsimp only at hSw); go_simp; try with_reducible rfl)⟩) (by assumption) ?_
  (try dsimp only [Act.put]); (try go_frame)
  refine wpAnyH_done (by kernel_rfl) ?_ _
  try simp only [QCut]
  clear hHeld
  go_wp2_with fail
  refine (hb _).mono ?_
  rintro r w1 ⟨rfl, rfl⟩
  go_wp2
  go_returns
  exact ⟨rfl, B0⟩
set_option maxRecDepth 1000000 in
set_option maxHeartbeats 2000000 in
theorem parted_nxe (t H R : ByteArray) (n : Nat) (w : World) (hn : n ≤ t.size) (hts : t.size ≤ 1000000) (hH : t.extract 0 n = H) (hR : t.extract n t.size = R)
    (hd : ∀ W, Calls Tryz.prog 75 #[.string t] W fun r w' => r = .returned (.int .i64 (n : Nat)) ∧ W = w')
    (hb : ∀ W, Calls Tryz.prog 76 #[.string H] W fun r w' => r = .returned (.bool true) ∧ W = w')
    (h0 : 0 < R.size) (c : Nat) (hc : (R[0]'h0).toNat = c)
    (_h46 : c ≠ 46)
    (h101 : c = 101)
    (P : ByteArray) (hP : R.extract 1 R.size = P)
    (hP0 : P = ⟨#[]⟩)
    (hg : ∀ W, Calls Tryz.prog 76 #[.string ⟨#[]⟩] W fun r w' => r = .returned (.bool false) ∧ W = w') :
    Calls Tryz.prog 41 #[.string t] w fun r w' => r = .returned (.tuple #[.string { data := #[] }, .string { data := #[] }, .string { data := #[] }, .bool false]) ∧ Below w.heap.size w w' := by
  have B0 := ((Below.refl w.heap.size w).drew)
  have q1 : 0 ≤ (n : Int) := by omega
  have q2 : (n : Int) ≤ t.size := by omega
  have hRs : R.size ≤ 1000000 := by rw [← hR, ByteArray.size_extract]; omega
  have t46 : ((c : Int) == 46) = false := by simp; omega
  have t101 : ((c : Int) == 101) = true := by simp; omega
  have hPs : P.size ≤ 1000000 := by rw [← hP, ByteArray.size_extract]; omega
  clear hn hts
  clear _h46
  clear h101
  subst hP0
  go_enter Tryz.func41, Tryz.ntmps41
  go_wp2_with fail
  refine (hd _).mono ?_
  rintro r w1 ⟨rfl, rfl⟩
  go_wp2_with fail
  refine wp_region_any (by kernel_rfl) ?_
  have hHeld : (fun _ : World => True) w.drew := trivial
  refine wpAny_of_held (S := fun _ : World => True) _ _ _ _ ?_
  refine wpAnyH_take (i := 0) (v := _) (by first | (simp only [List.getElem?_toArray, List.getElem?_cons_zero]; rfl) | rfl) (by kernel_rfl) (by kernel_rfl) (by kernel_rfl) (by exact fun _ _ _ h => h) (Or.inl ⟨by rfl, by (intro w hSw; (try dsimp only at hSw); go_simp; try with_reducible rfl)⟩) (by assumption) ?_
  (try dsimp only [Act.put]); (try go_frame)
  refine wpAnyH_take (i := 1) (v := _) (by first | (simp only [List.getElem?_toArray, List.getElem?_cons_zero, List.getElem?_cons_succ]; rfl) | rfl) (by kernel_rfl) (by kernel_rfl) (by kernel_rfl) (by exact fun _ _ _ h => h) (Or.inl ⟨by rfl, by (intro w hSw; (try dsimp only at hSw); go_simp; try with_reducible rfl)⟩) (by assumption) ?_
  (try dsimp only [Act.put]); (try go_frame)
  refine wpAnyH_take (i := 2) (v := _) (by first | (simp only [List.getElem?_toArray, List.getElem?_cons_zero, List.getElem?_cons_succ]; rfl) | rfl) (by kernel_rfl) (by kernel_rfl) (by kernel_rfl) (by exact fun _ _ _ h => h) (Or.inl ⟨by rfl, by (intro w hSw; (try dsimp only at hSw); go_simp; try with_reducible rfl)⟩) (by assumption) ?_
  (try dsimp only [Act.put]); (try go_frame)
  refine wpAnyH_take (i := 3) (v := _) (by first | (simp only [List.getElem?_toArray, List.getElem?_cons_zero, List.getElem?_cons_succ]; rfl) | rfl) (by kernel_rfl) (by kernel_rfl) (by kernel_rfl) (by exact fun _ _ _ h => h) (Or.inl ⟨by rfl, by (intro w hSw; (try dsimp only at hSw); go_simp; try with_reducible rfl)⟩) (by assumption) ?_
  (try dsimp only [Act.put]); (try go_frame)
  refine wpAnyH_take (i := 4) (v := _) (by first | (simp only [List.getElem?_toArray, List.getElem?_cons_zero, List.getElem?_cons_succ]; rfl) | rfl) (by kernel_rfl) (by kernel_rfl) (by kernel_rfl) (by exact fun _ _ _ h => h) (Or.inl ⟨by rfl, by (intro w hSw; (try dsimp only at hSw); go_simp; try with_reducible rfl)⟩) (by assumption) ?_
  (try dsimp only [Act.put]); (try go_frame)
  refine wpAnyH_take (i := 5) (v := _) (by first | (simp only [List.getElem?_toArray, List.getElem?_cons_zero, List.getElem?_cons_succ]; rfl) | rfl) (by kernel_rfl) (by kernel_rfl) (by kernel_rfl) (by exact fun _ _ _ h => h) (Or.inl ⟨by rfl, by (intro w hSw; (try dsimp only at hSw); go_simp; try with_reducible rfl)⟩) (by assumption) ?_
  (try dsimp only [Act.put]); (try go_frame)
  refine wpAnyH_take (i := 6) (v := _) (by first | (simp only [List.getElem?_toArray, List.getElem?_cons_zero, List.getElem?_cons_succ]; rfl) | rfl) (by kernel_rfl) (by kernel_rfl) (by kernel_rfl) (by exact fun _ _ _ h => h) (Or.inl ⟨by rfl, by (intro w hSw; (try dsimp only at hSw); go_simp; try with_reducible rfl)⟩) (by assumption) ?_
  (try dsimp only [Act.put]); (try go_frame)
  refine wpAnyH_take (i := 7) (v := _) (by first | (simp only [List.getElem?_toArray, List.getElem?_cons_zero, List.getElem?_cons_succ]; rfl) | rfl) (by kernel_rfl) (by kernel_rfl) (by kernel_rfl) (by exact fun _ _ _ h => h) (Or.inl ⟨by rfl, by (intro w hSw; (try dsimp only at hSw); go_simp; try with_reducible rfl)⟩) (by assumption) ?_
  (try dsimp only [Act.put]); (try go_frame)
  refine wpAnyH_done (by kernel_rfl) ?_ _
  try simp only [QCut]
  clear hHeld
  go_wp2_with fail
  refine (hb _).mono ?_
  rintro r w1 ⟨rfl, rfl⟩
  go_wp2_with fail
  refine (hg _).mono ?_
  rintro r w1 ⟨rfl, rfl⟩
  go_wp2
  go_returns
  exact ⟨rfl, B0⟩
set_option maxRecDepth 1000000 in
set_option maxHeartbeats 2000000 in
theorem parted_nxpf (t H R : ByteArray) (n : Nat) (w : World) (hn : n ≤ t.size) (hts : t.size ≤ 1000000) (hH : t.extract 0 n = H) (hR : t.extract n t.size = R)
    (hd : ∀ W, Calls Tryz.prog 75 #[.string t] W fun r w' => r = .returned (.int .i64 (n : Nat)) ∧ W = w')
    (hb : ∀ W, Calls Tryz.prog 76 #[.string H] W fun r w' => r = .returned (.bool true) ∧ W = w')
    (h0 : 0 < R.size) (c : Nat) (hc : (R[0]'h0).toNat = c)
    (_h46 : c ≠ 46)
    (h101 : c = 101)
    (P : ByteArray) (hP : R.extract 1 R.size = P)
    (f0 : 0 < P.size) (f : Nat) (hf : (P[0]'f0).toNat = f)
    (h45 : f ≠ 45) (hg : ∀ W, Calls Tryz.prog 76 #[.string P] W fun r w' => r = .returned (.bool false) ∧ W = w') :
    Calls Tryz.prog 41 #[.string t] w fun r w' => r = .returned (.tuple #[.string { data := #[] }, .string { data := #[] }, .string { data := #[] }, .bool false]) ∧ Below w.heap.size w w' := by
  have B0 := ((Below.refl w.heap.size w).drew)
  have q1 : 0 ≤ (n : Int) := by omega
  have q2 : (n : Int) ≤ t.size := by omega
  have hRs : R.size ≤ 1000000 := by rw [← hR, ByteArray.size_extract]; omega
  have t46 : ((c : Int) == 46) = false := by simp; omega
  have t101 : ((c : Int) == 101) = true := by simp; omega
  have hPs : P.size ≤ 1000000 := by rw [← hP, ByteArray.size_extract]; omega
  have t45 : ((f : Int) == 45) = false := by simp; omega
  clear hn hts
  clear _h46
  clear h101
  clear h45
  go_enter Tryz.func41, Tryz.ntmps41
  go_wp2_with fail
  refine (hd _).mono ?_
  rintro r w1 ⟨rfl, rfl⟩
  go_wp2_with fail
  refine wp_region_any (by kernel_rfl) ?_
  have hHeld : (fun _ : World => True) w.drew := trivial
  refine wpAny_of_held (S := fun _ : World => True) _ _ _ _ ?_
  refine wpAnyH_take (i := 0) (v := _) (by first | (simp only [List.getElem?_toArray, List.getElem?_cons_zero]; rfl) | rfl) (by kernel_rfl) (by kernel_rfl) (by kernel_rfl) (by exact fun _ _ _ h => h) (Or.inl ⟨by rfl, by (intro w hSw; (try dsimp only at hSw); go_simp; try with_reducible rfl)⟩) (by assumption) ?_
  (try dsimp only [Act.put]); (try go_frame)
  refine wpAnyH_take (i := 1) (v := _) (by first | (simp only [List.getElem?_toArray, List.getElem?_cons_zero, List.getElem?_cons_succ]; rfl) | rfl) (by kernel_rfl) (by kernel_rfl) (by kernel_rfl) (by exact fun _ _ _ h => h) (Or.inl ⟨by rfl, by (intro w hSw; (try dsimp only at hSw); go_simp; try with_reducible rfl)⟩) (by assumption) ?_
  (try dsimp only [Act.put]); (try go_frame)
  refine wpAnyH_take (i := 2) (v := _) (by first | (simp only [List.getElem?_toArray, List.getElem?_cons_zero, List.getElem?_cons_succ]; rfl) | rfl) (by kernel_rfl) (by kernel_rfl) (by kernel_rfl) (by exact fun _ _ _ h => h) (Or.inl ⟨by rfl, by (intro w hSw; (try dsimp only at hSw); go_simp; try with_reducible rfl)⟩) (by assumption) ?_
  (try dsimp only [Act.put]); (try go_frame)
  refine wpAnyH_take (i := 3) (v := _) (by first | (simp only [List.getElem?_toArray, List.getElem?_cons_zero, List.getElem?_cons_succ]; rfl) | rfl) (by kernel_rfl) (by kernel_rfl) (by kernel_rfl) (by exact fun _ _ _ h => h) (Or.inl ⟨by rfl, by (intro w hSw; (try dsimp only at hSw); go_simp; try with_reducible rfl)⟩) (by assumption) ?_
  (try dsimp only [Act.put]); (try go_frame)
  refine wpAnyH_take (i := 4) (v := _) (by first | (simp only [List.getElem?_toArray, List.getElem?_cons_zero, List.getElem?_cons_succ]; rfl) | rfl) (by kernel_rfl) (by kernel_rfl) (by kernel_rfl) (by exact fun _ _ _ h => h) (Or.inl ⟨by rfl, by (intro w hSw; (try dsimp only at hSw); go_simp; try with_reducible rfl)⟩) (by assumption) ?_
  (try dsimp only [Act.put]); (try go_frame)
  refine wpAnyH_take (i := 5) (v := _) (by first | (simp only [List.getElem?_toArray, List.getElem?_cons_zero, List.getElem?_cons_succ]; rfl) | rfl) (by kernel_rfl) (by kernel_rfl) (by kernel_rfl) (by exact fun _ _ _ h => h) (Or.inl ⟨by rfl, by (intro w hSw; (try dsimp only at hSw); go_simp; try with_reducible rfl)⟩) (by assumption) ?_
  (try dsimp only [Act.put]); (try go_frame)
  refine wpAnyH_take (i := 6) (v := _) (by first | (simp only [List.getElem?_toArray, List.getElem?_cons_zero, List.getElem?_cons_succ]; rfl) | rfl) (by kernel_rfl) (by kernel_rfl) (by kernel_rfl) (by exact fun _ _ _ h => h) (Or.inl ⟨by rfl, by (intro w hSw; (try dsimp only at hSw); go_simp; try with_reducible rfl)⟩) (by assumption) ?_
  (try dsimp only [Act.put]); (try go_frame)
  refine wpAnyH_take (i := 7) (v := _) (by first | (simp only [List.getElem?_toArray, List.getElem?_cons_zero, List.getElem?_cons_succ]; rfl) | rfl) (by kernel_rfl) (by kernel_rfl) (by kernel_rfl) (by exact fun _ _ _ h => h) (Or.inl ⟨by rfl, by (intro w hSw; (try dsimp only at hSw); go_simp; try with_reducible rfl)⟩) (by assumption) ?_
  (try dsimp only [Act.put]); (try go_frame)
  refine wpAnyH_done (by kernel_rfl) ?_ _
  try simp only [QCut]
  clear hHeld
  go_wp2_with fail
  refine (hb _).mono ?_
  rintro r w1 ⟨rfl, rfl⟩
  go_wp2_with fail
  refine (hg _).mono ?_
  rintro r w1 ⟨rfl, rfl⟩
  go_wp2
  go_returns
  exact ⟨rfl, B0⟩
set_option maxRecDepth 1000000 in
set_option maxHeartbeats 2000000 in
theorem parted_nxpt (t H R : ByteArray) (n : Nat) (w : World) (hn : n ≤ t.size) (hts : t.size ≤ 1000000) (hH : t.extract 0 n = H) (hR : t.extract n t.size = R)
    (hd : ∀ W, Calls Tryz.prog 75 #[.string t] W fun r w' => r = .returned (.int .i64 (n : Nat)) ∧ W = w')
    (hb : ∀ W, Calls Tryz.prog 76 #[.string H] W fun r w' => r = .returned (.bool true) ∧ W = w')
    (h0 : 0 < R.size) (c : Nat) (hc : (R[0]'h0).toNat = c)
    (_h46 : c ≠ 46)
    (h101 : c = 101)
    (P : ByteArray) (hP : R.extract 1 R.size = P)
    (f0 : 0 < P.size) (f : Nat) (hf : (P[0]'f0).toNat = f)
    (h45 : f ≠ 45) (hg : ∀ W, Calls Tryz.prog 76 #[.string P] W fun r w' => r = .returned (.bool true) ∧ W = w')
    (hz : (P.toList == [45, 48]) = false) :
    Calls Tryz.prog 41 #[.string t] w fun r w' => r = .returned (.tuple #[.string H, .string { data := #[] }, .string P, .bool true]) ∧ Below w.heap.size w w' := by
  have B0 := ((Below.refl w.heap.size w).drew)
  have q1 : 0 ≤ (n : Int) := by omega
  have q2 : (n : Int) ≤ t.size := by omega
  have hRs : R.size ≤ 1000000 := by rw [← hR, ByteArray.size_extract]; omega
  have t46 : ((c : Int) == 46) = false := by simp; omega
  have t101 : ((c : Int) == 101) = true := by simp; omega
  have hPs : P.size ≤ 1000000 := by rw [← hP, ByteArray.size_extract]; omega
  have t45 : ((f : Int) == 45) = false := by simp; omega
  clear hn hts
  clear _h46
  clear h101
  clear h45
  go_enter Tryz.func41, Tryz.ntmps41
  go_wp2_with fail
  refine (hd _).mono ?_
  rintro r w1 ⟨rfl, rfl⟩
  go_wp2_with fail
  refine wp_region_any (by kernel_rfl) ?_
  have hHeld : (fun _ : World => True) w.drew := trivial
  refine wpAny_of_held (S := fun _ : World => True) _ _ _ _ ?_
  refine wpAnyH_take (i := 0) (v := _) (by first | (simp only [List.getElem?_toArray, List.getElem?_cons_zero]; rfl) | rfl) (by kernel_rfl) (by kernel_rfl) (by kernel_rfl) (by exact fun _ _ _ h => h) (Or.inl ⟨by rfl, by (intro w hSw; (try dsimp only at hSw); go_simp; try with_reducible rfl)⟩) (by assumption) ?_
  (try dsimp only [Act.put]); (try go_frame)
  refine wpAnyH_take (i := 1) (v := _) (by first | (simp only [List.getElem?_toArray, List.getElem?_cons_zero, List.getElem?_cons_succ]; rfl) | rfl) (by kernel_rfl) (by kernel_rfl) (by kernel_rfl) (by exact fun _ _ _ h => h) (Or.inl ⟨by rfl, by (intro w hSw; (try dsimp only at hSw); go_simp; try with_reducible rfl)⟩) (by assumption) ?_
  (try dsimp only [Act.put]); (try go_frame)
  refine wpAnyH_take (i := 2) (v := _) (by first | (simp only [List.getElem?_toArray, List.getElem?_cons_zero, List.getElem?_cons_succ]; rfl) | rfl) (by kernel_rfl) (by kernel_rfl) (by kernel_rfl) (by exact fun _ _ _ h => h) (Or.inl ⟨by rfl, by (intro w hSw; (try dsimp only at hSw); go_simp; try with_reducible rfl)⟩) (by assumption) ?_
  (try dsimp only [Act.put]); (try go_frame)
  refine wpAnyH_take (i := 3) (v := _) (by first | (simp only [List.getElem?_toArray, List.getElem?_cons_zero, List.getElem?_cons_succ]; rfl) | rfl) (by kernel_rfl) (by kernel_rfl) (by kernel_rfl) (by exact fun _ _ _ h => h) (Or.inl ⟨by rfl, by (intro w hSw; (try dsimp only at hSw); go_simp; try with_reducible rfl)⟩) (by assumption) ?_
  (try dsimp only [Act.put]); (try go_frame)
  refine wpAnyH_take (i := 4) (v := _) (by first | (simp only [List.getElem?_toArray, List.getElem?_cons_zero, List.getElem?_cons_succ]; rfl) | rfl) (by kernel_rfl) (by kernel_rfl) (by kernel_rfl) (by exact fun _ _ _ h => h) (Or.inl ⟨by rfl, by (intro w hSw; (try dsimp only at hSw); go_simp; try with_reducible rfl)⟩) (by assumption) ?_
  (try dsimp only [Act.put]); (try go_frame)
  refine wpAnyH_take (i := 5) (v := _) (by first | (simp only [List.getElem?_toArray, List.getElem?_cons_zero, List.getElem?_cons_succ]; rfl) | rfl) (by kernel_rfl) (by kernel_rfl) (by kernel_rfl) (by exact fun _ _ _ h => h) (Or.inl ⟨by rfl, by (intro w hSw; (try dsimp only at hSw); go_simp; try with_reducible rfl)⟩) (by assumption) ?_
  (try dsimp only [Act.put]); (try go_frame)
  refine wpAnyH_take (i := 6) (v := _) (by first | (simp only [List.getElem?_toArray, List.getElem?_cons_zero, List.getElem?_cons_succ]; rfl) | rfl) (by kernel_rfl) (by kernel_rfl) (by kernel_rfl) (by exact fun _ _ _ h => h) (Or.inl ⟨by rfl, by (intro w hSw; (try dsimp only at hSw); go_simp; try with_reducible rfl)⟩) (by assumption) ?_
  (try dsimp only [Act.put]); (try go_frame)
  refine wpAnyH_take (i := 7) (v := _) (by first | (simp only [List.getElem?_toArray, List.getElem?_cons_zero, List.getElem?_cons_succ]; rfl) | rfl) (by kernel_rfl) (by kernel_rfl) (by kernel_rfl) (by exact fun _ _ _ h => h) (Or.inl ⟨by rfl, by (intro w hSw; (try dsimp only at hSw); go_simp; try with_reducible rfl)⟩) (by assumption) ?_
  (try dsimp only [Act.put]); (try go_frame)
  refine wpAnyH_done (by kernel_rfl) ?_ _
  try simp only [QCut]
  clear hHeld
  go_wp2_with fail
  refine (hb _).mono ?_
  rintro r w1 ⟨rfl, rfl⟩
  go_wp2_with fail
  refine (hg _).mono ?_
  rintro r w1 ⟨rfl, rfl⟩
  go_wp2
  go_returns
  exact ⟨rfl, B0⟩
set_option maxRecDepth 1000000 in
set_option maxHeartbeats 2000000 in
theorem parted_nxmf (t H R : ByteArray) (n : Nat) (w : World) (hn : n ≤ t.size) (hts : t.size ≤ 1000000) (hH : t.extract 0 n = H) (hR : t.extract n t.size = R)
    (hd : ∀ W, Calls Tryz.prog 75 #[.string t] W fun r w' => r = .returned (.int .i64 (n : Nat)) ∧ W = w')
    (hb : ∀ W, Calls Tryz.prog 76 #[.string H] W fun r w' => r = .returned (.bool true) ∧ W = w')
    (h0 : 0 < R.size) (c : Nat) (hc : (R[0]'h0).toNat = c)
    (_h46 : c ≠ 46)
    (h101 : c = 101)
    (P : ByteArray) (hP : R.extract 1 R.size = P)
    (f0 : 0 < P.size) (f : Nat) (hf : (P[0]'f0).toNat = f)
    (h45 : f = 45) (M : ByteArray) (hM : P.extract 1 P.size = M) (hg : ∀ W, Calls Tryz.prog 76 #[.string M] W fun r w' => r = .returned (.bool false) ∧ W = w') :
    Calls Tryz.prog 41 #[.string t] w fun r w' => r = .returned (.tuple #[.string { data := #[] }, .string { data := #[] }, .string { data := #[] }, .bool false]) ∧ Below w.heap.size w w' := by
  have B0 := ((Below.refl w.heap.size w).drew)
  have q1 : 0 ≤ (n : Int) := by omega
  have q2 : (n : Int) ≤ t.size := by omega
  have hRs : R.size ≤ 1000000 := by rw [← hR, ByteArray.size_extract]; omega
  have t46 : ((c : Int) == 46) = false := by simp; omega
  have t101 : ((c : Int) == 101) = true := by simp; omega
  have hPs : P.size ≤ 1000000 := by rw [← hP, ByteArray.size_extract]; omega
  have t45 : ((f : Int) == 45) = true := by simp; omega
  clear hn hts
  clear _h46
  clear h101
  clear h45
  go_enter Tryz.func41, Tryz.ntmps41
  go_wp2_with fail
  refine (hd _).mono ?_
  rintro r w1 ⟨rfl, rfl⟩
  go_wp2_with fail
  refine wp_region_any (by kernel_rfl) ?_
  have hHeld : (fun _ : World => True) w.drew := trivial
  refine wpAny_of_held (S := fun _ : World => True) _ _ _ _ ?_
  refine wpAnyH_take (i := 0) (v := _) (by first | (simp only [List.getElem?_toArray, List.getElem?_cons_zero]; rfl) | rfl) (by kernel_rfl) (by kernel_rfl) (by kernel_rfl) (by exact fun _ _ _ h => h) (Or.inl ⟨by rfl, by (intro w hSw; (try dsimp only at hSw); go_simp; try with_reducible rfl)⟩) (by assumption) ?_
  (try dsimp only [Act.put]); (try go_frame)
  refine wpAnyH_take (i := 1) (v := _) (by first | (simp only [List.getElem?_toArray, List.getElem?_cons_zero, List.getElem?_cons_succ]; rfl) | rfl) (by kernel_rfl) (by kernel_rfl) (by kernel_rfl) (by exact fun _ _ _ h => h) (Or.inl ⟨by rfl, by (intro w hSw; (try dsimp only at hSw); go_simp; try with_reducible rfl)⟩) (by assumption) ?_
  (try dsimp only [Act.put]); (try go_frame)
  refine wpAnyH_take (i := 2) (v := _) (by first | (simp only [List.getElem?_toArray, List.getElem?_cons_zero, List.getElem?_cons_succ]; rfl) | rfl) (by kernel_rfl) (by kernel_rfl) (by kernel_rfl) (by exact fun _ _ _ h => h) (Or.inl ⟨by rfl, by (intro w hSw; (try dsimp only at hSw); go_simp; try with_reducible rfl)⟩) (by assumption) ?_
  (try dsimp only [Act.put]); (try go_frame)
  refine wpAnyH_take (i := 3) (v := _) (by first | (simp only [List.getElem?_toArray, List.getElem?_cons_zero, List.getElem?_cons_succ]; rfl) | rfl) (by kernel_rfl) (by kernel_rfl) (by kernel_rfl) (by exact fun _ _ _ h => h) (Or.inl ⟨by rfl, by (intro w hSw; (try dsimp only at hSw); go_simp; try with_reducible rfl)⟩) (by assumption) ?_
  (try dsimp only [Act.put]); (try go_frame)
  refine wpAnyH_take (i := 4) (v := _) (by first | (simp only [List.getElem?_toArray, List.getElem?_cons_zero, List.getElem?_cons_succ]; rfl) | rfl) (by kernel_rfl) (by kernel_rfl) (by kernel_rfl) (by exact fun _ _ _ h => h) (Or.inl ⟨by rfl, by (intro w hSw; (try dsimp only at hSw); go_simp; try with_reducible rfl)⟩) (by assumption) ?_
  (try dsimp only [Act.put]); (try go_frame)
  refine wpAnyH_take (i := 5) (v := _) (by first | (simp only [List.getElem?_toArray, List.getElem?_cons_zero, List.getElem?_cons_succ]; rfl) | rfl) (by kernel_rfl) (by kernel_rfl) (by kernel_rfl) (by exact fun _ _ _ h => h) (Or.inl ⟨by rfl, by (intro w hSw; (try dsimp only at hSw); go_simp; try with_reducible rfl)⟩) (by assumption) ?_
  (try dsimp only [Act.put]); (try go_frame)
  refine wpAnyH_take (i := 6) (v := _) (by first | (simp only [List.getElem?_toArray, List.getElem?_cons_zero, List.getElem?_cons_succ]; rfl) | rfl) (by kernel_rfl) (by kernel_rfl) (by kernel_rfl) (by exact fun _ _ _ h => h) (Or.inl ⟨by rfl, by (intro w hSw; (try dsimp only at hSw); go_simp; try with_reducible rfl)⟩) (by assumption) ?_
  (try dsimp only [Act.put]); (try go_frame)
  refine wpAnyH_take (i := 7) (v := _) (by first | (simp only [List.getElem?_toArray, List.getElem?_cons_zero, List.getElem?_cons_succ]; rfl) | rfl) (by kernel_rfl) (by kernel_rfl) (by kernel_rfl) (by exact fun _ _ _ h => h) (Or.inl ⟨by rfl, by (intro w hSw; (try dsimp only at hSw); go_simp; try with_reducible rfl)⟩) (by assumption) ?_
  (try dsimp only [Act.put]); (try go_frame)
  refine wpAnyH_done (by kernel_rfl) ?_ _
  try simp only [QCut]
  clear hHeld
  go_wp2_with fail
  refine (hb _).mono ?_
  rintro r w1 ⟨rfl, rfl⟩
  go_wp2_with fail
  refine (hg _).mono ?_
  rintro r w1 ⟨rfl, rfl⟩
  go_wp2
  go_returns
  exact ⟨rfl, B0⟩
set_option maxRecDepth 1000000 in
set_option maxHeartbeats 2000000 in
theorem parted_nxmz (t H R : ByteArray) (n : Nat) (w : World) (hn : n ≤ t.size) (hts : t.size ≤ 1000000) (hH : t.extract 0 n = H) (hR : t.extract n t.size = R)
    (hd : ∀ W, Calls Tryz.prog 75 #[.string t] W fun r w' => r = .returned (.int .i64 (n : Nat)) ∧ W = w')
    (hb : ∀ W, Calls Tryz.prog 76 #[.string H] W fun r w' => r = .returned (.bool true) ∧ W = w')
    (h0 : 0 < R.size) (c : Nat) (hc : (R[0]'h0).toNat = c)
    (_h46 : c ≠ 46)
    (h101 : c = 101)
    (P : ByteArray) (hP : R.extract 1 R.size = P)
    (f0 : 0 < P.size) (f : Nat) (hf : (P[0]'f0).toNat = f)
    (h45 : f = 45) (M : ByteArray) (hM : P.extract 1 P.size = M) (hg : ∀ W, Calls Tryz.prog 76 #[.string M] W fun r w' => r = .returned (.bool true) ∧ W = w')
    (hz : (P.toList == [45, 48]) = true) :
    Calls Tryz.prog 41 #[.string t] w fun r w' => r = .returned (.tuple #[.string { data := #[] }, .string { data := #[] }, .string { data := #[] }, .bool false]) ∧ Below w.heap.size w w' := by
  have B0 := ((Below.refl w.heap.size w).drew)
  have q1 : 0 ≤ (n : Int) := by omega
  have q2 : (n : Int) ≤ t.size := by omega
  have hRs : R.size ≤ 1000000 := by rw [← hR, ByteArray.size_extract]; omega
  have t46 : ((c : Int) == 46) = false := by simp; omega
  have t101 : ((c : Int) == 101) = true := by simp; omega
  have hPs : P.size ≤ 1000000 := by rw [← hP, ByteArray.size_extract]; omega
  have t45 : ((f : Int) == 45) = true := by simp; omega
  clear hn hts
  clear _h46
  clear h101
  clear h45
  go_enter Tryz.func41, Tryz.ntmps41
  go_wp2_with fail
  refine (hd _).mono ?_
  rintro r w1 ⟨rfl, rfl⟩
  go_wp2_with fail
  refine wp_region_any (by kernel_rfl) ?_
  have hHeld : (fun _ : World => True) w.drew := trivial
  refine wpAny_of_held (S := fun _ : World => True) _ _ _ _ ?_
  refine wpAnyH_take (i := 0) (v := _) (by first | (simp only [List.getElem?_toArray, List.getElem?_cons_zero]; rfl) | rfl) (by kernel_rfl) (by kernel_rfl) (by kernel_rfl) (by exact fun _ _ _ h => h) (Or.inl ⟨by rfl, by (intro w hSw; (try dsimp only at hSw); go_simp; try with_reducible rfl)⟩) (by assumption) ?_
  (try dsimp only [Act.put]); (try go_frame)
  refine wpAnyH_take (i := 1) (v := _) (by first | (simp only [List.getElem?_toArray, List.getElem?_cons_zero, List.getElem?_cons_succ]; rfl) | rfl) (by kernel_rfl) (by kernel_rfl) (by kernel_rfl) (by exact fun _ _ _ h => h) (Or.inl ⟨by rfl, by (intro w hSw; (try dsimp only at hSw); go_simp; try with_reducible rfl)⟩) (by assumption) ?_
  (try dsimp only [Act.put]); (try go_frame)
  refine wpAnyH_take (i := 2) (v := _) (by first | (simp only [List.getElem?_toArray, List.getElem?_cons_zero, List.getElem?_cons_succ]; rfl) | rfl) (by kernel_rfl) (by kernel_rfl) (by kernel_rfl) (by exact fun _ _ _ h => h) (Or.inl ⟨by rfl, by (intro w hSw; (try dsimp only at hSw); go_simp; try with_reducible rfl)⟩) (by assumption) ?_
  (try dsimp only [Act.put]); (try go_frame)
  refine wpAnyH_take (i := 3) (v := _) (by first | (simp only [List.getElem?_toArray, List.getElem?_cons_zero, List.getElem?_cons_succ]; rfl) | rfl) (by kernel_rfl) (by kernel_rfl) (by kernel_rfl) (by exact fun _ _ _ h => h) (Or.inl ⟨by rfl, by (intro w hSw; (try dsimp only at hSw); go_simp; try with_reducible rfl)⟩) (by assumption) ?_
  (try dsimp only [Act.put]); (try go_frame)
  refine wpAnyH_take (i := 4) (v := _) (by first | (simp only [List.getElem?_toArray, List.getElem?_cons_zero, List.getElem?_cons_succ]; rfl) | rfl) (by kernel_rfl) (by kernel_rfl) (by kernel_rfl) (by exact fun _ _ _ h => h) (Or.inl ⟨by rfl, by (intro w hSw; (try dsimp only at hSw); go_simp; try with_reducible rfl)⟩) (by assumption) ?_
  (try dsimp only [Act.put]); (try go_frame)
  refine wpAnyH_take (i := 5) (v := _) (by first | (simp only [List.getElem?_toArray, List.getElem?_cons_zero, List.getElem?_cons_succ]; rfl) | rfl) (by kernel_rfl) (by kernel_rfl) (by kernel_rfl) (by exact fun _ _ _ h => h) (Or.inl ⟨by rfl, by (intro w hSw; (try dsimp only at hSw); go_simp; try with_reducible rfl)⟩) (by assumption) ?_
  (try dsimp only [Act.put]); (try go_frame)
  refine wpAnyH_take (i := 6) (v := _) (by first | (simp only [List.getElem?_toArray, List.getElem?_cons_zero, List.getElem?_cons_succ]; rfl) | rfl) (by kernel_rfl) (by kernel_rfl) (by kernel_rfl) (by exact fun _ _ _ h => h) (Or.inl ⟨by rfl, by (intro w hSw; (try dsimp only at hSw); go_simp; try with_reducible rfl)⟩) (by assumption) ?_
  (try dsimp only [Act.put]); (try go_frame)
  refine wpAnyH_take (i := 7) (v := _) (by first | (simp only [List.getElem?_toArray, List.getElem?_cons_zero, List.getElem?_cons_succ]; rfl) | rfl) (by kernel_rfl) (by kernel_rfl) (by kernel_rfl) (by exact fun _ _ _ h => h) (Or.inl ⟨by rfl, by (intro w hSw; (try dsimp only at hSw); go_simp; try with_reducible rfl)⟩) (by assumption) ?_
  (try dsimp only [Act.put]); (try go_frame)
  refine wpAnyH_done (by kernel_rfl) ?_ _
  try simp only [QCut]
  clear hHeld
  go_wp2_with fail
  refine (hb _).mono ?_
  rintro r w1 ⟨rfl, rfl⟩
  go_wp2_with fail
  refine (hg _).mono ?_
  rintro r w1 ⟨rfl, rfl⟩
  go_wp2
  go_returns
  exact ⟨rfl, B0⟩
set_option maxRecDepth 1000000 in
set_option maxHeartbeats 2000000 in
theorem parted_nxmt (t H R : ByteArray) (n : Nat) (w : World) (hn : n ≤ t.size) (hts : t.size ≤ 1000000) (hH : t.extract 0 n = H) (hR : t.extract n t.size = R)
    (hd : ∀ W, Calls Tryz.prog 75 #[.string t] W fun r w' => r = .returned (.int .i64 (n : Nat)) ∧ W = w')
    (hb : ∀ W, Calls Tryz.prog 76 #[.string H] W fun r w' => r = .returned (.bool true) ∧ W = w')
    (h0 : 0 < R.size) (c : Nat) (hc : (R[0]'h0).toNat = c)
    (_h46 : c ≠ 46)
    (h101 : c = 101)
    (P : ByteArray) (hP : R.extract 1 R.size = P)
    (f0 : 0 < P.size) (f : Nat) (hf : (P[0]'f0).toNat = f)
    (h45 : f = 45) (M : ByteArray) (hM : P.extract 1 P.size = M) (hg : ∀ W, Calls Tryz.prog 76 #[.string M] W fun r w' => r = .returned (.bool true) ∧ W = w')
    (hz : (P.toList == [45, 48]) = false) :
    Calls Tryz.prog 41 #[.string t] w fun r w' => r = .returned (.tuple #[.string H, .string { data := #[] }, .string P, .bool true]) ∧ Below w.heap.size w w' := by
  have B0 := ((Below.refl w.heap.size w).drew)
  have q1 : 0 ≤ (n : Int) := by omega
  have q2 : (n : Int) ≤ t.size := by omega
  have hRs : R.size ≤ 1000000 := by rw [← hR, ByteArray.size_extract]; omega
  have t46 : ((c : Int) == 46) = false := by simp; omega
  have t101 : ((c : Int) == 101) = true := by simp; omega
  have hPs : P.size ≤ 1000000 := by rw [← hP, ByteArray.size_extract]; omega
  have t45 : ((f : Int) == 45) = true := by simp; omega
  clear hn hts
  clear _h46
  clear h101
  clear h45
  go_enter Tryz.func41, Tryz.ntmps41
  go_wp2_with fail
  refine (hd _).mono ?_
  rintro r w1 ⟨rfl, rfl⟩
  go_wp2_with fail
  refine wp_region_any (by kernel_rfl) ?_
  have hHeld : (fun _ : World => True) w.drew := trivial
  refine wpAny_of_held (S := fun _ : World => True) _ _ _ _ ?_
  refine wpAnyH_take (i := 0) (v := _) (by first | (simp only [List.getElem?_toArray, List.getElem?_cons_zero]; rfl) | rfl) (by kernel_rfl) (by kernel_rfl) (by kernel_rfl) (by exact fun _ _ _ h => h) (Or.inl ⟨by rfl, by (intro w hSw; (try dsimp only at hSw); go_simp; try with_reducible rfl)⟩) (by assumption) ?_
  (try dsimp only [Act.put]); (try go_frame)
  refine wpAnyH_take (i := 1) (v := _) (by first | (simp only [List.getElem?_toArray, List.getElem?_cons_zero, List.getElem?_cons_succ]; rfl) | rfl) (by kernel_rfl) (by kernel_rfl) (by kernel_rfl) (by exact fun _ _ _ h => h) (Or.inl ⟨by rfl, by (intro w hSw; (try dsimp only at hSw); go_simp; try with_reducible rfl)⟩) (by assumption) ?_
  (try dsimp only [Act.put]); (try go_frame)
  refine wpAnyH_take (i := 2) (v := _) (by first | (simp only [List.getElem?_toArray, List.getElem?_cons_zero, List.getElem?_cons_succ]; rfl) | rfl) (by kernel_rfl) (by kernel_rfl) (by kernel_rfl) (by exact fun _ _ _ h => h) (Or.inl ⟨by rfl, by (intro w hSw; (try dsimp only at hSw); go_simp; try with_reducible rfl)⟩) (by assumption) ?_
  (try dsimp only [Act.put]); (try go_frame)
  refine wpAnyH_take (i := 3) (v := _) (by first | (simp only [List.getElem?_toArray, List.getElem?_cons_zero, List.getElem?_cons_succ]; rfl) | rfl) (by kernel_rfl) (by kernel_rfl) (by kernel_rfl) (by exact fun _ _ _ h => h) (Or.inl ⟨by rfl, by (intro w hSw; (try dsimp only at hSw); go_simp; try with_reducible rfl)⟩) (by assumption) ?_
  (try dsimp only [Act.put]); (try go_frame)
  refine wpAnyH_take (i := 4) (v := _) (by first | (simp only [List.getElem?_toArray, List.getElem?_cons_zero, List.getElem?_cons_succ]; rfl) | rfl) (by kernel_rfl) (by kernel_rfl) (by kernel_rfl) (by exact fun _ _ _ h => h) (Or.inl ⟨by rfl, by (intro w hSw; (try dsimp only at hSw); go_simp; try with_reducible rfl)⟩) (by assumption) ?_
  (try dsimp only [Act.put]); (try go_frame)
  refine wpAnyH_take (i := 5) (v := _) (by first | (simp only [List.getElem?_toArray, List.getElem?_cons_zero, List.getElem?_cons_succ]; rfl) | rfl) (by kernel_rfl) (by kernel_rfl) (by kernel_rfl) (by exact fun _ _ _ h => h) (Or.inl ⟨by rfl, by (intro w hSw; (try dsimp only at hSw); go_simp; try with_reducible rfl)⟩) (by assumption) ?_
  (try dsimp only [Act.put]); (try go_frame)
  refine wpAnyH_take (i := 6) (v := _) (by first | (simp only [List.getElem?_toArray, List.getElem?_cons_zero, List.getElem?_cons_succ]; rfl) | rfl) (by kernel_rfl) (by kernel_rfl) (by kernel_rfl) (by exact fun _ _ _ h => h) (Or.inl ⟨by rfl, by (intro w hSw; (try dsimp only at hSw); go_simp; try with_reducible rfl)⟩) (by assumption) ?_
  (try dsimp only [Act.put]); (try go_frame)
  refine wpAnyH_take (i := 7) (v := _) (by first | (simp only [List.getElem?_toArray, List.getElem?_cons_zero, List.getElem?_cons_succ]; rfl) | rfl) (by kernel_rfl) (by kernel_rfl) (by kernel_rfl) (by exact fun _ _ _ h => h) (Or.inl ⟨by rfl, by (intro w hSw; (try dsimp only at hSw); go_simp; try with_reducible rfl)⟩) (by assumption) ?_
  (try dsimp only [Act.put]); (try go_frame)
  refine wpAnyH_done (by kernel_rfl) ?_ _
  try simp only [QCut]
  clear hHeld
  go_wp2_with fail
  refine (hb _).mono ?_
  rintro r w1 ⟨rfl, rfl⟩
  go_wp2_with fail
  refine (hg _).mono ?_
  rintro r w1 ⟨rfl, rfl⟩
  go_wp2
  go_returns
  exact ⟨rfl, B0⟩
set_option maxRecDepth 1000000 in
set_option maxHeartbeats 2000000 in
theorem parted_pe (t H R : ByteArray) (n : Nat) (w : World) (hn : n ≤ t.size) (hts : t.size ≤ 1000000) (hH : t.extract 0 n = H) (hR : t.extract n t.size = R)
    (hd : ∀ W, Calls Tryz.prog 75 #[.string t] W fun r w' => r = .returned (.int .i64 (n : Nat)) ∧ W = w')
    (hb : ∀ W, Calls Tryz.prog 76 #[.string H] W fun r w' => r = .returned (.bool true) ∧ W = w')
    (h0 : 0 < R.size) (c : Nat) (hc : (R[0]'h0).toNat = c)
    (h46 : c = 46)
    (S : ByteArray) (hS : R.extract 1 R.size = S) (k : Nat) (hd1 : ∀ W, Calls Tryz.prog 75 #[.string S] W fun r w' => r = .returned (.int .i64 (k : Nat)) ∧ W = w')
    (hk : k ≠ 0) (hkR : 1 + k ≤ R.size) (T Q : ByteArray) (hT : R.extract 1 (1 + k) = T) (hQ : R.extract (1 + k) R.size = Q)
    (hQ0 : Q = ⟨#[]⟩) :
    Calls Tryz.prog 41 #[.string t] w fun r w' => r = .returned (.tuple #[.string H, .string T, .string { data := #[48] }, .bool true]) ∧ Below w.heap.size w w' := by
  have B0 := ((Below.refl w.heap.size w).drew.drew)
  have q1 : 0 ≤ (n : Int) := by omega
  have q2 : (n : Int) ≤ t.size := by omega
  have hRs : R.size ≤ 1000000 := by rw [← hR, ByteArray.size_extract]; omega
  have t46 : ((c : Int) == 46) = true := by simp; omega
  have tk : ((k : Int) == 0) = false := by simp; omega
  have e1 : ((1 : Int) + (k : Int)).toNat = 1 + k := by omega
  have q3 : 0 ≤ (1 : Int) + k := by omega
  have q4 : (1 : Int) + k ≤ R.size := by omega
  have q5 : (1 : Int) ≤ 1 + k := by omega
  have W1 : IntKind.i64.wrap ((1 : Int) + k) = 1 + k := IntWalk.i64_in _ (by omega)
  have hQs : Q.size ≤ 1000000 := by rw [← hQ, ByteArray.size_extract]; omega
  clear hn hts
  clear h46
  clear hk
  subst hQ0
  go_enter Tryz.func41, Tryz.ntmps41
  go_wp2_with fail
  refine (hd _).mono ?_
  rintro r w1 ⟨rfl, rfl⟩
  go_wp2_with fail
  refine wp_region_any (by kernel_rfl) ?_
  have hHeld : (fun _ : World => True) w.drew := trivial
  refine wpAny_of_held (S := fun _ : World => True) _ _ _ _ ?_
  refine wpAnyH_take (i := 0) (v := _) (by first | (simp only [List.getElem?_toArray, List.getElem?_cons_zero]; rfl) | rfl) (by kernel_rfl) (by kernel_rfl) (by kernel_rfl) (by exact fun _ _ _ h => h) (Or.inl ⟨by rfl, by (intro w hSw; (try dsimp only at hSw); go_simp; try with_reducible rfl)⟩) (by assumption) ?_
  (try dsimp only [Act.put]); (try go_frame)
  refine wpAnyH_take (i := 1) (v := _) (by first | (simp only [List.getElem?_toArray, List.getElem?_cons_zero, List.getElem?_cons_succ]; rfl) | rfl) (by kernel_rfl) (by kernel_rfl) (by kernel_rfl) (by exact fun _ _ _ h => h) (Or.inl ⟨by rfl, by (intro w hSw; (try dsimp only at hSw); go_simp; try with_reducible rfl)⟩) (by assumption) ?_
  (try dsimp only [Act.put]); (try go_frame)
  refine wpAnyH_take (i := 2) (v := _) (by first | (simp only [List.getElem?_toArray, List.getElem?_cons_zero, List.getElem?_cons_succ]; rfl) | rfl) (by kernel_rfl) (by kernel_rfl) (by kernel_rfl) (by exact fun _ _ _ h => h) (Or.inl ⟨by rfl, by (intro w hSw; (try dsimp only at hSw); go_simp; try with_reducible rfl)⟩) (by assumption) ?_
  (try dsimp only [Act.put]); (try go_frame)
  refine wpAnyH_take (i := 3) (v := _) (by first | (simp only [List.getElem?_toArray, List.getElem?_cons_zero, List.getElem?_cons_succ]; rfl) | rfl) (by kernel_rfl) (by kernel_rfl) (by kernel_rfl) (by exact fun _ _ _ h => h) (Or.inl ⟨by rfl, by (intro w hSw; (try dsimp only at hSw); go_simp; try with_reducible rfl)⟩) (by assumption) ?_
  (try dsimp only [Act.put]); (try go_frame)
  refine wpAnyH_take (i := 4) (v := _) (by first | (simp only [List.getElem?_toArray, List.getElem?_cons_zero, List.getElem?_cons_succ]; rfl) | rfl) (by kernel_rfl) (by kernel_rfl) (by kernel_rfl) (by exact fun _ _ _ h => h) (Or.inl ⟨by rfl, by (intro w hSw; (try dsimp only at hSw); go_simp; try with_reducible rfl)⟩) (by assumption) ?_
  (try dsimp only [Act.put]); (try go_frame)
  refine wpAnyH_take (i := 5) (v := _) (by first | (simp only [List.getElem?_toArray, List.getElem?_cons_zero, List.getElem?_cons_succ]; rfl) | rfl) (by kernel_rfl) (by kernel_rfl) (by kernel_rfl) (by exact fun _ _ _ h => h) (Or.inl ⟨by rfl, by (intro w hSw; (try dsimp only at hSw); go_simp; try with_reducible rfl)⟩) (by assumption) ?_
  (try dsimp only [Act.put]); (try go_frame)
  refine wpAnyH_take (i := 6) (v := _) (by first | (simp only [List.getElem?_toArray, List.getElem?_cons_zero, List.getElem?_cons_succ]; rfl) | rfl) (by kernel_rfl) (by kernel_rfl) (by kernel_rfl) (by exact fun _ _ _ h => h) (Or.inl ⟨by rfl, by (intro w hSw; (try dsimp only at hSw); go_simp; try with_reducible rfl)⟩) (by assumption) ?_
  (try dsimp only [Act.put]); (try go_frame)
  refine wpAnyH_take (i := 7) (v := _) (by first | (simp only [List.getElem?_toArray, List.getElem?_cons_zero, List.getElem?_cons_succ]; rfl) | rfl) (by kernel_rfl) (by kernel_rfl) (by kernel_rfl) (by exact fun _ _ _ h => h) (Or.inl ⟨by rfl, by (intro w hSw; (try dsimp only at hSw); go_simp; try with_reducible rfl)⟩) (by assumption) ?_
  (try dsimp only [Act.put]); (try go_frame)
  refine wpAnyH_done (by kernel_rfl) ?_ _
  try simp only [QCut]
  clear hHeld
  go_wp2_with fail
  refine (hb _).mono ?_
  rintro r w1 ⟨rfl, rfl⟩
  go_wp2_with fail
  refine (hd1 _).mono ?_
  rintro r w1 ⟨rfl, rfl⟩
  go_wp2_with fail
  refine wp_region_any (by kernel_rfl) ?_
  have hHeld : (fun _ : World => True) w.drew.drew := trivial
  refine wpAny_of_held (S := fun _ : World => True) _ _ _ _ ?_
  refine wpAnyH_take (i := 0) (v := _) (by first | (simp only [List.getElem?_toArray, List.getElem?_cons_zero]; rfl) | rfl) (by kernel_rfl) (by kernel_rfl) (by kernel_rfl) (by exact fun _ _ _ h => h) (Or.inl ⟨by rfl, by (intro w hSw; (try dsimp only at hSw); go_simp; try with_reducible rfl)⟩) (by assumption) ?_
  (try dsimp only [Act.put]); (try go_frame)
  refine wpAnyH_take (i := 1) (v := _) (by first | (simp only [List.getElem?_toArray, List.getElem?_cons_zero, List.getElem?_cons_succ]; rfl) | rfl) (by kernel_rfl) (by kernel_rfl) (by kernel_rfl) (by exact fun _ _ _ h => h) (Or.inl ⟨by rfl, by (intro w hSw; (try dsimp only at hSw); go_simp; try with_reducible rfl)⟩) (by assumption) ?_
  (try dsimp only [Act.put]); (try go_frame)
  refine wpAnyH_take (i := 2) (v := _) (by first | (simp only [List.getElem?_toArray, List.getElem?_cons_zero, List.getElem?_cons_succ]; rfl) | rfl) (by kernel_rfl) (by kernel_rfl) (by kernel_rfl) (by exact fun _ _ _ h => h) (Or.inl ⟨by rfl, by (intro w hSw; (try dsimp only at hSw); go_simp; try with_reducible rfl)⟩) (by assumption) ?_
  (try dsimp only [Act.put]); (try go_frame)
  refine wpAnyH_take (i := 3) (v := _) (by first | (simp only [List.getElem?_toArray, List.getElem?_cons_zero, List.getElem?_cons_succ]; rfl) | rfl) (by kernel_rfl) (by kernel_rfl) (by kernel_rfl) (by exact fun _ _ _ h => h) (Or.inl ⟨by rfl, by (intro w hSw; (try dsimp only at hSw); go_simp; try with_reducible rfl)⟩) (by assumption) ?_
  (try dsimp only [Act.put]); (try go_frame)
  refine wpAnyH_take (i := 4) (v := _) (by first | (simp only [List.getElem?_toArray, List.getElem?_cons_zero, List.getElem?_cons_succ]; rfl) | rfl) (by kernel_rfl) (by kernel_rfl) (by kernel_rfl) (by exact fun _ _ _ h => h) (Or.inl ⟨by rfl, by (intro w hSw; (try dsimp only at hSw); go_simp; try with_reducible rfl)⟩) (by assumption) ?_
  (try dsimp only [Act.put]); (try go_frame)
  refine wpAnyH_take (i := 5) (v := _) (by first | (simp only [List.getElem?_toArray, List.getElem?_cons_zero, List.getElem?_cons_succ]; rfl) | rfl) (by kernel_rfl) (by kernel_rfl) (by kernel_rfl) (by exact fun _ _ _ h => h) (Or.inl ⟨by rfl, by (intro w hSw; (try dsimp only at hSw); go_simp; try with_reducible rfl)⟩) (by assumption) ?_
  (try dsimp only [Act.put]); (try go_frame)
  refine wpAnyH_take (i := 6) (v := _) (by first | (simp only [List.getElem?_toArray, List.getElem?_cons_zero, List.getElem?_cons_succ]; rfl) | rfl) (by kernel_rfl) (by kernel_rfl) (by kernel_rfl) (by exact fun _ _ _ h => h) (Or.inl ⟨by rfl, by (intro w hSw; (try dsimp only at hSw); go_simp; try with_reducible rfl)⟩) (by assumption) ?_
  (try dsimp only [Act.put]); (try go_frame)
  refine wpAnyH_take (i := 7) (v := _) (by first | (simp only [List.getElem?_toArray, List.getElem?_cons_zero, List.getElem?_cons_succ]; rfl) | rfl) (by kernel_rfl) (by kernel_rfl) (by kernel_rfl) (by exact fun _ _ _ h => h) (Or.inl ⟨by rfl, by (intro w hSw; (try dsimp only at hSw); go_simp; try with_reducible rfl)⟩) (by assumption) ?_
  (try dsimp only [Act.put]); (try go_frame)
  refine wpAnyH_take (i := 8) (v := _) (by first | (simp only [List.getElem?_toArray, List.getElem?_cons_zero, List.getElem?_cons_succ]; rfl) | rfl) (by kernel_rfl) (by kernel_rfl) (by kernel_rfl) (by exact fun _ _ _ h => h) (Or.inl ⟨by rfl, by (intro w hSw; (try dsimp only at hSw); go_simp; try with_reducible rfl)⟩) (by assumption) ?_
  (try dsimp only [Act.put]); (try go_frame)
  refine wpAnyH_take (i := 9) (v := _) (by first | (simp only [List.getElem?_toArray, List.getElem?_cons_zero, List.getElem?_cons_succ]; rfl) | rfl) (by kernel_rfl) (by kernel_rfl) (by kernel_rfl) (by exact fun _ _ _ h => h) (Or.inl ⟨by rfl, by (intro w hSw; (try dsimp only at hSw); go_simp; try with_reducible rfl)⟩) (by assumption) ?_
  (try dsimp only [Act.put]); (try go_frame)
  refine wpAnyH_done (by kernel_rfl) ?_ _
  try simp only [QCut]
  clear hHeld
  go_wp2
  go_returns
  exact ⟨rfl, B0⟩
set_option maxRecDepth 1000000 in
set_option maxHeartbeats 2000000 in
theorem parted_pn (t H R : ByteArray) (n : Nat) (w : World) (hn : n ≤ t.size) (hts : t.size ≤ 1000000) (hH : t.extract 0 n = H) (hR : t.extract n t.size = R)
    (hd : ∀ W, Calls Tryz.prog 75 #[.string t] W fun r w' => r = .returned (.int .i64 (n : Nat)) ∧ W = w')
    (hb : ∀ W, Calls Tryz.prog 76 #[.string H] W fun r w' => r = .returned (.bool true) ∧ W = w')
    (h0 : 0 < R.size) (c : Nat) (hc : (R[0]'h0).toNat = c)
    (h46 : c = 46)
    (S : ByteArray) (hS : R.extract 1 R.size = S) (k : Nat) (hd1 : ∀ W, Calls Tryz.prog 75 #[.string S] W fun r w' => r = .returned (.int .i64 (k : Nat)) ∧ W = w')
    (hk : k ≠ 0) (hkR : 1 + k ≤ R.size) (T Q : ByteArray) (hT : R.extract 1 (1 + k) = T) (hQ : R.extract (1 + k) R.size = Q)
    (g0 : 0 < Q.size) (y : Nat) (hy : (Q[0]'g0).toNat = y)
    (h101 : y ≠ 101) :
    Calls Tryz.prog 41 #[.string t] w fun r w' => r = .returned (.tuple #[.string H, .string T, .string { data := #[48] }, .bool false]) ∧ Below w.heap.size w w' := by
  have B0 := ((Below.refl w.heap.size w).drew.drew)
  have q1 : 0 ≤ (n : Int) := by omega
  have q2 : (n : Int) ≤ t.size := by omega
  have hRs : R.size ≤ 1000000 := by rw [← hR, ByteArray.size_extract]; omega
  have t46 : ((c : Int) == 46) = true := by simp; omega
  have tk : ((k : Int) == 0) = false := by simp; omega
  have e1 : ((1 : Int) + (k : Int)).toNat = 1 + k := by omega
  have q3 : 0 ≤ (1 : Int) + k := by omega
  have q4 : (1 : Int) + k ≤ R.size := by omega
  have q5 : (1 : Int) ≤ 1 + k := by omega
  have W1 : IntKind.i64.wrap ((1 : Int) + k) = 1 + k := IntWalk.i64_in _ (by omega)
  have hQs : Q.size ≤ 1000000 := by rw [← hQ, ByteArray.size_extract]; omega
  have t101 : ((y : Int) == 101) = false := by simp; omega
  have tq : (Q.toList == []) = false := by have := str_cons g0; simpa [List.isEmpty_iff] using this
  clear hn hts
  clear h46
  clear hk
  clear h101
  go_enter Tryz.func41, Tryz.ntmps41
  go_wp2_with fail
  refine (hd _).mono ?_
  rintro r w1 ⟨rfl, rfl⟩
  go_wp2_with fail
  refine wp_region_any (by kernel_rfl) ?_
  have hHeld : (fun _ : World => True) w.drew := trivial
  refine wpAny_of_held (S := fun _ : World => True) _ _ _ _ ?_
  refine wpAnyH_take (i := 0) (v := _) (by first | (simp only [List.getElem?_toArray, List.getElem?_cons_zero]; rfl) | rfl) (by kernel_rfl) (by kernel_rfl) (by kernel_rfl) (by exact fun _ _ _ h => h) (Or.inl ⟨by rfl, by (intro w hSw; (try dsimp only at hSw); go_simp; try with_reducible rfl)⟩) (by assumption) ?_
  (try dsimp only [Act.put]); (try go_frame)
  refine wpAnyH_take (i := 1) (v := _) (by first | (simp only [List.getElem?_toArray, List.getElem?_cons_zero, List.getElem?_cons_succ]; rfl) | rfl) (by kernel_rfl) (by kernel_rfl) (by kernel_rfl) (by exact fun _ _ _ h => h) (Or.inl ⟨by rfl, by (intro w hSw; (try dsimp only at hSw); go_simp; try with_reducible rfl)⟩) (by assumption) ?_
  (try dsimp only [Act.put]); (try go_frame)
  refine wpAnyH_take (i := 2) (v := _) (by first | (simp only [List.getElem?_toArray, List.getElem?_cons_zero, List.getElem?_cons_succ]; rfl) | rfl) (by kernel_rfl) (by kernel_rfl) (by kernel_rfl) (by exact fun _ _ _ h => h) (Or.inl ⟨by rfl, by (intro w hSw; (try dsimp only at hSw); go_simp; try with_reducible rfl)⟩) (by assumption) ?_
  (try dsimp only [Act.put]); (try go_frame)
  refine wpAnyH_take (i := 3) (v := _) (by first | (simp only [List.getElem?_toArray, List.getElem?_cons_zero, List.getElem?_cons_succ]; rfl) | rfl) (by kernel_rfl) (by kernel_rfl) (by kernel_rfl) (by exact fun _ _ _ h => h) (Or.inl ⟨by rfl, by (intro w hSw; (try dsimp only at hSw); go_simp; try with_reducible rfl)⟩) (by assumption) ?_
  (try dsimp only [Act.put]); (try go_frame)
  refine wpAnyH_take (i := 4) (v := _) (by first | (simp only [List.getElem?_toArray, List.getElem?_cons_zero, List.getElem?_cons_succ]; rfl) | rfl) (by kernel_rfl) (by kernel_rfl) (by kernel_rfl) (by exact fun _ _ _ h => h) (Or.inl ⟨by rfl, by (intro w hSw; (try dsimp only at hSw); go_simp; try with_reducible rfl)⟩) (by assumption) ?_
  (try dsimp only [Act.put]); (try go_frame)
  refine wpAnyH_take (i := 5) (v := _) (by first | (simp only [List.getElem?_toArray, List.getElem?_cons_zero, List.getElem?_cons_succ]; rfl) | rfl) (by kernel_rfl) (by kernel_rfl) (by kernel_rfl) (by exact fun _ _ _ h => h) (Or.inl ⟨by rfl, by (intro w hSw; (try dsimp only at hSw); go_simp; try with_reducible rfl)⟩) (by assumption) ?_
  (try dsimp only [Act.put]); (try go_frame)
  refine wpAnyH_take (i := 6) (v := _) (by first | (simp only [List.getElem?_toArray, List.getElem?_cons_zero, List.getElem?_cons_succ]; rfl) | rfl) (by kernel_rfl) (by kernel_rfl) (by kernel_rfl) (by exact fun _ _ _ h => h) (Or.inl ⟨by rfl, by (intro w hSw; (try dsimp only at hSw); go_simp; try with_reducible rfl)⟩) (by assumption) ?_
  (try dsimp only [Act.put]); (try go_frame)
  refine wpAnyH_take (i := 7) (v := _) (by first | (simp only [List.getElem?_toArray, List.getElem?_cons_zero, List.getElem?_cons_succ]; rfl) | rfl) (by kernel_rfl) (by kernel_rfl) (by kernel_rfl) (by exact fun _ _ _ h => h) (Or.inl ⟨by rfl, by (intro w hSw; (try dsimp only at hSw); go_simp; try with_reducible rfl)⟩) (by assumption) ?_
  (try dsimp only [Act.put]); (try go_frame)
  refine wpAnyH_done (by kernel_rfl) ?_ _
  try simp only [QCut]
  clear hHeld
  go_wp2_with fail
  refine (hb _).mono ?_
  rintro r w1 ⟨rfl, rfl⟩
  go_wp2_with fail
  refine (hd1 _).mono ?_
  rintro r w1 ⟨rfl, rfl⟩
  go_wp2_with fail
  refine wp_region_any (by kernel_rfl) ?_
  have hHeld : (fun _ : World => True) w.drew.drew := trivial
  refine wpAny_of_held (S := fun _ : World => True) _ _ _ _ ?_
  refine wpAnyH_take (i := 0) (v := _) (by first | (simp only [List.getElem?_toArray, List.getElem?_cons_zero]; rfl) | rfl) (by kernel_rfl) (by kernel_rfl) (by kernel_rfl) (by exact fun _ _ _ h => h) (Or.inl ⟨by rfl, by (intro w hSw; (try dsimp only at hSw); go_simp; try with_reducible rfl)⟩) (by assumption) ?_
  (try dsimp only [Act.put]); (try go_frame)
  refine wpAnyH_take (i := 1) (v := _) (by first | (simp only [List.getElem?_toArray, List.getElem?_cons_zero, List.getElem?_cons_succ]; rfl) | rfl) (by kernel_rfl) (by kernel_rfl) (by kernel_rfl) (by exact fun _ _ _ h => h) (Or.inl ⟨by rfl, by (intro w hSw; (try dsimp only at hSw); go_simp; try with_reducible rfl)⟩) (by assumption) ?_
  (try dsimp only [Act.put]); (try go_frame)
  refine wpAnyH_take (i := 2) (v := _) (by first | (simp only [List.getElem?_toArray, List.getElem?_cons_zero, List.getElem?_cons_succ]; rfl) | rfl) (by kernel_rfl) (by kernel_rfl) (by kernel_rfl) (by exact fun _ _ _ h => h) (Or.inl ⟨by rfl, by (intro w hSw; (try dsimp only at hSw); go_simp; try with_reducible rfl)⟩) (by assumption) ?_
  (try dsimp only [Act.put]); (try go_frame)
  refine wpAnyH_take (i := 3) (v := _) (by first | (simp only [List.getElem?_toArray, List.getElem?_cons_zero, List.getElem?_cons_succ]; rfl) | rfl) (by kernel_rfl) (by kernel_rfl) (by kernel_rfl) (by exact fun _ _ _ h => h) (Or.inl ⟨by rfl, by (intro w hSw; (try dsimp only at hSw); go_simp; try with_reducible rfl)⟩) (by assumption) ?_
  (try dsimp only [Act.put]); (try go_frame)
  refine wpAnyH_take (i := 4) (v := _) (by first | (simp only [List.getElem?_toArray, List.getElem?_cons_zero, List.getElem?_cons_succ]; rfl) | rfl) (by kernel_rfl) (by kernel_rfl) (by kernel_rfl) (by exact fun _ _ _ h => h) (Or.inl ⟨by rfl, by (intro w hSw; (try dsimp only at hSw); go_simp; try with_reducible rfl)⟩) (by assumption) ?_
  (try dsimp only [Act.put]); (try go_frame)
  refine wpAnyH_take (i := 5) (v := _) (by first | (simp only [List.getElem?_toArray, List.getElem?_cons_zero, List.getElem?_cons_succ]; rfl) | rfl) (by kernel_rfl) (by kernel_rfl) (by kernel_rfl) (by exact fun _ _ _ h => h) (Or.inl ⟨by rfl, by (intro w hSw; (try dsimp only at hSw); go_simp; try with_reducible rfl)⟩) (by assumption) ?_
  (try dsimp only [Act.put]); (try go_frame)
  refine wpAnyH_take (i := 6) (v := _) (by first | (simp only [List.getElem?_toArray, List.getElem?_cons_zero, List.getElem?_cons_succ]; rfl) | rfl) (by kernel_rfl) (by kernel_rfl) (by kernel_rfl) (by exact fun _ _ _ h => h) (Or.inl ⟨by rfl, by (intro w hSw; (try dsimp only at hSw); go_simp; try with_reducible rfl)⟩) (by assumption) ?_
  (try dsimp only [Act.put]); (try go_frame)
  refine wpAnyH_take (i := 7) (v := _) (by first | (simp only [List.getElem?_toArray, List.getElem?_cons_zero, List.getElem?_cons_succ]; rfl) | rfl) (by kernel_rfl) (by kernel_rfl) (by kernel_rfl) (by exact fun _ _ _ h => h) (Or.inl ⟨by rfl, by (intro w hSw; (try dsimp only at hSw); go_simp; try with_reducible rfl)⟩) (by assumption) ?_
  (try dsimp only [Act.put]); (try go_frame)
  refine wpAnyH_take (i := 8) (v := _) (by first | (simp only [List.getElem?_toArray, List.getElem?_cons_zero, List.getElem?_cons_succ]; rfl) | rfl) (by kernel_rfl) (by kernel_rfl) (by kernel_rfl) (by exact fun _ _ _ h => h) (Or.inl ⟨by rfl, by (intro w hSw; (try dsimp only at hSw); go_simp; try with_reducible rfl)⟩) (by assumption) ?_
  (try dsimp only [Act.put]); (try go_frame)
  refine wpAnyH_take (i := 9) (v := _) (by first | (simp only [List.getElem?_toArray, List.getElem?_cons_zero, List.getElem?_cons_succ]; rfl) | rfl) (by kernel_rfl) (by kernel_rfl) (by kernel_rfl) (by exact fun _ _ _ h => h) (Or.inl ⟨by rfl, by (intro w hSw; (try dsimp only at hSw); go_simp; try with_reducible rfl)⟩) (by assumption) ?_
  (try dsimp only [Act.put]); (try go_frame)
  refine wpAnyH_done (by kernel_rfl) ?_ _
  try simp only [QCut]
  clear hHeld
  go_wp2
  go_returns
  exact ⟨rfl, B0⟩
set_option maxRecDepth 1000000 in
set_option maxHeartbeats 2000000 in
theorem parted_pxe (t H R : ByteArray) (n : Nat) (w : World) (hn : n ≤ t.size) (hts : t.size ≤ 1000000) (hH : t.extract 0 n = H) (hR : t.extract n t.size = R)
    (hd : ∀ W, Calls Tryz.prog 75 #[.string t] W fun r w' => r = .returned (.int .i64 (n : Nat)) ∧ W = w')
    (hb : ∀ W, Calls Tryz.prog 76 #[.string H] W fun r w' => r = .returned (.bool true) ∧ W = w')
    (h0 : 0 < R.size) (c : Nat) (hc : (R[0]'h0).toNat = c)
    (h46 : c = 46)
    (S : ByteArray) (hS : R.extract 1 R.size = S) (k : Nat) (hd1 : ∀ W, Calls Tryz.prog 75 #[.string S] W fun r w' => r = .returned (.int .i64 (k : Nat)) ∧ W = w')
    (hk : k ≠ 0) (hkR : 1 + k ≤ R.size) (T Q : ByteArray) (hT : R.extract 1 (1 + k) = T) (hQ : R.extract (1 + k) R.size = Q)
    (g0 : 0 < Q.size) (y : Nat) (hy : (Q[0]'g0).toNat = y)
    (h101 : y = 101)
    (P : ByteArray) (hP : Q.extract 1 Q.size = P)
    (hP0 : P = ⟨#[]⟩)
    (hg : ∀ W, Calls Tryz.prog 76 #[.string ⟨#[]⟩] W fun r w' => r = .returned (.bool false) ∧ W = w') :
    Calls Tryz.prog 41 #[.string t] w fun r w' => r = .returned (.tuple #[.string { data := #[] }, .string { data := #[] }, .string { data := #[] }, .bool false]) ∧ Below w.heap.size w w' := by
  have B0 := ((Below.refl w.heap.size w).drew.drew)
  have q1 : 0 ≤ (n : Int) := by omega
  have q2 : (n : Int) ≤ t.size := by omega
  have hRs : R.size ≤ 1000000 := by rw [← hR, ByteArray.size_extract]; omega
  have t46 : ((c : Int) == 46) = true := by simp; omega
  have tk : ((k : Int) == 0) = false := by simp; omega
  have e1 : ((1 : Int) + (k : Int)).toNat = 1 + k := by omega
  have q3 : 0 ≤ (1 : Int) + k := by omega
  have q4 : (1 : Int) + k ≤ R.size := by omega
  have q5 : (1 : Int) ≤ 1 + k := by omega
  have W1 : IntKind.i64.wrap ((1 : Int) + k) = 1 + k := IntWalk.i64_in _ (by omega)
  have hQs : Q.size ≤ 1000000 := by rw [← hQ, ByteArray.size_extract]; omega
  have t101 : ((y : Int) == 101) = true := by simp; omega
  have hPs : P.size ≤ 1000000 := by rw [← hP, ByteArray.size_extract]; omega
  clear hn hts
  clear h46
  clear hk
  clear h101
  subst hP0
  go_enter Tryz.func41, Tryz.ntmps41
  go_wp2_with fail
  refine (hd _).mono ?_
  rintro r w1 ⟨rfl, rfl⟩
  go_wp2_with fail
  refine wp_region_any (by kernel_rfl) ?_
  have hHeld : (fun _ : World => True) w.drew := trivial
  refine wpAny_of_held (S := fun _ : World => True) _ _ _ _ ?_
  refine wpAnyH_take (i := 0) (v := _) (by first | (simp only [List.getElem?_toArray, List.getElem?_cons_zero]; rfl) | rfl) (by kernel_rfl) (by kernel_rfl) (by kernel_rfl) (by exact fun _ _ _ h => h) (Or.inl ⟨by rfl, by (intro w hSw; (try dsimp only at hSw); go_simp; try with_reducible rfl)⟩) (by assumption) ?_
  (try dsimp only [Act.put]); (try go_frame)
  refine wpAnyH_take (i := 1) (v := _) (by first | (simp only [List.getElem?_toArray, List.getElem?_cons_zero, List.getElem?_cons_succ]; rfl) | rfl) (by kernel_rfl) (by kernel_rfl) (by kernel_rfl) (by exact fun _ _ _ h => h) (Or.inl ⟨by rfl, by (intro w hSw; (try dsimp only at hSw); go_simp; try with_reducible rfl)⟩) (by assumption) ?_
  (try dsimp only [Act.put]); (try go_frame)
  refine wpAnyH_take (i := 2) (v := _) (by first | (simp only [List.getElem?_toArray, List.getElem?_cons_zero, List.getElem?_cons_succ]; rfl) | rfl) (by kernel_rfl) (by kernel_rfl) (by kernel_rfl) (by exact fun _ _ _ h => h) (Or.inl ⟨by rfl, by (intro w hSw; (try dsimp only at hSw); go_simp; try with_reducible rfl)⟩) (by assumption) ?_
  (try dsimp only [Act.put]); (try go_frame)
  refine wpAnyH_take (i := 3) (v := _) (by first | (simp only [List.getElem?_toArray, List.getElem?_cons_zero, List.getElem?_cons_succ]; rfl) | rfl) (by kernel_rfl) (by kernel_rfl) (by kernel_rfl) (by exact fun _ _ _ h => h) (Or.inl ⟨by rfl, by (intro w hSw; (try dsimp only at hSw); go_simp; try with_reducible rfl)⟩) (by assumption) ?_
  (try dsimp only [Act.put]); (try go_frame)
  refine wpAnyH_take (i := 4) (v := _) (by first | (simp only [List.getElem?_toArray, List.getElem?_cons_zero, List.getElem?_cons_succ]; rfl) | rfl) (by kernel_rfl) (by kernel_rfl) (by kernel_rfl) (by exact fun _ _ _ h => h) (Or.inl ⟨by rfl, by (intro w hSw; (try dsimp only at hSw); go_simp; try with_reducible rfl)⟩) (by assumption) ?_
  (try dsimp only [Act.put]); (try go_frame)
  refine wpAnyH_take (i := 5) (v := _) (by first | (simp only [List.getElem?_toArray, List.getElem?_cons_zero, List.getElem?_cons_succ]; rfl) | rfl) (by kernel_rfl) (by kernel_rfl) (by kernel_rfl) (by exact fun _ _ _ h => h) (Or.inl ⟨by rfl, by (intro w hSw; (try dsimp only at hSw); go_simp; try with_reducible rfl)⟩) (by assumption) ?_
  (try dsimp only [Act.put]); (try go_frame)
  refine wpAnyH_take (i := 6) (v := _) (by first | (simp only [List.getElem?_toArray, List.getElem?_cons_zero, List.getElem?_cons_succ]; rfl) | rfl) (by kernel_rfl) (by kernel_rfl) (by kernel_rfl) (by exact fun _ _ _ h => h) (Or.inl ⟨by rfl, by (intro w hSw; (try dsimp only at hSw); go_simp; try with_reducible rfl)⟩) (by assumption) ?_
  (try dsimp only [Act.put]); (try go_frame)
  refine wpAnyH_take (i := 7) (v := _) (by first | (simp only [List.getElem?_toArray, List.getElem?_cons_zero, List.getElem?_cons_succ]; rfl) | rfl) (by kernel_rfl) (by kernel_rfl) (by kernel_rfl) (by exact fun _ _ _ h => h) (Or.inl ⟨by rfl, by (intro w hSw; (try dsimp only at hSw); go_simp; try with_reducible rfl)⟩) (by assumption) ?_
  (try dsimp only [Act.put]); (try go_frame)
  refine wpAnyH_done (by kernel_rfl) ?_ _
  try simp only [QCut]
  clear hHeld
  go_wp2_with fail
  refine (hb _).mono ?_
  rintro r w1 ⟨rfl, rfl⟩
  go_wp2_with fail
  refine (hd1 _).mono ?_
  rintro r w1 ⟨rfl, rfl⟩
  go_wp2_with fail
  refine wp_region_any (by kernel_rfl) ?_
  have hHeld : (fun _ : World => True) w.drew.drew := trivial
  refine wpAny_of_held (S := fun _ : World => True) _ _ _ _ ?_
  refine wpAnyH_take (i := 0) (v := _) (by first | (simp only [List.getElem?_toArray, List.getElem?_cons_zero]; rfl) | rfl) (by kernel_rfl) (by kernel_rfl) (by kernel_rfl) (by exact fun _ _ _ h => h) (Or.inl ⟨by rfl, by (intro w hSw; (try dsimp only at hSw); go_simp; try with_reducible rfl)⟩) (by assumption) ?_
  (try dsimp only [Act.put]); (try go_frame)
  refine wpAnyH_take (i := 1) (v := _) (by first | (simp only [List.getElem?_toArray, List.getElem?_cons_zero, List.getElem?_cons_succ]; rfl) | rfl) (by kernel_rfl) (by kernel_rfl) (by kernel_rfl) (by exact fun _ _ _ h => h) (Or.inl ⟨by rfl, by (intro w hSw; (try dsimp only at hSw); go_simp; try with_reducible rfl)⟩) (by assumption) ?_
  (try dsimp only [Act.put]); (try go_frame)
  refine wpAnyH_take (i := 2) (v := _) (by first | (simp only [List.getElem?_toArray, List.getElem?_cons_zero, List.getElem?_cons_succ]; rfl) | rfl) (by kernel_rfl) (by kernel_rfl) (by kernel_rfl) (by exact fun _ _ _ h => h) (Or.inl ⟨by rfl, by (intro w hSw; (try dsimp only at hSw); go_simp; try with_reducible rfl)⟩) (by assumption) ?_
  (try dsimp only [Act.put]); (try go_frame)
  refine wpAnyH_take (i := 3) (v := _) (by first | (simp only [List.getElem?_toArray, List.getElem?_cons_zero, List.getElem?_cons_succ]; rfl) | rfl) (by kernel_rfl) (by kernel_rfl) (by kernel_rfl) (by exact fun _ _ _ h => h) (Or.inl ⟨by rfl, by (intro w hSw; (try dsimp only at hSw); go_simp; try with_reducible rfl)⟩) (by assumption) ?_
  (try dsimp only [Act.put]); (try go_frame)
  refine wpAnyH_take (i := 4) (v := _) (by first | (simp only [List.getElem?_toArray, List.getElem?_cons_zero, List.getElem?_cons_succ]; rfl) | rfl) (by kernel_rfl) (by kernel_rfl) (by kernel_rfl) (by exact fun _ _ _ h => h) (Or.inl ⟨by rfl, by (intro w hSw; (try dsimp only at hSw); go_simp; try with_reducible rfl)⟩) (by assumption) ?_
  (try dsimp only [Act.put]); (try go_frame)
  refine wpAnyH_take (i := 5) (v := _) (by first | (simp only [List.getElem?_toArray, List.getElem?_cons_zero, List.getElem?_cons_succ]; rfl) | rfl) (by kernel_rfl) (by kernel_rfl) (by kernel_rfl) (by exact fun _ _ _ h => h) (Or.inl ⟨by rfl, by (intro w hSw; (try dsimp only at hSw); go_simp; try with_reducible rfl)⟩) (by assumption) ?_
  (try dsimp only [Act.put]); (try go_frame)
  refine wpAnyH_take (i := 6) (v := _) (by first | (simp only [List.getElem?_toArray, List.getElem?_cons_zero, List.getElem?_cons_succ]; rfl) | rfl) (by kernel_rfl) (by kernel_rfl) (by kernel_rfl) (by exact fun _ _ _ h => h) (Or.inl ⟨by rfl, by (intro w hSw; (try dsimp only at hSw); go_simp; try with_reducible rfl)⟩) (by assumption) ?_
  (try dsimp only [Act.put]); (try go_frame)
  refine wpAnyH_take (i := 7) (v := _) (by first | (simp only [List.getElem?_toArray, List.getElem?_cons_zero, List.getElem?_cons_succ]; rfl) | rfl) (by kernel_rfl) (by kernel_rfl) (by kernel_rfl) (by exact fun _ _ _ h => h) (Or.inl ⟨by rfl, by (intro w hSw; (try dsimp only at hSw); go_simp; try with_reducible rfl)⟩) (by assumption) ?_
  (try dsimp only [Act.put]); (try go_frame)
  refine wpAnyH_take (i := 8) (v := _) (by first | (simp only [List.getElem?_toArray, List.getElem?_cons_zero, List.getElem?_cons_succ]; rfl) | rfl) (by kernel_rfl) (by kernel_rfl) (by kernel_rfl) (by exact fun _ _ _ h => h) (Or.inl ⟨by rfl, by (intro w hSw; (try dsimp only at hSw); go_simp; try with_reducible rfl)⟩) (by assumption) ?_
  (try dsimp only [Act.put]); (try go_frame)
  refine wpAnyH_take (i := 9) (v := _) (by first | (simp only [List.getElem?_toArray, List.getElem?_cons_zero, List.getElem?_cons_succ]; rfl) | rfl) (by kernel_rfl) (by kernel_rfl) (by kernel_rfl) (by exact fun _ _ _ h => h) (Or.inl ⟨by rfl, by (intro w hSw; (try dsimp only at hSw); go_simp; try with_reducible rfl)⟩) (by assumption) ?_
  (try dsimp only [Act.put]); (try go_frame)
  refine wpAnyH_done (by kernel_rfl) ?_ _
  try simp only [QCut]
  clear hHeld
  go_wp2_with fail
  refine (hg _).mono ?_
  rintro r w1 ⟨rfl, rfl⟩
  go_wp2
  go_returns
  exact ⟨rfl, B0⟩
set_option maxRecDepth 1000000 in
set_option maxHeartbeats 2000000 in
theorem parted_pxpf (t H R : ByteArray) (n : Nat) (w : World) (hn : n ≤ t.size) (hts : t.size ≤ 1000000) (hH : t.extract 0 n = H) (hR : t.extract n t.size = R)
    (hd : ∀ W, Calls Tryz.prog 75 #[.string t] W fun r w' => r = .returned (.int .i64 (n : Nat)) ∧ W = w')
    (hb : ∀ W, Calls Tryz.prog 76 #[.string H] W fun r w' => r = .returned (.bool true) ∧ W = w')
    (h0 : 0 < R.size) (c : Nat) (hc : (R[0]'h0).toNat = c)
    (h46 : c = 46)
    (S : ByteArray) (hS : R.extract 1 R.size = S) (k : Nat) (hd1 : ∀ W, Calls Tryz.prog 75 #[.string S] W fun r w' => r = .returned (.int .i64 (k : Nat)) ∧ W = w')
    (hk : k ≠ 0) (hkR : 1 + k ≤ R.size) (T Q : ByteArray) (hT : R.extract 1 (1 + k) = T) (hQ : R.extract (1 + k) R.size = Q)
    (g0 : 0 < Q.size) (y : Nat) (hy : (Q[0]'g0).toNat = y)
    (h101 : y = 101)
    (P : ByteArray) (hP : Q.extract 1 Q.size = P)
    (f0 : 0 < P.size) (f : Nat) (hf : (P[0]'f0).toNat = f)
    (h45 : f ≠ 45) (hg : ∀ W, Calls Tryz.prog 76 #[.string P] W fun r w' => r = .returned (.bool false) ∧ W = w') :
    Calls Tryz.prog 41 #[.string t] w fun r w' => r = .returned (.tuple #[.string { data := #[] }, .string { data := #[] }, .string { data := #[] }, .bool false]) ∧ Below w.heap.size w w' := by
  have B0 := ((Below.refl w.heap.size w).drew.drew)
  have q1 : 0 ≤ (n : Int) := by omega
  have q2 : (n : Int) ≤ t.size := by omega
  have hRs : R.size ≤ 1000000 := by rw [← hR, ByteArray.size_extract]; omega
  have t46 : ((c : Int) == 46) = true := by simp; omega
  have tk : ((k : Int) == 0) = false := by simp; omega
  have e1 : ((1 : Int) + (k : Int)).toNat = 1 + k := by omega
  have q3 : 0 ≤ (1 : Int) + k := by omega
  have q4 : (1 : Int) + k ≤ R.size := by omega
  have q5 : (1 : Int) ≤ 1 + k := by omega
  have W1 : IntKind.i64.wrap ((1 : Int) + k) = 1 + k := IntWalk.i64_in _ (by omega)
  have hQs : Q.size ≤ 1000000 := by rw [← hQ, ByteArray.size_extract]; omega
  have t101 : ((y : Int) == 101) = true := by simp; omega
  have hPs : P.size ≤ 1000000 := by rw [← hP, ByteArray.size_extract]; omega
  have t45 : ((f : Int) == 45) = false := by simp; omega
  clear hn hts
  clear h46
  clear hk
  clear h101
  clear h45
  go_enter Tryz.func41, Tryz.ntmps41
  go_wp2_with fail
  refine (hd _).mono ?_
  rintro r w1 ⟨rfl, rfl⟩
  go_wp2_with fail
  refine wp_region_any (by kernel_rfl) ?_
  have hHeld : (fun _ : World => True) w.drew := trivial
  refine wpAny_of_held (S := fun _ : World => True) _ _ _ _ ?_
  refine wpAnyH_take (i := 0) (v := _) (by first | (simp only [List.getElem?_toArray, List.getElem?_cons_zero]; rfl) | rfl) (by kernel_rfl) (by kernel_rfl) (by kernel_rfl) (by exact fun _ _ _ h => h) (Or.inl ⟨by rfl, by (intro w hSw; (try dsimp only at hSw); go_simp; try with_reducible rfl)⟩) (by assumption) ?_
  (try dsimp only [Act.put]); (try go_frame)
  refine wpAnyH_take (i := 1) (v := _) (by first | (simp only [List.getElem?_toArray, List.getElem?_cons_zero, List.getElem?_cons_succ]; rfl) | rfl) (by kernel_rfl) (by kernel_rfl) (by kernel_rfl) (by exact fun _ _ _ h => h) (Or.inl ⟨by rfl, by (intro w hSw; (try dsimp only at hSw); go_simp; try with_reducible rfl)⟩) (by assumption) ?_
  (try dsimp only [Act.put]); (try go_frame)
  refine wpAnyH_take (i := 2) (v := _) (by first | (simp only [List.getElem?_toArray, List.getElem?_cons_zero, List.getElem?_cons_succ]; rfl) | rfl) (by kernel_rfl) (by kernel_rfl) (by kernel_rfl) (by exact fun _ _ _ h => h) (Or.inl ⟨by rfl, by (intro w hSw; (try dsimp only at hSw); go_simp; try with_reducible rfl)⟩) (by assumption) ?_
  (try dsimp only [Act.put]); (try go_frame)
  refine wpAnyH_take (i := 3) (v := _) (by first | (simp only [List.getElem?_toArray, List.getElem?_cons_zero, List.getElem?_cons_succ]; rfl) | rfl) (by kernel_rfl) (by kernel_rfl) (by kernel_rfl) (by exact fun _ _ _ h => h) (Or.inl ⟨by rfl, by (intro w hSw; (try dsimp only at hSw); go_simp; try with_reducible rfl)⟩) (by assumption) ?_
  (try dsimp only [Act.put]); (try go_frame)
  refine wpAnyH_take (i := 4) (v := _) (by first | (simp only [List.getElem?_toArray, List.getElem?_cons_zero, List.getElem?_cons_succ]; rfl) | rfl) (by kernel_rfl) (by kernel_rfl) (by kernel_rfl) (by exact fun _ _ _ h => h) (Or.inl ⟨by rfl, by (intro w hSw; (try dsimp only at hSw); go_simp; try with_reducible rfl)⟩) (by assumption) ?_
  (try dsimp only [Act.put]); (try go_frame)
  refine wpAnyH_take (i := 5) (v := _) (by first | (simp only [List.getElem?_toArray, List.getElem?_cons_zero, List.getElem?_cons_succ]; rfl) | rfl) (by kernel_rfl) (by kernel_rfl) (by kernel_rfl) (by exact fun _ _ _ h => h) (Or.inl ⟨by rfl, by (intro w hSw; (try dsimp only at hSw); go_simp; try with_reducible rfl)⟩) (by assumption) ?_
  (try dsimp only [Act.put]); (try go_frame)
  refine wpAnyH_take (i := 6) (v := _) (by first | (simp only [List.getElem?_toArray, List.getElem?_cons_zero, List.getElem?_cons_succ]; rfl) | rfl) (by kernel_rfl) (by kernel_rfl) (by kernel_rfl) (by exact fun _ _ _ h => h) (Or.inl ⟨by rfl, by (intro w hSw; (try dsimp only at hSw); go_simp; try with_reducible rfl)⟩) (by assumption) ?_
  (try dsimp only [Act.put]); (try go_frame)
  refine wpAnyH_take (i := 7) (v := _) (by first | (simp only [List.getElem?_toArray, List.getElem?_cons_zero, List.getElem?_cons_succ]; rfl) | rfl) (by kernel_rfl) (by kernel_rfl) (by kernel_rfl) (by exact fun _ _ _ h => h) (Or.inl ⟨by rfl, by (intro w hSw; (try dsimp only at hSw); go_simp; try with_reducible rfl)⟩) (by assumption) ?_
  (try dsimp only [Act.put]); (try go_frame)
  refine wpAnyH_done (by kernel_rfl) ?_ _
  try simp only [QCut]
  clear hHeld
  go_wp2_with fail
  refine (hb _).mono ?_
  rintro r w1 ⟨rfl, rfl⟩
  go_wp2_with fail
  refine (hd1 _).mono ?_
  rintro r w1 ⟨rfl, rfl⟩
  go_wp2_with fail
  refine wp_region_any (by kernel_rfl) ?_
  have hHeld : (fun _ : World => True) w.drew.drew := trivial
  refine wpAny_of_held (S := fun _ : World => True) _ _ _ _ ?_
  refine wpAnyH_take (i := 0) (v := _) (by first | (simp only [List.getElem?_toArray, List.getElem?_cons_zero]; rfl) | rfl) (by kernel_rfl) (by kernel_rfl) (by kernel_rfl) (by exact fun _ _ _ h => h) (Or.inl ⟨by rfl, by (intro w hSw; (try dsimp only at hSw); go_simp; try with_reducible rfl)⟩) (by assumption) ?_
  (try dsimp only [Act.put]); (try go_frame)
  refine wpAnyH_take (i := 1) (v := _) (by first | (simp only [List.getElem?_toArray, List.getElem?_cons_zero, List.getElem?_cons_succ]; rfl) | rfl) (by kernel_rfl) (by kernel_rfl) (by kernel_rfl) (by exact fun _ _ _ h => h) (Or.inl ⟨by rfl, by (intro w hSw; (try dsimp only at hSw); go_simp; try with_reducible rfl)⟩) (by assumption) ?_
  (try dsimp only [Act.put]); (try go_frame)
  refine wpAnyH_take (i := 2) (v := _) (by first | (simp only [List.getElem?_toArray, List.getElem?_cons_zero, List.getElem?_cons_succ]; rfl) | rfl) (by kernel_rfl) (by kernel_rfl) (by kernel_rfl) (by exact fun _ _ _ h => h) (Or.inl ⟨by rfl, by (intro w hSw; (try dsimp only at hSw); go_simp; try with_reducible rfl)⟩) (by assumption) ?_
  (try dsimp only [Act.put]); (try go_frame)
  refine wpAnyH_take (i := 3) (v := _) (by first | (simp only [List.getElem?_toArray, List.getElem?_cons_zero, List.getElem?_cons_succ]; rfl) | rfl) (by kernel_rfl) (by kernel_rfl) (by kernel_rfl) (by exact fun _ _ _ h => h) (Or.inl ⟨by rfl, by (intro w hSw; (try dsimp only at hSw); go_simp; try with_reducible rfl)⟩) (by assumption) ?_
  (try dsimp only [Act.put]); (try go_frame)
  refine wpAnyH_take (i := 4) (v := _) (by first | (simp only [List.getElem?_toArray, List.getElem?_cons_zero, List.getElem?_cons_succ]; rfl) | rfl) (by kernel_rfl) (by kernel_rfl) (by kernel_rfl) (by exact fun _ _ _ h => h) (Or.inl ⟨by rfl, by (intro w hSw; (try dsimp only at hSw); go_simp; try with_reducible rfl)⟩) (by assumption) ?_
  (try dsimp only [Act.put]); (try go_frame)
  refine wpAnyH_take (i := 5) (v := _) (by first | (simp only [List.getElem?_toArray, List.getElem?_cons_zero, List.getElem?_cons_succ]; rfl) | rfl) (by kernel_rfl) (by kernel_rfl) (by kernel_rfl) (by exact fun _ _ _ h => h) (Or.inl ⟨by rfl, by (intro w hSw; (try dsimp only at hSw); go_simp; try with_reducible rfl)⟩) (by assumption) ?_
  (try dsimp only [Act.put]); (try go_frame)
  refine wpAnyH_take (i := 6) (v := _) (by first | (simp only [List.getElem?_toArray, List.getElem?_cons_zero, List.getElem?_cons_succ]; rfl) | rfl) (by kernel_rfl) (by kernel_rfl) (by kernel_rfl) (by exact fun _ _ _ h => h) (Or.inl ⟨by rfl, by (intro w hSw; (try dsimp only at hSw); go_simp; try with_reducible rfl)⟩) (by assumption) ?_
  (try dsimp only [Act.put]); (try go_frame)
  refine wpAnyH_take (i := 7) (v := _) (by first | (simp only [List.getElem?_toArray, List.getElem?_cons_zero, List.getElem?_cons_succ]; rfl) | rfl) (by kernel_rfl) (by kernel_rfl) (by kernel_rfl) (by exact fun _ _ _ h => h) (Or.inl ⟨by rfl, by (intro w hSw; (try dsimp only at hSw); go_simp; try with_reducible rfl)⟩) (by assumption) ?_
  (try dsimp only [Act.put]); (try go_frame)
  refine wpAnyH_take (i := 8) (v := _) (by first | (simp only [List.getElem?_toArray, List.getElem?_cons_zero, List.getElem?_cons_succ]; rfl) | rfl) (by kernel_rfl) (by kernel_rfl) (by kernel_rfl) (by exact fun _ _ _ h => h) (Or.inl ⟨by rfl, by (intro w hSw; (try dsimp only at hSw); go_simp; try with_reducible rfl)⟩) (by assumption) ?_
  (try dsimp only [Act.put]); (try go_frame)
  refine wpAnyH_take (i := 9) (v := _) (by first | (simp only [List.getElem?_toArray, List.getElem?_cons_zero, List.getElem?_cons_succ]; rfl) | rfl) (by kernel_rfl) (by kernel_rfl) (by kernel_rfl) (by exact fun _ _ _ h => h) (Or.inl ⟨by rfl, by (intro w hSw; (try dsimp only at hSw); go_simp; try with_reducible rfl)⟩) (by assumption) ?_
  (try dsimp only [Act.put]); (try go_frame)
  refine wpAnyH_done (by kernel_rfl) ?_ _
  try simp only [QCut]
  clear hHeld
  go_wp2_with fail
  refine (hg _).mono ?_
  rintro r w1 ⟨rfl, rfl⟩
  go_wp2
  go_returns
  exact ⟨rfl, B0⟩
set_option maxRecDepth 1000000 in
set_option maxHeartbeats 2000000 in
theorem parted_pxpt (t H R : ByteArray) (n : Nat) (w : World) (hn : n ≤ t.size) (hts : t.size ≤ 1000000) (hH : t.extract 0 n = H) (hR : t.extract n t.size = R)
    (hd : ∀ W, Calls Tryz.prog 75 #[.string t] W fun r w' => r = .returned (.int .i64 (n : Nat)) ∧ W = w')
    (hb : ∀ W, Calls Tryz.prog 76 #[.string H] W fun r w' => r = .returned (.bool true) ∧ W = w')
    (h0 : 0 < R.size) (c : Nat) (hc : (R[0]'h0).toNat = c)
    (h46 : c = 46)
    (S : ByteArray) (hS : R.extract 1 R.size = S) (k : Nat) (hd1 : ∀ W, Calls Tryz.prog 75 #[.string S] W fun r w' => r = .returned (.int .i64 (k : Nat)) ∧ W = w')
    (hk : k ≠ 0) (hkR : 1 + k ≤ R.size) (T Q : ByteArray) (hT : R.extract 1 (1 + k) = T) (hQ : R.extract (1 + k) R.size = Q)
    (g0 : 0 < Q.size) (y : Nat) (hy : (Q[0]'g0).toNat = y)
    (h101 : y = 101)
    (P : ByteArray) (hP : Q.extract 1 Q.size = P)
    (f0 : 0 < P.size) (f : Nat) (hf : (P[0]'f0).toNat = f)
    (h45 : f ≠ 45) (hg : ∀ W, Calls Tryz.prog 76 #[.string P] W fun r w' => r = .returned (.bool true) ∧ W = w')
    (hz : (P.toList == [45, 48]) = false) :
    Calls Tryz.prog 41 #[.string t] w fun r w' => r = .returned (.tuple #[.string H, .string T, .string P, .bool true]) ∧ Below w.heap.size w w' := by
  have B0 := ((Below.refl w.heap.size w).drew.drew)
  have q1 : 0 ≤ (n : Int) := by omega
  have q2 : (n : Int) ≤ t.size := by omega
  have hRs : R.size ≤ 1000000 := by rw [← hR, ByteArray.size_extract]; omega
  have t46 : ((c : Int) == 46) = true := by simp; omega
  have tk : ((k : Int) == 0) = false := by simp; omega
  have e1 : ((1 : Int) + (k : Int)).toNat = 1 + k := by omega
  have q3 : 0 ≤ (1 : Int) + k := by omega
  have q4 : (1 : Int) + k ≤ R.size := by omega
  have q5 : (1 : Int) ≤ 1 + k := by omega
  have W1 : IntKind.i64.wrap ((1 : Int) + k) = 1 + k := IntWalk.i64_in _ (by omega)
  have hQs : Q.size ≤ 1000000 := by rw [← hQ, ByteArray.size_extract]; omega
  have t101 : ((y : Int) == 101) = true := by simp; omega
  have hPs : P.size ≤ 1000000 := by rw [← hP, ByteArray.size_extract]; omega
  have t45 : ((f : Int) == 45) = false := by simp; omega
  clear hn hts
  clear h46
  clear hk
  clear h101
  clear h45
  go_enter Tryz.func41, Tryz.ntmps41
  go_wp2_with fail
  refine (hd _).mono ?_
  rintro r w1 ⟨rfl, rfl⟩
  go_wp2_with fail
  refine wp_region_any (by kernel_rfl) ?_
  have hHeld : (fun _ : World => True) w.drew := trivial
  refine wpAny_of_held (S := fun _ : World => True) _ _ _ _ ?_
  refine wpAnyH_take (i := 0) (v := _) (by first | (simp only [List.getElem?_toArray, List.getElem?_cons_zero]; rfl) | rfl) (by kernel_rfl) (by kernel_rfl) (by kernel_rfl) (by exact fun _ _ _ h => h) (Or.inl ⟨by rfl, by (intro w hSw; (try dsimp only at hSw); go_simp; try with_reducible rfl)⟩) (by assumption) ?_
  (try dsimp only [Act.put]); (try go_frame)
  refine wpAnyH_take (i := 1) (v := _) (by first | (simp only [List.getElem?_toArray, List.getElem?_cons_zero, List.getElem?_cons_succ]; rfl) | rfl) (by kernel_rfl) (by kernel_rfl) (by kernel_rfl) (by exact fun _ _ _ h => h) (Or.inl ⟨by rfl, by (intro w hSw; (try dsimp only at hSw); go_simp; try with_reducible rfl)⟩) (by assumption) ?_
  (try dsimp only [Act.put]); (try go_frame)
  refine wpAnyH_take (i := 2) (v := _) (by first | (simp only [List.getElem?_toArray, List.getElem?_cons_zero, List.getElem?_cons_succ]; rfl) | rfl) (by kernel_rfl) (by kernel_rfl) (by kernel_rfl) (by exact fun _ _ _ h => h) (Or.inl ⟨by rfl, by (intro w hSw; (try dsimp only at hSw); go_simp; try with_reducible rfl)⟩) (by assumption) ?_
  (try dsimp only [Act.put]); (try go_frame)
  refine wpAnyH_take (i := 3) (v := _) (by first | (simp only [List.getElem?_toArray, List.getElem?_cons_zero, List.getElem?_cons_succ]; rfl) | rfl) (by kernel_rfl) (by kernel_rfl) (by kernel_rfl) (by exact fun _ _ _ h => h) (Or.inl ⟨by rfl, by (intro w hSw; (try dsimp only at hSw); go_simp; try with_reducible rfl)⟩) (by assumption) ?_
  (try dsimp only [Act.put]); (try go_frame)
  refine wpAnyH_take (i := 4) (v := _) (by first | (simp only [List.getElem?_toArray, List.getElem?_cons_zero, List.getElem?_cons_succ]; rfl) | rfl) (by kernel_rfl) (by kernel_rfl) (by kernel_rfl) (by exact fun _ _ _ h => h) (Or.inl ⟨by rfl, by (intro w hSw; (try dsimp only at hSw); go_simp; try with_reducible rfl)⟩) (by assumption) ?_
  (try dsimp only [Act.put]); (try go_frame)
  refine wpAnyH_take (i := 5) (v := _) (by first | (simp only [List.getElem?_toArray, List.getElem?_cons_zero, List.getElem?_cons_succ]; rfl) | rfl) (by kernel_rfl) (by kernel_rfl) (by kernel_rfl) (by exact fun _ _ _ h => h) (Or.inl ⟨by rfl, by (intro w hSw; (try dsimp only at hSw); go_simp; try with_reducible rfl)⟩) (by assumption) ?_
  (try dsimp only [Act.put]); (try go_frame)
  refine wpAnyH_take (i := 6) (v := _) (by first | (simp only [List.getElem?_toArray, List.getElem?_cons_zero, List.getElem?_cons_succ]; rfl) | rfl) (by kernel_rfl) (by kernel_rfl) (by kernel_rfl) (by exact fun _ _ _ h => h) (Or.inl ⟨by rfl, by (intro w hSw; (try dsimp only at hSw); go_simp; try with_reducible rfl)⟩) (by assumption) ?_
  (try dsimp only [Act.put]); (try go_frame)
  refine wpAnyH_take (i := 7) (v := _) (by first | (simp only [List.getElem?_toArray, List.getElem?_cons_zero, List.getElem?_cons_succ]; rfl) | rfl) (by kernel_rfl) (by kernel_rfl) (by kernel_rfl) (by exact fun _ _ _ h => h) (Or.inl ⟨by rfl, by (intro w hSw; (try dsimp only at hSw); go_simp; try with_reducible rfl)⟩) (by assumption) ?_
  (try dsimp only [Act.put]); (try go_frame)
  refine wpAnyH_done (by kernel_rfl) ?_ _
  try simp only [QCut]
  clear hHeld
  go_wp2_with fail
  refine (hb _).mono ?_
  rintro r w1 ⟨rfl, rfl⟩
  go_wp2_with fail
  refine (hd1 _).mono ?_
  rintro r w1 ⟨rfl, rfl⟩
  go_wp2_with fail
  refine wp_region_any (by kernel_rfl) ?_
  have hHeld : (fun _ : World => True) w.drew.drew := trivial
  refine wpAny_of_held (S := fun _ : World => True) _ _ _ _ ?_
  refine wpAnyH_take (i := 0) (v := _) (by first | (simp only [List.getElem?_toArray, List.getElem?_cons_zero]; rfl) | rfl) (by kernel_rfl) (by kernel_rfl) (by kernel_rfl) (by exact fun _ _ _ h => h) (Or.inl ⟨by rfl, by (intro w hSw; (try dsimp only at hSw); go_simp; try with_reducible rfl)⟩) (by assumption) ?_
  (try dsimp only [Act.put]); (try go_frame)
  refine wpAnyH_take (i := 1) (v := _) (by first | (simp only [List.getElem?_toArray, List.getElem?_cons_zero, List.getElem?_cons_succ]; rfl) | rfl) (by kernel_rfl) (by kernel_rfl) (by kernel_rfl) (by exact fun _ _ _ h => h) (Or.inl ⟨by rfl, by (intro w hSw; (try dsimp only at hSw); go_simp; try with_reducible rfl)⟩) (by assumption) ?_
  (try dsimp only [Act.put]); (try go_frame)
  refine wpAnyH_take (i := 2) (v := _) (by first | (simp only [List.getElem?_toArray, List.getElem?_cons_zero, List.getElem?_cons_succ]; rfl) | rfl) (by kernel_rfl) (by kernel_rfl) (by kernel_rfl) (by exact fun _ _ _ h => h) (Or.inl ⟨by rfl, by (intro w hSw; (try dsimp only at hSw); go_simp; try with_reducible rfl)⟩) (by assumption) ?_
  (try dsimp only [Act.put]); (try go_frame)
  refine wpAnyH_take (i := 3) (v := _) (by first | (simp only [List.getElem?_toArray, List.getElem?_cons_zero, List.getElem?_cons_succ]; rfl) | rfl) (by kernel_rfl) (by kernel_rfl) (by kernel_rfl) (by exact fun _ _ _ h => h) (Or.inl ⟨by rfl, by (intro w hSw; (try dsimp only at hSw); go_simp; try with_reducible rfl)⟩) (by assumption) ?_
  (try dsimp only [Act.put]); (try go_frame)
  refine wpAnyH_take (i := 4) (v := _) (by first | (simp only [List.getElem?_toArray, List.getElem?_cons_zero, List.getElem?_cons_succ]; rfl) | rfl) (by kernel_rfl) (by kernel_rfl) (by kernel_rfl) (by exact fun _ _ _ h => h) (Or.inl ⟨by rfl, by (intro w hSw; (try dsimp only at hSw); go_simp; try with_reducible rfl)⟩) (by assumption) ?_
  (try dsimp only [Act.put]); (try go_frame)
  refine wpAnyH_take (i := 5) (v := _) (by first | (simp only [List.getElem?_toArray, List.getElem?_cons_zero, List.getElem?_cons_succ]; rfl) | rfl) (by kernel_rfl) (by kernel_rfl) (by kernel_rfl) (by exact fun _ _ _ h => h) (Or.inl ⟨by rfl, by (intro w hSw; (try dsimp only at hSw); go_simp; try with_reducible rfl)⟩) (by assumption) ?_
  (try dsimp only [Act.put]); (try go_frame)
  refine wpAnyH_take (i := 6) (v := _) (by first | (simp only [List.getElem?_toArray, List.getElem?_cons_zero, List.getElem?_cons_succ]; rfl) | rfl) (by kernel_rfl) (by kernel_rfl) (by kernel_rfl) (by exact fun _ _ _ h => h) (Or.inl ⟨by rfl, by (intro w hSw; (try dsimp only at hSw); go_simp; try with_reducible rfl)⟩) (by assumption) ?_
  (try dsimp only [Act.put]); (try go_frame)
  refine wpAnyH_take (i := 7) (v := _) (by first | (simp only [List.getElem?_toArray, List.getElem?_cons_zero, List.getElem?_cons_succ]; rfl) | rfl) (by kernel_rfl) (by kernel_rfl) (by kernel_rfl) (by exact fun _ _ _ h => h) (Or.inl ⟨by rfl, by (intro w hSw; (try dsimp only at hSw); go_simp; try with_reducible rfl)⟩) (by assumption) ?_
  (try dsimp only [Act.put]); (try go_frame)
  refine wpAnyH_take (i := 8) (v := _) (by first | (simp only [List.getElem?_toArray, List.getElem?_cons_zero, List.getElem?_cons_succ]; rfl) | rfl) (by kernel_rfl) (by kernel_rfl) (by kernel_rfl) (by exact fun _ _ _ h => h) (Or.inl ⟨by rfl, by (intro w hSw; (try dsimp only at hSw); go_simp; try with_reducible rfl)⟩) (by assumption) ?_
  (try dsimp only [Act.put]); (try go_frame)
  refine wpAnyH_take (i := 9) (v := _) (by first | (simp only [List.getElem?_toArray, List.getElem?_cons_zero, List.getElem?_cons_succ]; rfl) | rfl) (by kernel_rfl) (by kernel_rfl) (by kernel_rfl) (by exact fun _ _ _ h => h) (Or.inl ⟨by rfl, by (intro w hSw; (try dsimp only at hSw); go_simp; try with_reducible rfl)⟩) (by assumption) ?_
  (try dsimp only [Act.put]); (try go_frame)
  refine wpAnyH_done (by kernel_rfl) ?_ _
  try simp only [QCut]
  clear hHeld
  go_wp2_with fail
  refine (hg _).mono ?_
  rintro r w1 ⟨rfl, rfl⟩
  go_wp2
  go_returns
  exact ⟨rfl, B0⟩
set_option maxRecDepth 1000000 in
set_option maxHeartbeats 2000000 in
theorem parted_pxmf (t H R : ByteArray) (n : Nat) (w : World) (hn : n ≤ t.size) (hts : t.size ≤ 1000000) (hH : t.extract 0 n = H) (hR : t.extract n t.size = R)
    (hd : ∀ W, Calls Tryz.prog 75 #[.string t] W fun r w' => r = .returned (.int .i64 (n : Nat)) ∧ W = w')
    (hb : ∀ W, Calls Tryz.prog 76 #[.string H] W fun r w' => r = .returned (.bool true) ∧ W = w')
    (h0 : 0 < R.size) (c : Nat) (hc : (R[0]'h0).toNat = c)
    (h46 : c = 46)
    (S : ByteArray) (hS : R.extract 1 R.size = S) (k : Nat) (hd1 : ∀ W, Calls Tryz.prog 75 #[.string S] W fun r w' => r = .returned (.int .i64 (k : Nat)) ∧ W = w')
    (hk : k ≠ 0) (hkR : 1 + k ≤ R.size) (T Q : ByteArray) (hT : R.extract 1 (1 + k) = T) (hQ : R.extract (1 + k) R.size = Q)
    (g0 : 0 < Q.size) (y : Nat) (hy : (Q[0]'g0).toNat = y)
    (h101 : y = 101)
    (P : ByteArray) (hP : Q.extract 1 Q.size = P)
    (f0 : 0 < P.size) (f : Nat) (hf : (P[0]'f0).toNat = f)
    (h45 : f = 45) (M : ByteArray) (hM : P.extract 1 P.size = M) (hg : ∀ W, Calls Tryz.prog 76 #[.string M] W fun r w' => r = .returned (.bool false) ∧ W = w') :
    Calls Tryz.prog 41 #[.string t] w fun r w' => r = .returned (.tuple #[.string { data := #[] }, .string { data := #[] }, .string { data := #[] }, .bool false]) ∧ Below w.heap.size w w' := by
  have B0 := ((Below.refl w.heap.size w).drew.drew)
  have q1 : 0 ≤ (n : Int) := by omega
  have q2 : (n : Int) ≤ t.size := by omega
  have hRs : R.size ≤ 1000000 := by rw [← hR, ByteArray.size_extract]; omega
  have t46 : ((c : Int) == 46) = true := by simp; omega
  have tk : ((k : Int) == 0) = false := by simp; omega
  have e1 : ((1 : Int) + (k : Int)).toNat = 1 + k := by omega
  have q3 : 0 ≤ (1 : Int) + k := by omega
  have q4 : (1 : Int) + k ≤ R.size := by omega
  have q5 : (1 : Int) ≤ 1 + k := by omega
  have W1 : IntKind.i64.wrap ((1 : Int) + k) = 1 + k := IntWalk.i64_in _ (by omega)
  have hQs : Q.size ≤ 1000000 := by rw [← hQ, ByteArray.size_extract]; omega
  have t101 : ((y : Int) == 101) = true := by simp; omega
  have hPs : P.size ≤ 1000000 := by rw [← hP, ByteArray.size_extract]; omega
  have t45 : ((f : Int) == 45) = true := by simp; omega
  clear hn hts
  clear h46
  clear hk
  clear h101
  clear h45
  go_enter Tryz.func41, Tryz.ntmps41
  go_wp2_with fail
  refine (hd _).mono ?_
  rintro r w1 ⟨rfl, rfl⟩
  go_wp2_with fail
  refine wp_region_any (by kernel_rfl) ?_
  have hHeld : (fun _ : World => True) w.drew := trivial
  refine wpAny_of_held (S := fun _ : World => True) _ _ _ _ ?_
  refine wpAnyH_take (i := 0) (v := _) (by first | (simp only [List.getElem?_toArray, List.getElem?_cons_zero]; rfl) | rfl) (by kernel_rfl) (by kernel_rfl) (by kernel_rfl) (by exact fun _ _ _ h => h) (Or.inl ⟨by rfl, by (intro w hSw; (try dsimp only at hSw); go_simp; try with_reducible rfl)⟩) (by assumption) ?_
  (try dsimp only [Act.put]); (try go_frame)
  refine wpAnyH_take (i := 1) (v := _) (by first | (simp only [List.getElem?_toArray, List.getElem?_cons_zero, List.getElem?_cons_succ]; rfl) | rfl) (by kernel_rfl) (by kernel_rfl) (by kernel_rfl) (by exact fun _ _ _ h => h) (Or.inl ⟨by rfl, by (intro w hSw; (try dsimp only at hSw); go_simp; try with_reducible rfl)⟩) (by assumption) ?_
  (try dsimp only [Act.put]); (try go_frame)
  refine wpAnyH_take (i := 2) (v := _) (by first | (simp only [List.getElem?_toArray, List.getElem?_cons_zero, List.getElem?_cons_succ]; rfl) | rfl) (by kernel_rfl) (by kernel_rfl) (by kernel_rfl) (by exact fun _ _ _ h => h) (Or.inl ⟨by rfl, by (intro w hSw; (try dsimp only at hSw); go_simp; try with_reducible rfl)⟩) (by assumption) ?_
  (try dsimp only [Act.put]); (try go_frame)
  refine wpAnyH_take (i := 3) (v := _) (by first | (simp only [List.getElem?_toArray, List.getElem?_cons_zero, List.getElem?_cons_succ]; rfl) | rfl) (by kernel_rfl) (by kernel_rfl) (by kernel_rfl) (by exact fun _ _ _ h => h) (Or.inl ⟨by rfl, by (intro w hSw; (try dsimp only at hSw); go_simp; try with_reducible rfl)⟩) (by assumption) ?_
  (try dsimp only [Act.put]); (try go_frame)
  refine wpAnyH_take (i := 4) (v := _) (by first | (simp only [List.getElem?_toArray, List.getElem?_cons_zero, List.getElem?_cons_succ]; rfl) | rfl) (by kernel_rfl) (by kernel_rfl) (by kernel_rfl) (by exact fun _ _ _ h => h) (Or.inl ⟨by rfl, by (intro w hSw; (try dsimp only at hSw); go_simp; try with_reducible rfl)⟩) (by assumption) ?_
  (try dsimp only [Act.put]); (try go_frame)
  refine wpAnyH_take (i := 5) (v := _) (by first | (simp only [List.getElem?_toArray, List.getElem?_cons_zero, List.getElem?_cons_succ]; rfl) | rfl) (by kernel_rfl) (by kernel_rfl) (by kernel_rfl) (by exact fun _ _ _ h => h) (Or.inl ⟨by rfl, by (intro w hSw; (try dsimp only at hSw); go_simp; try with_reducible rfl)⟩) (by assumption) ?_
  (try dsimp only [Act.put]); (try go_frame)
  refine wpAnyH_take (i := 6) (v := _) (by first | (simp only [List.getElem?_toArray, List.getElem?_cons_zero, List.getElem?_cons_succ]; rfl) | rfl) (by kernel_rfl) (by kernel_rfl) (by kernel_rfl) (by exact fun _ _ _ h => h) (Or.inl ⟨by rfl, by (intro w hSw; (try dsimp only at hSw); go_simp; try with_reducible rfl)⟩) (by assumption) ?_
  (try dsimp only [Act.put]); (try go_frame)
  refine wpAnyH_take (i := 7) (v := _) (by first | (simp only [List.getElem?_toArray, List.getElem?_cons_zero, List.getElem?_cons_succ]; rfl) | rfl) (by kernel_rfl) (by kernel_rfl) (by kernel_rfl) (by exact fun _ _ _ h => h) (Or.inl ⟨by rfl, by (intro w hSw; (try dsimp only at hSw); go_simp; try with_reducible rfl)⟩) (by assumption) ?_
  (try dsimp only [Act.put]); (try go_frame)
  refine wpAnyH_done (by kernel_rfl) ?_ _
  try simp only [QCut]
  clear hHeld
  go_wp2_with fail
  refine (hb _).mono ?_
  rintro r w1 ⟨rfl, rfl⟩
  go_wp2_with fail
  refine (hd1 _).mono ?_
  rintro r w1 ⟨rfl, rfl⟩
  go_wp2_with fail
  refine wp_region_any (by kernel_rfl) ?_
  have hHeld : (fun _ : World => True) w.drew.drew := trivial
  refine wpAny_of_held (S := fun _ : World => True) _ _ _ _ ?_
  refine wpAnyH_take (i := 0) (v := _) (by first | (simp only [List.getElem?_toArray, List.getElem?_cons_zero]; rfl) | rfl) (by kernel_rfl) (by kernel_rfl) (by kernel_rfl) (by exact fun _ _ _ h => h) (Or.inl ⟨by rfl, by (intro w hSw; (try dsimp only at hSw); go_simp; try with_reducible rfl)⟩) (by assumption) ?_
  (try dsimp only [Act.put]); (try go_frame)
  refine wpAnyH_take (i := 1) (v := _) (by first | (simp only [List.getElem?_toArray, List.getElem?_cons_zero, List.getElem?_cons_succ]; rfl) | rfl) (by kernel_rfl) (by kernel_rfl) (by kernel_rfl) (by exact fun _ _ _ h => h) (Or.inl ⟨by rfl, by (intro w hSw; (try dsimp only at hSw); go_simp; try with_reducible rfl)⟩) (by assumption) ?_
  (try dsimp only [Act.put]); (try go_frame)
  refine wpAnyH_take (i := 2) (v := _) (by first | (simp only [List.getElem?_toArray, List.getElem?_cons_zero, List.getElem?_cons_succ]; rfl) | rfl) (by kernel_rfl) (by kernel_rfl) (by kernel_rfl) (by exact fun _ _ _ h => h) (Or.inl ⟨by rfl, by (intro w hSw; (try dsimp only at hSw); go_simp; try with_reducible rfl)⟩) (by assumption) ?_
  (try dsimp only [Act.put]); (try go_frame)
  refine wpAnyH_take (i := 3) (v := _) (by first | (simp only [List.getElem?_toArray, List.getElem?_cons_zero, List.getElem?_cons_succ]; rfl) | rfl) (by kernel_rfl) (by kernel_rfl) (by kernel_rfl) (by exact fun _ _ _ h => h) (Or.inl ⟨by rfl, by (intro w hSw; (try dsimp only at hSw); go_simp; try with_reducible rfl)⟩) (by assumption) ?_
  (try dsimp only [Act.put]); (try go_frame)
  refine wpAnyH_take (i := 4) (v := _) (by first | (simp only [List.getElem?_toArray, List.getElem?_cons_zero, List.getElem?_cons_succ]; rfl) | rfl) (by kernel_rfl) (by kernel_rfl) (by kernel_rfl) (by exact fun _ _ _ h => h) (Or.inl ⟨by rfl, by (intro w hSw; (try dsimp only at hSw); go_simp; try with_reducible rfl)⟩) (by assumption) ?_
  (try dsimp only [Act.put]); (try go_frame)
  refine wpAnyH_take (i := 5) (v := _) (by first | (simp only [List.getElem?_toArray, List.getElem?_cons_zero, List.getElem?_cons_succ]; rfl) | rfl) (by kernel_rfl) (by kernel_rfl) (by kernel_rfl) (by exact fun _ _ _ h => h) (Or.inl ⟨by rfl, by (intro w hSw; (try dsimp only at hSw); go_simp; try with_reducible rfl)⟩) (by assumption) ?_
  (try dsimp only [Act.put]); (try go_frame)
  refine wpAnyH_take (i := 6) (v := _) (by first | (simp only [List.getElem?_toArray, List.getElem?_cons_zero, List.getElem?_cons_succ]; rfl) | rfl) (by kernel_rfl) (by kernel_rfl) (by kernel_rfl) (by exact fun _ _ _ h => h) (Or.inl ⟨by rfl, by (intro w hSw; (try dsimp only at hSw); go_simp; try with_reducible rfl)⟩) (by assumption) ?_
  (try dsimp only [Act.put]); (try go_frame)
  refine wpAnyH_take (i := 7) (v := _) (by first | (simp only [List.getElem?_toArray, List.getElem?_cons_zero, List.getElem?_cons_succ]; rfl) | rfl) (by kernel_rfl) (by kernel_rfl) (by kernel_rfl) (by exact fun _ _ _ h => h) (Or.inl ⟨by rfl, by (intro w hSw; (try dsimp only at hSw); go_simp; try with_reducible rfl)⟩) (by assumption) ?_
  (try dsimp only [Act.put]); (try go_frame)
  refine wpAnyH_take (i := 8) (v := _) (by first | (simp only [List.getElem?_toArray, List.getElem?_cons_zero, List.getElem?_cons_succ]; rfl) | rfl) (by kernel_rfl) (by kernel_rfl) (by kernel_rfl) (by exact fun _ _ _ h => h) (Or.inl ⟨by rfl, by (intro w hSw; (try dsimp only at hSw); go_simp; try with_reducible rfl)⟩) (by assumption) ?_
  (try dsimp only [Act.put]); (try go_frame)
  refine wpAnyH_take (i := 9) (v := _) (by first | (simp only [List.getElem?_toArray, List.getElem?_cons_zero, List.getElem?_cons_succ]; rfl) | rfl) (by kernel_rfl) (by kernel_rfl) (by kernel_rfl) (by exact fun _ _ _ h => h) (Or.inl ⟨by rfl, by (intro w hSw; (try dsimp only at hSw); go_simp; try with_reducible rfl)⟩) (by assumption) ?_
  (try dsimp only [Act.put]); (try go_frame)
  refine wpAnyH_done (by kernel_rfl) ?_ _
  try simp only [QCut]
  clear hHeld
  go_wp2_with fail
  refine (hg _).mono ?_
  rintro r w1 ⟨rfl, rfl⟩
  go_wp2
  go_returns
  exact ⟨rfl, B0⟩
set_option maxRecDepth 1000000 in
set_option maxHeartbeats 2000000 in
theorem parted_pxmz (t H R : ByteArray) (n : Nat) (w : World) (hn : n ≤ t.size) (hts : t.size ≤ 1000000) (hH : t.extract 0 n = H) (hR : t.extract n t.size = R)
    (hd : ∀ W, Calls Tryz.prog 75 #[.string t] W fun r w' => r = .returned (.int .i64 (n : Nat)) ∧ W = w')
    (hb : ∀ W, Calls Tryz.prog 76 #[.string H] W fun r w' => r = .returned (.bool true) ∧ W = w')
    (h0 : 0 < R.size) (c : Nat) (hc : (R[0]'h0).toNat = c)
    (h46 : c = 46)
    (S : ByteArray) (hS : R.extract 1 R.size = S) (k : Nat) (hd1 : ∀ W, Calls Tryz.prog 75 #[.string S] W fun r w' => r = .returned (.int .i64 (k : Nat)) ∧ W = w')
    (hk : k ≠ 0) (hkR : 1 + k ≤ R.size) (T Q : ByteArray) (hT : R.extract 1 (1 + k) = T) (hQ : R.extract (1 + k) R.size = Q)
    (g0 : 0 < Q.size) (y : Nat) (hy : (Q[0]'g0).toNat = y)
    (h101 : y = 101)
    (P : ByteArray) (hP : Q.extract 1 Q.size = P)
    (f0 : 0 < P.size) (f : Nat) (hf : (P[0]'f0).toNat = f)
    (h45 : f = 45) (M : ByteArray) (hM : P.extract 1 P.size = M) (hg : ∀ W, Calls Tryz.prog 76 #[.string M] W fun r w' => r = .returned (.bool true) ∧ W = w')
    (hz : (P.toList == [45, 48]) = true) :
    Calls Tryz.prog 41 #[.string t] w fun r w' => r = .returned (.tuple #[.string { data := #[] }, .string { data := #[] }, .string { data := #[] }, .bool false]) ∧ Below w.heap.size w w' := by
  have B0 := ((Below.refl w.heap.size w).drew.drew)
  have q1 : 0 ≤ (n : Int) := by omega
  have q2 : (n : Int) ≤ t.size := by omega
  have hRs : R.size ≤ 1000000 := by rw [← hR, ByteArray.size_extract]; omega
  have t46 : ((c : Int) == 46) = true := by simp; omega
  have tk : ((k : Int) == 0) = false := by simp; omega
  have e1 : ((1 : Int) + (k : Int)).toNat = 1 + k := by omega
  have q3 : 0 ≤ (1 : Int) + k := by omega
  have q4 : (1 : Int) + k ≤ R.size := by omega
  have q5 : (1 : Int) ≤ 1 + k := by omega
  have W1 : IntKind.i64.wrap ((1 : Int) + k) = 1 + k := IntWalk.i64_in _ (by omega)
  have hQs : Q.size ≤ 1000000 := by rw [← hQ, ByteArray.size_extract]; omega
  have t101 : ((y : Int) == 101) = true := by simp; omega
  have hPs : P.size ≤ 1000000 := by rw [← hP, ByteArray.size_extract]; omega
  have t45 : ((f : Int) == 45) = true := by simp; omega
  clear hn hts
  clear h46
  clear hk
  clear h101
  clear h45
  go_enter Tryz.func41, Tryz.ntmps41
  go_wp2_with fail
  refine (hd _).mono ?_
  rintro r w1 ⟨rfl, rfl⟩
  go_wp2_with fail
  refine wp_region_any (by kernel_rfl) ?_
  have hHeld : (fun _ : World => True) w.drew := trivial
  refine wpAny_of_held (S := fun _ : World => True) _ _ _ _ ?_
  refine wpAnyH_take (i := 0) (v := _) (by first | (simp only [List.getElem?_toArray, List.getElem?_cons_zero]; rfl) | rfl) (by kernel_rfl) (by kernel_rfl) (by kernel_rfl) (by exact fun _ _ _ h => h) (Or.inl ⟨by rfl, by (intro w hSw; (try dsimp only at hSw); go_simp; try with_reducible rfl)⟩) (by assumption) ?_
  (try dsimp only [Act.put]); (try go_frame)
  refine wpAnyH_take (i := 1) (v := _) (by first | (simp only [List.getElem?_toArray, List.getElem?_cons_zero, List.getElem?_cons_succ]; rfl) | rfl) (by kernel_rfl) (by kernel_rfl) (by kernel_rfl) (by exact fun _ _ _ h => h) (Or.inl ⟨by rfl, by (intro w hSw; (try dsimp only at hSw); go_simp; try with_reducible rfl)⟩) (by assumption) ?_
  (try dsimp only [Act.put]); (try go_frame)
  refine wpAnyH_take (i := 2) (v := _) (by first | (simp only [List.getElem?_toArray, List.getElem?_cons_zero, List.getElem?_cons_succ]; rfl) | rfl) (by kernel_rfl) (by kernel_rfl) (by kernel_rfl) (by exact fun _ _ _ h => h) (Or.inl ⟨by rfl, by (intro w hSw; (try dsimp only at hSw); go_simp; try with_reducible rfl)⟩) (by assumption) ?_
  (try dsimp only [Act.put]); (try go_frame)
  refine wpAnyH_take (i := 3) (v := _) (by first | (simp only [List.getElem?_toArray, List.getElem?_cons_zero, List.getElem?_cons_succ]; rfl) | rfl) (by kernel_rfl) (by kernel_rfl) (by kernel_rfl) (by exact fun _ _ _ h => h) (Or.inl ⟨by rfl, by (intro w hSw; (try dsimp only at hSw); go_simp; try with_reducible rfl)⟩) (by assumption) ?_
  (try dsimp only [Act.put]); (try go_frame)
  refine wpAnyH_take (i := 4) (v := _) (by first | (simp only [List.getElem?_toArray, List.getElem?_cons_zero, List.getElem?_cons_succ]; rfl) | rfl) (by kernel_rfl) (by kernel_rfl) (by kernel_rfl) (by exact fun _ _ _ h => h) (Or.inl ⟨by rfl, by (intro w hSw; (try dsimp only at hSw); go_simp; try with_reducible rfl)⟩) (by assumption) ?_
  (try dsimp only [Act.put]); (try go_frame)
  refine wpAnyH_take (i := 5) (v := _) (by first | (simp only [List.getElem?_toArray, List.getElem?_cons_zero, List.getElem?_cons_succ]; rfl) | rfl) (by kernel_rfl) (by kernel_rfl) (by kernel_rfl) (by exact fun _ _ _ h => h) (Or.inl ⟨by rfl, by (intro w hSw; (try dsimp only at hSw); go_simp; try with_reducible rfl)⟩) (by assumption) ?_
  (try dsimp only [Act.put]); (try go_frame)
  refine wpAnyH_take (i := 6) (v := _) (by first | (simp only [List.getElem?_toArray, List.getElem?_cons_zero, List.getElem?_cons_succ]; rfl) | rfl) (by kernel_rfl) (by kernel_rfl) (by kernel_rfl) (by exact fun _ _ _ h => h) (Or.inl ⟨by rfl, by (intro w hSw; (try dsimp only at hSw); go_simp; try with_reducible rfl)⟩) (by assumption) ?_
  (try dsimp only [Act.put]); (try go_frame)
  refine wpAnyH_take (i := 7) (v := _) (by first | (simp only [List.getElem?_toArray, List.getElem?_cons_zero, List.getElem?_cons_succ]; rfl) | rfl) (by kernel_rfl) (by kernel_rfl) (by kernel_rfl) (by exact fun _ _ _ h => h) (Or.inl ⟨by rfl, by (intro w hSw; (try dsimp only at hSw); go_simp; try with_reducible rfl)⟩) (by assumption) ?_
  (try dsimp only [Act.put]); (try go_frame)
  refine wpAnyH_done (by kernel_rfl) ?_ _
  try simp only [QCut]
  clear hHeld
  go_wp2_with fail
  refine (hb _).mono ?_
  rintro r w1 ⟨rfl, rfl⟩
  go_wp2_with fail
  refine (hd1 _).mono ?_
  rintro r w1 ⟨rfl, rfl⟩
  go_wp2_with fail
  refine wp_region_any (by kernel_rfl) ?_
  have hHeld : (fun _ : World => True) w.drew.drew := trivial
  refine wpAny_of_held (S := fun _ : World => True) _ _ _ _ ?_
  refine wpAnyH_take (i := 0) (v := _) (by first | (simp only [List.getElem?_toArray, List.getElem?_cons_zero]; rfl) | rfl) (by kernel_rfl) (by kernel_rfl) (by kernel_rfl) (by exact fun _ _ _ h => h) (Or.inl ⟨by rfl, by (intro w hSw; (try dsimp only at hSw); go_simp; try with_reducible rfl)⟩) (by assumption) ?_
  (try dsimp only [Act.put]); (try go_frame)
  refine wpAnyH_take (i := 1) (v := _) (by first | (simp only [List.getElem?_toArray, List.getElem?_cons_zero, List.getElem?_cons_succ]; rfl) | rfl) (by kernel_rfl) (by kernel_rfl) (by kernel_rfl) (by exact fun _ _ _ h => h) (Or.inl ⟨by rfl, by (intro w hSw; (try dsimp only at hSw); go_simp; try with_reducible rfl)⟩) (by assumption) ?_
  (try dsimp only [Act.put]); (try go_frame)
  refine wpAnyH_take (i := 2) (v := _) (by first | (simp only [List.getElem?_toArray, List.getElem?_cons_zero, List.getElem?_cons_succ]; rfl) | rfl) (by kernel_rfl) (by kernel_rfl) (by kernel_rfl) (by exact fun _ _ _ h => h) (Or.inl ⟨by rfl, by (intro w hSw; (try dsimp only at hSw); go_simp; try with_reducible rfl)⟩) (by assumption) ?_
  (try dsimp only [Act.put]); (try go_frame)
  refine wpAnyH_take (i := 3) (v := _) (by first | (simp only [List.getElem?_toArray, List.getElem?_cons_zero, List.getElem?_cons_succ]; rfl) | rfl) (by kernel_rfl) (by kernel_rfl) (by kernel_rfl) (by exact fun _ _ _ h => h) (Or.inl ⟨by rfl, by (intro w hSw; (try dsimp only at hSw); go_simp; try with_reducible rfl)⟩) (by assumption) ?_
  (try dsimp only [Act.put]); (try go_frame)
  refine wpAnyH_take (i := 4) (v := _) (by first | (simp only [List.getElem?_toArray, List.getElem?_cons_zero, List.getElem?_cons_succ]; rfl) | rfl) (by kernel_rfl) (by kernel_rfl) (by kernel_rfl) (by exact fun _ _ _ h => h) (Or.inl ⟨by rfl, by (intro w hSw; (try dsimp only at hSw); go_simp; try with_reducible rfl)⟩) (by assumption) ?_
  (try dsimp only [Act.put]); (try go_frame)
  refine wpAnyH_take (i := 5) (v := _) (by first | (simp only [List.getElem?_toArray, List.getElem?_cons_zero, List.getElem?_cons_succ]; rfl) | rfl) (by kernel_rfl) (by kernel_rfl) (by kernel_rfl) (by exact fun _ _ _ h => h) (Or.inl ⟨by rfl, by (intro w hSw; (try dsimp only at hSw); go_simp; try with_reducible rfl)⟩) (by assumption) ?_
  (try dsimp only [Act.put]); (try go_frame)
  refine wpAnyH_take (i := 6) (v := _) (by first | (simp only [List.getElem?_toArray, List.getElem?_cons_zero, List.getElem?_cons_succ]; rfl) | rfl) (by kernel_rfl) (by kernel_rfl) (by kernel_rfl) (by exact fun _ _ _ h => h) (Or.inl ⟨by rfl, by (intro w hSw; (try dsimp only at hSw); go_simp; try with_reducible rfl)⟩) (by assumption) ?_
  (try dsimp only [Act.put]); (try go_frame)
  refine wpAnyH_take (i := 7) (v := _) (by first | (simp only [List.getElem?_toArray, List.getElem?_cons_zero, List.getElem?_cons_succ]; rfl) | rfl) (by kernel_rfl) (by kernel_rfl) (by kernel_rfl) (by exact fun _ _ _ h => h) (Or.inl ⟨by rfl, by (intro w hSw; (try dsimp only at hSw); go_simp; try with_reducible rfl)⟩) (by assumption) ?_
  (try dsimp only [Act.put]); (try go_frame)
  refine wpAnyH_take (i := 8) (v := _) (by first | (simp only [List.getElem?_toArray, List.getElem?_cons_zero, List.getElem?_cons_succ]; rfl) | rfl) (by kernel_rfl) (by kernel_rfl) (by kernel_rfl) (by exact fun _ _ _ h => h) (Or.inl ⟨by rfl, by (intro w hSw; (try dsimp only at hSw); go_simp; try with_reducible rfl)⟩) (by assumption) ?_
  (try dsimp only [Act.put]); (try go_frame)
  refine wpAnyH_take (i := 9) (v := _) (by first | (simp only [List.getElem?_toArray, List.getElem?_cons_zero, List.getElem?_cons_succ]; rfl) | rfl) (by kernel_rfl) (by kernel_rfl) (by kernel_rfl) (by exact fun _ _ _ h => h) (Or.inl ⟨by rfl, by (intro w hSw; (try dsimp only at hSw); go_simp; try with_reducible rfl)⟩) (by assumption) ?_
  (try dsimp only [Act.put]); (try go_frame)
  refine wpAnyH_done (by kernel_rfl) ?_ _
  try simp only [QCut]
  clear hHeld
  go_wp2_with fail
  refine (hg _).mono ?_
  rintro r w1 ⟨rfl, rfl⟩
  go_wp2
  go_returns
  exact ⟨rfl, B0⟩
set_option maxRecDepth 1000000 in
set_option maxHeartbeats 2000000 in
theorem parted_pxmt (t H R : ByteArray) (n : Nat) (w : World) (hn : n ≤ t.size) (hts : t.size ≤ 1000000) (hH : t.extract 0 n = H) (hR : t.extract n t.size = R)
    (hd : ∀ W, Calls Tryz.prog 75 #[.string t] W fun r w' => r = .returned (.int .i64 (n : Nat)) ∧ W = w')
    (hb : ∀ W, Calls Tryz.prog 76 #[.string H] W fun r w' => r = .returned (.bool true) ∧ W = w')
    (h0 : 0 < R.size) (c : Nat) (hc : (R[0]'h0).toNat = c)
    (h46 : c = 46)
    (S : ByteArray) (hS : R.extract 1 R.size = S) (k : Nat) (hd1 : ∀ W, Calls Tryz.prog 75 #[.string S] W fun r w' => r = .returned (.int .i64 (k : Nat)) ∧ W = w')
    (hk : k ≠ 0) (hkR : 1 + k ≤ R.size) (T Q : ByteArray) (hT : R.extract 1 (1 + k) = T) (hQ : R.extract (1 + k) R.size = Q)
    (g0 : 0 < Q.size) (y : Nat) (hy : (Q[0]'g0).toNat = y)
    (h101 : y = 101)
    (P : ByteArray) (hP : Q.extract 1 Q.size = P)
    (f0 : 0 < P.size) (f : Nat) (hf : (P[0]'f0).toNat = f)
    (h45 : f = 45) (M : ByteArray) (hM : P.extract 1 P.size = M) (hg : ∀ W, Calls Tryz.prog 76 #[.string M] W fun r w' => r = .returned (.bool true) ∧ W = w')
    (hz : (P.toList == [45, 48]) = false) :
    Calls Tryz.prog 41 #[.string t] w fun r w' => r = .returned (.tuple #[.string H, .string T, .string P, .bool true]) ∧ Below w.heap.size w w' := by
  have B0 := ((Below.refl w.heap.size w).drew.drew)
  have q1 : 0 ≤ (n : Int) := by omega
  have q2 : (n : Int) ≤ t.size := by omega
  have hRs : R.size ≤ 1000000 := by rw [← hR, ByteArray.size_extract]; omega
  have t46 : ((c : Int) == 46) = true := by simp; omega
  have tk : ((k : Int) == 0) = false := by simp; omega
  have e1 : ((1 : Int) + (k : Int)).toNat = 1 + k := by omega
  have q3 : 0 ≤ (1 : Int) + k := by omega
  have q4 : (1 : Int) + k ≤ R.size := by omega
  have q5 : (1 : Int) ≤ 1 + k := by omega
  have W1 : IntKind.i64.wrap ((1 : Int) + k) = 1 + k := IntWalk.i64_in _ (by omega)
  have hQs : Q.size ≤ 1000000 := by rw [← hQ, ByteArray.size_extract]; omega
  have t101 : ((y : Int) == 101) = true := by simp; omega
  have hPs : P.size ≤ 1000000 := by rw [← hP, ByteArray.size_extract]; omega
  have t45 : ((f : Int) == 45) = true := by simp; omega
  clear hn hts
  clear h46
  clear hk
  clear h101
  clear h45
  go_enter Tryz.func41, Tryz.ntmps41
  go_wp2_with fail
  refine (hd _).mono ?_
  rintro r w1 ⟨rfl, rfl⟩
  go_wp2_with fail
  refine wp_region_any (by kernel_rfl) ?_
  have hHeld : (fun _ : World => True) w.drew := trivial
  refine wpAny_of_held (S := fun _ : World => True) _ _ _ _ ?_
  refine wpAnyH_take (i := 0) (v := _) (by first | (simp only [List.getElem?_toArray, List.getElem?_cons_zero]; rfl) | rfl) (by kernel_rfl) (by kernel_rfl) (by kernel_rfl) (by exact fun _ _ _ h => h) (Or.inl ⟨by rfl, by (intro w hSw; (try dsimp only at hSw); go_simp; try with_reducible rfl)⟩) (by assumption) ?_
  (try dsimp only [Act.put]); (try go_frame)
  refine wpAnyH_take (i := 1) (v := _) (by first | (simp only [List.getElem?_toArray, List.getElem?_cons_zero, List.getElem?_cons_succ]; rfl) | rfl) (by kernel_rfl) (by kernel_rfl) (by kernel_rfl) (by exact fun _ _ _ h => h) (Or.inl ⟨by rfl, by (intro w hSw; (try dsimp only at hSw); go_simp; try with_reducible rfl)⟩) (by assumption) ?_
  (try dsimp only [Act.put]); (try go_frame)
  refine wpAnyH_take (i := 2) (v := _) (by first | (simp only [List.getElem?_toArray, List.getElem?_cons_zero, List.getElem?_cons_succ]; rfl) | rfl) (by kernel_rfl) (by kernel_rfl) (by kernel_rfl) (by exact fun _ _ _ h => h) (Or.inl ⟨by rfl, by (intro w hSw; (try dsimp only at hSw); go_simp; try with_reducible rfl)⟩) (by assumption) ?_
  (try dsimp only [Act.put]); (try go_frame)
  refine wpAnyH_take (i := 3) (v := _) (by first | (simp only [List.getElem?_toArray, List.getElem?_cons_zero, List.getElem?_cons_succ]; rfl) | rfl) (by kernel_rfl) (by kernel_rfl) (by kernel_rfl) (by exact fun _ _ _ h => h) (Or.inl ⟨by rfl, by (intro w hSw; (try dsimp only at hSw); go_simp; try with_reducible rfl)⟩) (by assumption) ?_
  (try dsimp only [Act.put]); (try go_frame)
  refine wpAnyH_take (i := 4) (v := _) (by first | (simp only [List.getElem?_toArray, List.getElem?_cons_zero, List.getElem?_cons_succ]; rfl) | rfl) (by kernel_rfl) (by kernel_rfl) (by kernel_rfl) (by exact fun _ _ _ h => h) (Or.inl ⟨by rfl, by (intro w hSw; (try dsimp only at hSw); go_simp; try with_reducible rfl)⟩) (by assumption) ?_
  (try dsimp only [Act.put]); (try go_frame)
  refine wpAnyH_take (i := 5) (v := _) (by first | (simp only [List.getElem?_toArray, List.getElem?_cons_zero, List.getElem?_cons_succ]; rfl) | rfl) (by kernel_rfl) (by kernel_rfl) (by kernel_rfl) (by exact fun _ _ _ h => h) (Or.inl ⟨by rfl, by (intro w hSw; (try dsimp only at hSw); go_simp; try with_reducible rfl)⟩) (by assumption) ?_
  (try dsimp only [Act.put]); (try go_frame)
  refine wpAnyH_take (i := 6) (v := _) (by first | (simp only [List.getElem?_toArray, List.getElem?_cons_zero, List.getElem?_cons_succ]; rfl) | rfl) (by kernel_rfl) (by kernel_rfl) (by kernel_rfl) (by exact fun _ _ _ h => h) (Or.inl ⟨by rfl, by (intro w hSw; (try dsimp only at hSw); go_simp; try with_reducible rfl)⟩) (by assumption) ?_
  (try dsimp only [Act.put]); (try go_frame)
  refine wpAnyH_take (i := 7) (v := _) (by first | (simp only [List.getElem?_toArray, List.getElem?_cons_zero, List.getElem?_cons_succ]; rfl) | rfl) (by kernel_rfl) (by kernel_rfl) (by kernel_rfl) (by exact fun _ _ _ h => h) (Or.inl ⟨by rfl, by (intro w hSw; (try dsimp only at hSw); go_simp; try with_reducible rfl)⟩) (by assumption) ?_
  (try dsimp only [Act.put]); (try go_frame)
  refine wpAnyH_done (by kernel_rfl) ?_ _
  try simp only [QCut]
  clear hHeld
  go_wp2_with fail
  refine (hb _).mono ?_
  rintro r w1 ⟨rfl, rfl⟩
  go_wp2_with fail
  refine (hd1 _).mono ?_
  rintro r w1 ⟨rfl, rfl⟩
  go_wp2_with fail
  refine wp_region_any (by kernel_rfl) ?_
  have hHeld : (fun _ : World => True) w.drew.drew := trivial
  refine wpAny_of_held (S := fun _ : World => True) _ _ _ _ ?_
  refine wpAnyH_take (i := 0) (v := _) (by first | (simp only [List.getElem?_toArray, List.getElem?_cons_zero]; rfl) | rfl) (by kernel_rfl) (by kernel_rfl) (by kernel_rfl) (by exact fun _ _ _ h => h) (Or.inl ⟨by rfl, by (intro w hSw; (try dsimp only at hSw); go_simp; try with_reducible rfl)⟩) (by assumption) ?_
  (try dsimp only [Act.put]); (try go_frame)
  refine wpAnyH_take (i := 1) (v := _) (by first | (simp only [List.getElem?_toArray, List.getElem?_cons_zero, List.getElem?_cons_succ]; rfl) | rfl) (by kernel_rfl) (by kernel_rfl) (by kernel_rfl) (by exact fun _ _ _ h => h) (Or.inl ⟨by rfl, by (intro w hSw; (try dsimp only at hSw); go_simp; try with_reducible rfl)⟩) (by assumption) ?_
  (try dsimp only [Act.put]); (try go_frame)
  refine wpAnyH_take (i := 2) (v := _) (by first | (simp only [List.getElem?_toArray, List.getElem?_cons_zero, List.getElem?_cons_succ]; rfl) | rfl) (by kernel_rfl) (by kernel_rfl) (by kernel_rfl) (by exact fun _ _ _ h => h) (Or.inl ⟨by rfl, by (intro w hSw; (try dsimp only at hSw); go_simp; try with_reducible rfl)⟩) (by assumption) ?_
  (try dsimp only [Act.put]); (try go_frame)
  refine wpAnyH_take (i := 3) (v := _) (by first | (simp only [List.getElem?_toArray, List.getElem?_cons_zero, List.getElem?_cons_succ]; rfl) | rfl) (by kernel_rfl) (by kernel_rfl) (by kernel_rfl) (by exact fun _ _ _ h => h) (Or.inl ⟨by rfl, by (intro w hSw; (try dsimp only at hSw); go_simp; try with_reducible rfl)⟩) (by assumption) ?_
  (try dsimp only [Act.put]); (try go_frame)
  refine wpAnyH_take (i := 4) (v := _) (by first | (simp only [List.getElem?_toArray, List.getElem?_cons_zero, List.getElem?_cons_succ]; rfl) | rfl) (by kernel_rfl) (by kernel_rfl) (by kernel_rfl) (by exact fun _ _ _ h => h) (Or.inl ⟨by rfl, by (intro w hSw; (try dsimp only at hSw); go_simp; try with_reducible rfl)⟩) (by assumption) ?_
  (try dsimp only [Act.put]); (try go_frame)
  refine wpAnyH_take (i := 5) (v := _) (by first | (simp only [List.getElem?_toArray, List.getElem?_cons_zero, List.getElem?_cons_succ]; rfl) | rfl) (by kernel_rfl) (by kernel_rfl) (by kernel_rfl) (by exact fun _ _ _ h => h) (Or.inl ⟨by rfl, by (intro w hSw; (try dsimp only at hSw); go_simp; try with_reducible rfl)⟩) (by assumption) ?_
  (try dsimp only [Act.put]); (try go_frame)
  refine wpAnyH_take (i := 6) (v := _) (by first | (simp only [List.getElem?_toArray, List.getElem?_cons_zero, List.getElem?_cons_succ]; rfl) | rfl) (by kernel_rfl) (by kernel_rfl) (by kernel_rfl) (by exact fun _ _ _ h => h) (Or.inl ⟨by rfl, by (intro w hSw; (try dsimp only at hSw); go_simp; try with_reducible rfl)⟩) (by assumption) ?_
  (try dsimp only [Act.put]); (try go_frame)
  refine wpAnyH_take (i := 7) (v := _) (by first | (simp only [List.getElem?_toArray, List.getElem?_cons_zero, List.getElem?_cons_succ]; rfl) | rfl) (by kernel_rfl) (by kernel_rfl) (by kernel_rfl) (by exact fun _ _ _ h => h) (Or.inl ⟨by rfl, by (intro w hSw; (try dsimp only at hSw); go_simp; try with_reducible rfl)⟩) (by assumption) ?_
  (try dsimp only [Act.put]); (try go_frame)
  refine wpAnyH_take (i := 8) (v := _) (by first | (simp only [List.getElem?_toArray, List.getElem?_cons_zero, List.getElem?_cons_succ]; rfl) | rfl) (by kernel_rfl) (by kernel_rfl) (by kernel_rfl) (by exact fun _ _ _ h => h) (Or.inl ⟨by rfl, by (intro w hSw; (try dsimp only at hSw); go_simp; try with_reducible rfl)⟩) (by assumption) ?_
  (try dsimp only [Act.put]); (try go_frame)
  refine wpAnyH_take (i := 9) (v := _) (by first | (simp only [List.getElem?_toArray, List.getElem?_cons_zero, List.getElem?_cons_succ]; rfl) | rfl) (by kernel_rfl) (by kernel_rfl) (by kernel_rfl) (by exact fun _ _ _ h => h) (Or.inl ⟨by rfl, by (intro w hSw; (try dsimp only at hSw); go_simp; try with_reducible rfl)⟩) (by assumption) ?_
  (try dsimp only [Act.put]); (try go_frame)
  refine wpAnyH_done (by kernel_rfl) ?_ _
  try simp only [QCut]
  clear hHeld
  go_wp2_with fail
  refine (hg _).mono ?_
  rintro r w1 ⟨rfl, rfl⟩
  go_wp2
  go_returns
  exact ⟨rfl, B0⟩
end Go.Proofs.YtbhfnigblhfikaaGreat

/- The reference of layer 4: parted tells what split tells. -/
namespace Go.Proofs.YtbhfnigblhfikaaGreat
open Go Go.RowKit Go.PlainAid Fil

theorem HD_run {s : ByteArray} {d : Dcm} {f : Nat} : ∀ n i, n = s.size - i → HD s d f i = HD s d f (dend s i) := by
  intro n
  induction n with
  | zero =>
    intro i hn
    rw [dend_end (fun h => by have := dgt_lt h; omega)]
  | succ n ih =>
    intro i hn
    by_cases h : dgt s i
    · rw [HD_dig h, dend_dig h]; exact ih (i + 1) (by omega)
    · rw [dend_end h]
theorem TL_run {s : ByteArray} {d : Dcm} {f : Nat} : ∀ n i, n = s.size - i → TL s d f i = TL s d f (dend s i) := by
  intro n
  induction n with
  | zero =>
    intro i hn
    rw [dend_end (fun h => by have := dgt_lt h; omega)]
  | succ n ih =>
    intro i hn
    by_cases h : dgt s i
    · rw [TL_dig h, dend_dig h]; exact ih (i + 1) (by omega)
    · rw [dend_end h]
theorem PW_head {s : ByteArray} {d : Dcm} {j : Nat} (h : goodB d.head.data.toList = false) : (PW s d j).2 = false := by
  by_cases h1 : byt s j = 101
  · by_cases h2 : byt s (j + 1) = 45
    · rw [PW_down h1 h2, h, Bool.and_false]
    · rw [PW_up h1 h2, h, Bool.and_false]
  · rw [PW_not h1]
theorem TL_head {s : ByteArray} {d : Dcm} {f : Nat} (hf : f ≤ s.size) (h : goodB d.head.data.toList = false) : (TL s d f f).2 = false := by
  rw [TL_run _ f rfl]
  have hsp := dend_spec (s := s) _ f rfl hf
  generalize dend s f = i at *
  by_cases h1 : i = f
  · subst h1; rw [TL_none hsp.2.2.1]
  · by_cases h2 : i = s.size
    · rw [TL_end hsp.2.2.1 h1 h2]; exact h
    · rw [TL_pw hsp.2.2.1 h1 h2]; exact PW_head h
/-- a power's text, its sign and its digits -/
def PwOk (dn : Bool) (Q P : ByteArray) : Prop := (dn = false ∧ byt P 0 ≠ 45 ∧ goodL P.data.toList ∧ (P = Q ∨ Q.size = 0 ∧ P = ⟨#[48]⟩)) ∨ (dn = true ∧ byt P 0 = 45 ∧ P.extract 1 P.size = Q ∧ goodL Q.data.toList)
/-- what parted tells, by what split tells -/
def PtOk (x : Dcm × Bool) (H T P : ByteArray) (ok : Bool) : Prop := x.2 = ok ∧ (ok = true → x.1.head = H ∧ x.1.tail = T ∧ PwOk x.1.down x.1.power P)
theorem ext_nil {s : ByteArray} {a b : Nat} (h : b ≤ a) : s.extract a b = ⟨#[]⟩ := nil_of_size (by rw [ByteArray.size_extract]; omega)
theorem ext_one {t : ByteArray} {n : Nat} : (t.extract n t.size).extract 1 (t.extract n t.size).size = t.extract (n + 1) t.size := by
  rw [ByteArray.size_extract, ByteArray.extract_extract]
  congr 1; omega
theorem first_byt {X : ByteArray} (h0 : 0 < X.size) : (X[0]'h0).toNat = byt X 0 := (byt_in h0).symm
theorem byt_pos {X : ByteArray} {i : Nat} (h : i < X.size) : byt X i < 256 := by rw [byt_in h]; exact (X[i]'h).toNat_lt
/-- the power: from the rest on -/
theorem parted_pw (t H T Q : ByteArray) (r : Nat) (d : Dcm) (hr : r ≤ t.size) (hrs : r ≠ t.size) (hts : t.size ≤ 1000000) (hQ : t.extract r t.size = Q) (hH : goodB d.head.data.toList = true) (hdn : d.down = false) (eH : d.head = H) (eT : d.tail = T)
    (kn : ∀ (w : World) (h0 : 0 < Q.size) (y : Nat), (Q[0]'h0).toNat = y → y ≠ 101 → Calls Tryz.prog 41 #[.string t] w fun r w' => r = .returned (.tuple #[.string H, .string T, .string { data := #[48] }, .bool false]) ∧ Below w.heap.size w w')
    (ke : ∀ (w : World) (h0 : 0 < Q.size) (y : Nat), (Q[0]'h0).toNat = y → y = 101 → ∀ P, Q.extract 1 Q.size = P → P = ⟨#[]⟩ → (∀ W, Calls Tryz.prog 76 #[.string ⟨#[]⟩] W fun r w' => r = .returned (.bool false) ∧ W = w') → Calls Tryz.prog 41 #[.string t] w fun r w' => r = .returned (.tuple #[.string { data := #[] }, .string { data := #[] }, .string { data := #[] }, .bool false]) ∧ Below w.heap.size w w')
    (kpf : ∀ (w : World) (h0 : 0 < Q.size) (y : Nat), (Q[0]'h0).toNat = y → y = 101 → ∀ P, Q.extract 1 Q.size = P → ∀ (f0 : 0 < P.size) (f : Nat), (P[0]'f0).toNat = f → f ≠ 45 → (∀ W, Calls Tryz.prog 76 #[.string P] W fun r w' => r = .returned (.bool false) ∧ W = w') → Calls Tryz.prog 41 #[.string t] w fun r w' => r = .returned (.tuple #[.string { data := #[] }, .string { data := #[] }, .string { data := #[] }, .bool false]) ∧ Below w.heap.size w w')
    (kpt : ∀ (w : World) (h0 : 0 < Q.size) (y : Nat), (Q[0]'h0).toNat = y → y = 101 → ∀ P, Q.extract 1 Q.size = P → ∀ (f0 : 0 < P.size) (f : Nat), (P[0]'f0).toNat = f → f ≠ 45 → (∀ W, Calls Tryz.prog 76 #[.string P] W fun r w' => r = .returned (.bool true) ∧ W = w') → (P.toList == [45, 48]) = false → Calls Tryz.prog 41 #[.string t] w fun r w' => r = .returned (.tuple #[.string H, .string T, .string P, .bool true]) ∧ Below w.heap.size w w')
    (kmf : ∀ (w : World) (h0 : 0 < Q.size) (y : Nat), (Q[0]'h0).toNat = y → y = 101 → ∀ P, Q.extract 1 Q.size = P → ∀ (f0 : 0 < P.size) (f : Nat), (P[0]'f0).toNat = f → f = 45 → ∀ M, P.extract 1 P.size = M → (∀ W, Calls Tryz.prog 76 #[.string M] W fun r w' => r = .returned (.bool false) ∧ W = w') → Calls Tryz.prog 41 #[.string t] w fun r w' => r = .returned (.tuple #[.string { data := #[] }, .string { data := #[] }, .string { data := #[] }, .bool false]) ∧ Below w.heap.size w w')
    (kmz : ∀ (w : World) (h0 : 0 < Q.size) (y : Nat), (Q[0]'h0).toNat = y → y = 101 → ∀ P, Q.extract 1 Q.size = P → ∀ (f0 : 0 < P.size) (f : Nat), (P[0]'f0).toNat = f → f = 45 → ∀ M, P.extract 1 P.size = M → (∀ W, Calls Tryz.prog 76 #[.string M] W fun r w' => r = .returned (.bool true) ∧ W = w') → (P.toList == [45, 48]) = true → Calls Tryz.prog 41 #[.string t] w fun r w' => r = .returned (.tuple #[.string { data := #[] }, .string { data := #[] }, .string { data := #[] }, .bool false]) ∧ Below w.heap.size w w')
    (kmt : ∀ (w : World) (h0 : 0 < Q.size) (y : Nat), (Q[0]'h0).toNat = y → y = 101 → ∀ P, Q.extract 1 Q.size = P → ∀ (f0 : 0 < P.size) (f : Nat), (P[0]'f0).toNat = f → f = 45 → ∀ M, P.extract 1 P.size = M → (∀ W, Calls Tryz.prog 76 #[.string M] W fun r w' => r = .returned (.bool true) ∧ W = w') → (P.toList == [45, 48]) = false → Calls Tryz.prog 41 #[.string t] w fun r w' => r = .returned (.tuple #[.string H, .string T, .string P, .bool true]) ∧ Below w.heap.size w w') :
    ∃ (H' T' P' : ByteArray) (ok : Bool), (∀ w : World, Calls Tryz.prog 41 #[.string t] w (fun r w' => r = .returned (.tuple #[.string H', .string T', .string P', .bool ok]) ∧ Below w.heap.size w w')) ∧ PtOk (PW t d r) H' T' P' ok := by
  have hQz : Q.size = t.size - r := by rw [← hQ, ByteArray.size_extract]; omega
  have h0 : 0 < Q.size := by omega
  have hb0 : byt Q 0 = byt t r := by rw [← hQ, byt_extract hr]; rfl
  obtain ⟨y, hy⟩ : ∃ y, (Q[0]'h0).toNat = y := ⟨_, rfl⟩
  have hyt : byt t r = y := by rw [← hb0, byt_in h0, hy]
  by_cases h101 : y = 101
  · have hP1 : Q.extract 1 Q.size = t.extract (r + 1) t.size := by rw [← hQ]; exact ext_one
    obtain ⟨P, hP⟩ : ∃ P, Q.extract 1 Q.size = P := ⟨_, rfl⟩
    have hPt : t.extract (r + 1) t.size = P := by rw [← hP1, hP]
    have hPz : P.size = t.size - (r + 1) := by rw [← hPt, ByteArray.size_extract]; omega
    have hPb : byt P 0 = byt t (r + 1) := by rw [← hPt, byt_extract (by omega)]
    have hbare := fun (X : ByteArray) (h : X.size ≤ 1000000) W => p4bare_any X W (by omega)
    rcases Nat.eq_zero_or_pos P.size with hP0 | hP0
    · have hPn := nil_of_size hP0
      refine ⟨_, _, _, false, fun w => ke w h0 y hy h101 P hP hPn (fun W => hbare _ (by show 0 ≤ 1000000; omega) W), ?_⟩
      have h45 : byt t (r + 1) ≠ 45 := by rw [← hPb, byt_out (by omega)]; omega
      refine ⟨?_, fun h => Bool.noConfusion h⟩
      rw [PW_up (by omega) h45, hPt, hPn]
      rfl
    · obtain ⟨f, hf⟩ : ∃ f, (P[0]'hP0).toNat = f := ⟨_, rfl⟩
      have hft : byt t (r + 1) = f := by rw [← hPb, byt_in hP0, hf]
      by_cases h45 : f = 45
      · have hM1 : P.extract 1 P.size = t.extract (r + 2) t.size := by rw [← hPt]; exact ext_one
        obtain ⟨M, hM⟩ : ∃ M, P.extract 1 P.size = M := ⟨_, rfl⟩
        have hMt : t.extract (r + 2) t.size = M := by rw [← hM1, hM]
        have hbM := fun W => hbare M (by rw [← hMt, ByteArray.size_extract]; omega) W
        have hPl : P.toList = 45 :: M.data.toList := by
          have h1 : P.data.toList = (P[0]'hP0) :: P.data.toList.drop 1 := by
            have hh := head_get hP0
            cases hl : P.data.toList with
            | nil => rw [hl] at hh; exact absurd hh (by simp)
            | cons a l =>
              rw [hl] at hh
              rw [← Option.some.inj hh]; rfl
          have h2 : M.data.toList = P.data.toList.drop 1 := by
            rw [← hM]
            have e : (P.extract 1 P.size).data.toList = (P.data.toList.drop 1).take (P.size - 1) := by simp
            rw [e, List.take_of_length_le]
            rw [List.length_drop, Array.length_toList]; exact Nat.le_refl _
          rw [ByteArray.toList_eq, h1, h2, show (P[0]'hP0) = 45 from UInt8.toNat_inj.1 (by rw [hf, h45]; rfl)]
        cases hg : goodB M.data.toList
        · rw [hg] at hbM
          refine ⟨_, _, _, false, fun w => kmf w h0 y hy h101 P hP hP0 f hf h45 M hM hbM, ?_, fun h => Bool.noConfusion h⟩
          rw [PW_down (by omega) (by omega), hMt, hg]; rfl
        · rw [hg] at hbM
          cases hz : (M.data.toList == [48])
          · refine ⟨_, _, _, true, fun w => kmt w h0 y hy h101 P hP hP0 f hf h45 M hM hbM (by rw [hPl]; simpa using hz), ?_, fun _ => ?_⟩
            · rw [PW_down (by omega) (by omega), hMt, hg, hz, hH]; rfl
            · rw [PW_down (by omega) (by omega)]
              exact ⟨eH, eT, .inr ⟨rfl, by rw [hPb]; omega, by rw [hM, hMt], by rw [hMt]; exact of_decide_eq_true hg⟩⟩
          · refine ⟨_, _, _, false, fun w => kmz w h0 y hy h101 P hP hP0 f hf h45 M hM hbM (by rw [hPl]; simpa using hz), ?_, fun h => Bool.noConfusion h⟩
            rw [PW_down (by omega) (by omega), hMt, hg, hz]; rfl
      · have hbP := fun W => hbare P (by omega) W
        cases hg : goodB P.data.toList
        · rw [hg] at hbP
          refine ⟨_, _, _, false, fun w => kpf w h0 y hy h101 P hP hP0 f hf h45 hbP, ?_, fun h => Bool.noConfusion h⟩
          rw [PW_up (by omega) (by omega), hPt, hg]; rfl
        · rw [hg] at hbP
          refine ⟨_, _, _, true, fun w => kpt w h0 y hy h101 P hP hP0 f hf h45 hbP (by
            rw [beq_eq_false_iff_ne]
            intro e
            have h1 := head_get hP0
            rw [← ByteArray.toList_eq, e] at h1
            have h2 : (P[0]'hP0) = 45 := (Option.some.inj h1).symm
            rw [h2] at hf
            exact h45 hf.symm), ?_, fun _ => ?_⟩
          · rw [PW_up (by omega) (by omega), hPt, hg, hH]; rfl
          · rw [PW_up (by omega) (by omega)]
            exact ⟨eH, eT, .inl ⟨hdn, by rw [hPb]; omega, of_decide_eq_true hg, .inl (by rw [hPt])⟩⟩
  · refine ⟨_, _, _, false, fun w => kn w h0 y hy h101, ?_, fun h => Bool.noConfusion h⟩
    rw [PW_not (by omega)]
theorem p4parted_any (t : ByteArray) (ng : Bool) (hts : t.size ≤ 1000000) : ∃ (H T P : ByteArray) (ok : Bool), (∀ w : World, Calls Tryz.prog 41 #[.string t] w (fun r w' => r = .returned (.tuple #[.string H, .string T, .string P, .bool ok]) ∧ Below w.heap.size w w')) ∧ PtOk (HD t (dcm0 ng) 0 0) H T P ok := by
  rw [HD_run _ 0 rfl]
  obtain ⟨_, hn, hnd, _⟩ := dend_spec (s := t) _ 0 rfl (by omega)
  have hd := fun W => p4digits_any t W (by omega)
  obtain ⟨n, hnn⟩ : ∃ n, n = dend t 0 := ⟨_, rfl⟩
  rw [← hnn] at hn hnd hd ⊢
  obtain ⟨H, hH⟩ : ∃ H, t.extract 0 n = H := ⟨_, rfl⟩
  obtain ⟨R, hR⟩ : ∃ R, t.extract n t.size = R := ⟨_, rfl⟩
  have hb := fun W => p4bare_any H W (by rw [← hH, ByteArray.size_extract]; omega)
  have hRz : R.size = t.size - n := by rw [← hR, ByteArray.size_extract]; omega
  cases hg : goodB H.data.toList
  · rw [hg] at hb
    refine ⟨_, _, _, false, fun w => parted_b t H R n w hn hts hH hR hd hb, ?_, fun h => Bool.noConfusion h⟩
    by_cases h1 : n = t.size
    · rw [HD_end hnd h1, hH]; exact hg
    · by_cases h2 : byt t n = 46
      · rw [HD_pt h2]; exact TL_head (by omega) (by show goodB (t.extract 0 n).data.toList = false; rw [hH]; exact hg)
      · rw [HD_pw hnd h1 h2]; exact PW_head (by show goodB (t.extract 0 n).data.toList = false; rw [hH]; exact hg)
  · rw [hg] at hb
    by_cases h1 : n = t.size
    · have hR0 : R = ⟨#[]⟩ := nil_of_size (by omega)
      refine ⟨_, _, _, true, fun w => parted_e t H R n w hn hts hH hR hd hb hR0, ?_, fun _ => ?_⟩
      · rw [HD_end hnd h1, hH]; exact hg
      · rw [HD_end hnd h1]
        exact ⟨hH, rfl, .inl ⟨rfl, by decide, by decide, .inr ⟨rfl, rfl⟩⟩⟩
    · have h0 : 0 < R.size := by omega
      have hb0 : byt R 0 = byt t n := by rw [← hR, byt_extract hn]; rfl
      obtain ⟨c, hc⟩ : ∃ c, (R[0]'h0).toNat = c := ⟨_, rfl⟩
      have hct : byt t n = c := by rw [← hb0, byt_in h0, hc]
      by_cases h46 : c = 46
      · obtain ⟨S, hS⟩ : ∃ S, R.extract 1 R.size = S := ⟨_, rfl⟩
        have hSt : t.extract (n + 1) t.size = S := by rw [← hS, ← hR]; exact ext_one.symm
        have hSz : S.size = t.size - (n + 1) := by rw [← hSt, ByteArray.size_extract]; omega
        have hds := fun W => p4digits_any S W (by omega)
        have hde := dend_extract (s := t) (a := n + 1) (by omega) _ 0 rfl
        rw [hSt, Nat.add_zero] at hde
        obtain ⟨k, hk⟩ : ∃ k, k = dend S 0 := ⟨_, rfl⟩
        rw [← hk] at hds hde
        obtain ⟨_, hm, hmd, _⟩ := dend_spec (s := t) _ (n + 1) rfl (by omega)
        rw [HD_pt (by omega), TL_run _ (n + 1) rfl]
        rw [← hde] at hm hmd ⊢
        by_cases hk0 : k = 0
        · refine ⟨_, _, _, false, fun w => parted_z t H R n w hn hts hH hR hd hb h0 c hc h46 S hS k hds hk0, ?_, fun h => Bool.noConfusion h⟩
          subst hk0
          rw [Nat.add_zero] at hmd ⊢
          rw [TL_none hmd]
        · obtain ⟨T, hT⟩ : ∃ T, R.extract 1 (1 + k) = T := ⟨_, rfl⟩
          obtain ⟨Q, hQ⟩ : ∃ Q, R.extract (1 + k) R.size = Q := ⟨_, rfl⟩
          have hTt : t.extract (n + 1) (n + 1 + k) = T := by
            rw [← hT, ← hR, ByteArray.extract_extract]
            congr 1; omega
          have hQt : t.extract (n + 1 + k) t.size = Q := by
            rw [← hQ, ← hR, ByteArray.size_extract, ByteArray.extract_extract]
            congr 1 <;> omega
          have hkR : 1 + k ≤ R.size := by omega
          by_cases h2 : n + 1 + k = t.size
          · have hQ0 : Q = ⟨#[]⟩ := nil_of_size (by rw [← hQt, ByteArray.size_extract]; omega)
            refine ⟨_, _, _, true, fun w => parted_pe t H R n w hn hts hH hR hd hb h0 c hc h46 S hS k hds hk0 hkR T Q hT hQ hQ0, ?_, fun _ => ?_⟩
            · rw [TL_end hmd (by omega) h2]; show goodB (t.extract 0 n).data.toList = true; rw [hH]; exact hg
            · rw [TL_end hmd (by omega) h2]
              exact ⟨hH, hTt, .inl ⟨rfl, by decide, by decide, .inr ⟨rfl, rfl⟩⟩⟩
          · rw [TL_pw hmd (by omega) h2]
            exact parted_pw t H T Q (n + 1 + k) _ hm h2 hts hQt (by show goodB (t.extract 0 n).data.toList = true; rw [hH]; exact hg) rfl hH hTt
              (fun w g0 y hy h => parted_pn t H R n w hn hts hH hR hd hb h0 c hc h46 S hS k hds hk0 hkR T Q hT hQ g0 y hy h)
              (fun w g0 y hy h P hP hP0 hg => parted_pxe t H R n w hn hts hH hR hd hb h0 c hc h46 S hS k hds hk0 hkR T Q hT hQ g0 y hy h P hP hP0 hg)
              (fun w g0 y hy h P hP f0 f hf h45 hg => parted_pxpf t H R n w hn hts hH hR hd hb h0 c hc h46 S hS k hds hk0 hkR T Q hT hQ g0 y hy h P hP f0 f hf h45 hg)
              (fun w g0 y hy h P hP f0 f hf h45 hg hz => parted_pxpt t H R n w hn hts hH hR hd hb h0 c hc h46 S hS k hds hk0 hkR T Q hT hQ g0 y hy h P hP f0 f hf h45 hg hz)
              (fun w g0 y hy h P hP f0 f hf h45 M hM hg => parted_pxmf t H R n w hn hts hH hR hd hb h0 c hc h46 S hS k hds hk0 hkR T Q hT hQ g0 y hy h P hP f0 f hf h45 M hM hg)
              (fun w g0 y hy h P hP f0 f hf h45 M hM hg hz => parted_pxmz t H R n w hn hts hH hR hd hb h0 c hc h46 S hS k hds hk0 hkR T Q hT hQ g0 y hy h P hP f0 f hf h45 M hM hg hz)
              (fun w g0 y hy h P hP f0 f hf h45 M hM hg hz => parted_pxmt t H R n w hn hts hH hR hd hb h0 c hc h46 S hS k hds hk0 hkR T Q hT hQ g0 y hy h P hP f0 f hf h45 M hM hg hz)
      · rw [HD_pw hnd h1 (by omega)]
        exact parted_pw t H ⟨#[]⟩ R n _ hn h1 hts hR (by show goodB (t.extract 0 n).data.toList = true; rw [hH]; exact hg) rfl hH rfl
          (fun w g0 y hy h => parted_nn t H R n w hn hts hH hR hd hb g0 y hy (by rw [first_byt, hb0, hct] at hy; omega) h)
          (fun w g0 y hy h P hP hP0 hg => parted_nxe t H R n w hn hts hH hR hd hb g0 y hy (by omega) h P hP hP0 hg)
          (fun w g0 y hy h P hP f0 f hf h45 hg => parted_nxpf t H R n w hn hts hH hR hd hb g0 y hy (by omega) h P hP f0 f hf h45 hg)
          (fun w g0 y hy h P hP f0 f hf h45 hg hz => parted_nxpt t H R n w hn hts hH hR hd hb g0 y hy (by omega) h P hP f0 f hf h45 hg hz)
          (fun w g0 y hy h P hP f0 f hf h45 M hM hg => parted_nxmf t H R n w hn hts hH hR hd hb g0 y hy (by omega) h P hP f0 f hf h45 M hM hg)
          (fun w g0 y hy h P hP f0 f hf h45 M hM hg hz => parted_nxmz t H R n w hn hts hH hR hd hb g0 y hy (by omega) h P hP f0 f hf h45 M hM hg hz)
          (fun w g0 y hy h P hP f0 f hf h45 M hM hg hz => parted_nxmt t H R n w hn hts hH hR hd hb g0 y hy (by omega) h P hP f0 f hf h45 M hM hg hz)
end Go.Proofs.YtbhfnigblhfikaaGreat
