/- Merged: RF RG RI RJ RK RL -/
import Derived.Test.YtbfnafcpjbdbpaaGreatR9
import Derived.Test.YtbfnafcpjbdbpaaGreatJI
import Derived.Test.YtbfnafcpjbdbpaaGreatB8
import Derived.Test.YtbfnafcpjbdbpaaGreatBK
import Derived.Test.YtbfnafcpjbdbpaaGreatJZ
import Derived.Test.YtbfnafcpjbdbpaaGreatJU

/- The reference of layer 2: two, Shift, Bit, Low, Len. -/
namespace Go.Proofs.YtbfnafcpjbdbpaaGreat
open Go Go.RowKit Go.PlainAid Fil

theorem dg_two (n j : Nat) : dg 8 (2 ^ n) j = if j = n / 8 then 2 ^ (n % 8) else 0 := by
  unfold dg
  by_cases h : j = n / 8
  · rw [if_pos h, Nat.pow_div (by omega) (by omega), show n - 8 * j = n % 8 by omega]
    refine Nat.mod_eq_of_lt (Nat.pow_lt_pow_right (by omega) (by omega))
  · rw [if_neg h]
    rcases Nat.lt_or_ge j (n / 8) with h1 | h1
    · rw [Nat.pow_div (by omega) (by omega)]
      refine Nat.mod_eq_zero_of_dvd (Nat.pow_dvd_pow 2 (by omega))
    · rw [Nat.div_eq_of_lt (Nat.pow_lt_pow_right (by omega) (by omega))]
theorem dn_two (n : Nat) : Fil.dn 8 (2 ^ n) = n / 8 + 1 := by
  rw [dn8_bl, bl_eq (n := n) (Nat.le_refl _) (Nat.pow_lt_pow_right (by omega) (by omega))]
  omega
set_option maxRecDepth 100000 in
set_option maxHeartbeats 2000000 in
theorem r2two_any (n : Nat) (w : World) (hn : n ≤ 1000000) :
    Calls Tryz.prog 145 #[.int .i64 (n : Int)] w fun r w' => r = .returned (.string (bstr (2 ^ n))) ∧ Below w.heap.size w w' := by
  obtain ⟨q, hq⟩ : ∃ q, q = n / 8 := ⟨_, rfl⟩
  obtain ⟨s, hs⟩ : ∃ s, s = n % 8 := ⟨_, rfl⟩
  have hmk := run_make_row' (P := Tryz.prog) 119 3 (.int .i64 0) 8 Tryz.underlying119 Tryz.info3 rfl .i64 .i64 (q + 1) (by omega) (by omega)
  rw [show ((q + 1 : Nat) : Int) = (q : Int) + 1 by omega] at hmk
  have e1 : (n : Int) / 8 = (q : Int) := by omega
  have e2 : (n : Int) % 8 = (s : Int) := by omega
  have e3 : (n : Int).tmod 8 = (s : Int) := by rw [← e2]; exact Int.tmod_eq_emod_of_nonneg (by omega)
  have hlt : 2 ^ n < 2 ^ (8 * (q + 1)) := Nat.pow_lt_pow_right (by omega) (by omega)
  have hq8 : q ≤ 125000 := by omega
  have p0 : (0 : Int) ≤ (q : Int) := by omega
  have p1 : (q : Int) < (q : Int) + 1 := by omega
  obtain ⟨T, hT⟩ : ∃ T, T = 2 ^ s := ⟨_, rfl⟩
  have hT8 : T ≤ 128 := by rw [hT]; exact Nat.le_trans (Nat.pow_le_pow_right (by omega) (show s ≤ 7 by omega)) (by decide)
  have hs8 : s < 8 := by omega
  have e4 : RowKit.wrap64 (2 ^ s) = (T : Int) := by
    rw [show ((2 : Int) ^ s) = (T : Int) by rw [hT]; simp, ← i64_is]
    exact IntWalk.i64_in _ (by omega)
  have HQ := Lib.hid (And.intro hq (And.intro hs (And.intro hT hlt)))
  clear hq hs hT hlt
  go_enter Tryz.func145, Tryz.ntmps145
  go_upto_region 2 with fail
  have hr0 := World.rowIs_made w (.int .i64 0) (q + 1) 3
  have hbel := (Below.refl w.heap.size w).alloc (Nat.le_refl _) (.cells (madeCells #[.int .i64 0] (q + 1)) 3)
  clear hmk
  generalize w.alloc (.cells (madeCells #[.int .i64 0] (q + 1)) 3) = v at *
  have hc1 := hr0.cell (i := q) (by omega)
  have hc2 := hr0.frozen q
  go_upto_region 3 with fail
  obtain ⟨hq, hs, hT, hlt⟩ := HQ.out
  have hrow := (hr0.set q (.int .i64 (T : Int))).congr (g := i8 (2 ^ n)) (fun j hj => by
    rw [i8, dg_two, ← hq, ← hs, ← hT]
    by_cases h : j = q
    · rw [if_pos h, if_pos h]
    · rw [if_neg h, if_neg h]; rfl)
  have hbel2 := hbel.setCell (p := ⟨w.heap.size, q, none⟩) (Nat.le_refl _) (.int .i64 (T : Int))
  clear hc1 hc2 hr0 HQ hbel hs hT
  generalize v.setCell ⟨w.heap.size, q, none⟩ (.int .i64 (T : Int)) = v2 at *
  have hL := Lib.hid hlt
  clear hlt hq
  go_wp2_with fail
  refine (r2made_gen _ (q + 1) (q + 1) (2 ^ n) _ hL.out (by omega) (Slc.of_row hrow (by omega))).mono ?_
  rintro r w1 ⟨rfl, hb1⟩
  go_wp2
  go_ret
  exact ⟨rfl, hbel2.trans (hb1.mono hbel2.size)⟩
set_option maxHeartbeats 2000000 in
theorem r2shift_0 (x : Nat) (z : Int) (w : World) (hx8 : Fil.dn 8 x ≤ 400000) (h : x = 0 ∨ z = 0) :
    Calls Tryz.prog 127 #[.string (bstr x), .int .i64 z] w fun r w' => r = .returned (.tuple #[.string (bstr x), .int .i64 0]) ∧ w = w' := by
  by_cases h0 : x = 0
  · subst h0
    have e := bstr_nil
    clear h
    go_enter Tryz.func127, Tryz.ntmps127
    go_wp2
    go_returns
    exact ⟨rfl, rfl⟩
  · have hz : z = 0 := by rcases h with h | h; exact absurd h h0; exact h
    subst hz
    have e1 := (bstr_ne h0).1
    have e2 := (bstr_ne h0).2
    clear h
    go_enter Tryz.func127, Tryz.ntmps127
    go_wp2
    go_returns
    exact ⟨rfl, rfl⟩
set_option maxHeartbeats 2000000 in
theorem r2shift_up (x k : Nat) (w : World) (hx8 : Fil.dn 8 x ≤ 400000) (h0 : x ≠ 0) (hk : 0 < k) (hk8 : k ≤ 4611686018427387904) :
    Calls Tryz.prog 127 #[.string (bstr x), .int .i64 (k : Int)] w fun r w' => r = .returned (endV (x * 2 ^ k)) ∧ Below w.heap.size w w' := by
  have e1 := (bstr_ne h0).1
  have e2 := (bstr_ne h0).2
  have hk1 : (0 : Int) < (k : Int) := by omega
  have hk2 : ((k : Int) == 0) = false := by rw [beq_eq_false_iff_ne]; omega
  have hb := Below.refl w.heap.size w
  by_cases hl : 131072 < k
  · have e : endV (x * 2 ^ k) = .tuple #[.string { data := #[] }, .int .i64 4] := by
      refine endV_long ?_
      have h1 := dn_mul_ge h0 (show 2 ^ k ≠ 0 from Nat.ne_of_gt (pp k))
      rw [dn_two] at h1
      have := dn_pos (k := 8) h0
      omega
    rw [e]
    have hk3 : (131072 : Int) < (k : Int) := by omega
    clear e h0 hx8
    go_enter Tryz.func127, Tryz.ntmps127
    go_wp2
    go_returns
    exact ⟨rfl, hb⟩
  · have ht := fun W => r2two_any k W (by omega)
    have hm := fun W => r2Mul_any x (2 ^ k) W hx8 (by rw [dn_two]; omega) (.inl ⟨h0, Nat.ne_of_gt (pp k)⟩)
    obtain ⟨S, E, hE⟩ := endV_parts (x * 2 ^ k)
    rw [hE] at hm ⊢
    have hk3 : ¬ (131072 : Int) < (k : Int) := by omega
    clear hE h0 hx8 hl
    go_enter Tryz.func127, Tryz.ntmps127
    go_wp2_with fail
    refine (ht _).mono ?_
    rintro r w1 ⟨rfl, hb1⟩
    clear ht
    go_wp2_with fail
    refine (hm _).mono ?_
    rintro r w2 ⟨rfl, hb2⟩
    clear hm
    go_wp2
    go_returns
    exact ⟨rfl, hb1.trans (hb2.mono hb1.size)⟩
set_option maxRecDepth 100000 in
set_option maxHeartbeats 4000000 in
theorem r2shift_down (x k : Nat) (z : Int) (w : World) (hx8 : Fil.dn 8 x ≤ 400000) (h0 : x ≠ 0) (hk : 0 < k) (hk8 : k ≤ 131072) (hz : z = -(k : Int)) :
    Calls Tryz.prog 127 #[.string (bstr x), .int .i64 z] w fun r w' => r = .returned (.tuple #[.string (bstr (x / 2 ^ k)), .int .i64 0]) ∧ Below w.heap.size w w' := by
  have e1 := (bstr_ne h0).1
  have e2 := (bstr_ne h0).2
  have hd1 := fun W => r2digits_any x W (by omega)
  have hx := lt_dn (k := 8) (by omega) x
  obtain ⟨n, hn⟩ : ∃ n, n = Fil.dn 8 x := ⟨_, rfl⟩
  simp only [← hn] at hx hd1 hx8
  have Hn := Lib.hid hn
  obtain ⟨i0, hi, hp⟩ := Option.map_eq_some_iff.1 Tryz.info3
  have hz0 : i0.zero = some (.int .i64 0) := congrArg Prod.fst hp
  have hz1 : i0.size = 1 := congrArg (fun q => q.2.1) hp
  have hz2 : i0.bytes = 8 := congrArg (fun q => q.2.2) hp
  obtain ⟨q, hq⟩ : ∃ q, q = k / 8 := ⟨_, rfl⟩
  obtain ⟨s, hs⟩ : ∃ s, s = k % 8 := ⟨_, rfl⟩
  obtain ⟨M, hM⟩ : ∃ M, M = max n q := ⟨_, rfl⟩
  have HL : Hid (x / 2 ^ k < 2 ^ (8 * (M - q))) := Lib.hid (by
    rcases Nat.lt_or_ge q n with h | h
    · have := halved_lt (k := k) hx (by omega)
      exact Nat.lt_of_lt_of_le this (pmono (by omega))
    · rw [Nat.div_eq_of_lt (Nat.lt_of_lt_of_le hx (pmono (by omega)))]; exact pp _)
  have HD := Lib.hid (halved_dg x k)
  have y0 : ¬ (0 : Int) < z := by omega
  have y1 : (z == 0) = false := by rw [beq_eq_false_iff_ne]; omega
  have y2 : ¬ z < -131072 := by omega
  have y3 : -z = (k : Int) := by omega
  have y4 : (k : Int) / 8 = (q : Int) := by omega
  have y5 : (k : Int) % 8 = (s : Int) := by omega
  have y6 : (k : Int).tmod 8 = (s : Int) := by rw [← y5]; exact Int.tmod_eq_emod_of_nonneg (by omega)
  have y7 : (k : Int).tdiv 8 = (q : Int) := by rw [← y4]; exact Int.tdiv_eq_ediv_of_nonneg (by omega)
  have y8 : z < 0 := by omega
  have y9 : z ≤ -1 := by omega
  have hs8 : s < 8 := by omega
  have hq8 : q ≤ 16384 := by omega
  have hqM : q ≤ M := by omega
  have hnM : n ≤ M := by omega
  have hM8 : M ≤ 500000 := by omega
  have HQ := Lib.hid (And.intro hq (And.intro hs hM))
  have Hx := Lib.hid hx
  have hb0 := Below.refl w.heap.size w
  clear hn hp hx hq hs hM h0 hz
  go_enter Tryz.func127, Tryz.ntmps127
  go_wp2_with fail
  refine (hd1 _).mono ?_
  rintro r w2 ⟨v1, rfl, ho1, hb1⟩
  obtain ⟨A, c, rfl, hnc, ha⟩ := Own.slc ho1
  replace ha : Slc w2 3 A n (i8 x) := ha
  clear ho1 hd1
  go_wp2
  go_loopg [7, 8] (M - q) (fun g s7 s8 wr => ∃ p : Nat, q ≤ p ∧ p ≤ M ∧ g = M - p ∧ s8 = .int .i64 (p : Int) ∧ Own wr w2.heap.size s7 (p - q) (fun i => (dg 8 (x / 2 ^ k) i : Int)) ∧ Below w2.heap.size w2 wr)
  case atStart => exact ⟨q, by omega, by omega, rfl, rfl, by rw [Nat.sub_self]; exact Own.nil _ _ _, Below.refl _ _⟩
  case round =>
    obtain ⟨p, hqp, hp, hg, rfl, hown, hbel⟩ := hrel
    by_cases hpn : p < n
    · obtain ⟨b, o, rfl, hblt0, hc⟩ := (ha.below hbel).cell (by omega)
      have k1 := hc p hpn
      simp only [i8] at k1
      have hd0 := dg_lt 8 x p
      have hd1 := dg_lt 8 x (p + 1)
      have hHD := HD.out (p - q)
      rw [← HQ.out.1, ← HQ.out.2.1, show q + (p - q) = p by omega] at hHD
      have hs2 := ha.below hbel
      have hra := fun W => r2at_quiet (some ⟨b, o, none⟩) n c x ((p : Int) + 1) W Hn.out (by omega) (by omega)
      rw [show (((p : Int) + 1).toNat) = p + 1 by omega] at hra
      obtain ⟨d2, hd2⟩ : ∃ d2, d2 = dg 8 (x / 2 ^ k) (p - q) := ⟨_, rfl⟩
      rw [← hd2] at hHD
      have HE := Lib.hid hd2
      have HA := Lib.hid hra
      obtain ⟨d0, he0⟩ : ∃ d0, d0 = dg 8 x p := ⟨_, rfl⟩
      obtain ⟨d1, he1⟩ : ∃ d1, d1 = dg 8 x (p + 1) := ⟨_, rfl⟩
      rw [← he0] at hd0 hHD k1
      rw [← he1] at hd1 hHD HA
      obtain ⟨dd, hdd⟩ : ∃ dd, dd = d0 + 256 * d1 := ⟨_, rfl⟩
      obtain ⟨t, ht⟩ : ∃ t, t = dd / 2 ^ s := ⟨_, rfl⟩
      have ht8 : t ≤ dd := by rw [ht]; exact Nat.div_le_self _ _
      have hdd8 : dd ≤ 65535 := by omega
      rw [← hdd, ← ht] at hHD
      have W1 : IntKind.i64.wrap (256 * (d1 : Int)) = 256 * (d1 : Int) := IntWalk.i64_in _ (by omega)
      have W2 : IntKind.i64.wrap ((d0 : Int) + 256 * (d1 : Int)) = (dd : Int) := by rw [IntWalk.i64_in _ (by omega)]; omega
      have W3 : IntKind.i64.wrap ((p : Int) + 1) = (p : Int) + 1 := IntWalk.i64_in _ (by omega)
      have hsh : Op.shift BinOp.shr IntKind.i64 (dd : Int) IntKind.i64 (s : Int) = pure (Value.int .i64 (t : Int)) := by
        have h := shift_shr .i64 .i64 (dd : Int) (s : Int) (by omega) (by show (s : Int) ≤ 64; omega)
        rw [h, Int.toNat_natCast, div_cast, ht]
      have W5 : (dd : Int) / 2 ^ s = (t : Int) := by rw [ht]; simp
      have W6 : (t : Int) % 256 = (d2 : Int) := by rw [← hHD]; omega
      have W7 : (t : Int).tmod 256 = (d2 : Int) := by rw [← W6]; exact Int.tmod_eq_emod_of_nonneg (by omega)
      have P0 : (0 : Int) ≤ (p : Int) := by omega
      have P1 : (p : Int) < (n : Int) := by omega
      have hd2l : d2 < 256 := by rw [hd2]; exact dg_lt 8 _ _
      have hb2 := hbel.size
      have HG := Lib.hid (And.intro hg (And.intro hbel hHD))
      clear hg hbel hc ht hdd he0 he1 hra hHD hd2
      go_wp2_with fail
      go_quiet ((go_at_call 99; exact Calls.quiet_of (HA.out _ (by exact hs2.drewN _))))
      clear HA hs2 W1 W2 W3 k1
      go_wp2_with (at_builtin; refine wpList_append_own _ rfl _ _ 119 rfl w2.heap.size 3 i0 (.int .i64 0) 1 8 Tryz.underlying119 hi hz0 hz1 hz2 rfl (by decide) _ _ _ rfl (by exact hown.alloc _) ⟨wr.heap.size, 0, none⟩ 1 1 [.int .i64 (d2 : Int)] rfl rfl ?c1 ?c2 ?c3 ?c4 ?c5 ?_)
      case c1 =>
        intro j u hj
        match j, hj with
        | 0, hj => simp at hj; subst hj; simp [Addr.add]; exact one_cell (wr.drewN nq) _ _
      case c2 => intro u hu; simp at hu; subst hu; rfl
      case c3 => unfold maxLen; omega
      case c4 => omega
      case c5 => simp; omega
      · intro v' w1 hown' hgrow _
        rw [own_grow (g := fun i => (dg 8 (x / 2 ^ k) i : Int)) (fun _ _ => rfl) (by rw [HE.out])] at hown'
        have hb1' := ((Below.drewN' HG.out.2.1 nq).alloc hb2 (Obj.cells #[Value.int IntKind.i64 (d2 : Int)] 3)).grown hgrow (by simp; omega) (fun k hk => (hown.lt k hk).1)
        clear hown hgrow
        go_wp2
        go_roundg (M - (p + 1))
        case measure => have := HG.out.1; omega
        case rel => exact ⟨p + 1, by omega, by omega, rfl, by go_num, by rw [show p + 1 - q = p - q + 1 by omega]; exact hown', hb1'⟩
    · have hpM : p = M := by have := HQ.out.2.2; omega
      subst hpM
      obtain ⟨A', c', rfl, hnc', hs'⟩ := Own.slc hown
      replace hs' : Slc wr 3 A' (p - q) (i8 (x / 2 ^ k)) := hs'
      clear hown
      go_wp2_with fail
      refine (r2made_gen A' (p - q) c' (x / 2 ^ k) _ HL.out (by omega) hs').mono ?_
      rintro r w3 ⟨rfl, hb3⟩
      go_wp2
      go_returns
      exact ⟨rfl, hb1.trans ((hbel.trans (hb3.mono hbel.size)).mono hb1.size)⟩
end Go.Proofs.YtbfnafcpjbdbpaaGreat

/- ratio.Of and the reference's Of: ratios of Dyads. -/
namespace Go.Proofs.YtbfnafcpjbdbpaaGreat
open Go Go.RowKit Go.PlainAid Fil

end Go.Proofs.YtbfnafcpjbdbpaaGreat

/- ratio.New, Whole and the reference's. -/
namespace Go.Proofs.YtbfnafcpjbdbpaaGreat
open Go Go.RowKit Go.PlainAid Fil

set_option maxRecDepth 100000 in
set_option maxHeartbeats 8000000 in
theorem knew_bad0 (N : Bool) (P Q : ByteArray) (w : World) (h1 : ∀ W, Calls Tryz.prog 90 #[.string P] W fun r w' => r = .returned (.int .i64 2) ∧ Below W.heap.size W w') :
    Calls Tryz.prog 39 #[.bool N, .string P, .string Q] w fun r w' => r = .returned (.tuple #[.agg #[.bool false, .string { data := #[] }, .string { data := #[] }], .int .i64 2]) ∧ Below w.heap.size w w' := by
  go_enter Tryz.func39, Tryz.ntmps39
  have B0 := Below.refl w.heap.size w
  have q_w_F6 : Hid (w.heap.size ≤ w.heap.size) := Lib.hid (by omega)
  have F6 := Blk.put (w) #[.bool false, .string { data := #[] }, .string { data := #[] }] 24
  replace B0 := B0.alloc B0.size (.cells #[.bool false, .string { data := #[] }, .string { data := #[] }] 24)
  go_wp2_with fail
  (with_reducible refine (h1 _).mono ?_)
  rintro r w1 ⟨rfl, hb1⟩
  replace F6 := F6.keep hb1
  replace B0 := B0.trans (hb1.mono B0.size)
  clear hb1
  obtain ⟨xF61_0, xF61_1, xF61_2⟩ := F6.ce3
  obtain ⟨xF61_0f, xF61_1f, xF61_2f⟩ := F6.fr3
  replace F6 : Blk ((((w1).setCell ⟨w.heap.size, 0, none⟩ (.bool false)).setCell ⟨w.heap.size, 1, none⟩ (.string { data := #[] })).setCell ⟨w.heap.size, 2, none⟩ (.string { data := #[] })) (w.heap.size) #[.bool false, .string { data := #[] }, .string { data := #[] }] 24 := (((F6.setAt 0 (.bool false)).setAt 1 (.string { data := #[] })).setAt 2 (.string { data := #[] }))
  replace B0 := (((B0.setCell (p := ⟨w.heap.size, 0, none⟩) q_w_F6.out (.bool false)).setCell (p := ⟨w.heap.size, 1, none⟩) q_w_F6.out (.string { data := #[] })).setCell (p := ⟨w.heap.size, 2, none⟩) q_w_F6.out (.string { data := #[] }))
  obtain ⟨xF62_0, xF62_1, xF62_2⟩ := F6.ce3
  go_wp2
  exact bodyPost_ret (v := .tuple #[.agg #[.bool false, .string { data := #[] }, .string { data := #[] }], .int .i64 2]) (by simp [results, Tryz.results39, go_sem, xF62_0, xF62_1, xF62_2]) rfl ⟨rfl, B0⟩
set_option maxRecDepth 100000 in
set_option maxHeartbeats 8000000 in
theorem knew_bad1 (N : Bool) (P Q : ByteArray) (w : World) (h1 : ∀ W, Calls Tryz.prog 90 #[.string P] W fun r w' => r = .returned (.int .i64 0) ∧ Below W.heap.size W w') (h2 : ∀ W, Calls Tryz.prog 90 #[.string Q] W fun r w' => r = .returned (.int .i64 2) ∧ Below W.heap.size W w') :
    Calls Tryz.prog 39 #[.bool N, .string P, .string Q] w fun r w' => r = .returned (.tuple #[.agg #[.bool false, .string { data := #[] }, .string { data := #[] }], .int .i64 2]) ∧ Below w.heap.size w w' := by
  go_enter Tryz.func39, Tryz.ntmps39
  have B0 := Below.refl w.heap.size w
  have q_w_F6 : Hid (w.heap.size ≤ w.heap.size) := Lib.hid (by omega)
  have F6 := Blk.put (w) #[.bool false, .string { data := #[] }, .string { data := #[] }] 24
  replace B0 := B0.alloc B0.size (.cells #[.bool false, .string { data := #[] }, .string { data := #[] }] 24)
  go_wp2_with fail
  (with_reducible refine (h1 _).mono ?_)
  rintro r w1 ⟨rfl, hb1⟩
  replace F6 := F6.keep hb1
  replace B0 := B0.trans (hb1.mono B0.size)
  clear hb1
  go_wp2_with fail
  (with_reducible refine (h2 _).mono ?_)
  rintro r w2 ⟨rfl, hb2⟩
  replace F6 := F6.keep hb2
  replace B0 := B0.trans (hb2.mono B0.size)
  clear hb2
  obtain ⟨xF62_0, xF62_1, xF62_2⟩ := F6.ce3
  obtain ⟨xF62_0f, xF62_1f, xF62_2f⟩ := F6.fr3
  replace F6 : Blk ((((w2).setCell ⟨w.heap.size, 0, none⟩ (.bool false)).setCell ⟨w.heap.size, 1, none⟩ (.string { data := #[] })).setCell ⟨w.heap.size, 2, none⟩ (.string { data := #[] })) (w.heap.size) #[.bool false, .string { data := #[] }, .string { data := #[] }] 24 := (((F6.setAt 0 (.bool false)).setAt 1 (.string { data := #[] })).setAt 2 (.string { data := #[] }))
  replace B0 := (((B0.setCell (p := ⟨w.heap.size, 0, none⟩) q_w_F6.out (.bool false)).setCell (p := ⟨w.heap.size, 1, none⟩) q_w_F6.out (.string { data := #[] })).setCell (p := ⟨w.heap.size, 2, none⟩) q_w_F6.out (.string { data := #[] }))
  obtain ⟨xF63_0, xF63_1, xF63_2⟩ := F6.ce3
  go_wp2
  exact bodyPost_ret (v := .tuple #[.agg #[.bool false, .string { data := #[] }, .string { data := #[] }], .int .i64 2]) (by simp [results, Tryz.results39, go_sem, xF63_0, xF63_1, xF63_2]) rfl ⟨rfl, B0⟩
set_option maxRecDepth 100000 in
set_option maxHeartbeats 8000000 in
theorem knew_bad2 (N : Bool) (P Q : ByteArray) (w : World) (h1 : ∀ W, Calls Tryz.prog 90 #[.string P] W fun r w' => r = .returned (.int .i64 0) ∧ Below W.heap.size W w') (h2 : ∀ W, Calls Tryz.prog 90 #[.string Q] W fun r w' => r = .returned (.int .i64 0) ∧ Below W.heap.size W w') (hQ : Q.toList = []) :
    Calls Tryz.prog 39 #[.bool N, .string P, .string Q] w fun r w' => r = .returned (.tuple #[.agg #[.bool false, .string { data := #[] }, .string { data := #[] }], .int .i64 2]) ∧ Below w.heap.size w w' := by
  go_enter Tryz.func39, Tryz.ntmps39
  have B0 := Below.refl w.heap.size w
  have q_w_F6 : Hid (w.heap.size ≤ w.heap.size) := Lib.hid (by omega)
  have F6 := Blk.put (w) #[.bool false, .string { data := #[] }, .string { data := #[] }] 24
  replace B0 := B0.alloc B0.size (.cells #[.bool false, .string { data := #[] }, .string { data := #[] }] 24)
  go_wp2_with fail
  (with_reducible refine (h1 _).mono ?_)
  rintro r w1 ⟨rfl, hb1⟩
  replace F6 := F6.keep hb1
  replace B0 := B0.trans (hb1.mono B0.size)
  clear hb1
  go_wp2_with fail
  (with_reducible refine (h2 _).mono ?_)
  rintro r w2 ⟨rfl, hb2⟩
  replace F6 := F6.keep hb2
  replace B0 := B0.trans (hb2.mono B0.size)
  clear hb2
  obtain ⟨xF62_0, xF62_1, xF62_2⟩ := F6.ce3
  obtain ⟨xF62_0f, xF62_1f, xF62_2f⟩ := F6.fr3
  replace F6 : Blk ((((w2).setCell ⟨w.heap.size, 0, none⟩ (.bool false)).setCell ⟨w.heap.size, 1, none⟩ (.string { data := #[] })).setCell ⟨w.heap.size, 2, none⟩ (.string { data := #[] })) (w.heap.size) #[.bool false, .string { data := #[] }, .string { data := #[] }] 24 := (((F6.setAt 0 (.bool false)).setAt 1 (.string { data := #[] })).setAt 2 (.string { data := #[] }))
  replace B0 := (((B0.setCell (p := ⟨w.heap.size, 0, none⟩) q_w_F6.out (.bool false)).setCell (p := ⟨w.heap.size, 1, none⟩) q_w_F6.out (.string { data := #[] })).setCell (p := ⟨w.heap.size, 2, none⟩) q_w_F6.out (.string { data := #[] }))
  obtain ⟨xF63_0, xF63_1, xF63_2⟩ := F6.ce3
  go_wp2
  exact bodyPost_ret (v := .tuple #[.agg #[.bool false, .string { data := #[] }, .string { data := #[] }], .int .i64 2]) (by simp [results, Tryz.results39, go_sem, xF63_0, xF63_1, xF63_2]) rfl ⟨rfl, B0⟩
end Go.Proofs.YtbfnafcpjbdbpaaGreat

/- The reference of layer 2: Bit, Low, Len. -/
namespace Go.Proofs.YtbfnafcpjbdbpaaGreat
open Go Go.RowKit Go.PlainAid Fil

set_option maxHeartbeats 2000000 in
theorem r2bit_any (x i : Nat) (w : World) (hx8 : Fil.dn 8 x ≤ 400000) (hi8 : i ≤ 4611686018427387904) :
    Calls Tryz.prog 144 #[.string (bstr x), .int .i64 (i : Int)] w fun r w' => r = .returned (.int .i64 ((x / 2 ^ i % 2 : Nat) : Int)) ∧ w = w' := by
  have hsz := bstr_size x
  have hgb := get_bt (bstr x)
  have hx := lt_dn (k := 8) (by omega) x
  have hbt := fun k h => bstr_bt x k h
  obtain ⟨n, hn⟩ : ∃ n, n = Fil.dn 8 x := ⟨_, rfl⟩
  simp only [← hn] at hsz hx hx8 hbt
  obtain ⟨q, hq⟩ : ∃ q, q = i / 8 := ⟨_, rfl⟩
  obtain ⟨s, hs⟩ : ∃ s, s = i % 8 := ⟨_, rfl⟩
  have e1 : (i : Int) / 8 = (q : Int) := by omega
  have e2 : (i : Int) % 8 = (s : Int) := by omega
  have e3 : (i : Int).tmod 8 = (s : Int) := by rw [← e2]; exact Int.tmod_eq_emod_of_nonneg (by omega)
  have e4 : (i : Int).tdiv 8 = (q : Int) := by rw [← e1]; exact Int.tdiv_eq_ediv_of_nonneg (by omega)
  have hs8 : s < 8 := by omega
  have hq8 : q ≤ 576460752303423488 := by omega
  by_cases hqn : q < n
  · obtain ⟨k, hk⟩ : ∃ k, k = n - 1 - q := ⟨_, rfl⟩
    have ek : (n : Int) - 1 - (q : Int) = (k : Int) := by omega
    have hb := hbt k (by omega)
    rw [show n - 1 - k = q by omega] at hb
    have hd := dg_lt 8 x q
    have ha := Go.Proofs.and_one (dg 8 x q / 2 ^ s) (by have := Nat.div_le_self (dg 8 x q) (2 ^ s); omega)
    rw [hq, hs, bit_at, ← hq, ← hs] at ha
    rw [← div_cast] at ha
    have hk0 : (0 : Int) ≤ (k : Int) := by omega
    have hk1 : (k : Int) < (n : Int) := by omega
    have hks : k < (bstr x).size := by omega
    have hc : ¬ n ≤ q := by omega
    obtain ⟨R, hR⟩ : ∃ R, R = x / 2 ^ i % 2 := ⟨_, rfl⟩
    rw [← hR] at ha ⊢
    generalize dg 8 x q = d at *
    have W1 : IntKind.i64.wrap (d : Int) = (d : Int) := IntWalk.i64_in _ (by omega)
    have HA := Lib.hid ha
    clear hn hq hs hk hbt hx hR ha
    go_enter Tryz.func144, Tryz.ntmps144
    go_wp2
    go_ret
    exact ⟨congrArg (fun z => Ending.returned (Value.int IntKind.i64 z)) HA.out, rfl⟩
  · have h0 : x / 2 ^ i % 2 = 0 := by
      rw [Nat.div_eq_of_lt (Nat.lt_of_lt_of_le hx (pmono (by omega)))]
    rw [h0]
    have hc : n ≤ q := by omega
    clear hn hq hs hbt hx h0 hgb
    go_enter Tryz.func144, Tryz.ntmps144
    go_wp2
    go_ret
    exact ⟨rfl, rfl⟩

theorem bit_bl {x : Nat} (h : x ≠ 0) : x / 2 ^ (bl x - 1) % 2 = 1 := by
  have h1 := le_bl h
  have h2 := lt_bl x
  have h3 : bl x = bl x - 1 + 1 := by have : bl x ≠ 0 := by intro e; rw [e] at h2; omega
                                      omega
  have h4 : x / 2 ^ (bl x - 1) = 1 := by
    apply Nat.le_antisymm
    · have : x / 2 ^ (bl x - 1) < 2 := by
        rw [Nat.div_lt_iff_lt_mul (pp _), ← Nat.pow_succ']
        exact (show x < 2 ^ (bl x - 1 + 1) by rw [← h3]; exact h2)
      omega
    · exact (Nat.le_div_iff_mul_le (pp _)).2 (by rw [Nat.one_mul]; exact h1)
  rw [h4]
theorem bit_top {x j : Nat} (h : bl x ≤ j) : x / 2 ^ j % 2 = 0 := by rw [Nat.div_eq_of_lt (Nat.lt_of_lt_of_le (lt_bl x) (pmono h))]

set_option maxHeartbeats 2000000 in
theorem r2len_any (x : Nat) (w : World) (hx8 : Fil.dn 8 x ≤ 400000) :
    Calls Tryz.prog 125 #[.string (bstr x)] w fun r w' => r = .returned (.int .i64 ((bl x : Nat) : Int)) ∧ w = w' := by
  have hsz := bstr_size x
  have hle : bl x ≤ 8 * Fil.dn 8 x := bl_le (lt_dn (k := 8) (by omega) x)
  have hb0 : x = 0 → bl x = 0 := fun h => by rw [h]; rfl
  have hb := fun (j : Nat) (h : j ≤ 3200000) W => r2bit_any x j W hx8 (by omega)
  have Hb := Lib.hid (fun h => @bit_bl x h)
  have Hl := Lib.hid (fun j => @bit_top x j)
  have HB := Lib.hid hb
  have HZ := Lib.hid hb0
  clear hb hb0
  obtain ⟨n, hn⟩ : ∃ n, n = Fil.dn 8 x := ⟨_, rfl⟩
  rw [← hn] at hsz hle hx8
  clear hn
  generalize bl x = t at *
  go_enter Tryz.func125, Tryz.ntmps125
  go_wp2
  go_loopg [3] (8 * n) (fun g s3 wr => w = wr ∧ t ≤ g ∧ g ≤ 8 * n ∧ s3 = .int .i64 (g : Int))
  case atStart => exact ⟨rfl, hle, Nat.le_refl _, by go_num⟩
  case round =>
    obtain ⟨rfl, hg1, hg2, rfl⟩ := hrel
    by_cases hg : gk = 0
    · subst hg
      obtain rfl : t = 0 := by omega
      go_wp2
      go_ret
      exact ⟨rfl, rfl⟩
    · obtain ⟨m, hm⟩ : ∃ m, m = gk - 1 := ⟨_, rfl⟩
      have hb := HB.out m (by omega)
      have em : (gk : Int) - 1 = (m : Int) := by omega
      have hp : (0 : Int) < (gk : Int) := by omega
      have hp2 : 0 < gk := by omega
      by_cases ht : t = gk
      · have hx0 : x ≠ 0 := fun e => by have := HZ.out e; omega
        rw [hm, ← ht, Hb.out hx0, ht, ← hm] at hb
        have HT := Lib.hid ht
        clear ht hx0 hm
        go_wp2_with fail
        refine (hb _).mono ?_
        rintro r w1 ⟨rfl, rfl⟩
        clear hb
        go_wp2
        go_ret
        exact ⟨by rw [HT.out]; rfl, rfl⟩
      · rw [Hl.out m (by omega)] at hb
        have HT := Lib.hid (And.intro hm ht)
        clear ht hm
        go_wp2_with fail
        refine (hb _).mono ?_
        rintro r w1 ⟨rfl, rfl⟩
        clear hb
        go_wp2
        go_roundg m
        case measure => have := HT.out; omega
        case rel => exact ⟨rfl, by have := HT.out; omega, by have := HT.out; omega, rfl⟩
end Go.Proofs.YtbfnafcpjbdbpaaGreat

/- ratio.Dyad, ratio.Whole; the reference's Dyad. -/
namespace Go.Proofs.YtbfnafcpjbdbpaaGreat
open Go Go.RowKit Go.PlainAid Fil

end Go.Proofs.YtbfnafcpjbdbpaaGreat

/- ratios of Dyads and of numbers: the program and the reference agree. -/
namespace Go.Proofs.YtbfnafcpjbdbpaaGreat
open Go Go.RowKit Go.PlainAid Fil

theorem divInt_one (z : Int) : (Rat.divInt z ((1 : Nat) : Int)).num = z ∧ (Rat.divInt z ((1 : Nat) : Int)).den = 1 := by
  refine ⟨?_, ?_⟩
  · rw [Rat.num_divInt]; simp
  · rw [Rat.den_divInt]; simp
theorem natB_nil {S : ByteArray} (h : S.size = 0) : natB S = true := by unfold natB; rw [h]; rfl
theorem bl_two {q : Nat} (h : q ≠ 0) : q / 2 ^ tz q = 1 ↔ bl q = tz q + 1 := by
  have h1 : q / 2 ^ tz q * 2 ^ tz q = q := tz_mul
  have h2 : q / 2 ^ tz q ≠ 0 := fun e => by rw [e, Nat.zero_mul] at h1; exact h h1.symm
  have h3 : bl q = bl (q / 2 ^ tz q) + tz q := by
    have := bl_shift (k := tz q) h2
    rw [h1] at this
    exact this
  rw [h3]
  generalize q / 2 ^ tz q = o at *
  constructor
  · rintro rfl
    rw [show bl 1 = 1 by decide]; omega
  · intro h4
    have h5 : bl o = 1 := by omega
    have h6 := lt_bl o
    rw [h5] at h6
    omega
end Go.Proofs.YtbfnafcpjbdbpaaGreat
