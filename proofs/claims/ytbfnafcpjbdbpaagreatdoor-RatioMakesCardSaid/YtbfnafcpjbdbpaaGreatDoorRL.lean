/- Merged: RF RG RI RJ RK RL -/
import Derived.Test.YtbfnafcpjbdbpaaGreatDoorR9
import Derived.Test.YtbfnafcpjbdbpaaGreatDoorJI
import Derived.Test.YtbfnafcpjbdbpaaGreatDoorB8
import Derived.Test.YtbfnafcpjbdbpaaGreatDoorBK
import Derived.Test.YtbfnafcpjbdbpaaGreatDoorJZ
import Derived.Test.YtbfnafcpjbdbpaaGreatDoorJU

/- The reference of layer 2: two, Shift, Bit, Low, Len. -/
namespace Go.Proofs.YtbfnafcpjbdbpaaGreatDoor
open Go Go.RowKit Go.PlainAid Fil

theorem dg_two (n j : Nat) : dg 8 (2 ^ n) j = if j = n / 8 then 2 ^ (n % 8) else 0 := by
  unfold dg
  by_cases h : j = n / 8
  · rw [if_pos h, Nat.pow_div (by omega) (by omega), show n - 8 * j = n % 8 by omega]
    refine Nat.mod_eq_of_lt (Nat.pow_lt_pow_right (by omega) (by omega))
  · rw [if_neg h]
    rcases Nat.lt_or_ge j (n / 8) with h1 | h1
    · rw [Nat.pow_div (by omega) (by omega)]
      refine Nat.mod_eq_zero_of_dvd (Nat.pow_dvd_pow 2 (by omega))
    · rw [Nat.div_eq_of_lt (Nat.pow_lt_pow_right (by omega) (by omega))]
theorem dn_two (n : Nat) : Fil.dn 8 (2 ^ n) = n / 8 + 1 := by
  rw [dn8_bl, bl_eq (n := n) (Nat.le_refl _) (Nat.pow_lt_pow_right (by omega) (by omega))]
  omega
set_option maxRecDepth 100000 in
set_option maxHeartbeats 2000000 in
theorem r2two_any (n : Nat) (w : World) (hn : n ≤ 1000000) :
    Calls Tryz.prog 81 #[.int .i64 (n : Int)] w fun r w' => r = .returned (.string (bstr (2 ^ n))) ∧ Below w.heap.size w w' := by
  obtain ⟨q, hq⟩ : ∃ q, q = n / 8 := ⟨_, rfl⟩
  obtain ⟨s, hs⟩ : ∃ s, s = n % 8 := ⟨_, rfl⟩
  have hmk := run_make_row' (P := Tryz.prog) 118 3 (.int .i64 0) 8 Tryz.underlying118 Tryz.info3 rfl .i64 .i64 (q + 1) (by omega) (by omega)
  rw [show ((q + 1 : Nat) : Int) = (q : Int) + 1 by omega] at hmk
  have e1 : (n : Int) / 8 = (q : Int) := by omega
  have e2 : (n : Int) % 8 = (s : Int) := by omega
  have e3 : (n : Int).tmod 8 = (s : Int) := by rw [← e2]; exact Int.tmod_eq_emod_of_nonneg (by omega)
  have hlt : 2 ^ n < 2 ^ (8 * (q + 1)) := Nat.pow_lt_pow_right (by omega) (by omega)
  have hq8 : q ≤ 125000 := by omega
  have p0 : (0 : Int) ≤ (q : Int) := by omega
  have p1 : (q : Int) < (q : Int) + 1 := by omega
  obtain ⟨T, hT⟩ : ∃ T, T = 2 ^ s := ⟨_, rfl⟩
  have hT8 : T ≤ 128 := by rw [hT]; exact Nat.le_trans (Nat.pow_le_pow_right (by omega) (show s ≤ 7 by omega)) (by decide)
  have hs8 : s < 8 := by omega
  have e4 : RowKit.wrap64 (2 ^ s) = (T : Int) := by
    rw [show ((2 : Int) ^ s) = (T : Int) by rw [hT]; simp, ← i64_is]
    exact IntWalk.i64_in _ (by omega)
  have HQ := Lib.hid (And.intro hq (And.intro hs (And.intro hT hlt)))
  clear hq hs hT hlt
  go_enter Tryz.func81, Tryz.ntmps81
  go_upto_region 2 with fail
  have hr0 := World.rowIs_made w (.int .i64 0) (q + 1) 3
  have hbel := (Below.refl w.heap.size w).alloc (Nat.le_refl _) (.cells (madeCells #[.int .i64 0] (q + 1)) 3)
  clear hmk
  generalize w.alloc (.cells (madeCells #[.int .i64 0] (q + 1)) 3) = v at *
  have hc1 := hr0.cell (i := q) (by omega)
  have hc2 := hr0.frozen q
  go_upto_region 3 with fail
  obtain ⟨hq, hs, hT, hlt⟩ := HQ.out
  have hrow := (hr0.set q (.int .i64 (T : Int))).congr (g := i8 (2 ^ n)) (fun j hj => by
    rw [i8, dg_two, ← hq, ← hs, ← hT]
    by_cases h : j = q
    · rw [if_pos h, if_pos h]
    · rw [if_neg h, if_neg h]; rfl)
  have hbel2 := hbel.setCell (p := ⟨w.heap.size, q, none⟩) (Nat.le_refl _) (.int .i64 (T : Int))
  clear hc1 hc2 hr0 HQ hbel hs hT
  generalize v.setCell ⟨w.heap.size, q, none⟩ (.int .i64 (T : Int)) = v2 at *
  have hL := Lib.hid hlt
  clear hlt hq
  go_wp2_with fail
  refine (r2made_gen _ (q + 1) (q + 1) (2 ^ n) _ hL.out (by omega) (Slc.of_row hrow (by omega))).mono ?_
  rintro r w1 ⟨rfl, hb1⟩
  go_wp2
  go_ret
  exact ⟨rfl, hbel2.trans (hb1.mono hbel2.size)⟩
set_option maxHeartbeats 2000000 in
theorem r2shift_0 (x : Nat) (z : Int) (w : World) (hx8 : Fil.dn 8 x ≤ 400000) (h : x = 0 ∨ z = 0) :
    Calls Tryz.prog 44 #[.string (bstr x), .int .i64 z] w fun r w' => r = .returned (.tuple #[.string (bstr x), .int .i64 0]) ∧ w = w' := by
  by_cases h0 : x = 0
  · subst h0
    have e := bstr_nil
    clear h
    go_enter Tryz.func44, Tryz.ntmps44
    go_wp2
    go_returns
    exact ⟨rfl, rfl⟩
  · have hz : z = 0 := by rcases h with h | h; exact absurd h h0; exact h
    subst hz
    have e1 := (bstr_ne h0).1
    have e2 := (bstr_ne h0).2
    clear h
    go_enter Tryz.func44, Tryz.ntmps44
    go_wp2
    go_returns
    exact ⟨rfl, rfl⟩
set_option maxHeartbeats 2000000 in
theorem r2shift_up (x k : Nat) (w : World) (hx8 : Fil.dn 8 x ≤ 400000) (h0 : x ≠ 0) (hk : 0 < k) (hk8 : k ≤ 4611686018427387904) :
    Calls Tryz.prog 44 #[.string (bstr x), .int .i64 (k : Int)] w fun r w' => r = .returned (endV (x * 2 ^ k)) ∧ Below w.heap.size w w' := by
  have e1 := (bstr_ne h0).1
  have e2 := (bstr_ne h0).2
  have hk1 : (0 : Int) < (k : Int) := by omega
  have hk2 : ((k : Int) == 0) = false := by rw [beq_eq_false_iff_ne]; omega
  have hb := Below.refl w.heap.size w
  by_cases hl : 131072 < k
  · have e : endV (x * 2 ^ k) = .tuple #[.string { data := #[] }, .int .i64 4] := by
      refine endV_long ?_
      have h1 := dn_mul_ge h0 (show 2 ^ k ≠ 0 from Nat.ne_of_gt (pp k))
      rw [dn_two] at h1
      have := dn_pos (k := 8) h0
      omega
    rw [e]
    have hk3 : (131072 : Int) < (k : Int) := by omega
    clear e h0 hx8
    go_enter Tryz.func44, Tryz.ntmps44
    go_wp2
    go_returns
    exact ⟨rfl, hb⟩
  · have ht := fun W => r2two_any k W (by omega)
    have hm := fun W => r2Mul_any x (2 ^ k) W hx8 (by rw [dn_two]; omega) (.inl ⟨h0, Nat.ne_of_gt (pp k)⟩)
    obtain ⟨S, E, hE⟩ := endV_parts (x * 2 ^ k)
    rw [hE] at hm ⊢
    have hk3 : ¬ (131072 : Int) < (k : Int) := by omega
    clear hE h0 hx8 hl
    go_enter Tryz.func44, Tryz.ntmps44
    go_wp2_with fail
    refine (ht _).mono ?_
    rintro r w1 ⟨rfl, hb1⟩
    clear ht
    go_wp2_with fail
    refine (hm _).mono ?_
    rintro r w2 ⟨rfl, hb2⟩
    clear hm
    go_wp2
    go_returns
    exact ⟨rfl, hb1.trans (hb2.mono hb1.size)⟩
set_option maxRecDepth 100000 in
set_option maxHeartbeats 4000000 in
theorem r2shift_down (x k : Nat) (z : Int) (w : World) (hx8 : Fil.dn 8 x ≤ 400000) (h0 : x ≠ 0) (hk : 0 < k) (hk8 : k ≤ 131072) (hz : z = -(k : Int)) :
    Calls Tryz.prog 44 #[.string (bstr x), .int .i64 z] w fun r w' => r = .returned (.tuple #[.string (bstr (x / 2 ^ k)), .int .i64 0]) ∧ Below w.heap.size w w' := by
  have e1 := (bstr_ne h0).1
  have e2 := (bstr_ne h0).2
  have hd1 := fun W => r2digits_any x W (by omega)
  have hx := lt_dn (k := 8) (by omega) x
  obtain ⟨n, hn⟩ : ∃ n, n = Fil.dn 8 x := ⟨_, rfl⟩
  simp only [← hn] at hx hd1 hx8
  have Hn := Lib.hid hn
  obtain ⟨i0, hi, hp⟩ := Option.map_eq_some_iff.1 Tryz.info3
  have hz0 : i0.zero = some (.int .i64 0) := congrArg Prod.fst hp
  have hz1 : i0.size = 1 := congrArg (fun q => q.2.1) hp
  have hz2 : i0.bytes = 8 := congrArg (fun q => q.2.2) hp
  obtain ⟨q, hq⟩ : ∃ q, q = k / 8 := ⟨_, rfl⟩
  obtain ⟨s, hs⟩ : ∃ s, s = k % 8 := ⟨_, rfl⟩
  obtain ⟨M, hM⟩ : ∃ M, M = max n q := ⟨_, rfl⟩
  have HL : Hid (x / 2 ^ k < 2 ^ (8 * (M - q))) := Lib.hid (by
    rcases Nat.lt_or_ge q n with h | h
    · have := halved_lt (k := k) hx (by omega)
      exact Nat.lt_of_lt_of_le this (pmono (by omega))
    · rw [Nat.div_eq_of_lt (Nat.lt_of_lt_of_le hx (pmono (by omega)))]; exact pp _)
  have HD := Lib.hid (halved_dg x k)
  have y0 : ¬ (0 : Int) < z := by omega
  have y1 : (z == 0) = false := by rw [beq_eq_false_iff_ne]; omega
  have y2 : ¬ z < -131072 := by omega
  have y3 : -z = (k : Int) := by omega
  have y4 : (k : Int) / 8 = (q : Int) := by omega
  have y5 : (k : Int) % 8 = (s : Int) := by omega
  have y6 : (k : Int).tmod 8 = (s : Int) := by rw [← y5]; exact Int.tmod_eq_emod_of_nonneg (by omega)
  have y7 : (k : Int).tdiv 8 = (q : Int) := by rw [← y4]; exact Int.tdiv_eq_ediv_of_nonneg (by omega)
  have y8 : z < 0 := by omega
  have y9 : z ≤ -1 := by omega
  have hs8 : s < 8 := by omega
  have hq8 : q ≤ 16384 := by omega
  have hqM : q ≤ M := by omega
  have hnM : n ≤ M := by omega
  have hM8 : M ≤ 500000 := by omega
  have HQ := Lib.hid (And.intro hq (And.intro hs hM))
  have Hx := Lib.hid hx
  have hb0 := Below.refl w.heap.size w
  clear hn hp hx hq hs hM h0 hz
  go_enter Tryz.func44, Tryz.ntmps44
  go_wp2_with fail
  refine (hd1 _).mono ?_
  rintro r w2 ⟨v1, rfl, ho1, hb1⟩
  obtain ⟨A, c, rfl, hnc, ha⟩ := Own.slc ho1
  replace ha : Slc w2 3 A n (i8 x) := ha
  clear ho1 hd1
  go_wp2
  go_loopg [7, 8] (M - q) (fun g s7 s8 wr => ∃ p : Nat, q ≤ p ∧ p ≤ M ∧ g = M - p ∧ s8 = .int .i64 (p : Int) ∧ Own wr w2.heap.size s7 (p - q) (fun i => (dg 8 (x / 2 ^ k) i : Int)) ∧ Below w2.heap.size w2 wr)
  case atStart => exact ⟨q, by omega, by omega, rfl, rfl, by rw [Nat.sub_self]; exact Own.nil _ _ _, Below.refl _ _⟩
  case round =>
    obtain ⟨p, hqp, hp, hg, rfl, hown, hbel⟩ := hrel
    by_cases hpn : p < n
    · obtain ⟨b, o, rfl, hblt0, hc⟩ := (ha.below hbel).cell (by omega)
      have k1 := hc p hpn
      simp only [i8] at k1
      have hd0 := dg_lt 8 x p
      have hd1 := dg_lt 8 x (p + 1)
      have hHD := HD.out (p - q)
      rw [← HQ.out.1, ← HQ.out.2.1, show q + (p - q) = p by omega] at hHD
      have hs2 := ha.below hbel
      have hra := fun W => r2at_quiet (some ⟨b, o, none⟩) n c x ((p : Int) + 1) W Hn.out (by omega) (by omega)
      rw [show (((p : Int) + 1).toNat) = p + 1 by omega] at hra
      obtain ⟨d2, hd2⟩ : ∃ d2, d2 = dg 8 (x / 2 ^ k) (p - q) := ⟨_, rfl⟩
      rw [← hd2] at hHD
      have HE := Lib.hid hd2
      have HA := Lib.hid hra
      obtain ⟨d0, he0⟩ : ∃ d0, d0 = dg 8 x p := ⟨_, rfl⟩
      obtain ⟨d1, he1⟩ : ∃ d1, d1 = dg 8 x (p + 1) := ⟨_, rfl⟩
      rw [← he0] at hd0 hHD k1
      rw [← he1] at hd1 hHD HA
      obtain ⟨dd, hdd⟩ : ∃ dd, dd = d0 + 256 * d1 := ⟨_, rfl⟩
      obtain ⟨t, ht⟩ : ∃ t, t = dd / 2 ^ s := ⟨_, rfl⟩
      have ht8 : t ≤ dd := by rw [ht]; exact Nat.div_le_self _ _
      have hdd8 : dd ≤ 65535 := by omega
      rw [← hdd, ← ht] at hHD
      have W1 : IntKind.i64.wrap (256 * (d1 : Int)) = 256 * (d1 : Int) := IntWalk.i64_in _ (by omega)
      have W2 : IntKind.i64.wrap ((d0 : Int) + 256 * (d1 : Int)) = (dd : Int) := by rw [IntWalk.i64_in _ (by omega)]; omega
      have W3 : IntKind.i64.wrap ((p : Int) + 1) = (p : Int) + 1 := IntWalk.i64_in _ (by omega)
      have hsh : Op.shift BinOp.shr IntKind.i64 (dd : Int) IntKind.i64 (s : Int) = pure (Value.int .i64 (t : Int)) := by
        have h := shift_shr .i64 .i64 (dd : Int) (s : Int) (by omega) (by show (s : Int) ≤ 64; omega)
        rw [h, Int.toNat_natCast, div_cast, ht]
      have W5 : (dd : Int) / 2 ^ s = (t : Int) := by rw [ht]; simp
      have W6 : (t : Int) % 256 = (d2 : Int) := by rw [← hHD]; omega
      have W7 : (t : Int).tmod 256 = (d2 : Int) := by rw [← W6]; exact Int.tmod_eq_emod_of_nonneg (by omega)
      have P0 : (0 : Int) ≤ (p : Int) := by omega
      have P1 : (p : Int) < (n : Int) := by omega
      have hd2l : d2 < 256 := by rw [hd2]; exact dg_lt 8 _ _
      have hb2 := hbel.size
      have HG := Lib.hid (And.intro hg (And.intro hbel hHD))
      clear hg hbel hc ht hdd he0 he1 hra hHD hd2
      go_wp2_with fail
      go_quiet ((go_at_call 83; exact Calls.quiet_of (HA.out _ (by exact hs2.drewN _))))
      clear HA hs2 W1 W2 W3 k1
      go_wp2_with (at_builtin; refine wpList_append_own _ rfl _ _ 118 rfl w2.heap.size 3 i0 (.int .i64 0) 1 8 Tryz.underlying118 hi hz0 hz1 hz2 rfl (by decide) _ _ _ rfl (by exact hown.alloc _) ⟨wr.heap.size, 0, none⟩ 1 1 [.int .i64 (d2 : Int)] rfl rfl ?c1 ?c2 ?c3 ?c4 ?c5 ?_)
      case c1 =>
        intro j u hj
        match j, hj with
        | 0, hj => simp at hj; subst hj; simp [Addr.add]; exact one_cell (wr.drewN nq) _ _
      case c2 => intro u hu; simp at hu; subst hu; rfl
      case c3 => unfold maxLen; omega
      case c4 => omega
      case c5 => simp; omega
      · intro v' w1 hown' hgrow _
        rw [own_grow (g := fun i => (dg 8 (x / 2 ^ k) i : Int)) (fun _ _ => rfl) (by rw [HE.out])] at hown'
        have hb1' := ((Below.drewN' HG.out.2.1 nq).alloc hb2 (Obj.cells #[Value.int IntKind.i64 (d2 : Int)] 3)).grown hgrow (by simp; omega) (fun k hk => (hown.lt k hk).1)
        clear hown hgrow
        go_wp2
        go_roundg (M - (p + 1))
        case measure => have := HG.out.1; omega
        case rel => exact ⟨p + 1, by omega, by omega, rfl, by go_num, by rw [show p + 1 - q = p - q + 1 by omega]; exact hown', hb1'⟩
    · have hpM : p = M := by have := HQ.out.2.2; omega
      subst hpM
      obtain ⟨A', c', rfl, hnc', hs'⟩ := Own.slc hown
      replace hs' : Slc wr 3 A' (p - q) (i8 (x / 2 ^ k)) := hs'
      clear hown
      go_wp2_with fail
      refine (r2made_gen A' (p - q) c' (x / 2 ^ k) _ HL.out (by omega) hs').mono ?_
      rintro r w3 ⟨rfl, hb3⟩
      go_wp2
      go_returns
      exact ⟨rfl, hb1.trans ((hbel.trans (hb3.mono hbel.size)).mono hb1.size)⟩
end Go.Proofs.YtbfnafcpjbdbpaaGreatDoor

/- ratio.Of and the reference's Of: ratios of Dyads. -/
namespace Go.Proofs.YtbfnafcpjbdbpaaGreatDoor
open Go Go.RowKit Go.PlainAid Fil

set_option maxRecDepth 100000 in
set_option maxHeartbeats 8000000 in
theorem kof_bad (N : Bool) (S : ByteArray) (e : Int) (c : Int) (w : World) (hc : (c != 0) = true) (_hc2 : ¬ c = 0) (h : ∀ W, Calls Tryz.prog 39 #[.agg #[.bool N, .string S, .int .i64 e]] W fun r w' => r = .returned (.int .i64 c) ∧ Below W.heap.size W w') :
    Calls Tryz.prog 10 #[.agg #[.bool N, .string S, .int .i64 e]] w fun r w' => r = .returned (.tuple #[.agg #[.bool false, .string { data := #[] }, .string { data := #[] }], .int .i64 2]) ∧ Below w.heap.size w w' := by
  go_enter Tryz.func10, Tryz.ntmps10
  have B0 := Below.refl w.heap.size w
  have F1 := Blk.put (w) #[.bool N, .string S, .int .i64 e] 26
  replace B0 := B0.alloc B0.size (.cells #[.bool N, .string S, .int .i64 e] 26)
  have q_w_F2 : Hid (w.heap.size ≤ w.heap.size + 1) := Lib.hid (by omega)
  replace F1 := F1.allocd (.cells #[.bool false, .string { data := #[] }, .string { data := #[] }] 24)
  have F2 := Blk.put ((w).alloc (.cells #[.bool N, .string S, .int .i64 e] 26)) #[.bool false, .string { data := #[] }, .string { data := #[] }] 24
  rw [show ((w).alloc (.cells #[.bool N, .string S, .int .i64 e] 26)).heap.size = w.heap.size + 1 by simp] at F2
  replace B0 := B0.alloc B0.size (.cells #[.bool false, .string { data := #[] }, .string { data := #[] }] 24)
  obtain ⟨xF10_0, xF10_1, xF10_2⟩ := F1.ce3
  go_wp2_with fail
  (with_reducible refine (h _).mono ?_)
  rintro r w1 ⟨rfl, hb1⟩
  clear xF10_0 xF10_1 xF10_2
  replace F1 := F1.keep hb1
  replace F2 := F2.keep hb1
  replace B0 := B0.trans (hb1.mono B0.size)
  clear hb1
  obtain ⟨xF21_0, xF21_1, xF21_2⟩ := F2.ce3
  obtain ⟨xF21_0f, xF21_1f, xF21_2f⟩ := F2.fr3
  clear F1
  replace F2 : Blk ((((w1).setCell ⟨w.heap.size + 1, 0, none⟩ (.bool false)).setCell ⟨w.heap.size + 1, 1, none⟩ (.string { data := #[] })).setCell ⟨w.heap.size + 1, 2, none⟩ (.string { data := #[] })) (w.heap.size + 1) #[.bool false, .string { data := #[] }, .string { data := #[] }] 24 := (((F2.setAt 0 (.bool false)).setAt 1 (.string { data := #[] })).setAt 2 (.string { data := #[] }))
  replace B0 := (((B0.setCell (p := ⟨w.heap.size + 1, 0, none⟩) q_w_F2.out (.bool false)).setCell (p := ⟨w.heap.size + 1, 1, none⟩) q_w_F2.out (.string { data := #[] })).setCell (p := ⟨w.heap.size + 1, 2, none⟩) q_w_F2.out (.string { data := #[] }))
  obtain ⟨xF22_0, xF22_1, xF22_2⟩ := F2.ce3
  go_wp2
  exact bodyPost_ret (v := .tuple #[.agg #[.bool false, .string { data := #[] }, .string { data := #[] }], .int .i64 2]) (by simp [results, Tryz.results10, go_sem, xF22_0, xF22_1, xF22_2]) rfl ⟨rfl, B0⟩
set_option maxRecDepth 100000 in
set_option maxHeartbeats 8000000 in
theorem kof_far0 (N : Bool) (S : ByteArray) (e : Int) (w : World) (he : 131072 < e) (h : ∀ W, Calls Tryz.prog 39 #[.agg #[.bool N, .string S, .int .i64 e]] W fun r w' => r = .returned (.int .i64 0) ∧ Below W.heap.size W w') :
    Calls Tryz.prog 10 #[.agg #[.bool N, .string S, .int .i64 e]] w fun r w' => r = .returned (.tuple #[.agg #[.bool false, .string { data := #[] }, .string { data := #[] }], .int .i64 4]) ∧ Below w.heap.size w w' := by
  go_enter Tryz.func10, Tryz.ntmps10
  have B0 := Below.refl w.heap.size w
  have F1 := Blk.put (w) #[.bool N, .string S, .int .i64 e] 26
  replace B0 := B0.alloc B0.size (.cells #[.bool N, .string S, .int .i64 e] 26)
  have q_F1_F2 := Lib.hid (show w.heap.size < w.heap.size + 1 by omega)
  have q_w_F2 : Hid (w.heap.size ≤ w.heap.size + 1) := Lib.hid (by omega)
  replace F1 := F1.allocd (.cells #[.bool false, .string { data := #[] }, .string { data := #[] }] 24)
  have F2 := Blk.put ((w).alloc (.cells #[.bool N, .string S, .int .i64 e] 26)) #[.bool false, .string { data := #[] }, .string { data := #[] }] 24
  rw [show ((w).alloc (.cells #[.bool N, .string S, .int .i64 e] 26)).heap.size = w.heap.size + 1 by simp] at F2
  replace B0 := B0.alloc B0.size (.cells #[.bool false, .string { data := #[] }, .string { data := #[] }] 24)
  obtain ⟨xF10_0, xF10_1, xF10_2⟩ := F1.ce3
  go_wp2_with fail
  (with_reducible refine (h _).mono ?_)
  rintro r w1 ⟨rfl, hb1⟩
  clear xF10_0 xF10_1 xF10_2
  replace F1 := F1.keep hb1
  replace F2 := F2.keep hb1
  replace B0 := B0.trans (hb1.mono B0.size)
  clear hb1
  obtain ⟨xF11_0, xF11_1, xF11_2⟩ := F1.ce3
  obtain ⟨xF21_0, xF21_1, xF21_2⟩ := F2.ce3
  obtain ⟨xF21_0f, xF21_1f, xF21_2f⟩ := F2.fr3
  replace F1 := (((F1.far 0 (.bool false) (Nat.ne_of_lt q_F1_F2.out)).far 1 (.string { data := #[] }) (Nat.ne_of_lt q_F1_F2.out)).far 2 (.string { data := #[] }) (Nat.ne_of_lt q_F1_F2.out))
  replace F2 : Blk ((((w1).setCell ⟨w.heap.size + 1, 0, none⟩ (.bool false)).setCell ⟨w.heap.size + 1, 1, none⟩ (.string { data := #[] })).setCell ⟨w.heap.size + 1, 2, none⟩ (.string { data := #[] })) (w.heap.size + 1) #[.bool false, .string { data := #[] }, .string { data := #[] }] 24 := (((F2.setAt 0 (.bool false)).setAt 1 (.string { data := #[] })).setAt 2 (.string { data := #[] }))
  replace B0 := (((B0.setCell (p := ⟨w.heap.size + 1, 0, none⟩) q_w_F2.out (.bool false)).setCell (p := ⟨w.heap.size + 1, 1, none⟩) q_w_F2.out (.string { data := #[] })).setCell (p := ⟨w.heap.size + 1, 2, none⟩) q_w_F2.out (.string { data := #[] }))
  obtain ⟨xF22_0, xF22_1, xF22_2⟩ := F2.ce3
  go_wp2
  exact bodyPost_ret (v := .tuple #[.agg #[.bool false, .string { data := #[] }, .string { data := #[] }], .int .i64 4]) (by simp [results, Tryz.results10, go_sem, xF22_0, xF22_1, xF22_2]) rfl ⟨rfl, B0⟩
set_option maxRecDepth 100000 in
set_option maxHeartbeats 8000000 in
theorem kof_far1 (N : Bool) (S : ByteArray) (e : Int) (w : World) (he : e < -131072) (h : ∀ W, Calls Tryz.prog 39 #[.agg #[.bool N, .string S, .int .i64 e]] W fun r w' => r = .returned (.int .i64 0) ∧ Below W.heap.size W w') :
    Calls Tryz.prog 10 #[.agg #[.bool N, .string S, .int .i64 e]] w fun r w' => r = .returned (.tuple #[.agg #[.bool false, .string { data := #[] }, .string { data := #[] }], .int .i64 4]) ∧ Below w.heap.size w w' := by
  go_enter Tryz.func10, Tryz.ntmps10
  have B0 := Below.refl w.heap.size w
  have F1 := Blk.put (w) #[.bool N, .string S, .int .i64 e] 26
  replace B0 := B0.alloc B0.size (.cells #[.bool N, .string S, .int .i64 e] 26)
  have q_F1_F2 := Lib.hid (show w.heap.size < w.heap.size + 1 by omega)
  have q_w_F2 : Hid (w.heap.size ≤ w.heap.size + 1) := Lib.hid (by omega)
  replace F1 := F1.allocd (.cells #[.bool false, .string { data := #[] }, .string { data := #[] }] 24)
  have F2 := Blk.put ((w).alloc (.cells #[.bool N, .string S, .int .i64 e] 26)) #[.bool false, .string { data := #[] }, .string { data := #[] }] 24
  rw [show ((w).alloc (.cells #[.bool N, .string S, .int .i64 e] 26)).heap.size = w.heap.size + 1 by simp] at F2
  replace B0 := B0.alloc B0.size (.cells #[.bool false, .string { data := #[] }, .string { data := #[] }] 24)
  obtain ⟨xF10_0, xF10_1, xF10_2⟩ := F1.ce3
  go_wp2_with fail
  (with_reducible refine (h _).mono ?_)
  rintro r w1 ⟨rfl, hb1⟩
  clear xF10_0 xF10_1 xF10_2
  replace F1 := F1.keep hb1
  replace F2 := F2.keep hb1
  replace B0 := B0.trans (hb1.mono B0.size)
  clear hb1
  obtain ⟨xF11_0, xF11_1, xF11_2⟩ := F1.ce3
  obtain ⟨xF21_0, xF21_1, xF21_2⟩ := F2.ce3
  obtain ⟨xF21_0f, xF21_1f, xF21_2f⟩ := F2.fr3
  replace F1 := (((F1.far 0 (.bool false) (Nat.ne_of_lt q_F1_F2.out)).far 1 (.string { data := #[] }) (Nat.ne_of_lt q_F1_F2.out)).far 2 (.string { data := #[] }) (Nat.ne_of_lt q_F1_F2.out))
  replace F2 : Blk ((((w1).setCell ⟨w.heap.size + 1, 0, none⟩ (.bool false)).setCell ⟨w.heap.size + 1, 1, none⟩ (.string { data := #[] })).setCell ⟨w.heap.size + 1, 2, none⟩ (.string { data := #[] })) (w.heap.size + 1) #[.bool false, .string { data := #[] }, .string { data := #[] }] 24 := (((F2.setAt 0 (.bool false)).setAt 1 (.string { data := #[] })).setAt 2 (.string { data := #[] }))
  replace B0 := (((B0.setCell (p := ⟨w.heap.size + 1, 0, none⟩) q_w_F2.out (.bool false)).setCell (p := ⟨w.heap.size + 1, 1, none⟩) q_w_F2.out (.string { data := #[] })).setCell (p := ⟨w.heap.size + 1, 2, none⟩) q_w_F2.out (.string { data := #[] }))
  obtain ⟨xF22_0, xF22_1, xF22_2⟩ := F2.ce3
  go_wp2
  exact bodyPost_ret (v := .tuple #[.agg #[.bool false, .string { data := #[] }, .string { data := #[] }], .int .i64 4]) (by simp [results, Tryz.results10, go_sem, xF22_0, xF22_1, xF22_2]) rfl ⟨rfl, B0⟩
set_option maxRecDepth 100000 in
set_option maxHeartbeats 8000000 in
theorem p4of_bad (N : Bool) (S : ByteArray) (e : Int) (w : World) (h : ∀ W, Calls Tryz.prog 43 #[.agg #[.bool N, .string S, .int .i64 e]] W fun r w' => r = .returned (.bool false) ∧ Below W.heap.size W w') :
    Calls Tryz.prog 11 #[.agg #[.bool N, .string S, .int .i64 e]] w fun r w' => r = .returned (.tuple #[.agg #[.bool false, .string { data := #[] }, .string { data := #[] }], .int .i64 2]) ∧ Below w.heap.size w w' := by
  go_enter Tryz.func11, Tryz.ntmps11
  have B0 := Below.refl w.heap.size w
  have F1 := Blk.put (w) #[.bool N, .string S, .int .i64 e] 26
  replace B0 := B0.alloc B0.size (.cells #[.bool N, .string S, .int .i64 e] 26)
  have q_w_F2 : Hid (w.heap.size ≤ w.heap.size + 1) := Lib.hid (by omega)
  replace F1 := F1.allocd (.cells #[.bool false, .string { data := #[] }, .string { data := #[] }] 24)
  have F2 := Blk.put ((w).alloc (.cells #[.bool N, .string S, .int .i64 e] 26)) #[.bool false, .string { data := #[] }, .string { data := #[] }] 24
  rw [show ((w).alloc (.cells #[.bool N, .string S, .int .i64 e] 26)).heap.size = w.heap.size + 1 by simp] at F2
  replace B0 := B0.alloc B0.size (.cells #[.bool false, .string { data := #[] }, .string { data := #[] }] 24)
  obtain ⟨xF10_0, xF10_1, xF10_2⟩ := F1.ce3
  go_wp2_with fail
  (with_reducible refine (h _).mono ?_)
  rintro r w1 ⟨rfl, hb1⟩
  clear xF10_0 xF10_1 xF10_2
  replace F1 := F1.keep hb1
  replace F2 := F2.keep hb1
  replace B0 := B0.trans (hb1.mono B0.size)
  clear hb1
  obtain ⟨xF21_0, xF21_1, xF21_2⟩ := F2.ce3
  obtain ⟨xF21_0f, xF21_1f, xF21_2f⟩ := F2.fr3
  clear F1
  replace F2 : Blk ((((w1).setCell ⟨w.heap.size + 1, 0, none⟩ (.bool false)).setCell ⟨w.heap.size + 1, 1, none⟩ (.string { data := #[] })).setCell ⟨w.heap.size + 1, 2, none⟩ (.string { data := #[] })) (w.heap.size + 1) #[.bool false, .string { data := #[] }, .string { data := #[] }] 24 := (((F2.setAt 0 (.bool false)).setAt 1 (.string { data := #[] })).setAt 2 (.string { data := #[] }))
  replace B0 := (((B0.setCell (p := ⟨w.heap.size + 1, 0, none⟩) q_w_F2.out (.bool false)).setCell (p := ⟨w.heap.size + 1, 1, none⟩) q_w_F2.out (.string { data := #[] })).setCell (p := ⟨w.heap.size + 1, 2, none⟩) q_w_F2.out (.string { data := #[] }))
  obtain ⟨xF22_0, xF22_1, xF22_2⟩ := F2.ce3
  go_wp2
  exact bodyPost_ret (v := .tuple #[.agg #[.bool false, .string { data := #[] }, .string { data := #[] }], .int .i64 2]) (by simp [results, Tryz.results11, go_sem, xF22_0, xF22_1, xF22_2]) rfl ⟨rfl, B0⟩
set_option maxRecDepth 100000 in
set_option maxHeartbeats 8000000 in
theorem p4of_0 (N : Bool) (S : ByteArray) (e : Int) (w : World) (h : ∀ W, Calls Tryz.prog 43 #[.agg #[.bool N, .string S, .int .i64 e]] W fun r w' => r = .returned (.bool true) ∧ Below W.heap.size W w') (hS : S.toList = []) :
    Calls Tryz.prog 11 #[.agg #[.bool N, .string S, .int .i64 e]] w fun r w' => r = .returned (.tuple #[.agg #[.bool false, .string { data := #[] }, .string { data := #[1] }], .int .i64 0]) ∧ Below w.heap.size w w' := by
  go_enter Tryz.func11, Tryz.ntmps11
  have B0 := Below.refl w.heap.size w
  have F1 := Blk.put (w) #[.bool N, .string S, .int .i64 e] 26
  replace B0 := B0.alloc B0.size (.cells #[.bool N, .string S, .int .i64 e] 26)
  have q_F1_F2 := Lib.hid (show w.heap.size < w.heap.size + 1 by omega)
  have q_w_F2 : Hid (w.heap.size ≤ w.heap.size + 1) := Lib.hid (by omega)
  replace F1 := F1.allocd (.cells #[.bool false, .string { data := #[] }, .string { data := #[] }] 24)
  have F2 := Blk.put ((w).alloc (.cells #[.bool N, .string S, .int .i64 e] 26)) #[.bool false, .string { data := #[] }, .string { data := #[] }] 24
  rw [show ((w).alloc (.cells #[.bool N, .string S, .int .i64 e] 26)).heap.size = w.heap.size + 1 by simp] at F2
  replace B0 := B0.alloc B0.size (.cells #[.bool false, .string { data := #[] }, .string { data := #[] }] 24)
  obtain ⟨xF10_0, xF10_1, xF10_2⟩ := F1.ce3
  go_wp2_with fail
  (with_reducible refine (h _).mono ?_)
  rintro r w1 ⟨rfl, hb1⟩
  clear xF10_0 xF10_1 xF10_2
  replace F1 := F1.keep hb1
  replace F2 := F2.keep hb1
  replace B0 := B0.trans (hb1.mono B0.size)
  clear hb1
  obtain ⟨xF11_0, xF11_1, xF11_2⟩ := F1.ce3
  obtain ⟨xF21_0, xF21_1, xF21_2⟩ := F2.ce3
  obtain ⟨xF21_0f, xF21_1f, xF21_2f⟩ := F2.fr3
  replace F1 := (((F1.far 0 (.bool false) (Nat.ne_of_lt q_F1_F2.out)).far 1 (.string { data := #[] }) (Nat.ne_of_lt q_F1_F2.out)).far 2 ((Value.string { data := #[1] })) (Nat.ne_of_lt q_F1_F2.out))
  replace F2 : Blk ((((w1).setCell ⟨w.heap.size + 1, 0, none⟩ (.bool false)).setCell ⟨w.heap.size + 1, 1, none⟩ (.string { data := #[] })).setCell ⟨w.heap.size + 1, 2, none⟩ ((Value.string { data := #[1] }))) (w.heap.size + 1) #[.bool false, .string { data := #[] }, (Value.string { data := #[1] })] 24 := (((F2.setAt 0 (.bool false)).setAt 1 (.string { data := #[] })).setAt 2 ((Value.string { data := #[1] })))
  replace B0 := (((B0.setCell (p := ⟨w.heap.size + 1, 0, none⟩) q_w_F2.out (.bool false)).setCell (p := ⟨w.heap.size + 1, 1, none⟩) q_w_F2.out (.string { data := #[] })).setCell (p := ⟨w.heap.size + 1, 2, none⟩) q_w_F2.out ((Value.string { data := #[1] })))
  obtain ⟨xF22_0, xF22_1, xF22_2⟩ := F2.ce3
  go_wp2
  exact bodyPost_ret (v := .tuple #[.agg #[.bool false, .string { data := #[] }, (Value.string { data := #[1] })], .int .i64 0]) (by simp [results, Tryz.results11, go_sem, xF22_0, xF22_1, xF22_2]) rfl ⟨rfl, B0⟩
set_option maxRecDepth 100000 in
set_option maxHeartbeats 8000000 in
theorem p4of_up (N : Bool) (S : ByteArray) (e : Int) (U : ByteArray) (w : World) (h : ∀ W, Calls Tryz.prog 43 #[.agg #[.bool N, .string S, .int .i64 e]] W fun r w' => r = .returned (.bool true) ∧ Below W.heap.size W w') (hS : S.toList.isEmpty = false) (_hS2 : S.toList ≠ []) (he : 0 ≤ e) (h2 : ∀ W, Calls Tryz.prog 44 #[.string S, .int .i64 e] W fun r w' => r = .returned (.tuple #[.string U, .int .i64 0]) ∧ Below W.heap.size W w') :
    Calls Tryz.prog 11 #[.agg #[.bool N, .string S, .int .i64 e]] w fun r w' => r = .returned (.tuple #[.agg #[.bool N, .string U, .string { data := #[1] }], .int .i64 0]) ∧ Below w.heap.size w w' := by
  go_enter Tryz.func11, Tryz.ntmps11
  have B0 := Below.refl w.heap.size w
  have F1 := Blk.put (w) #[.bool N, .string S, .int .i64 e] 26
  replace B0 := B0.alloc B0.size (.cells #[.bool N, .string S, .int .i64 e] 26)
  have q_F1_F2 := Lib.hid (show w.heap.size < w.heap.size + 1 by omega)
  have q_w_F2 : Hid (w.heap.size ≤ w.heap.size + 1) := Lib.hid (by omega)
  replace F1 := F1.allocd (.cells #[.bool false, .string { data := #[] }, .string { data := #[] }] 24)
  have F2 := Blk.put ((w).alloc (.cells #[.bool N, .string S, .int .i64 e] 26)) #[.bool false, .string { data := #[] }, .string { data := #[] }] 24
  rw [show ((w).alloc (.cells #[.bool N, .string S, .int .i64 e] 26)).heap.size = w.heap.size + 1 by simp] at F2
  replace B0 := B0.alloc B0.size (.cells #[.bool false, .string { data := #[] }, .string { data := #[] }] 24)
  obtain ⟨xF10_0, xF10_1, xF10_2⟩ := F1.ce3
  go_wp2_with fail
  (with_reducible refine (h _).mono ?_)
  rintro r w1 ⟨rfl, hb1⟩
  clear xF10_0 xF10_1 xF10_2
  replace F1 := F1.keep hb1
  replace F2 := F2.keep hb1
  replace B0 := B0.trans (hb1.mono B0.size)
  clear hb1
  obtain ⟨xF11_0, xF11_1, xF11_2⟩ := F1.ce3
  go_wp2_with fail
  (with_reducible refine (h2 _).mono ?_)
  rintro r w2 ⟨rfl, hb2⟩
  clear xF11_0 xF11_1 xF11_2
  replace F1 := F1.keep hb2
  replace F2 := F2.keep hb2
  replace B0 := B0.trans (hb2.mono B0.size)
  clear hb2
  obtain ⟨xF12_0, xF12_1, xF12_2⟩ := F1.ce3
  obtain ⟨xF22_0, xF22_1, xF22_2⟩ := F2.ce3
  obtain ⟨xF22_0f, xF22_1f, xF22_2f⟩ := F2.fr3
  replace F1 := (((F1.far 0 (.bool N) (Nat.ne_of_lt q_F1_F2.out)).far 1 (.string U) (Nat.ne_of_lt q_F1_F2.out)).far 2 ((Value.string { data := #[1] })) (Nat.ne_of_lt q_F1_F2.out))
  replace F2 : Blk ((((w2).setCell ⟨w.heap.size + 1, 0, none⟩ (.bool N)).setCell ⟨w.heap.size + 1, 1, none⟩ (.string U)).setCell ⟨w.heap.size + 1, 2, none⟩ ((Value.string { data := #[1] }))) (w.heap.size + 1) #[.bool N, .string U, (Value.string { data := #[1] })] 24 := (((F2.setAt 0 (.bool N)).setAt 1 (.string U)).setAt 2 ((Value.string { data := #[1] })))
  replace B0 := (((B0.setCell (p := ⟨w.heap.size + 1, 0, none⟩) q_w_F2.out (.bool N)).setCell (p := ⟨w.heap.size + 1, 1, none⟩) q_w_F2.out (.string U)).setCell (p := ⟨w.heap.size + 1, 2, none⟩) q_w_F2.out ((Value.string { data := #[1] })))
  obtain ⟨xF23_0, xF23_1, xF23_2⟩ := F2.ce3
  go_wp2
  exact bodyPost_ret (v := .tuple #[.agg #[.bool N, .string U, (Value.string { data := #[1] })], .int .i64 0]) (by simp [results, Tryz.results11, go_sem, xF23_0, xF23_1, xF23_2]) rfl ⟨rfl, B0⟩
set_option maxRecDepth 100000 in
set_option maxHeartbeats 8000000 in
theorem p4of_upl (N : Bool) (S : ByteArray) (e : Int) (U : ByteArray) (w : World) (h : ∀ W, Calls Tryz.prog 43 #[.agg #[.bool N, .string S, .int .i64 e]] W fun r w' => r = .returned (.bool true) ∧ Below W.heap.size W w') (hS : S.toList.isEmpty = false) (_hS2 : S.toList ≠ []) (he : 0 ≤ e) (h2 : ∀ W, Calls Tryz.prog 44 #[.string S, .int .i64 e] W fun r w' => r = .returned (.tuple #[.string U, .int .i64 4]) ∧ Below W.heap.size W w') :
    Calls Tryz.prog 11 #[.agg #[.bool N, .string S, .int .i64 e]] w fun r w' => r = .returned (.tuple #[.agg #[.bool false, .string { data := #[] }, .string { data := #[] }], .int .i64 4]) ∧ Below w.heap.size w w' := by
  go_enter Tryz.func11, Tryz.ntmps11
  have B0 := Below.refl w.heap.size w
  have F1 := Blk.put (w) #[.bool N, .string S, .int .i64 e] 26
  replace B0 := B0.alloc B0.size (.cells #[.bool N, .string S, .int .i64 e] 26)
  have q_w_F2 : Hid (w.heap.size ≤ w.heap.size + 1) := Lib.hid (by omega)
  replace F1 := F1.allocd (.cells #[.bool false, .string { data := #[] }, .string { data := #[] }] 24)
  have F2 := Blk.put ((w).alloc (.cells #[.bool N, .string S, .int .i64 e] 26)) #[.bool false, .string { data := #[] }, .string { data := #[] }] 24
  rw [show ((w).alloc (.cells #[.bool N, .string S, .int .i64 e] 26)).heap.size = w.heap.size + 1 by simp] at F2
  replace B0 := B0.alloc B0.size (.cells #[.bool false, .string { data := #[] }, .string { data := #[] }] 24)
  obtain ⟨xF10_0, xF10_1, xF10_2⟩ := F1.ce3
  go_wp2_with fail
  (with_reducible refine (h _).mono ?_)
  rintro r w1 ⟨rfl, hb1⟩
  clear xF10_0 xF10_1 xF10_2
  replace F1 := F1.keep hb1
  replace F2 := F2.keep hb1
  replace B0 := B0.trans (hb1.mono B0.size)
  clear hb1
  obtain ⟨xF11_0, xF11_1, xF11_2⟩ := F1.ce3
  go_wp2_with fail
  (with_reducible refine (h2 _).mono ?_)
  rintro r w2 ⟨rfl, hb2⟩
  clear xF11_0 xF11_1 xF11_2
  replace F1 := F1.keep hb2
  replace F2 := F2.keep hb2
  replace B0 := B0.trans (hb2.mono B0.size)
  clear hb2
  obtain ⟨xF22_0, xF22_1, xF22_2⟩ := F2.ce3
  obtain ⟨xF22_0f, xF22_1f, xF22_2f⟩ := F2.fr3
  clear F1
  replace F2 : Blk ((((w2).setCell ⟨w.heap.size + 1, 0, none⟩ (.bool false)).setCell ⟨w.heap.size + 1, 1, none⟩ (.string { data := #[] })).setCell ⟨w.heap.size + 1, 2, none⟩ (.string { data := #[] })) (w.heap.size + 1) #[.bool false, .string { data := #[] }, .string { data := #[] }] 24 := (((F2.setAt 0 (.bool false)).setAt 1 (.string { data := #[] })).setAt 2 (.string { data := #[] }))
  replace B0 := (((B0.setCell (p := ⟨w.heap.size + 1, 0, none⟩) q_w_F2.out (.bool false)).setCell (p := ⟨w.heap.size + 1, 1, none⟩) q_w_F2.out (.string { data := #[] })).setCell (p := ⟨w.heap.size + 1, 2, none⟩) q_w_F2.out (.string { data := #[] }))
  obtain ⟨xF23_0, xF23_1, xF23_2⟩ := F2.ce3
  go_wp2
  exact bodyPost_ret (v := .tuple #[.agg #[.bool false, .string { data := #[] }, .string { data := #[] }], .int .i64 4]) (by simp [results, Tryz.results11, go_sem, xF23_0, xF23_1, xF23_2]) rfl ⟨rfl, B0⟩
set_option maxRecDepth 100000 in
set_option maxHeartbeats 8000000 in
theorem p4of_dn (N : Bool) (S : ByteArray) (e : Int) (U : ByteArray) (m : Int) (w : World) (h : ∀ W, Calls Tryz.prog 43 #[.agg #[.bool N, .string S, .int .i64 e]] W fun r w' => r = .returned (.bool true) ∧ Below W.heap.size W w') (hS : S.toList.isEmpty = false) (_hS2 : S.toList ≠ []) (he : ¬ 0 ≤ e) (he2 : -e = m) (hm1 : 0 ≤ m) (hm2 : m ≤ 2000000) (h2 : ∀ W, Calls Tryz.prog 44 #[.string { data := #[1] }, .int .i64 m] W fun r w' => r = .returned (.tuple #[.string U, .int .i64 0]) ∧ Below W.heap.size W w') :
    Calls Tryz.prog 11 #[.agg #[.bool N, .string S, .int .i64 e]] w fun r w' => r = .returned (.tuple #[.agg #[.bool N, .string S, .string U], .int .i64 0]) ∧ Below w.heap.size w w' := by
  go_enter Tryz.func11, Tryz.ntmps11
  have B0 := Below.refl w.heap.size w
  have F1 := Blk.put (w) #[.bool N, .string S, .int .i64 e] 26
  replace B0 := B0.alloc B0.size (.cells #[.bool N, .string S, .int .i64 e] 26)
  have q_F1_F2 := Lib.hid (show w.heap.size < w.heap.size + 1 by omega)
  have q_w_F2 : Hid (w.heap.size ≤ w.heap.size + 1) := Lib.hid (by omega)
  replace F1 := F1.allocd (.cells #[.bool false, .string { data := #[] }, .string { data := #[] }] 24)
  have F2 := Blk.put ((w).alloc (.cells #[.bool N, .string S, .int .i64 e] 26)) #[.bool false, .string { data := #[] }, .string { data := #[] }] 24
  rw [show ((w).alloc (.cells #[.bool N, .string S, .int .i64 e] 26)).heap.size = w.heap.size + 1 by simp] at F2
  replace B0 := B0.alloc B0.size (.cells #[.bool false, .string { data := #[] }, .string { data := #[] }] 24)
  obtain ⟨xF10_0, xF10_1, xF10_2⟩ := F1.ce3
  go_wp2_with fail
  (with_reducible refine (h _).mono ?_)
  rintro r w1 ⟨rfl, hb1⟩
  clear xF10_0 xF10_1 xF10_2
  replace F1 := F1.keep hb1
  replace F2 := F2.keep hb1
  replace B0 := B0.trans (hb1.mono B0.size)
  clear hb1
  obtain ⟨xF11_0, xF11_1, xF11_2⟩ := F1.ce3
  go_wp2_with fail
  (with_reducible refine (h2 _).mono ?_)
  rintro r w2 ⟨rfl, hb2⟩
  clear xF11_0 xF11_1 xF11_2
  replace F1 := F1.keep hb2
  replace F2 := F2.keep hb2
  replace B0 := B0.trans (hb2.mono B0.size)
  clear hb2
  obtain ⟨xF12_0, xF12_1, xF12_2⟩ := F1.ce3
  obtain ⟨xF22_0, xF22_1, xF22_2⟩ := F2.ce3
  obtain ⟨xF22_0f, xF22_1f, xF22_2f⟩ := F2.fr3
  replace F1 := (((F1.far 0 (.bool N) (Nat.ne_of_lt q_F1_F2.out)).far 1 (.string S) (Nat.ne_of_lt q_F1_F2.out)).far 2 (.string U) (Nat.ne_of_lt q_F1_F2.out))
  replace F2 : Blk ((((w2).setCell ⟨w.heap.size + 1, 0, none⟩ (.bool N)).setCell ⟨w.heap.size + 1, 1, none⟩ (.string S)).setCell ⟨w.heap.size + 1, 2, none⟩ (.string U)) (w.heap.size + 1) #[.bool N, .string S, .string U] 24 := (((F2.setAt 0 (.bool N)).setAt 1 (.string S)).setAt 2 (.string U))
  replace B0 := (((B0.setCell (p := ⟨w.heap.size + 1, 0, none⟩) q_w_F2.out (.bool N)).setCell (p := ⟨w.heap.size + 1, 1, none⟩) q_w_F2.out (.string S)).setCell (p := ⟨w.heap.size + 1, 2, none⟩) q_w_F2.out (.string U))
  obtain ⟨xF23_0, xF23_1, xF23_2⟩ := F2.ce3
  go_wp2
  exact bodyPost_ret (v := .tuple #[.agg #[.bool N, .string S, .string U], .int .i64 0]) (by simp [results, Tryz.results11, go_sem, xF23_0, xF23_1, xF23_2]) rfl ⟨rfl, B0⟩
set_option maxRecDepth 100000 in
set_option maxHeartbeats 8000000 in
theorem p4of_dnl (N : Bool) (S : ByteArray) (e : Int) (U : ByteArray) (m : Int) (w : World) (h : ∀ W, Calls Tryz.prog 43 #[.agg #[.bool N, .string S, .int .i64 e]] W fun r w' => r = .returned (.bool true) ∧ Below W.heap.size W w') (hS : S.toList.isEmpty = false) (_hS2 : S.toList ≠ []) (he : ¬ 0 ≤ e) (he2 : -e = m) (hm1 : 0 ≤ m) (hm2 : m ≤ 2000000) (h2 : ∀ W, Calls Tryz.prog 44 #[.string { data := #[1] }, .int .i64 m] W fun r w' => r = .returned (.tuple #[.string U, .int .i64 4]) ∧ Below W.heap.size W w') :
    Calls Tryz.prog 11 #[.agg #[.bool N, .string S, .int .i64 e]] w fun r w' => r = .returned (.tuple #[.agg #[.bool false, .string { data := #[] }, .string { data := #[] }], .int .i64 4]) ∧ Below w.heap.size w w' := by
  go_enter Tryz.func11, Tryz.ntmps11
  have B0 := Below.refl w.heap.size w
  have F1 := Blk.put (w) #[.bool N, .string S, .int .i64 e] 26
  replace B0 := B0.alloc B0.size (.cells #[.bool N, .string S, .int .i64 e] 26)
  have q_w_F2 : Hid (w.heap.size ≤ w.heap.size + 1) := Lib.hid (by omega)
  replace F1 := F1.allocd (.cells #[.bool false, .string { data := #[] }, .string { data := #[] }] 24)
  have F2 := Blk.put ((w).alloc (.cells #[.bool N, .string S, .int .i64 e] 26)) #[.bool false, .string { data := #[] }, .string { data := #[] }] 24
  rw [show ((w).alloc (.cells #[.bool N, .string S, .int .i64 e] 26)).heap.size = w.heap.size + 1 by simp] at F2
  replace B0 := B0.alloc B0.size (.cells #[.bool false, .string { data := #[] }, .string { data := #[] }] 24)
  obtain ⟨xF10_0, xF10_1, xF10_2⟩ := F1.ce3
  go_wp2_with fail
  (with_reducible refine (h _).mono ?_)
  rintro r w1 ⟨rfl, hb1⟩
  clear xF10_0 xF10_1 xF10_2
  replace F1 := F1.keep hb1
  replace F2 := F2.keep hb1
  replace B0 := B0.trans (hb1.mono B0.size)
  clear hb1
  obtain ⟨xF11_0, xF11_1, xF11_2⟩ := F1.ce3
  go_wp2_with fail
  (with_reducible refine (h2 _).mono ?_)
  rintro r w2 ⟨rfl, hb2⟩
  clear xF11_0 xF11_1 xF11_2
  replace F1 := F1.keep hb2
  replace F2 := F2.keep hb2
  replace B0 := B0.trans (hb2.mono B0.size)
  clear hb2
  obtain ⟨xF22_0, xF22_1, xF22_2⟩ := F2.ce3
  obtain ⟨xF22_0f, xF22_1f, xF22_2f⟩ := F2.fr3
  clear F1
  replace F2 : Blk ((((w2).setCell ⟨w.heap.size + 1, 0, none⟩ (.bool false)).setCell ⟨w.heap.size + 1, 1, none⟩ (.string { data := #[] })).setCell ⟨w.heap.size + 1, 2, none⟩ (.string { data := #[] })) (w.heap.size + 1) #[.bool false, .string { data := #[] }, .string { data := #[] }] 24 := (((F2.setAt 0 (.bool false)).setAt 1 (.string { data := #[] })).setAt 2 (.string { data := #[] }))
  replace B0 := (((B0.setCell (p := ⟨w.heap.size + 1, 0, none⟩) q_w_F2.out (.bool false)).setCell (p := ⟨w.heap.size + 1, 1, none⟩) q_w_F2.out (.string { data := #[] })).setCell (p := ⟨w.heap.size + 1, 2, none⟩) q_w_F2.out (.string { data := #[] }))
  obtain ⟨xF23_0, xF23_1, xF23_2⟩ := F2.ce3
  go_wp2
  exact bodyPost_ret (v := .tuple #[.agg #[.bool false, .string { data := #[] }, .string { data := #[] }], .int .i64 4]) (by simp [results, Tryz.results11, go_sem, xF23_0, xF23_1, xF23_2]) rfl ⟨rfl, B0⟩
set_option maxRecDepth 100000 in
set_option maxHeartbeats 8000000 in
theorem kof_ok (neg : Bool) (x : Nat) (e : Int) (w : World) (h : okD neg x e) (h1 : -131072 ≤ e) (h2 : e ≤ 131072) (z : Rat) (hz : z = Rat.divInt (sz neg (x * 2 ^ e.toNat)) ((2 ^ (-e).toNat : Nat) : Int)) :
    Calls Tryz.prog 10 #[.agg #[.bool neg, .string (bstr x), .int .i64 e]] w fun r w' => r = .returned (kToldV z) ∧ Below w.heap.size w w' := by
  have hx8 := h.dn
  have hck := fun W => check_any neg (bstr x) e W (by rw [bstr_size]; omega)
  rw [mayB_ok h, okE_t] at hck
  have hw1 := fun W => kwhole_any x W (Nat.le_trans hx8 (by omega))
  have hw2 := fun W => newint_any 1 W (by omega) (by omega)
  obtain ⟨P, hP⟩ : ∃ P, P = x * 2 ^ e.toNat := ⟨_, rfl⟩
  obtain ⟨Q, hQ⟩ : ∃ Q, Q = 2 ^ (-e).toNat := ⟨_, rfl⟩
  have hQ0 : Q ≠ 0 := by rw [hQ]; exact Nat.ne_of_gt (pp _)
  have hP32 : Fil.dn 32 P ≤ 20000 := by
    have h8 : Fil.dn 8 P ≤ 16384 + 16385 := by rw [hP]; exact mul_dn hx8 (by rw [dn_two]; omega)
    exact Nat.le_trans (dn8_32 P _ (lt_of_dn (by omega) h8)) (by omega)
  have hQ32 : Fil.dn 32 Q ≤ 20000 := by
    have h8 : Fil.dn 8 Q ≤ 16385 := by rw [hQ, dn_two]; omega
    exact Nat.le_trans (dn8_32 Q _ (lt_of_dn (by omega) h8)) (by omega)
  have hx32 : Fil.dn 32 x ≤ 20000 := Nat.le_trans (dn8_32 x _ (lt_of_dn (by omega) hx8)) (by omega)
  rw [← hP, ← hQ] at hz
  have hQi : (Q : Int) ≠ 0 := by omega
  have hsz : Szd 20000 z := by rw [hz]; exact Szd.div hQi (by rw [sz_abs]; exact hP32) (by rw [Int.natAbs_natCast]; exact hQ32)
  have htd := fun W B R => ktold_any B z W R (hsz.mono (by omega))
  obtain ⟨tn, tS, tT, te, hV⟩ := kTold_parts z
  rw [hV] at htd ⊢
  have HS := Lib.hid (And.intro hP (And.intro hQ (And.intro hP32 (And.intro hQ32 (And.intro hx32 (And.intro hQi hz))))))
  clear hP hQ hQ0 hP32 hQ32 hx32 hQi hz hsz hV h hx8
  generalize hSx : bstr x = S at *
  clear hSx
  have F := (Blk.put w #[.bool neg, .string S, .int .i64 e] 26).allocd (.cells #[.bool false, .string { data := #[] }, .string { data := #[] }] 24)
  have Z := Blk.put (w.alloc (.cells #[.bool neg, .string S, .int .i64 e] 26)) #[.bool false, .string { data := #[] }, .string { data := #[] }] 24
  rw [show (w.alloc (.cells #[.bool neg, .string S, .int .i64 e] 26)).heap.size = w.heap.size + 1 by simp] at Z
  have hb := ((Below.refl w.heap.size w).alloc (Nat.le_refl _) (.cells #[.bool neg, .string S, .int .i64 e] 26)).alloc (by simp) (.cells #[.bool false, .string { data := #[] }, .string { data := #[] }] 24)
  obtain ⟨f0, f1, f2⟩ := F.ce3
  go_enter Tryz.func10, Tryz.ntmps10
  go_wp2_with fail
  refine (hck _).mono ?_
  rintro r w1 ⟨rfl, hB⟩
  clear f0 f1 f2
  replace F := F.keep hB
  replace Z := Z.keep hB
  replace hb := hb.trans (hB.mono hb.size)
  clear hB hck
  obtain ⟨f0, f1, f2⟩ := F.ce3
  have lF := F.lt
  have lZ := Z.lt
  have k1 : decide (131072 < e) = false := decide_eq_false (by omega)
  have k2 : decide (e < -131072) = false := decide_eq_false (by omega)
  have k3 : ¬ 131072 < e := by omega
  have k4 : ¬ e < -131072 := by omega
  go_wp2_with fail
  refine (hw1 _).mono ?_
  rintro r w2 ⟨rfl, I1, hB⟩
  clear f0 f1 f2
  replace F := F.keep hB
  replace Z := Z.keep hB
  replace hb := hb.trans (hB.mono hb.size)
  have lI := I1.lt
  clear hB hw1
  go_wp2_with fail
  refine (hw2 _).mono ?_
  rintro r w3 ⟨rfl, I2, hB⟩
  replace F := F.keep hB
  replace Z := Z.keep hB
  replace I1 := I1.below hB
  replace hb := hb.trans (hB.mono hb.size)
  clear hB hw2
  have hwb := hb.size
  have l0 : w.heap.size ≤ w1.heap.size := by omega
  have n1 : w1.heap.size ≠ w2.heap.size := by omega
  have nF1 : w.heap.size ≠ w1.heap.size := by omega
  have nF2 : w.heap.size ≠ w2.heap.size := by omega
  have nZ1 : w.heap.size + 1 ≠ w1.heap.size := by omega
  have nZ2 : w.heap.size + 1 ≠ w2.heap.size := by omega
  have l1 : w.heap.size ≤ w2.heap.size := by omega
  obtain ⟨B1, hB1⟩ : ∃ B1, B1 = w1.heap.size := ⟨_, rfl⟩
  obtain ⟨B2, hB2⟩ : ∃ B2, B2 = w2.heap.size := ⟨_, rfl⟩
  rw [← hB1] at I1 n1 nF1 nZ1 l0 ⊢
  rw [← hB2] at I2 n1 nF2 nZ2 l1 ⊢
  have HN := Lib.hid (And.intro n1 (And.intro nF1 (And.intro nF2 (And.intro nZ1 (And.intro nZ2 (And.intro l0 l1))))))
  clear lF lZ lI n1 nF1 nF2 nZ1 nZ2 l0 l1 hB1 hB2 hwb
  obtain ⟨f0, f1, f2⟩ := F.ce3
  go_upto_if 25 with fail
  go_cut [] (fun wx => IntAt wx B1 0 (P : Int) ∧ IntAt wx B2 0 (Q : Int) ∧ Blk wx w.heap.size #[.bool neg, .string S, .int .i64 e] 26 ∧ Blk wx (w.heap.size + 1) #[.bool false, .string { data := #[] }, .string { data := #[] }] 24 ∧ Below w.heap.size w wx)
  case first =>
    by_cases he : 0 ≤ e
    · obtain ⟨k, rfl⟩ := Int.eq_ofNat_of_zero_le he
      have hl := fun W a b => lsh_any B1 0 B1 0 k (x : Int) W a b (by rw [Int.natAbs_natCast]; have := HS.out.2.2.2.2.1; omega) (by omega)
      have hP : (x : Int) * 2 ^ k = (P : Int) := by rw [HS.out.1, Int.toNat_natCast]; simp
      have hQ : (1 : Int) = (Q : Int) := by rw [HS.out.2.1, show (-(k : Int)).toNat = 0 by omega]; rfl
      rw [hP] at hl
      rw [hQ] at I2
      have HL := Lib.hid hl
      clear hl hP hQ
      have hwr : IntKind.u64.wrap (k : Int) = (k : Int) := IntWalk.u64_in _ ⟨by omega, by omega⟩
      go_wp2_with fail
      refine (HL.out _ I1.room I1).mono ?_
      rintro r w4 ⟨rfl, I1', hB⟩
      clear f0 f1 f2 HL
      obtain ⟨n1, nF1, nF2, nZ1, nZ2, l0, l1⟩ := HN.out
      replace I2 := I2.but hB (.inl n1.symm)
      replace F := F.ofFar hB.toFar nF1
      replace Z := Z.ofFar hB.toFar nZ1
      replace hb := hb.trans (hB.below l0 hb.size)
      clear hB n1 nF1 nF2 nZ1 nZ2 l0 l1
      go_wp2_with fail
      go_meet
      exact ⟨I1', I2, F, Z, hb⟩
    · obtain ⟨k, hk⟩ : ∃ k : Nat, -e = (k : Int) := ⟨(-e).toNat, by omega⟩
      have hl := fun W a b => lsh_any B2 0 B2 0 k (1 : Int) W a b (by decide) (by omega)
      have hP : (x : Int) = (P : Int) := by rw [HS.out.1, show e.toNat = 0 by omega]; simp
      have hQ : (1 : Int) * 2 ^ k = (Q : Int) := by rw [HS.out.2.1, hk, Int.toNat_natCast]; simp
      rw [hQ] at hl
      rw [hP] at I1
      have HL := Lib.hid hl
      clear hl hP hQ
      have hwr : IntKind.u64.wrap (k : Int) = (k : Int) := IntWalk.u64_in _ ⟨by omega, by omega⟩
      go_wp2_with fail
      refine (HL.out _ I2.room I2).mono ?_
      rintro r w4 ⟨rfl, I2', hB⟩
      clear f0 f1 f2 HL
      obtain ⟨n1, nF1, nF2, nZ1, nZ2, l0, l1⟩ := HN.out
      replace I1 := I1.but hB (.inl n1)
      replace F := F.ofFar hB.toFar nF2
      replace Z := Z.ofFar hB.toFar nZ2
      replace hb := hb.trans (hB.below l1 hb.size)
      clear hB n1 nF1 nF2 nZ1 nZ2 l0 l1
      go_wp2_with fail
      go_meet
      exact ⟨I1, I2', F, Z, hb⟩
  case rest =>
    clear I1 I2 F Z hb f0 f1 f2 k1 k2 k3 k4
    obtain ⟨I1, I2, F, Z, hb⟩ := hcut
    generalize wc = v1 at *
    obtain ⟨f0, f1, f2⟩ := F.ce3
    go_upto_if 40 with fail
    go_cut [] (fun wx => IntAt wx B1 0 (sz neg P) ∧ IntAt wx B2 0 (Q : Int) ∧ Blk wx (w.heap.size + 1) #[.bool false, .string { data := #[] }, .string { data := #[] }] 24 ∧ Below w.heap.size w wx)
    case first =>
      cases neg
      · go_wp2_with fail
        go_meet
        exact ⟨I1, I2, Z, hb⟩
      · have hng := fun W a b => neg_any B1 0 B1 0 (P : Int) W a b (by rw [Int.natAbs_natCast]; have := HS.out.2.2.1; omega)
        go_wp2_with fail
        refine (hng _ I1.room I1).mono ?_
        rintro r w4 ⟨rfl, I1', hB⟩
        clear f0 f1 f2 hng
        obtain ⟨n1, nF1, nF2, nZ1, nZ2, l0, l1⟩ := HN.out
        replace I2 := I2.but hB (.inl n1.symm)
        replace Z := Z.ofFar hB.toFar nZ1
        replace hb := hb.trans (hB.below l0 hb.size)
        clear hB n1 nF1 nF2 nZ1 nZ2 l0 l1
        go_wp2_with fail
        go_meet
        exact ⟨I1', I2, Z, hb⟩
    case rest =>
      clear I1 I2 F Z hb f0 f1 f2
      obtain ⟨I1, I2, Z, hb⟩ := hcut
      generalize wc = v2 at *
      have R := RRoom.new v2
      have m1 : B1 ≠ v2.heap.size := by have := I1.lt; omega
      have m2 : B2 ≠ v2.heap.size := by have := I2.lt; omega
      have mz : w.heap.size + 1 ≠ v2.heap.size := by have := Z.lt; omega
      have hbs := hb.size
      replace I1 := I1.alloc (.cells #[.bool false, .slice none 0 0, .bool false, .slice none 0 0] 65)
      replace I2 := I2.alloc (.cells #[.bool false, .slice none 0 0, .bool false, .slice none 0 0] 65)
      replace Z := Z.allocd (.cells #[.bool false, .slice none 0 0, .bool false, .slice none 0 0] 65)
      replace hb := hb.alloc hb.size (.cells #[.bool false, .slice none 0 0, .bool false, .slice none 0 0] 65)
      have HM := Lib.hid (And.intro m1 (And.intro m2 (And.intro mz hbs)))
      clear m1 m2 mz hbs
      go_wp2_with fail
      refine (ratsetfrac_any v2.heap.size B1 B2 (sz neg P) (Q : Int) _ R I1 I2 HM.out.1 HM.out.2.1 HS.out.2.2.2.2.2.1 (by rw [sz_abs]; have := HS.out.2.2.1; omega) (by rw [Int.natAbs_natCast]; have := HS.out.2.2.2.1; omega)).mono ?_
      rintro r w5 ⟨rfl, R5, hF⟩
      replace Z := Z.ofFar hF HM.out.2.2.1
      replace hb := hb.trans (hF.below HM.out.2.2.2 hb.size)
      have hR : RatAt w5 v2.heap.size z := by rw [HS.out.2.2.2.2.2.2]; exact R5
      clear hF R I1 I2 R5
      go_wp2_with fail
      refine (htd _ _ hR).mono ?_
      rintro r w6 ⟨rfl, hB⟩
      replace Z := Z.keep hB
      replace hb := hb.trans (hB.mono hb.size)
      clear hB hR htd
      obtain ⟨zf0, zf1, zf2⟩ := Z.fr3
      obtain ⟨z0, z1, z2⟩ := Z.ce3
      have G0 : Blk (((w6.setCell ⟨w.heap.size + 1, 0, none⟩ (.bool tn)).setCell ⟨w.heap.size + 1, 1, none⟩ (.string tS)).setCell ⟨w.heap.size + 1, 2, none⟩ (.string tT)) (w.heap.size + 1) #[.bool tn, .string tS, .string tT] 24 := (((Z.setAt 0 (.bool tn)).setAt 1 (.string tS)).setAt 2 (.string tT))
      obtain ⟨g0, g1, g2⟩ := G0.ce3
      have hbY := ((hb.setCell (p := ⟨w.heap.size + 1, 0, none⟩) (Nat.le_add_right _ _) (.bool tn)).setCell (p := ⟨w.heap.size + 1, 1, none⟩) (Nat.le_add_right _ _) (.string tS)).setCell (p := ⟨w.heap.size + 1, 2, none⟩) (Nat.le_add_right _ _) (.string tT)
      have HG := Lib.hid (And.intro (And.intro g0 (And.intro g1 g2)) hbY)
      clear g0 g1 g2 hbY G0 Z hb
      go_wp2
      obtain ⟨⟨g0, g1, g2⟩, hbY⟩ := HG.out
      exact bodyPost_ret (v := .tuple #[.agg #[.bool tn, .string tS, .string tT], .int .i64 te]) (by simp [results, Tryz.results10, go_sem, g0, g1, g2]) rfl ⟨rfl, hbY⟩
end Go.Proofs.YtbfnafcpjbdbpaaGreatDoor

/- ratio.New, Whole and the reference's. -/
namespace Go.Proofs.YtbfnafcpjbdbpaaGreatDoor
open Go Go.RowKit Go.PlainAid Fil

set_option maxRecDepth 100000 in
set_option maxHeartbeats 8000000 in
theorem knew_bad0 (N : Bool) (P Q : ByteArray) (w : World) (h1 : ∀ W, Calls Tryz.prog 32 #[.string P] W fun r w' => r = .returned (.int .i64 2) ∧ Below W.heap.size W w') :
    Calls Tryz.prog 8 #[.bool N, .string P, .string Q] w fun r w' => r = .returned (.tuple #[.agg #[.bool false, .string { data := #[] }, .string { data := #[] }], .int .i64 2]) ∧ Below w.heap.size w w' := by
  go_enter Tryz.func8, Tryz.ntmps8
  have B0 := Below.refl w.heap.size w
  have q_w_F6 : Hid (w.heap.size ≤ w.heap.size) := Lib.hid (by omega)
  have F6 := Blk.put (w) #[.bool false, .string { data := #[] }, .string { data := #[] }] 24
  replace B0 := B0.alloc B0.size (.cells #[.bool false, .string { data := #[] }, .string { data := #[] }] 24)
  go_wp2_with fail
  (with_reducible refine (h1 _).mono ?_)
  rintro r w1 ⟨rfl, hb1⟩
  replace F6 := F6.keep hb1
  replace B0 := B0.trans (hb1.mono B0.size)
  clear hb1
  obtain ⟨xF61_0, xF61_1, xF61_2⟩ := F6.ce3
  obtain ⟨xF61_0f, xF61_1f, xF61_2f⟩ := F6.fr3
  replace F6 : Blk ((((w1).setCell ⟨w.heap.size, 0, none⟩ (.bool false)).setCell ⟨w.heap.size, 1, none⟩ (.string { data := #[] })).setCell ⟨w.heap.size, 2, none⟩ (.string { data := #[] })) (w.heap.size) #[.bool false, .string { data := #[] }, .string { data := #[] }] 24 := (((F6.setAt 0 (.bool false)).setAt 1 (.string { data := #[] })).setAt 2 (.string { data := #[] }))
  replace B0 := (((B0.setCell (p := ⟨w.heap.size, 0, none⟩) q_w_F6.out (.bool false)).setCell (p := ⟨w.heap.size, 1, none⟩) q_w_F6.out (.string { data := #[] })).setCell (p := ⟨w.heap.size, 2, none⟩) q_w_F6.out (.string { data := #[] }))
  obtain ⟨xF62_0, xF62_1, xF62_2⟩ := F6.ce3
  go_wp2
  exact bodyPost_ret (v := .tuple #[.agg #[.bool false, .string { data := #[] }, .string { data := #[] }], .int .i64 2]) (by simp [results, Tryz.results8, go_sem, xF62_0, xF62_1, xF62_2]) rfl ⟨rfl, B0⟩
set_option maxRecDepth 100000 in
set_option maxHeartbeats 8000000 in
theorem knew_bad1 (N : Bool) (P Q : ByteArray) (w : World) (h1 : ∀ W, Calls Tryz.prog 32 #[.string P] W fun r w' => r = .returned (.int .i64 0) ∧ Below W.heap.size W w') (h2 : ∀ W, Calls Tryz.prog 32 #[.string Q] W fun r w' => r = .returned (.int .i64 2) ∧ Below W.heap.size W w') :
    Calls Tryz.prog 8 #[.bool N, .string P, .string Q] w fun r w' => r = .returned (.tuple #[.agg #[.bool false, .string { data := #[] }, .string { data := #[] }], .int .i64 2]) ∧ Below w.heap.size w w' := by
  go_enter Tryz.func8, Tryz.ntmps8
  have B0 := Below.refl w.heap.size w
  have q_w_F6 : Hid (w.heap.size ≤ w.heap.size) := Lib.hid (by omega)
  have F6 := Blk.put (w) #[.bool false, .string { data := #[] }, .string { data := #[] }] 24
  replace B0 := B0.alloc B0.size (.cells #[.bool false, .string { data := #[] }, .string { data := #[] }] 24)
  go_wp2_with fail
  (with_reducible refine (h1 _).mono ?_)
  rintro r w1 ⟨rfl, hb1⟩
  replace F6 := F6.keep hb1
  replace B0 := B0.trans (hb1.mono B0.size)
  clear hb1
  go_wp2_with fail
  (with_reducible refine (h2 _).mono ?_)
  rintro r w2 ⟨rfl, hb2⟩
  replace F6 := F6.keep hb2
  replace B0 := B0.trans (hb2.mono B0.size)
  clear hb2
  obtain ⟨xF62_0, xF62_1, xF62_2⟩ := F6.ce3
  obtain ⟨xF62_0f, xF62_1f, xF62_2f⟩ := F6.fr3
  replace F6 : Blk ((((w2).setCell ⟨w.heap.size, 0, none⟩ (.bool false)).setCell ⟨w.heap.size, 1, none⟩ (.string { data := #[] })).setCell ⟨w.heap.size, 2, none⟩ (.string { data := #[] })) (w.heap.size) #[.bool false, .string { data := #[] }, .string { data := #[] }] 24 := (((F6.setAt 0 (.bool false)).setAt 1 (.string { data := #[] })).setAt 2 (.string { data := #[] }))
  replace B0 := (((B0.setCell (p := ⟨w.heap.size, 0, none⟩) q_w_F6.out (.bool false)).setCell (p := ⟨w.heap.size, 1, none⟩) q_w_F6.out (.string { data := #[] })).setCell (p := ⟨w.heap.size, 2, none⟩) q_w_F6.out (.string { data := #[] }))
  obtain ⟨xF63_0, xF63_1, xF63_2⟩ := F6.ce3
  go_wp2
  exact bodyPost_ret (v := .tuple #[.agg #[.bool false, .string { data := #[] }, .string { data := #[] }], .int .i64 2]) (by simp [results, Tryz.results8, go_sem, xF63_0, xF63_1, xF63_2]) rfl ⟨rfl, B0⟩
set_option maxRecDepth 100000 in
set_option maxHeartbeats 8000000 in
theorem knew_bad2 (N : Bool) (P Q : ByteArray) (w : World) (h1 : ∀ W, Calls Tryz.prog 32 #[.string P] W fun r w' => r = .returned (.int .i64 0) ∧ Below W.heap.size W w') (h2 : ∀ W, Calls Tryz.prog 32 #[.string Q] W fun r w' => r = .returned (.int .i64 0) ∧ Below W.heap.size W w') (hQ : Q.toList = []) :
    Calls Tryz.prog 8 #[.bool N, .string P, .string Q] w fun r w' => r = .returned (.tuple #[.agg #[.bool false, .string { data := #[] }, .string { data := #[] }], .int .i64 2]) ∧ Below w.heap.size w w' := by
  go_enter Tryz.func8, Tryz.ntmps8
  have B0 := Below.refl w.heap.size w
  have q_w_F6 : Hid (w.heap.size ≤ w.heap.size) := Lib.hid (by omega)
  have F6 := Blk.put (w) #[.bool false, .string { data := #[] }, .string { data := #[] }] 24
  replace B0 := B0.alloc B0.size (.cells #[.bool false, .string { data := #[] }, .string { data := #[] }] 24)
  go_wp2_with fail
  (with_reducible refine (h1 _).mono ?_)
  rintro r w1 ⟨rfl, hb1⟩
  replace F6 := F6.keep hb1
  replace B0 := B0.trans (hb1.mono B0.size)
  clear hb1
  go_wp2_with fail
  (with_reducible refine (h2 _).mono ?_)
  rintro r w2 ⟨rfl, hb2⟩
  replace F6 := F6.keep hb2
  replace B0 := B0.trans (hb2.mono B0.size)
  clear hb2
  obtain ⟨xF62_0, xF62_1, xF62_2⟩ := F6.ce3
  obtain ⟨xF62_0f, xF62_1f, xF62_2f⟩ := F6.fr3
  replace F6 : Blk ((((w2).setCell ⟨w.heap.size, 0, none⟩ (.bool false)).setCell ⟨w.heap.size, 1, none⟩ (.string { data := #[] })).setCell ⟨w.heap.size, 2, none⟩ (.string { data := #[] })) (w.heap.size) #[.bool false, .string { data := #[] }, .string { data := #[] }] 24 := (((F6.setAt 0 (.bool false)).setAt 1 (.string { data := #[] })).setAt 2 (.string { data := #[] }))
  replace B0 := (((B0.setCell (p := ⟨w.heap.size, 0, none⟩) q_w_F6.out (.bool false)).setCell (p := ⟨w.heap.size, 1, none⟩) q_w_F6.out (.string { data := #[] })).setCell (p := ⟨w.heap.size, 2, none⟩) q_w_F6.out (.string { data := #[] }))
  obtain ⟨xF63_0, xF63_1, xF63_2⟩ := F6.ce3
  go_wp2
  exact bodyPost_ret (v := .tuple #[.agg #[.bool false, .string { data := #[] }, .string { data := #[] }], .int .i64 2]) (by simp [results, Tryz.results8, go_sem, xF63_0, xF63_1, xF63_2]) rfl ⟨rfl, B0⟩
set_option maxRecDepth 100000 in
set_option maxHeartbeats 8000000 in
theorem p4new_bad0 (N : Bool) (P Q : ByteArray) (w : World) (h1 : ∀ W, Calls Tryz.prog 37 #[.string P] W fun r w' => r = .returned (.bool false) ∧ Below W.heap.size W w') :
    Calls Tryz.prog 9 #[.bool N, .string P, .string Q] w fun r w' => r = .returned (.tuple #[.agg #[.bool false, .string { data := #[] }, .string { data := #[] }], .int .i64 2]) ∧ Below w.heap.size w w' := by
  go_enter Tryz.func9, Tryz.ntmps9
  have B0 := Below.refl w.heap.size w
  have q_w_F6 : Hid (w.heap.size ≤ w.heap.size) := Lib.hid (by omega)
  have F6 := Blk.put (w) #[.bool false, .string { data := #[] }, .string { data := #[] }] 24
  replace B0 := B0.alloc B0.size (.cells #[.bool false, .string { data := #[] }, .string { data := #[] }] 24)
  go_wp2_with fail
  (with_reducible refine (h1 _).mono ?_)
  rintro r w1 ⟨rfl, hb1⟩
  replace F6 := F6.keep hb1
  replace B0 := B0.trans (hb1.mono B0.size)
  clear hb1
  obtain ⟨xF61_0, xF61_1, xF61_2⟩ := F6.ce3
  obtain ⟨xF61_0f, xF61_1f, xF61_2f⟩ := F6.fr3
  replace F6 : Blk ((((w1).setCell ⟨w.heap.size, 0, none⟩ (.bool false)).setCell ⟨w.heap.size, 1, none⟩ (.string { data := #[] })).setCell ⟨w.heap.size, 2, none⟩ (.string { data := #[] })) (w.heap.size) #[.bool false, .string { data := #[] }, .string { data := #[] }] 24 := (((F6.setAt 0 (.bool false)).setAt 1 (.string { data := #[] })).setAt 2 (.string { data := #[] }))
  replace B0 := (((B0.setCell (p := ⟨w.heap.size, 0, none⟩) q_w_F6.out (.bool false)).setCell (p := ⟨w.heap.size, 1, none⟩) q_w_F6.out (.string { data := #[] })).setCell (p := ⟨w.heap.size, 2, none⟩) q_w_F6.out (.string { data := #[] }))
  obtain ⟨xF62_0, xF62_1, xF62_2⟩ := F6.ce3
  go_wp2
  exact bodyPost_ret (v := .tuple #[.agg #[.bool false, .string { data := #[] }, .string { data := #[] }], .int .i64 2]) (by simp [results, Tryz.results9, go_sem, xF62_0, xF62_1, xF62_2]) rfl ⟨rfl, B0⟩
set_option maxRecDepth 100000 in
set_option maxHeartbeats 8000000 in
theorem p4new_bad1 (N : Bool) (P Q : ByteArray) (w : World) (h1 : ∀ W, Calls Tryz.prog 37 #[.string P] W fun r w' => r = .returned (.bool true) ∧ Below W.heap.size W w') (h2 : ∀ W, Calls Tryz.prog 37 #[.string Q] W fun r w' => r = .returned (.bool false) ∧ Below W.heap.size W w') :
    Calls Tryz.prog 9 #[.bool N, .string P, .string Q] w fun r w' => r = .returned (.tuple #[.agg #[.bool false, .string { data := #[] }, .string { data := #[] }], .int .i64 2]) ∧ Below w.heap.size w w' := by
  go_enter Tryz.func9, Tryz.ntmps9
  have B0 := Below.refl w.heap.size w
  have q_w_F6 : Hid (w.heap.size ≤ w.heap.size) := Lib.hid (by omega)
  have F6 := Blk.put (w) #[.bool false, .string { data := #[] }, .string { data := #[] }] 24
  replace B0 := B0.alloc B0.size (.cells #[.bool false, .string { data := #[] }, .string { data := #[] }] 24)
  go_wp2_with fail
  (with_reducible refine (h1 _).mono ?_)
  rintro r w1 ⟨rfl, hb1⟩
  replace F6 := F6.keep hb1
  replace B0 := B0.trans (hb1.mono B0.size)
  clear hb1
  go_wp2_with fail
  (with_reducible refine (h2 _).mono ?_)
  rintro r w2 ⟨rfl, hb2⟩
  replace F6 := F6.keep hb2
  replace B0 := B0.trans (hb2.mono B0.size)
  clear hb2
  obtain ⟨xF62_0, xF62_1, xF62_2⟩ := F6.ce3
  obtain ⟨xF62_0f, xF62_1f, xF62_2f⟩ := F6.fr3
  replace F6 : Blk ((((w2).setCell ⟨w.heap.size, 0, none⟩ (.bool false)).setCell ⟨w.heap.size, 1, none⟩ (.string { data := #[] })).setCell ⟨w.heap.size, 2, none⟩ (.string { data := #[] })) (w.heap.size) #[.bool false, .string { data := #[] }, .string { data := #[] }] 24 := (((F6.setAt 0 (.bool false)).setAt 1 (.string { data := #[] })).setAt 2 (.string { data := #[] }))
  replace B0 := (((B0.setCell (p := ⟨w.heap.size, 0, none⟩) q_w_F6.out (.bool false)).setCell (p := ⟨w.heap.size, 1, none⟩) q_w_F6.out (.string { data := #[] })).setCell (p := ⟨w.heap.size, 2, none⟩) q_w_F6.out (.string { data := #[] }))
  obtain ⟨xF63_0, xF63_1, xF63_2⟩ := F6.ce3
  go_wp2
  exact bodyPost_ret (v := .tuple #[.agg #[.bool false, .string { data := #[] }, .string { data := #[] }], .int .i64 2]) (by simp [results, Tryz.results9, go_sem, xF63_0, xF63_1, xF63_2]) rfl ⟨rfl, B0⟩
set_option maxRecDepth 100000 in
set_option maxHeartbeats 8000000 in
theorem p4new_bad2 (N : Bool) (P Q : ByteArray) (w : World) (h1 : ∀ W, Calls Tryz.prog 37 #[.string P] W fun r w' => r = .returned (.bool true) ∧ Below W.heap.size W w') (h2 : ∀ W, Calls Tryz.prog 37 #[.string Q] W fun r w' => r = .returned (.bool true) ∧ Below W.heap.size W w') (hQ : Q.toList = []) :
    Calls Tryz.prog 9 #[.bool N, .string P, .string Q] w fun r w' => r = .returned (.tuple #[.agg #[.bool false, .string { data := #[] }, .string { data := #[] }], .int .i64 2]) ∧ Below w.heap.size w w' := by
  go_enter Tryz.func9, Tryz.ntmps9
  have B0 := Below.refl w.heap.size w
  have q_w_F6 : Hid (w.heap.size ≤ w.heap.size) := Lib.hid (by omega)
  have F6 := Blk.put (w) #[.bool false, .string { data := #[] }, .string { data := #[] }] 24
  replace B0 := B0.alloc B0.size (.cells #[.bool false, .string { data := #[] }, .string { data := #[] }] 24)
  go_wp2_with fail
  (with_reducible refine (h1 _).mono ?_)
  rintro r w1 ⟨rfl, hb1⟩
  replace F6 := F6.keep hb1
  replace B0 := B0.trans (hb1.mono B0.size)
  clear hb1
  go_wp2_with fail
  (with_reducible refine (h2 _).mono ?_)
  rintro r w2 ⟨rfl, hb2⟩
  replace F6 := F6.keep hb2
  replace B0 := B0.trans (hb2.mono B0.size)
  clear hb2
  obtain ⟨xF62_0, xF62_1, xF62_2⟩ := F6.ce3
  obtain ⟨xF62_0f, xF62_1f, xF62_2f⟩ := F6.fr3
  replace F6 : Blk ((((w2).setCell ⟨w.heap.size, 0, none⟩ (.bool false)).setCell ⟨w.heap.size, 1, none⟩ (.string { data := #[] })).setCell ⟨w.heap.size, 2, none⟩ (.string { data := #[] })) (w.heap.size) #[.bool false, .string { data := #[] }, .string { data := #[] }] 24 := (((F6.setAt 0 (.bool false)).setAt 1 (.string { data := #[] })).setAt 2 (.string { data := #[] }))
  replace B0 := (((B0.setCell (p := ⟨w.heap.size, 0, none⟩) q_w_F6.out (.bool false)).setCell (p := ⟨w.heap.size, 1, none⟩) q_w_F6.out (.string { data := #[] })).setCell (p := ⟨w.heap.size, 2, none⟩) q_w_F6.out (.string { data := #[] }))
  obtain ⟨xF63_0, xF63_1, xF63_2⟩ := F6.ce3
  go_wp2
  exact bodyPost_ret (v := .tuple #[.agg #[.bool false, .string { data := #[] }, .string { data := #[] }], .int .i64 2]) (by simp [results, Tryz.results9, go_sem, xF63_0, xF63_1, xF63_2]) rfl ⟨rfl, B0⟩
set_option maxRecDepth 100000 in
set_option maxHeartbeats 8000000 in
theorem p4new_ok (N : Bool) (P Q : ByteArray) (vn : Bool) (vS vT : ByteArray) (w : World) (h1 : ∀ W, Calls Tryz.prog 37 #[.string P] W fun r w' => r = .returned (.bool true) ∧ Below W.heap.size W w') (h2 : ∀ W, Calls Tryz.prog 37 #[.string Q] W fun r w' => r = .returned (.bool true) ∧ Below W.heap.size W w') (hQ : Q.toList.isEmpty = false) (_hQ2 : Q.toList ≠ []) (h3 : ∀ W, Calls Tryz.prog 38 #[.bool N, .string P, .string Q] W fun r w' => r = .returned (.agg #[.bool vn, .string vS, .string vT]) ∧ Below W.heap.size W w') :
    Calls Tryz.prog 9 #[.bool N, .string P, .string Q] w fun r w' => r = .returned (.tuple #[.agg #[.bool vn, .string vS, .string vT], .int .i64 0]) ∧ Below w.heap.size w w' := by
  go_enter Tryz.func9, Tryz.ntmps9
  have B0 := Below.refl w.heap.size w
  have q_w_F6 : Hid (w.heap.size ≤ w.heap.size) := Lib.hid (by omega)
  have F6 := Blk.put (w) #[.bool false, .string { data := #[] }, .string { data := #[] }] 24
  replace B0 := B0.alloc B0.size (.cells #[.bool false, .string { data := #[] }, .string { data := #[] }] 24)
  go_wp2_with fail
  (with_reducible refine (h1 _).mono ?_)
  rintro r w1 ⟨rfl, hb1⟩
  replace F6 := F6.keep hb1
  replace B0 := B0.trans (hb1.mono B0.size)
  clear hb1
  go_wp2_with fail
  (with_reducible refine (h2 _).mono ?_)
  rintro r w2 ⟨rfl, hb2⟩
  replace F6 := F6.keep hb2
  replace B0 := B0.trans (hb2.mono B0.size)
  clear hb2
  go_wp2_with fail
  (with_reducible refine (h3 _).mono ?_)
  rintro r w3 ⟨rfl, hb3⟩
  replace F6 := F6.keep hb3
  replace B0 := B0.trans (hb3.mono B0.size)
  clear hb3
  obtain ⟨xF63_0, xF63_1, xF63_2⟩ := F6.ce3
  obtain ⟨xF63_0f, xF63_1f, xF63_2f⟩ := F6.fr3
  replace F6 : Blk ((((w3).setCell ⟨w.heap.size, 0, none⟩ (.bool vn)).setCell ⟨w.heap.size, 1, none⟩ (.string vS)).setCell ⟨w.heap.size, 2, none⟩ (.string vT)) (w.heap.size) #[.bool vn, .string vS, .string vT] 24 := (((F6.setAt 0 (.bool vn)).setAt 1 (.string vS)).setAt 2 (.string vT))
  replace B0 := (((B0.setCell (p := ⟨w.heap.size, 0, none⟩) q_w_F6.out (.bool vn)).setCell (p := ⟨w.heap.size, 1, none⟩) q_w_F6.out (.string vS)).setCell (p := ⟨w.heap.size, 2, none⟩) q_w_F6.out (.string vT))
  obtain ⟨xF64_0, xF64_1, xF64_2⟩ := F6.ce3
  go_wp2
  exact bodyPost_ret (v := .tuple #[.agg #[.bool vn, .string vS, .string vT], .int .i64 0]) (by simp [results, Tryz.results9, go_sem, xF64_0, xF64_1, xF64_2]) rfl ⟨rfl, B0⟩
set_option maxRecDepth 100000 in
set_option maxHeartbeats 8000000 in
theorem p4whole_0 (M : ByteArray) (vn : Bool) (vS vT : ByteArray) (w : World) (x : Nat) (e1 : IntKind.u64.wrap (x : Int) = (x : Int)) (d1 : decide ((x : Int) < 0) = false) (h1 : ∀ W, Calls Tryz.prog 55 #[.int .u64 (x : Int)] W fun r w' => r = .returned (.string M) ∧ Below W.heap.size W w') (h2 : ∀ W, Calls Tryz.prog 38 #[.bool false, .string M, .string { data := #[1] }] W fun r w' => r = .returned (.agg #[.bool vn, .string vS, .string vT]) ∧ Below W.heap.size W w') :
    Calls Tryz.prog 17 #[.int .i64 (x : Int)] w fun r w' => r = .returned (.agg #[.bool vn, .string vS, .string vT]) ∧ Below w.heap.size w w' := by
  go_enter Tryz.func17, Tryz.ntmps17
  have B0 := Below.refl w.heap.size w
  have q_w_F2 : Hid (w.heap.size ≤ w.heap.size) := Lib.hid (by omega)
  have F2 := Blk.put (w) #[.bool false, .string { data := #[] }, .string { data := #[] }] 24
  replace B0 := B0.alloc B0.size (.cells #[.bool false, .string { data := #[] }, .string { data := #[] }] 24)
  go_wp2_with fail
  (with_reducible refine (h1 _).mono ?_)
  rintro r w1 ⟨rfl, hb1⟩
  replace F2 := F2.keep hb1
  replace B0 := B0.trans (hb1.mono B0.size)
  clear hb1
  go_wp2_with fail
  (with_reducible refine (h2 _).mono ?_)
  rintro r w2 ⟨rfl, hb2⟩
  replace F2 := F2.keep hb2
  replace B0 := B0.trans (hb2.mono B0.size)
  clear hb2
  obtain ⟨xF22_0, xF22_1, xF22_2⟩ := F2.ce3
  obtain ⟨xF22_0f, xF22_1f, xF22_2f⟩ := F2.fr3
  replace F2 : Blk ((((w2).setCell ⟨w.heap.size, 0, none⟩ (.bool vn)).setCell ⟨w.heap.size, 1, none⟩ (.string vS)).setCell ⟨w.heap.size, 2, none⟩ (.string vT)) (w.heap.size) #[.bool vn, .string vS, .string vT] 24 := (((F2.setAt 0 (.bool vn)).setAt 1 (.string vS)).setAt 2 (.string vT))
  replace B0 := (((B0.setCell (p := ⟨w.heap.size, 0, none⟩) q_w_F2.out (.bool vn)).setCell (p := ⟨w.heap.size, 1, none⟩) q_w_F2.out (.string vS)).setCell (p := ⟨w.heap.size, 2, none⟩) q_w_F2.out (.string vT))
  obtain ⟨xF23_0, xF23_1, xF23_2⟩ := F2.ce3
  go_wp2
  exact bodyPost_ret (v := .agg #[.bool vn, .string vS, .string vT]) (by simp [results, Tryz.results17, go_sem, xF23_0, xF23_1, xF23_2]) rfl ⟨rfl, B0⟩
set_option maxRecDepth 100000 in
set_option maxHeartbeats 8000000 in
theorem p4whole_1 (z : Int) (M : ByteArray) (vn : Bool) (vS vT : ByteArray) (w : World) (x : Nat) (hz : z < 0) (e1 : IntKind.u64.wrap (-IntKind.u64.wrap z) = (x : Int)) (h1 : ∀ W, Calls Tryz.prog 55 #[.int .u64 (x : Int)] W fun r w' => r = .returned (.string M) ∧ Below W.heap.size W w') (h2 : ∀ W, Calls Tryz.prog 38 #[.bool true, .string M, .string { data := #[1] }] W fun r w' => r = .returned (.agg #[.bool vn, .string vS, .string vT]) ∧ Below W.heap.size W w') :
    Calls Tryz.prog 17 #[.int .i64 z] w fun r w' => r = .returned (.agg #[.bool vn, .string vS, .string vT]) ∧ Below w.heap.size w w' := by
  go_enter Tryz.func17, Tryz.ntmps17
  have B0 := Below.refl w.heap.size w
  have q_w_F2 : Hid (w.heap.size ≤ w.heap.size) := Lib.hid (by omega)
  have F2 := Blk.put (w) #[.bool false, .string { data := #[] }, .string { data := #[] }] 24
  replace B0 := B0.alloc B0.size (.cells #[.bool false, .string { data := #[] }, .string { data := #[] }] 24)
  go_wp2_with fail
  (with_reducible refine (h1 _).mono ?_)
  rintro r w1 ⟨rfl, hb1⟩
  replace F2 := F2.keep hb1
  replace B0 := B0.trans (hb1.mono B0.size)
  clear hb1
  go_wp2_with fail
  (with_reducible refine (h2 _).mono ?_)
  rintro r w2 ⟨rfl, hb2⟩
  replace F2 := F2.keep hb2
  replace B0 := B0.trans (hb2.mono B0.size)
  clear hb2
  obtain ⟨xF22_0, xF22_1, xF22_2⟩ := F2.ce3
  obtain ⟨xF22_0f, xF22_1f, xF22_2f⟩ := F2.fr3
  replace F2 : Blk ((((w2).setCell ⟨w.heap.size, 0, none⟩ (.bool vn)).setCell ⟨w.heap.size, 1, none⟩ (.string vS)).setCell ⟨w.heap.size, 2, none⟩ (.string vT)) (w.heap.size) #[.bool vn, .string vS, .string vT] 24 := (((F2.setAt 0 (.bool vn)).setAt 1 (.string vS)).setAt 2 (.string vT))
  replace B0 := (((B0.setCell (p := ⟨w.heap.size, 0, none⟩) q_w_F2.out (.bool vn)).setCell (p := ⟨w.heap.size, 1, none⟩) q_w_F2.out (.string vS)).setCell (p := ⟨w.heap.size, 2, none⟩) q_w_F2.out (.string vT))
  obtain ⟨xF23_0, xF23_1, xF23_2⟩ := F2.ce3
  go_wp2
  exact bodyPost_ret (v := .agg #[.bool vn, .string vS, .string vT]) (by simp [results, Tryz.results17, go_sem, xF23_0, xF23_1, xF23_2]) rfl ⟨rfl, B0⟩
end Go.Proofs.YtbfnafcpjbdbpaaGreatDoor

/- The reference of layer 2: Bit, Low, Len. -/
namespace Go.Proofs.YtbfnafcpjbdbpaaGreatDoor
open Go Go.RowKit Go.PlainAid Fil

set_option maxHeartbeats 2000000 in
theorem r2bit_any (x i : Nat) (w : World) (hx8 : Fil.dn 8 x ≤ 400000) (hi8 : i ≤ 4611686018427387904) :
    Calls Tryz.prog 90 #[.string (bstr x), .int .i64 (i : Int)] w fun r w' => r = .returned (.int .i64 ((x / 2 ^ i % 2 : Nat) : Int)) ∧ w = w' := by
  have hsz := bstr_size x
  have hgb := get_bt (bstr x)
  have hx := lt_dn (k := 8) (by omega) x
  have hbt := fun k h => bstr_bt x k h
  obtain ⟨n, hn⟩ : ∃ n, n = Fil.dn 8 x := ⟨_, rfl⟩
  simp only [← hn] at hsz hx hx8 hbt
  obtain ⟨q, hq⟩ : ∃ q, q = i / 8 := ⟨_, rfl⟩
  obtain ⟨s, hs⟩ : ∃ s, s = i % 8 := ⟨_, rfl⟩
  have e1 : (i : Int) / 8 = (q : Int) := by omega
  have e2 : (i : Int) % 8 = (s : Int) := by omega
  have e3 : (i : Int).tmod 8 = (s : Int) := by rw [← e2]; exact Int.tmod_eq_emod_of_nonneg (by omega)
  have e4 : (i : Int).tdiv 8 = (q : Int) := by rw [← e1]; exact Int.tdiv_eq_ediv_of_nonneg (by omega)
  have hs8 : s < 8 := by omega
  have hq8 : q ≤ 576460752303423488 := by omega
  by_cases hqn : q < n
  · obtain ⟨k, hk⟩ : ∃ k, k = n - 1 - q := ⟨_, rfl⟩
    have ek : (n : Int) - 1 - (q : Int) = (k : Int) := by omega
    have hb := hbt k (by omega)
    rw [show n - 1 - k = q by omega] at hb
    have hd := dg_lt 8 x q
    have ha := Go.Proofs.and_one (dg 8 x q / 2 ^ s) (by have := Nat.div_le_self (dg 8 x q) (2 ^ s); omega)
    rw [hq, hs, bit_at, ← hq, ← hs] at ha
    rw [← div_cast] at ha
    have hk0 : (0 : Int) ≤ (k : Int) := by omega
    have hk1 : (k : Int) < (n : Int) := by omega
    have hks : k < (bstr x).size := by omega
    have hc : ¬ n ≤ q := by omega
    obtain ⟨R, hR⟩ : ∃ R, R = x / 2 ^ i % 2 := ⟨_, rfl⟩
    rw [← hR] at ha ⊢
    generalize dg 8 x q = d at *
    have W1 : IntKind.i64.wrap (d : Int) = (d : Int) := IntWalk.i64_in _ (by omega)
    have HA := Lib.hid ha
    clear hn hq hs hk hbt hx hR ha
    go_enter Tryz.func90, Tryz.ntmps90
    go_wp2
    go_ret
    exact ⟨congrArg (fun z => Ending.returned (Value.int IntKind.i64 z)) HA.out, rfl⟩
  · have h0 : x / 2 ^ i % 2 = 0 := by
      rw [Nat.div_eq_of_lt (Nat.lt_of_lt_of_le hx (pmono (by omega)))]
    rw [h0]
    have hc : n ≤ q := by omega
    clear hn hq hs hbt hx h0 hgb
    go_enter Tryz.func90, Tryz.ntmps90
    go_wp2
    go_ret
    exact ⟨rfl, rfl⟩

set_option maxHeartbeats 2000000 in
theorem r2low_any (x : Nat) (w : World) (hx8 : Fil.dn 8 x ≤ 400000) (h0 : x ≠ 0) :
    Calls Tryz.prog 49 #[.string (bstr x)] w fun r w' => r = .returned (.int .i64 ((tz x : Nat) : Int)) ∧ w = w' := by
  have e1 := (bstr_ne h0).1
  have e2 := (bstr_ne h0).2
  have ht : tz x ≤ 4611686018427387904 := by
    have h1 := tz_le_log h0
    have h2 := (Nat.log2_lt h0).2 (lt_dn (k := 8) (by omega) x)
    omega
  have hb := fun (j : Nat) (h : j ≤ tz x) W => r2bit_any x j W hx8 (by omega)
  have Hb := Lib.hid (bit_tz h0)
  have Hl := Lib.hid (fun j => @bit_low x j)
  have HB := Lib.hid hb
  clear hb h0
  generalize tz x = t at *
  go_enter Tryz.func49, Tryz.ntmps49
  go_wp2
  go_loopg [3] t (fun g s3 wr => w = wr ∧ ∃ j : Nat, j ≤ t ∧ g = t - j ∧ s3 = .int .i64 (j : Int))
  case atStart => exact ⟨rfl, 0, by omega, by omega, rfl⟩
  case round =>
    obtain ⟨rfl, j, hj, hg, rfl⟩ := hrel
    have Hg := Lib.hid hg
    have hb := HB.out j hj
    clear hg
    by_cases hjt : j < t
    · rw [Hl.out j hjt] at hb
      go_wp2_with fail
      refine (hb _).mono ?_
      rintro r w1 ⟨rfl, rfl⟩
      clear hb
      go_wp2
      go_roundg (t - (j + 1))
      case measure => have := Hg.out; omega
      case rel => exact ⟨rfl, j + 1, by omega, rfl, by go_num⟩
    · obtain rfl : j = t := by omega
      rw [Hb.out] at hb
      go_wp2_with fail
      refine (hb _).mono ?_
      rintro r w1 ⟨rfl, rfl⟩
      clear hb
      go_wp2
      go_ret
      exact ⟨rfl, rfl⟩
theorem bit_bl {x : Nat} (h : x ≠ 0) : x / 2 ^ (bl x - 1) % 2 = 1 := by
  have h1 := le_bl h
  have h2 := lt_bl x
  have h3 : bl x = bl x - 1 + 1 := by have : bl x ≠ 0 := by intro e; rw [e] at h2; omega
                                      omega
  have h4 : x / 2 ^ (bl x - 1) = 1 := by
    apply Nat.le_antisymm
    · have : x / 2 ^ (bl x - 1) < 2 := by
        rw [Nat.div_lt_iff_lt_mul (pp _), ← Nat.pow_succ']
        exact (show x < 2 ^ (bl x - 1 + 1) by rw [← h3]; exact h2)
      omega
    · exact (Nat.le_div_iff_mul_le (pp _)).2 (by rw [Nat.one_mul]; exact h1)
  rw [h4]
theorem bit_top {x j : Nat} (h : bl x ≤ j) : x / 2 ^ j % 2 = 0 := by rw [Nat.div_eq_of_lt (Nat.lt_of_lt_of_le (lt_bl x) (pmono h))]

end Go.Proofs.YtbfnafcpjbdbpaaGreatDoor

/- ratio.Dyad, ratio.Whole; the reference's Dyad. -/
namespace Go.Proofs.YtbfnafcpjbdbpaaGreatDoor
open Go Go.RowKit Go.PlainAid Fil

set_option maxRecDepth 100000 in
set_option maxHeartbeats 8000000 in
theorem kdyad_bad (xn : Bool) (xS xT : ByteArray) (w : World) (h : ∀ W, Calls Tryz.prog 14 #[.agg #[.bool xn, .string xS, .string xT]] W fun r w' => r = .returned (.bool false) ∧ Below W.heap.size W w') :
    Calls Tryz.prog 12 #[.agg #[.bool xn, .string xS, .string xT]] w fun r w' => r = .returned (.tuple #[.agg #[.bool false, .string { data := #[] }, .int .i64 0], .bool false]) ∧ Below w.heap.size w w' := by
  go_enter Tryz.func12, Tryz.ntmps12
  have B0 := Below.refl w.heap.size w
  have F1 := Blk.put (w) #[.bool xn, .string xS, .string xT] 24
  replace B0 := B0.alloc B0.size (.cells #[.bool xn, .string xS, .string xT] 24)
  have q_w_F2 : Hid (w.heap.size ≤ w.heap.size + 1) := Lib.hid (by omega)
  replace F1 := F1.allocd (.cells #[.bool false, .string { data := #[] }, .int .i64 0] 26)
  have F2 := Blk.put ((w).alloc (.cells #[.bool xn, .string xS, .string xT] 24)) #[.bool false, .string { data := #[] }, .int .i64 0] 26
  rw [show ((w).alloc (.cells #[.bool xn, .string xS, .string xT] 24)).heap.size = w.heap.size + 1 by simp] at F2
  replace B0 := B0.alloc B0.size (.cells #[.bool false, .string { data := #[] }, .int .i64 0] 26)
  obtain ⟨xF10_0, xF10_1, xF10_2⟩ := F1.ce3
  go_wp2_with fail
  (with_reducible refine (h _).mono ?_)
  rintro r w1 ⟨rfl, hb1⟩
  clear xF10_0 xF10_1 xF10_2
  replace F1 := F1.keep hb1
  replace F2 := F2.keep hb1
  replace B0 := B0.trans (hb1.mono B0.size)
  clear hb1
  obtain ⟨xF21_0, xF21_1, xF21_2⟩ := F2.ce3
  obtain ⟨xF21_0f, xF21_1f, xF21_2f⟩ := F2.fr3
  clear F1
  replace F2 : Blk ((((w1).setCell ⟨w.heap.size + 1, 0, none⟩ (.bool false)).setCell ⟨w.heap.size + 1, 1, none⟩ (.string { data := #[] })).setCell ⟨w.heap.size + 1, 2, none⟩ (.int .i64 0)) (w.heap.size + 1) #[.bool false, .string { data := #[] }, .int .i64 0] 26 := (((F2.setAt 0 (.bool false)).setAt 1 (.string { data := #[] })).setAt 2 (.int .i64 0))
  replace B0 := (((B0.setCell (p := ⟨w.heap.size + 1, 0, none⟩) q_w_F2.out (.bool false)).setCell (p := ⟨w.heap.size + 1, 1, none⟩) q_w_F2.out (.string { data := #[] })).setCell (p := ⟨w.heap.size + 1, 2, none⟩) q_w_F2.out (.int .i64 0))
  obtain ⟨xF22_0, xF22_1, xF22_2⟩ := F2.ce3
  go_wp2
  exact bodyPost_ret (v := .tuple #[.agg #[.bool false, .string { data := #[] }, .int .i64 0], .bool false]) (by simp [results, Tryz.results12, go_sem, xF22_0, xF22_1, xF22_2]) rfl ⟨rfl, B0⟩
set_option maxRecDepth 100000 in
set_option maxHeartbeats 8000000 in
theorem p4dyad_bad (xn : Bool) (xS xT : ByteArray) (w : World) (h : ∀ W, Calls Tryz.prog 15 #[.agg #[.bool xn, .string xS, .string xT]] W fun r w' => r = .returned (.bool false) ∧ Below W.heap.size W w') :
    Calls Tryz.prog 13 #[.agg #[.bool xn, .string xS, .string xT]] w fun r w' => r = .returned (.tuple #[.agg #[.bool false, .string { data := #[] }, .int .i64 0], .bool false]) ∧ Below w.heap.size w w' := by
  go_enter Tryz.func13, Tryz.ntmps13
  have B0 := Below.refl w.heap.size w
  have F1 := Blk.put (w) #[.bool xn, .string xS, .string xT] 24
  replace B0 := B0.alloc B0.size (.cells #[.bool xn, .string xS, .string xT] 24)
  have q_w_F2 : Hid (w.heap.size ≤ w.heap.size + 1) := Lib.hid (by omega)
  replace F1 := F1.allocd (.cells #[.bool false, .string { data := #[] }, .int .i64 0] 26)
  have F2 := Blk.put ((w).alloc (.cells #[.bool xn, .string xS, .string xT] 24)) #[.bool false, .string { data := #[] }, .int .i64 0] 26
  rw [show ((w).alloc (.cells #[.bool xn, .string xS, .string xT] 24)).heap.size = w.heap.size + 1 by simp] at F2
  replace B0 := B0.alloc B0.size (.cells #[.bool false, .string { data := #[] }, .int .i64 0] 26)
  obtain ⟨xF10_0, xF10_1, xF10_2⟩ := F1.ce3
  go_wp2_with fail
  (with_reducible refine (h _).mono ?_)
  rintro r w1 ⟨rfl, hb1⟩
  clear xF10_0 xF10_1 xF10_2
  replace F1 := F1.keep hb1
  replace F2 := F2.keep hb1
  replace B0 := B0.trans (hb1.mono B0.size)
  clear hb1
  obtain ⟨xF21_0, xF21_1, xF21_2⟩ := F2.ce3
  obtain ⟨xF21_0f, xF21_1f, xF21_2f⟩ := F2.fr3
  clear F1
  replace F2 : Blk ((((w1).setCell ⟨w.heap.size + 1, 0, none⟩ (.bool false)).setCell ⟨w.heap.size + 1, 1, none⟩ (.string { data := #[] })).setCell ⟨w.heap.size + 1, 2, none⟩ (.int .i64 0)) (w.heap.size + 1) #[.bool false, .string { data := #[] }, .int .i64 0] 26 := (((F2.setAt 0 (.bool false)).setAt 1 (.string { data := #[] })).setAt 2 (.int .i64 0))
  replace B0 := (((B0.setCell (p := ⟨w.heap.size + 1, 0, none⟩) q_w_F2.out (.bool false)).setCell (p := ⟨w.heap.size + 1, 1, none⟩) q_w_F2.out (.string { data := #[] })).setCell (p := ⟨w.heap.size + 1, 2, none⟩) q_w_F2.out (.int .i64 0))
  obtain ⟨xF22_0, xF22_1, xF22_2⟩ := F2.ce3
  go_wp2
  exact bodyPost_ret (v := .tuple #[.agg #[.bool false, .string { data := #[] }, .int .i64 0], .bool false]) (by simp [results, Tryz.results13, go_sem, xF22_0, xF22_1, xF22_2]) rfl ⟨rfl, B0⟩
set_option maxRecDepth 100000 in
set_option maxHeartbeats 8000000 in
theorem kdyad_0 (xn : Bool) (xS xT : ByteArray) (w : World) (h : ∀ W, Calls Tryz.prog 14 #[.agg #[.bool xn, .string xS, .string xT]] W fun r w' => r = .returned (.bool true) ∧ Below W.heap.size W w') (hS : xS.toList = []) :
    Calls Tryz.prog 12 #[.agg #[.bool xn, .string xS, .string xT]] w fun r w' => r = .returned (.tuple #[.agg #[.bool false, .string { data := #[] }, .int .i64 0], .bool true]) ∧ Below w.heap.size w w' := by
  go_enter Tryz.func12, Tryz.ntmps12
  have B0 := Below.refl w.heap.size w
  have F1 := Blk.put (w) #[.bool xn, .string xS, .string xT] 24
  replace B0 := B0.alloc B0.size (.cells #[.bool xn, .string xS, .string xT] 24)
  have q_F1_F2 := Lib.hid (show w.heap.size < w.heap.size + 1 by omega)
  have q_w_F2 : Hid (w.heap.size ≤ w.heap.size + 1) := Lib.hid (by omega)
  replace F1 := F1.allocd (.cells #[.bool false, .string { data := #[] }, .int .i64 0] 26)
  have F2 := Blk.put ((w).alloc (.cells #[.bool xn, .string xS, .string xT] 24)) #[.bool false, .string { data := #[] }, .int .i64 0] 26
  rw [show ((w).alloc (.cells #[.bool xn, .string xS, .string xT] 24)).heap.size = w.heap.size + 1 by simp] at F2
  replace B0 := B0.alloc B0.size (.cells #[.bool false, .string { data := #[] }, .int .i64 0] 26)
  obtain ⟨xF10_0, xF10_1, xF10_2⟩ := F1.ce3
  go_wp2_with fail
  (with_reducible refine (h _).mono ?_)
  rintro r w1 ⟨rfl, hb1⟩
  clear xF10_0 xF10_1 xF10_2
  replace F1 := F1.keep hb1
  replace F2 := F2.keep hb1
  replace B0 := B0.trans (hb1.mono B0.size)
  clear hb1
  obtain ⟨xF11_0, xF11_1, xF11_2⟩ := F1.ce3
  obtain ⟨xF21_0, xF21_1, xF21_2⟩ := F2.ce3
  obtain ⟨xF21_0f, xF21_1f, xF21_2f⟩ := F2.fr3
  replace F1 := (((F1.far 0 (.bool false) (Nat.ne_of_lt q_F1_F2.out)).far 1 (.string { data := #[] }) (Nat.ne_of_lt q_F1_F2.out)).far 2 (.int .i64 0) (Nat.ne_of_lt q_F1_F2.out))
  replace F2 : Blk ((((w1).setCell ⟨w.heap.size + 1, 0, none⟩ (.bool false)).setCell ⟨w.heap.size + 1, 1, none⟩ (.string { data := #[] })).setCell ⟨w.heap.size + 1, 2, none⟩ (.int .i64 0)) (w.heap.size + 1) #[.bool false, .string { data := #[] }, .int .i64 0] 26 := (((F2.setAt 0 (.bool false)).setAt 1 (.string { data := #[] })).setAt 2 (.int .i64 0))
  replace B0 := (((B0.setCell (p := ⟨w.heap.size + 1, 0, none⟩) q_w_F2.out (.bool false)).setCell (p := ⟨w.heap.size + 1, 1, none⟩) q_w_F2.out (.string { data := #[] })).setCell (p := ⟨w.heap.size + 1, 2, none⟩) q_w_F2.out (.int .i64 0))
  obtain ⟨xF22_0, xF22_1, xF22_2⟩ := F2.ce3
  go_wp2
  exact bodyPost_ret (v := .tuple #[.agg #[.bool false, .string { data := #[] }, .int .i64 0], .bool true]) (by simp [results, Tryz.results12, go_sem, xF22_0, xF22_1, xF22_2]) rfl ⟨rfl, B0⟩
set_option maxRecDepth 100000 in
set_option maxHeartbeats 8000000 in
theorem p4dyad_0 (xn : Bool) (xS xT : ByteArray) (U : ByteArray) (l m : Int) (w : World) (h : ∀ W, Calls Tryz.prog 15 #[.agg #[.bool xn, .string xS, .string xT]] W fun r w' => r = .returned (.bool true) ∧ Below W.heap.size W w') (h2 : ∀ W, Calls Tryz.prog 49 #[.string xT] W fun r w' => r = .returned (.int .i64 l) ∧ Below W.heap.size W w') (hl : -l = m) (hm1 : -2000000 ≤ m) (hm2 : m ≤ 0) (h3 : ∀ W, Calls Tryz.prog 44 #[.string xT, .int .i64 m] W fun r w' => r = .returned (.tuple #[.string U, .int .i64 0]) ∧ Below W.heap.size W w') (hU : (U.toList == [1]) = false) (_hU2 : ¬ U.toList = [1]) :
    Calls Tryz.prog 13 #[.agg #[.bool xn, .string xS, .string xT]] w fun r w' => r = .returned (.tuple #[.agg #[.bool false, .string { data := #[] }, .int .i64 0], .bool false]) ∧ Below w.heap.size w w' := by
  go_enter Tryz.func13, Tryz.ntmps13
  have B0 := Below.refl w.heap.size w
  have F1 := Blk.put (w) #[.bool xn, .string xS, .string xT] 24
  replace B0 := B0.alloc B0.size (.cells #[.bool xn, .string xS, .string xT] 24)
  have q_w_F2 : Hid (w.heap.size ≤ w.heap.size + 1) := Lib.hid (by omega)
  replace F1 := F1.allocd (.cells #[.bool false, .string { data := #[] }, .int .i64 0] 26)
  have F2 := Blk.put ((w).alloc (.cells #[.bool xn, .string xS, .string xT] 24)) #[.bool false, .string { data := #[] }, .int .i64 0] 26
  rw [show ((w).alloc (.cells #[.bool xn, .string xS, .string xT] 24)).heap.size = w.heap.size + 1 by simp] at F2
  replace B0 := B0.alloc B0.size (.cells #[.bool false, .string { data := #[] }, .int .i64 0] 26)
  obtain ⟨xF10_0, xF10_1, xF10_2⟩ := F1.ce3
  go_wp2_with fail
  (with_reducible refine (h _).mono ?_)
  rintro r w1 ⟨rfl, hb1⟩
  clear xF10_0 xF10_1 xF10_2
  replace F1 := F1.keep hb1
  replace F2 := F2.keep hb1
  replace B0 := B0.trans (hb1.mono B0.size)
  clear hb1
  obtain ⟨xF11_0, xF11_1, xF11_2⟩ := F1.ce3
  go_wp2_with fail
  (with_reducible refine (h2 _).mono ?_)
  rintro r w2 ⟨rfl, hb2⟩
  clear xF11_0 xF11_1 xF11_2
  replace F1 := F1.keep hb2
  replace F2 := F2.keep hb2
  replace B0 := B0.trans (hb2.mono B0.size)
  clear hb2
  obtain ⟨xF12_0, xF12_1, xF12_2⟩ := F1.ce3
  go_wp2_with fail
  (with_reducible refine (h3 _).mono ?_)
  rintro r w3 ⟨rfl, hb3⟩
  clear xF12_0 xF12_1 xF12_2
  replace F1 := F1.keep hb3
  replace F2 := F2.keep hb3
  replace B0 := B0.trans (hb3.mono B0.size)
  clear hb3
  obtain ⟨xF23_0, xF23_1, xF23_2⟩ := F2.ce3
  obtain ⟨xF23_0f, xF23_1f, xF23_2f⟩ := F2.fr3
  clear F1
  replace F2 : Blk ((((w3).setCell ⟨w.heap.size + 1, 0, none⟩ (.bool false)).setCell ⟨w.heap.size + 1, 1, none⟩ (.string { data := #[] })).setCell ⟨w.heap.size + 1, 2, none⟩ (.int .i64 0)) (w.heap.size + 1) #[.bool false, .string { data := #[] }, .int .i64 0] 26 := (((F2.setAt 0 (.bool false)).setAt 1 (.string { data := #[] })).setAt 2 (.int .i64 0))
  replace B0 := (((B0.setCell (p := ⟨w.heap.size + 1, 0, none⟩) q_w_F2.out (.bool false)).setCell (p := ⟨w.heap.size + 1, 1, none⟩) q_w_F2.out (.string { data := #[] })).setCell (p := ⟨w.heap.size + 1, 2, none⟩) q_w_F2.out (.int .i64 0))
  obtain ⟨xF24_0, xF24_1, xF24_2⟩ := F2.ce3
  go_wp2
  exact bodyPost_ret (v := .tuple #[.agg #[.bool false, .string { data := #[] }, .int .i64 0], .bool false]) (by simp [results, Tryz.results13, go_sem, xF24_0, xF24_1, xF24_2]) rfl ⟨rfl, B0⟩
set_option maxRecDepth 100000 in
set_option maxHeartbeats 8000000 in
theorem p4dyad_1 (xn : Bool) (xS xT : ByteArray) (U : ByteArray) (l m : Int) (dn : Bool) (dS : ByteArray) (de rr : Int) (q : Bool) (w : World) (h : ∀ W, Calls Tryz.prog 15 #[.agg #[.bool xn, .string xS, .string xT]] W fun r w' => r = .returned (.bool true) ∧ Below W.heap.size W w') (h2 : ∀ W, Calls Tryz.prog 49 #[.string xT] W fun r w' => r = .returned (.int .i64 l) ∧ Below W.heap.size W w') (hl : -l = m) (hm1 : -2000000 ≤ m) (hm2 : m ≤ 0) (h3 : ∀ W, Calls Tryz.prog 44 #[.string xT, .int .i64 m] W fun r w' => r = .returned (.tuple #[.string U, .int .i64 0]) ∧ Below W.heap.size W w') (hU : U.toList = [1]) (h4 : ∀ W, Calls Tryz.prog 50 #[.bool xn, .string xS, .int .i64 m] W fun r w' => r = .returned (.tuple #[.agg #[.bool dn, .string dS, .int .i64 de], .int .i64 rr]) ∧ Below W.heap.size W w') (hr : (rr == 0) = q) :
    Calls Tryz.prog 13 #[.agg #[.bool xn, .string xS, .string xT]] w fun r w' => r = .returned (.tuple #[.agg #[.bool dn, .string dS, .int .i64 de], .bool q]) ∧ Below w.heap.size w w' := by
  go_enter Tryz.func13, Tryz.ntmps13
  have B0 := Below.refl w.heap.size w
  have F1 := Blk.put (w) #[.bool xn, .string xS, .string xT] 24
  replace B0 := B0.alloc B0.size (.cells #[.bool xn, .string xS, .string xT] 24)
  have q_w_F2 : Hid (w.heap.size ≤ w.heap.size + 1) := Lib.hid (by omega)
  replace F1 := F1.allocd (.cells #[.bool false, .string { data := #[] }, .int .i64 0] 26)
  have F2 := Blk.put ((w).alloc (.cells #[.bool xn, .string xS, .string xT] 24)) #[.bool false, .string { data := #[] }, .int .i64 0] 26
  rw [show ((w).alloc (.cells #[.bool xn, .string xS, .string xT] 24)).heap.size = w.heap.size + 1 by simp] at F2
  replace B0 := B0.alloc B0.size (.cells #[.bool false, .string { data := #[] }, .int .i64 0] 26)
  obtain ⟨xF10_0, xF10_1, xF10_2⟩ := F1.ce3
  go_wp2_with fail
  (with_reducible refine (h _).mono ?_)
  rintro r w1 ⟨rfl, hb1⟩
  clear xF10_0 xF10_1 xF10_2
  replace F1 := F1.keep hb1
  replace F2 := F2.keep hb1
  replace B0 := B0.trans (hb1.mono B0.size)
  clear hb1
  obtain ⟨xF11_0, xF11_1, xF11_2⟩ := F1.ce3
  go_wp2_with fail
  (with_reducible refine (h2 _).mono ?_)
  rintro r w2 ⟨rfl, hb2⟩
  clear xF11_0 xF11_1 xF11_2
  replace F1 := F1.keep hb2
  replace F2 := F2.keep hb2
  replace B0 := B0.trans (hb2.mono B0.size)
  clear hb2
  obtain ⟨xF12_0, xF12_1, xF12_2⟩ := F1.ce3
  go_wp2_with fail
  (with_reducible refine (h3 _).mono ?_)
  rintro r w3 ⟨rfl, hb3⟩
  clear xF12_0 xF12_1 xF12_2
  replace F1 := F1.keep hb3
  replace F2 := F2.keep hb3
  replace B0 := B0.trans (hb3.mono B0.size)
  clear hb3
  obtain ⟨xF13_0, xF13_1, xF13_2⟩ := F1.ce3
  go_wp2_with fail
  (with_reducible refine (h4 _).mono ?_)
  rintro r w4 ⟨rfl, hb4⟩
  clear xF13_0 xF13_1 xF13_2
  replace F1 := F1.keep hb4
  replace F2 := F2.keep hb4
  replace B0 := B0.trans (hb4.mono B0.size)
  clear hb4
  have q_F2_F7 : Hid (w.heap.size + 1 < w4.heap.size) := Lib.hid (by have := F2.lt; first | exact this | omega | (simp; done) | simpa using this)
  clear F1
  replace F2 := F2.allocd (.cells #[.bool dn, .string dS, .int .i64 de] 26)
  have F7 := Blk.put (w4) #[.bool dn, .string dS, .int .i64 de] 26
  replace B0 := B0.alloc B0.size (.cells #[.bool dn, .string dS, .int .i64 de] 26)
  obtain ⟨xF74_0, xF74_1, xF74_2⟩ := F7.ce3
  obtain ⟨xF24_0, xF24_1, xF24_2⟩ := F2.ce3
  obtain ⟨xF24_0f, xF24_1f, xF24_2f⟩ := F2.fr3
  replace F7 := (((F7.far 0 (.bool dn) (Nat.ne_of_gt q_F2_F7.out)).far 1 (.string dS) (Nat.ne_of_gt q_F2_F7.out)).far 2 (.int .i64 de) (Nat.ne_of_gt q_F2_F7.out))
  replace F2 : Blk (((((w4).alloc (.cells #[.bool dn, .string dS, .int .i64 de] 26)).setCell ⟨w.heap.size + 1, 0, none⟩ (.bool dn)).setCell ⟨w.heap.size + 1, 1, none⟩ (.string dS)).setCell ⟨w.heap.size + 1, 2, none⟩ (.int .i64 de)) (w.heap.size + 1) #[.bool dn, .string dS, .int .i64 de] 26 := (((F2.setAt 0 (.bool dn)).setAt 1 (.string dS)).setAt 2 (.int .i64 de))
  replace B0 := (((B0.setCell (p := ⟨w.heap.size + 1, 0, none⟩) q_w_F2.out (.bool dn)).setCell (p := ⟨w.heap.size + 1, 1, none⟩) q_w_F2.out (.string dS)).setCell (p := ⟨w.heap.size + 1, 2, none⟩) q_w_F2.out (.int .i64 de))
  obtain ⟨xF25_0, xF25_1, xF25_2⟩ := F2.ce3
  go_wp2
  exact bodyPost_ret (v := .tuple #[.agg #[.bool dn, .string dS, .int .i64 de], .bool q]) (by simp [results, Tryz.results13, go_sem, xF25_0, xF25_1, xF25_2]) rfl ⟨rfl, B0⟩
set_option maxRecDepth 100000 in
set_option maxHeartbeats 8000000 in
theorem kdyad_no (x : Rat) (w : World) (hT : Tab w) (hx : Bts 300 x) (h0 : x.num ≠ 0) (hpow : bl x.den ≠ tz x.den + 1) :
    Calls Tryz.prog 12 #[kA x] w fun r w' => r = .returned (.tuple #[.agg #[.bool false, .string { data := #[] }, .int .i64 0], .bool false]) ∧ Below w.heap.size w w' := by
  have hm := fun W => kmay_any (sg x.num) (bstr x.num.natAbs) (bstr x.den) W (by rw [bstr_size]; have := hx.1; omega) (by rw [bstr_size]; have := hx.2; omega)
  rw [may_of_rat (hx.fits (by omega))] at hm
  have hw1 := fun W => kwhole_any x.den W (Nat.le_trans hx.2 (by omega))
  have hn32 : Fil.dn 32 x.num.natAbs ≤ 300 := Nat.le_trans (dn8_32 _ _ (lt_of_dn (by omega) hx.1)) (by omega)
  have hd32 : Fil.dn 32 x.den ≤ 300 := Nat.le_trans (dn8_32 _ _ (lt_of_dn (by omega) hx.2)) (by omega)
  have hnp : x.num.natAbs ≠ 0 := by omega
  have hS1 := (bstr_ne hnp).1
  have hS2 := (bstr_ne hnp).2
  have hdz := tz_le_log x.den_nz
  have hdl := (Nat.log2_lt x.den_nz).2 (lt_of_dn (by omega) hx.2)
  have F := (Blk.put w #[.bool (sg x.num), .string (bstr x.num.natAbs), .string (bstr x.den)] 24).allocd (.cells #[.bool false, .string { data := #[] }, .int .i64 0] 26)
  have Z := Blk.put (w.alloc (.cells #[.bool (sg x.num), .string (bstr x.num.natAbs), .string (bstr x.den)] 24)) #[.bool false, .string { data := #[] }, .int .i64 0] 26
  rw [show (w.alloc (.cells #[.bool (sg x.num), .string (bstr x.num.natAbs), .string (bstr x.den)] 24)).heap.size = w.heap.size + 1 by simp] at Z
  have hb := ((Below.refl w.heap.size w).alloc (Nat.le_refl _) (.cells #[.bool (sg x.num), .string (bstr x.num.natAbs), .string (bstr x.den)] 24)).alloc (by simp) (.cells #[.bool false, .string { data := #[] }, .int .i64 0] 26)
  obtain ⟨p, hp⟩ : ∃ p, p = x.num.natAbs := ⟨_, rfl⟩
  obtain ⟨q, hq⟩ : ∃ q, q = x.den := ⟨_, rfl⟩
  obtain ⟨N, hN⟩ : ∃ N, N = sg x.num := ⟨_, rfl⟩
  obtain ⟨lo, hlo⟩ : ∃ lo, lo = tz x.den := ⟨_, rfl⟩
  unfold kA
  rw [← hlo] at hpow hdz
  simp only [← hp, ← hq, ← hN] at hm hw1 hn32 hd32 hS1 hS2 F Z hb hpow hdz hdl ⊢
  rw [← hq] at hlo
  have HQ := Lib.hid (And.intro hn32 (And.intro hd32 hlo))
  have hlo8 : lo ≤ 100000 := by omega
  clear hx hp hq hN hlo hdz hdl hnp hn32 hd32 h0
  obtain ⟨blq, hbl⟩ : ∃ blq, blq = bl q := ⟨_, rfl⟩
  rw [← hbl] at hpow
  have HB := Lib.hid hbl
  clear hbl
  generalize hSx : bstr p = S at *
  generalize hTx : bstr q = T at *
  have HST := Lib.hid (And.intro hSx hTx)
  clear hSx hTx
  obtain ⟨f0, f1, f2⟩ := F.ce3
  go_enter Tryz.func12, Tryz.ntmps12
  go_wp2_with fail
  refine (hm _).mono ?_
  rintro r w1 ⟨rfl, hB⟩
  clear f0 f1 f2 hm
  replace F := F.keep hB
  replace Z := Z.keep hB
  replace hb := hb.trans (hB.mono hb.size)
  replace hT := (hT.alloc (.cells #[.bool N, .string S, .string T] 24)).alloc (.cells #[.bool false, .string { data := #[] }, .int .i64 0] 26) |>.below hB
  clear hB
  obtain ⟨f0, f1, f2⟩ := F.ce3
  go_wp2_with fail
  refine (hw1 _).mono ?_
  rintro r w2 ⟨rfl, I1, hB⟩
  clear f0 f1 f2 hw1
  replace F := F.keep hB
  replace Z := Z.keep hB
  replace hb := hb.trans (hB.mono hb.size)
  replace hT := hT.below hB
  clear hB
  have htz := tzb_any w1.heap.size 0 (q : Int) w2 I1 (by rw [Int.natAbs_natCast]; have := HQ.out.2.1; omega) hT
  rw [Int.natAbs_natCast, ← HQ.out.2.2] at htz
  have hbq := bitlen_any w1.heap.size 0 (q : Int) w2 I1 (by rw [Int.natAbs_natCast]; have := HQ.out.2.1; omega)
  rw [Int.natAbs_natCast, ← HB.out] at hbq
  have hwr : IntKind.i64.wrap (lo : Int) = (lo : Int) := IntWalk.i64_in _ ⟨by omega, by omega⟩
  go_wp2_with fail
  refine htz.mono ?_
  rintro r w3 ⟨rfl, rfl⟩
  clear htz
  go_wp2_with fail
  refine hbq.mono ?_
  rintro r w3 ⟨rfl, rfl⟩
  clear hbq I1
  have hne : ((blq : Int) != (lo : Int) + 1) = true := by rw [bne_iff_ne]; omega
  have hne2 : ¬ (blq : Int) = (lo : Int) + 1 := by omega
  clear F hT
  obtain ⟨zf0, zf1, zf2⟩ := Z.fr3
  obtain ⟨z0, z1, z2⟩ := Z.ce3
  have G0 : Blk (((w2.setCell ⟨w.heap.size + 1, 0, none⟩ (.bool false)).setCell ⟨w.heap.size + 1, 1, none⟩ (.string { data := #[] })).setCell ⟨w.heap.size + 1, 2, none⟩ (.int .i64 0)) (w.heap.size + 1) #[.bool false, .string { data := #[] }, .int .i64 0] 26 := (((Z.setAt 0 (.bool false)).setAt 1 (.string { data := #[] })).setAt 2 (.int .i64 0))
  obtain ⟨g0, g1, g2⟩ := G0.ce3
  have hbY := ((hb.setCell (p := ⟨w.heap.size + 1, 0, none⟩) (Nat.le_add_right _ _) (.bool false)).setCell (p := ⟨w.heap.size + 1, 1, none⟩) (Nat.le_add_right _ _) (.string { data := #[] })).setCell (p := ⟨w.heap.size + 1, 2, none⟩) (Nat.le_add_right _ _) (.int .i64 0)
  have HG := Lib.hid (And.intro (And.intro g0 (And.intro g1 g2)) hbY)
  clear g0 g1 g2 hbY G0 Z hb
  go_wp2
  obtain ⟨⟨g0, g1, g2⟩, hbY⟩ := HG.out
  exact bodyPost_ret (v := .tuple #[.agg #[.bool false, .string { data := #[] }, .int .i64 0], .bool false]) (by simp [results, Tryz.results12, go_sem, g0, g1, g2]) rfl ⟨rfl, hbY⟩
set_option maxRecDepth 100000 in
set_option maxHeartbeats 8000000 in
theorem kdyad_yes (x : Rat) (w : World) (hT : Tab w) (hx : Bts 300 x) (h0 : x.num ≠ 0) (hpow : bl x.den = tz x.den + 1) :
    Calls Tryz.prog 12 #[kA x] w fun r w' => r = .returned (.tuple #[.agg #[.bool (sg x.num), .string (bstr (x.num.natAbs / 2 ^ tz x.num.natAbs)), .int .i64 ((tz x.num.natAbs : Int) - (tz x.den : Int))], .bool true]) ∧ Below w.heap.size w w' := by
  have hw2 := fun W => kwhole_any x.num.natAbs W (Nat.le_trans hx.1 (by omega))
  obtain ⟨up, hup⟩ : ∃ up, up = tz x.num.natAbs := ⟨_, rfl⟩
  obtain ⟨m, hm0⟩ : ∃ m, m = x.num.natAbs / 2 ^ up := ⟨_, rfl⟩
  have hup8 : up ≤ 2400 := by
    have h1 := tz_le_log (x := x.num.natAbs) (by omega)
    have h2 := (Nat.log2_lt (show x.num.natAbs ≠ 0 by omega)).2 (lt_of_dn (by omega) hx.1)
    omega
  rw [← hup, ← hm0]
  have hm32 : Fil.dn 32 m ≤ 1099511627776 := by
    have h1 : Fil.dn 32 x.num.natAbs ≤ 300 := Nat.le_trans (dn8_32 _ _ (lt_of_dn (by omega) hx.1)) (by omega)
    rw [hm0]
    exact Nat.le_trans (dn_mono (by omega) (Nat.div_le_self _ _)) (by omega)
  have hsh : shrZ ((x.num.natAbs : Nat) : Int) up = (m : Int) := by
    unfold shrZ
    rw [if_neg (by omega), show sg ((x.num.natAbs : Nat) : Int) = false by unfold sg; exact decide_eq_false (by omega), Int.natAbs_natCast, Nat.add_zero, ← hm0]; rfl
  have HU := Lib.hid (And.intro hm32 hsh)
  have HUP := Lib.hid hup
  obtain ⟨E, hE⟩ : ∃ E, E = (up : Int) - (tz x.den : Int) := ⟨_, rfl⟩
  rw [← hE]
  clear hm32 hsh hm0 hup
  have hm := fun W => kmay_any (sg x.num) (bstr x.num.natAbs) (bstr x.den) W (by rw [bstr_size]; have := hx.1; omega) (by rw [bstr_size]; have := hx.2; omega)
  rw [may_of_rat (hx.fits (by omega))] at hm
  have hw1 := fun W => kwhole_any x.den W (Nat.le_trans hx.2 (by omega))
  have hn32 : Fil.dn 32 x.num.natAbs ≤ 300 := Nat.le_trans (dn8_32 _ _ (lt_of_dn (by omega) hx.1)) (by omega)
  have hd32 : Fil.dn 32 x.den ≤ 300 := Nat.le_trans (dn8_32 _ _ (lt_of_dn (by omega) hx.2)) (by omega)
  have hnp : x.num.natAbs ≠ 0 := by omega
  have hS1 := (bstr_ne hnp).1
  have hS2 := (bstr_ne hnp).2
  have hdz := tz_le_log x.den_nz
  have hdl := (Nat.log2_lt x.den_nz).2 (lt_of_dn (by omega) hx.2)
  have F := (Blk.put w #[.bool (sg x.num), .string (bstr x.num.natAbs), .string (bstr x.den)] 24).allocd (.cells #[.bool false, .string { data := #[] }, .int .i64 0] 26)
  have Z := Blk.put (w.alloc (.cells #[.bool (sg x.num), .string (bstr x.num.natAbs), .string (bstr x.den)] 24)) #[.bool false, .string { data := #[] }, .int .i64 0] 26
  rw [show (w.alloc (.cells #[.bool (sg x.num), .string (bstr x.num.natAbs), .string (bstr x.den)] 24)).heap.size = w.heap.size + 1 by simp] at Z
  have hb := ((Below.refl w.heap.size w).alloc (Nat.le_refl _) (.cells #[.bool (sg x.num), .string (bstr x.num.natAbs), .string (bstr x.den)] 24)).alloc (by simp) (.cells #[.bool false, .string { data := #[] }, .int .i64 0] 26)
  obtain ⟨p, hp⟩ : ∃ p, p = x.num.natAbs := ⟨_, rfl⟩
  obtain ⟨q, hq⟩ : ∃ q, q = x.den := ⟨_, rfl⟩
  obtain ⟨N, hN⟩ : ∃ N, N = sg x.num := ⟨_, rfl⟩
  obtain ⟨lo, hlo⟩ : ∃ lo, lo = tz x.den := ⟨_, rfl⟩
  unfold kA
  rw [← hlo] at hpow hdz hE
  simp only [← hp, ← hq, ← hN] at hm hw1 hw2 HU HUP hn32 hd32 hS1 hS2 F Z hb hpow hdz hdl ⊢
  rw [← hq] at hlo
  have HQ := Lib.hid (And.intro hn32 (And.intro hd32 hlo))
  have hlo8 : lo ≤ 100000 := by omega
  clear hx hp hq hN hlo hdz hdl hnp hn32 hd32 h0
  obtain ⟨blq, hbl⟩ : ∃ blq, blq = bl q := ⟨_, rfl⟩
  rw [← hbl] at hpow
  have HB := Lib.hid hbl
  clear hbl
  generalize hSx : bstr p = S at *
  generalize hTx : bstr q = T at *
  have HST := Lib.hid (And.intro hSx hTx)
  clear hSx hTx
  obtain ⟨f0, f1, f2⟩ := F.ce3
  go_enter Tryz.func12, Tryz.ntmps12
  go_wp2_with fail
  refine (hm _).mono ?_
  rintro r w1 ⟨rfl, hB⟩
  clear f0 f1 f2 hm
  replace F := F.keep hB
  replace Z := Z.keep hB
  replace hb := hb.trans (hB.mono hb.size)
  replace hT := (hT.alloc (.cells #[.bool N, .string S, .string T] 24)).alloc (.cells #[.bool false, .string { data := #[] }, .int .i64 0] 26) |>.below hB
  clear hB
  obtain ⟨f0, f1, f2⟩ := F.ce3
  go_wp2_with fail
  refine (hw1 _).mono ?_
  rintro r w2 ⟨rfl, I1, hB⟩
  clear f0 f1 f2 hw1
  replace F := F.keep hB
  replace Z := Z.keep hB
  replace hb := hb.trans (hB.mono hb.size)
  replace hT := hT.below hB
  clear hB
  have htz := tzb_any w1.heap.size 0 (q : Int) w2 I1 (by rw [Int.natAbs_natCast]; have := HQ.out.2.1; omega) hT
  rw [Int.natAbs_natCast, ← HQ.out.2.2] at htz
  have hbq := bitlen_any w1.heap.size 0 (q : Int) w2 I1 (by rw [Int.natAbs_natCast]; have := HQ.out.2.1; omega)
  rw [Int.natAbs_natCast, ← HB.out] at hbq
  have hwr : IntKind.i64.wrap (lo : Int) = (lo : Int) := IntWalk.i64_in _ ⟨by omega, by omega⟩
  go_wp2_with fail
  refine htz.mono ?_
  rintro r w3 ⟨rfl, rfl⟩
  clear htz
  go_wp2_with fail
  refine hbq.mono ?_
  rintro r w3 ⟨rfl, rfl⟩
  clear hbq I1
  have hne : ((blq : Int) != (lo : Int) + 1) = false := by rw [bne_eq_false_iff_eq]; omega
  have hne2 : (blq : Int) = (lo : Int) + 1 := by omega
  obtain ⟨f0, f1, f2⟩ := F.ce3
  have lF := F.lt
  have lZ := Z.lt
  go_wp2_with fail
  refine (hw2 _).mono ?_
  rintro r w3 ⟨rfl, I2, hB⟩
  clear f0 f1 f2 hw2
  replace F := F.keep hB
  replace Z := Z.keep hB
  have hwb := hb.size
  replace hb := hb.trans (hB.mono hb.size)
  replace hT := hT.below hB
  clear hB
  have HN : Hid (w.heap.size ≠ w2.heap.size ∧ w.heap.size + 1 ≠ w2.heap.size ∧ w.heap.size ≤ w2.heap.size) := Lib.hid ⟨by omega, by omega, hwb⟩
  have HL := I2.lt
  clear lF lZ hwb hne hne2
  have htz := tzb_any w2.heap.size 0 (p : Int) w3 I2 (by rw [Int.natAbs_natCast]; have := HQ.out.1; omega) hT
  rw [Int.natAbs_natCast, ← HUP.out] at htz
  have hwr2 : IntKind.i64.wrap (up : Int) = (up : Int) := IntWalk.i64_in _ ⟨by omega, by omega⟩
  have hwr3 : IntKind.u64.wrap (up : Int) = (up : Int) := IntWalk.u64_in _ ⟨by omega, by omega⟩
  go_wp2_with fail
  refine htz.mono ?_
  rintro r w4 ⟨rfl, rfl⟩
  clear htz
  have hE1 : -1048576 ≤ E := by omega
  have hE2 : E ≤ 1048576 := by omega
  have hwE : IntKind.i64.wrap ((up : Int) - (lo : Int)) = E := by rw [IntWalk.i64_in _ ⟨by omega, by omega⟩, hE]
  clear hE
  go_upto_region 11 with fail
  go_cut [8] (fun s8 wx => ∃ S8, s8 = .pointer (some ⟨S8, 0, none⟩) ∧ Blk wx S8 #[.bool N, .string (bstr m), .int .i64 E] 26 ∧ Blk wx (w.heap.size + 1) #[.bool false, .string { data := #[] }, .int .i64 0] 26 ∧ w.heap.size + 1 ≠ S8 ∧ Below w.heap.size w wx)
  case first =>
    refine wp_region_cut 13 (by kernel_rfl) (by kernel_rfl) ?_
    rintro W rfl
    simp only [List.take_succ_cons, List.take_zero, List.drop_succ_cons, List.drop_zero]
    have hHeld : (fun w' : World => w'.cell? ⟨w.heap.size, 0, none⟩ = some (.bool N)) w3.drew := F.ce3.1
    refine wpAny_of_held (S := fun w' : World => w'.cell? ⟨w.heap.size, 0, none⟩ = some (.bool N)) _ _ _ (w3.drew) ?_
    replace F : Blk w3.drew w.heap.size #[.bool N, .string S, .string T] 24 := F
    replace Z : Blk w3.drew (w.heap.size + 1) #[.bool false, .string { data := #[] }, .int .i64 0] 26 := Z
    replace I2 : IntAt w3.drew w2.heap.size 0 (p : Int) := I2
    replace hT : Tab w3.drew := hT
    replace hb : Below w.heap.size w w3.drew := hb.drew
    replace HL : w2.heap.size < w3.drew.heap.size := HL
    generalize w3.drew = v10 at *
    refine wpAnyH_take (i := 0) (v := _) (by first | (simp only [List.getElem?_toArray, List.getElem?_cons_zero]; rfl) | rfl) (by kernel_rfl) (by kernel_rfl) (by kernel_rfl) (by exact fun _ _ _ h => h) (Or.inl ⟨by rfl, by (intro w hSw; (try dsimp only at hSw); go_simp; try with_reducible rfl)⟩) (by assumption) ?_
    (try dsimp only [Act.put]); (try go_frame)
    refine wpAnyH_take (i := 1) (v := _) (by first | (simp only [List.getElem?_toArray, List.getElem?_cons_zero, List.getElem?_cons_succ]; rfl) | rfl) (by kernel_rfl) (by kernel_rfl) (by kernel_rfl) (by exact fun _ _ _ h => h) (Or.inl ⟨by rfl, by (intro w hSw; (try dsimp only at hSw); go_simp; try with_reducible rfl)⟩) (by assumption) ?_
    (try dsimp only [Act.put]); (try go_frame)
    refine wpAnyH_take (i := 2) (v := _) (by first | (simp only [List.getElem?_toArray, List.getElem?_cons_zero, List.getElem?_cons_succ]; rfl) | rfl) (by kernel_rfl) (by kernel_rfl) (by kernel_rfl) (by exact fun _ _ _ h => h) (Or.inl ⟨by rfl, by (intro w hSw; (try dsimp only at hSw); go_simp; try with_reducible rfl)⟩) (by assumption) ?_
    (try dsimp only [Act.put]); (try go_frame)
    refine wpAnyH_take (i := 3) (v := _) (by first | (simp only [List.getElem?_toArray, List.getElem?_cons_zero, List.getElem?_cons_succ]; rfl) | rfl) (by kernel_rfl) (by kernel_rfl) (by kernel_rfl) (by exact fun _ _ _ h => h) (Or.inl ⟨by rfl, by (intro w hSw; (try dsimp only at hSw); go_simp; try with_reducible rfl)⟩) (by assumption) ?_
    (try dsimp only [Act.put]); (try go_frame)
    refine wpAnyH_take (i := 4) (v := _) (by first | (simp only [List.getElem?_toArray, List.getElem?_cons_zero, List.getElem?_cons_succ]; rfl) | rfl) (by kernel_rfl) (by kernel_rfl) (by kernel_rfl) (by exact fun _ _ _ h => h) (Or.inl ⟨by rfl, by (intro w hSw; (try dsimp only at hSw); go_simp; try with_reducible rfl)⟩) (by assumption) ?_
    (try dsimp only [Act.put]); (try go_frame)
    refine wpAnyH_take (i := 5) (v := _) (by first | (simp only [List.getElem?_toArray, List.getElem?_cons_zero, List.getElem?_cons_succ]; rfl) | rfl) (by kernel_rfl) (by kernel_rfl) (by kernel_rfl) (by exact fun _ _ _ h => h) (Or.inl ⟨by rfl, by (intro w hSw; (try dsimp only at hSw); go_simp; try with_reducible rfl)⟩) (by assumption) ?_
    (try dsimp only [Act.put]); (try go_frame)
    refine wpAnyH_take (i := 8) (v := _) (by first | (simp only [List.getElem?_toArray, List.getElem?_cons_zero, List.getElem?_cons_succ]; rfl) | rfl) (by kernel_rfl) (by kernel_rfl) (by kernel_rfl) (by exact fun _ _ _ h => h) (Or.inl ⟨by rfl, by (intro w hSw; (try dsimp only at hSw); go_simp; try with_reducible rfl)⟩) (by assumption) ?_
    (try dsimp only [Act.put]); (try go_frame)
    refine wpAnyH_take (i := 9) (v := _) (by first | (simp only [List.getElem?_toArray, List.getElem?_cons_zero, List.getElem?_cons_succ]; rfl) | rfl) (by kernel_rfl) (by kernel_rfl) (by kernel_rfl) (by exact fun _ _ _ h => h) (Or.inl ⟨by rfl, by (intro w hSw; (try dsimp only at hSw); go_simp; try with_reducible rfl)⟩) (by assumption) ?_
    (try dsimp only [Act.put]); (try go_frame)
    refine wpAnyH_take (i := 10) (v := _) (by first | (simp only [List.getElem?_toArray, List.getElem?_cons_zero, List.getElem?_cons_succ]; rfl) | rfl) (by kernel_rfl) (by kernel_rfl) (by kernel_rfl) (by exact fun _ _ _ h => h) (Or.inl ⟨by rfl, by (intro w hSw; (try dsimp only at hSw); go_simp; try with_reducible rfl)⟩) (by assumption) ?_
    (try dsimp only [Act.put]); (try go_frame)
    refine wpAnyH_ready (rs := [6, 12]) (by kernel_rfl) (by simp) ?_
    refine AllReadyH.cons rfl (fun K hK => ?_) (AllReadyH.cons rfl (fun K hK => ?_) AllReadyH.nil)
    · go_simp
      refine (rsh_any w2.heap.size 0 w2.heap.size 0 up (p : Int) _ I2.room I2 (by rw [Int.natAbs_natCast]; have := HQ.out.1; omega) (by omega) hT).mono ?_
      rintro r v11 ⟨rfl, I3, hB⟩
      rw [HU.out.2] at I3
      replace F := F.ofFar hB.toFar HN.out.1
      replace Z := Z.ofFar hB.toFar HN.out.2.1
      replace hb := hb.trans (hB.below HN.out.2.2 hb.size)
      clear hB I2 hT
      refine hK.out _ _ ?_ (fun hHeld => ?_)
      · exact F.ce3.1
      clear hK K
      (try dsimp only [Act.put]); (try go_frame)
      refine wpAnyH_ready (rs := [7, 12]) (by kernel_rfl) (by simp) ?_
      refine AllReadyH.cons rfl (fun K hK => ?_) (AllReadyH.cons rfl (fun K hK => ?_) AllReadyH.nil)
      · go_simp
        refine (klaid_any w2.heap.size 0 (m : Int) _ I3 (by rw [Int.natAbs_natCast]; exact HU.out.1)).mono ?_
        rintro r v12 ⟨rfl, hB⟩
        rw [Int.natAbs_natCast]
        replace F := F.keep hB
        replace Z := Z.keep hB
        replace hb := hb.trans (hB.mono hb.size)
        clear hB I3
        refine hK.out _ _ ?_ (fun hHeld => ?_)
        · exact F.ce3.1
        clear hK K
        (try dsimp only [Act.put]); (try go_frame)
        refine wpAnyH_take (i := 11) (v := _) (by first | (simp only [List.getElem?_toArray, List.getElem?_cons_zero, List.getElem?_cons_succ]; rfl) | rfl) (by kernel_rfl) (by kernel_rfl) (by kernel_rfl) (by exact fun _ _ _ h => h) (Or.inl ⟨by rfl, by (intro w hSw; (try dsimp only at hSw); go_simp; try with_reducible rfl)⟩) (by assumption) ?_
        (try dsimp only [Act.put]); (try go_frame)
        refine wpAnyH_ready (rs := [12]) (by kernel_rfl) (by simp) ?_
        refine AllReadyH.cons rfl (fun K hK => ?_) AllReadyH.nil
        go_simp
        have hls : w.heap.size + 1 < v12.heap.size := Z.lt
        have D := Blk.put v12 #[.bool false, .string { data := #[] }, .int .i64 0] 26
        have hbs := hb.size
        replace F := F.allocd (.cells #[.bool false, .string { data := #[] }, .int .i64 0] 26)
        replace Z := Z.allocd (.cells #[.bool false, .string { data := #[] }, .int .i64 0] 26)
        replace hb := hb.alloc hb.size (.cells #[.bool false, .string { data := #[] }, .int .i64 0] 26)
        refine hK.out _ _ ?_ (fun hHeld => ?_)
        · exact F.ce3.1
        clear hK K
        generalize v12.alloc (.cells #[.bool false, .string { data := #[] }, .int .i64 0] 26) = v13 at *
        have HD := Lib.hid (And.intro hls hbs)
        clear hls hbs
        generalize v12.heap.size = B8 at *
        (try dsimp only [Act.put]); (try go_frame)
        refine wpAnyH_done (by kernel_rfl) ?_ _
        try simp only [QCut]
        obtain ⟨d0, d1, d2⟩ := D.ce3
        obtain ⟨df0, df1, df2⟩ := D.fr3
        have hls := HD.out.1
        have hbs := HD.out.2
        have D2 := (((D.setAt 0 (.bool N)).setAt 1 (.string (bstr m))).setAt 2 (.int .i64 E))
        have Z2 := (((Z.far 0 (.bool N) (b' := B8) (by omega)).far 1 (.string (bstr m)) (b' := B8) (by omega)).far 2 (.int .i64 E) (b' := B8) (by omega))
        have hb2 := ((hb.setCell (p := ⟨B8, 0, none⟩) hbs (.bool N)).setCell (p := ⟨B8, 1, none⟩) hbs (.string (bstr m))).setCell (p := ⟨B8, 2, none⟩) hbs (.int .i64 E)
        have HZ := Lib.hid (And.intro D2 (And.intro Z2 hb2))
        clear D2 Z2 hb2 D Z hb F hls hbs
        go_wp2_with fail
        go_meet
        exact ⟨B8, rfl, HZ.out.1, HZ.out.2.1, by have := HD.out.1; omega, HZ.out.2.2⟩
      · go_simp
        have hls : w.heap.size + 1 < v11.heap.size := Z.lt
        have D := Blk.put v11 #[.bool false, .string { data := #[] }, .int .i64 0] 26
        have hbs := hb.size
        replace F := F.allocd (.cells #[.bool false, .string { data := #[] }, .int .i64 0] 26)
        replace Z := Z.allocd (.cells #[.bool false, .string { data := #[] }, .int .i64 0] 26)
        replace I3 := I3.alloc (.cells #[.bool false, .string { data := #[] }, .int .i64 0] 26)
        replace hb := hb.alloc hb.size (.cells #[.bool false, .string { data := #[] }, .int .i64 0] 26)
        refine hK.out _ _ ?_ (fun hHeld => ?_)
        · exact F.ce3.1
        clear hK K
        generalize v11.alloc (.cells #[.bool false, .string { data := #[] }, .int .i64 0] 26) = v12 at *
        have HD := Lib.hid (And.intro hls hbs)
        clear hls hbs
        generalize v11.heap.size = B8 at *
        (try dsimp only [Act.put]); (try go_frame)
        refine wpAnyH_ready (rs := [7]) (by kernel_rfl) (by simp) ?_
        refine AllReadyH.cons rfl (fun K hK => ?_) AllReadyH.nil
        go_simp
        refine (klaid_any w2.heap.size 0 (m : Int) _ I3 (by rw [Int.natAbs_natCast]; exact HU.out.1)).mono ?_
        rintro r v13 ⟨rfl, hB⟩
        rw [Int.natAbs_natCast]
        replace F := F.keep hB
        replace Z := Z.keep hB
        replace D := D.keep hB
        replace hb := hb.trans (hB.mono hb.size)
        clear hB I3
        refine hK.out _ _ ?_ (fun hHeld => ?_)
        · exact F.ce3.1
        clear hK K
        (try dsimp only [Act.put]); (try go_frame)
        refine wpAnyH_take (i := 11) (v := _) (by first | (simp only [List.getElem?_toArray, List.getElem?_cons_zero, List.getElem?_cons_succ]; rfl) | rfl) (by kernel_rfl) (by kernel_rfl) (by kernel_rfl) (by exact fun _ _ _ h => h) (Or.inl ⟨by rfl, by (intro w hSw; (try dsimp only at hSw); go_simp; try with_reducible rfl)⟩) (by assumption) ?_
        (try dsimp only [Act.put]); (try go_frame)
        refine wpAnyH_done (by kernel_rfl) ?_ _
        try simp only [QCut]
        obtain ⟨d0, d1, d2⟩ := D.ce3
        obtain ⟨df0, df1, df2⟩ := D.fr3
        have hls := HD.out.1
        have hbs := HD.out.2
        have D2 := (((D.setAt 0 (.bool N)).setAt 1 (.string (bstr m))).setAt 2 (.int .i64 E))
        have Z2 := (((Z.far 0 (.bool N) (b' := B8) (by omega)).far 1 (.string (bstr m)) (b' := B8) (by omega)).far 2 (.int .i64 E) (b' := B8) (by omega))
        have hb2 := ((hb.setCell (p := ⟨B8, 0, none⟩) hbs (.bool N)).setCell (p := ⟨B8, 1, none⟩) hbs (.string (bstr m))).setCell (p := ⟨B8, 2, none⟩) hbs (.int .i64 E)
        have HZ := Lib.hid (And.intro D2 (And.intro Z2 hb2))
        clear D2 Z2 hb2 D Z hb F hls hbs
        go_wp2_with fail
        go_meet
        exact ⟨B8, rfl, HZ.out.1, HZ.out.2.1, by have := HD.out.1; omega, HZ.out.2.2⟩
    · go_simp
      have hls : w.heap.size + 1 < v10.heap.size := Z.lt
      have D := Blk.put v10 #[.bool false, .string { data := #[] }, .int .i64 0] 26
      have hbs := hb.size
      replace F := F.allocd (.cells #[.bool false, .string { data := #[] }, .int .i64 0] 26)
      replace Z := Z.allocd (.cells #[.bool false, .string { data := #[] }, .int .i64 0] 26)
      replace I2 := I2.alloc (.cells #[.bool false, .string { data := #[] }, .int .i64 0] 26)
      replace hT := hT.alloc (.cells #[.bool false, .string { data := #[] }, .int .i64 0] 26)
      replace hb := hb.alloc hb.size (.cells #[.bool false, .string { data := #[] }, .int .i64 0] 26)
      refine hK.out _ _ ?_ (fun hHeld => ?_)
      · exact F.ce3.1
      clear hK K
      generalize v10.alloc (.cells #[.bool false, .string { data := #[] }, .int .i64 0] 26) = v11 at *
      have HD := Lib.hid (And.intro hls hbs)
      clear hls hbs
      generalize v10.heap.size = B8 at *
      (try dsimp only [Act.put]); (try go_frame)
      refine wpAnyH_ready (rs := [6]) (by kernel_rfl) (by simp) ?_
      refine AllReadyH.cons rfl (fun K hK => ?_) AllReadyH.nil
      go_simp
      refine (rsh_any w2.heap.size 0 w2.heap.size 0 up (p : Int) _ I2.room I2 (by rw [Int.natAbs_natCast]; have := HQ.out.1; omega) (by omega) hT).mono ?_
      rintro r v12 ⟨rfl, I3, hB⟩
      rw [HU.out.2] at I3
      replace F := F.ofFar hB.toFar HN.out.1
      replace Z := Z.ofFar hB.toFar HN.out.2.1
      replace D := D.ofFar hB.toFar (by have := HN.out; have := HD.out; have := @HL; omega)
      replace hb := hb.trans (hB.below HN.out.2.2 hb.size)
      clear hB I2 hT
      refine hK.out _ _ ?_ (fun hHeld => ?_)
      · exact F.ce3.1
      clear hK K
      (try dsimp only [Act.put]); (try go_frame)
      refine wpAnyH_ready (rs := [7]) (by kernel_rfl) (by simp) ?_
      refine AllReadyH.cons rfl (fun K hK => ?_) AllReadyH.nil
      go_simp
      refine (klaid_any w2.heap.size 0 (m : Int) _ I3 (by rw [Int.natAbs_natCast]; exact HU.out.1)).mono ?_
      rintro r v13 ⟨rfl, hB⟩
      rw [Int.natAbs_natCast]
      replace F := F.keep hB
      replace Z := Z.keep hB
      replace D := D.keep hB
      replace hb := hb.trans (hB.mono hb.size)
      clear hB I3
      refine hK.out _ _ ?_ (fun hHeld => ?_)
      · exact F.ce3.1
      clear hK K
      (try dsimp only [Act.put]); (try go_frame)
      refine wpAnyH_take (i := 11) (v := _) (by first | (simp only [List.getElem?_toArray, List.getElem?_cons_zero, List.getElem?_cons_succ]; rfl) | rfl) (by kernel_rfl) (by kernel_rfl) (by kernel_rfl) (by exact fun _ _ _ h => h) (Or.inl ⟨by rfl, by (intro w hSw; (try dsimp only at hSw); go_simp; try with_reducible rfl)⟩) (by assumption) ?_
      (try dsimp only [Act.put]); (try go_frame)
      refine wpAnyH_done (by kernel_rfl) ?_ _
      try simp only [QCut]
      obtain ⟨d0, d1, d2⟩ := D.ce3
      obtain ⟨df0, df1, df2⟩ := D.fr3
      have hls := HD.out.1
      have hbs := HD.out.2
      have D2 := (((D.setAt 0 (.bool N)).setAt 1 (.string (bstr m))).setAt 2 (.int .i64 E))
      have Z2 := (((Z.far 0 (.bool N) (b' := B8) (by omega)).far 1 (.string (bstr m)) (b' := B8) (by omega)).far 2 (.int .i64 E) (b' := B8) (by omega))
      have hb2 := ((hb.setCell (p := ⟨B8, 0, none⟩) hbs (.bool N)).setCell (p := ⟨B8, 1, none⟩) hbs (.string (bstr m))).setCell (p := ⟨B8, 2, none⟩) hbs (.int .i64 E)
      have HZ := Lib.hid (And.intro D2 (And.intro Z2 hb2))
      clear D2 Z2 hb2 D Z hb F hls hbs
      go_wp2_with fail
      go_meet
      exact ⟨B8, rfl, HZ.out.1, HZ.out.2.1, by have := HD.out.1; omega, HZ.out.2.2⟩
  case rest =>
    clear F Z I2 hT hb HL
    obtain ⟨S8, rfl, D, Z, hne8, hb⟩ := hcut
    generalize wc = v20 at *
    obtain ⟨d0, d1, d2⟩ := D.ce3
    obtain ⟨zf0, zf1, zf2⟩ := Z.fr3
    obtain ⟨z0, z1, z2⟩ := Z.ce3
    have G0 : Blk (((v20.setCell ⟨w.heap.size + 1, 0, none⟩ (.bool N)).setCell ⟨w.heap.size + 1, 1, none⟩ (.string (bstr m))).setCell ⟨w.heap.size + 1, 2, none⟩ (.int .i64 E)) (w.heap.size + 1) #[.bool N, .string (bstr m), .int .i64 E] 26 := (((Z.setAt 0 (.bool N)).setAt 1 (.string (bstr m))).setAt 2 (.int .i64 E))
    obtain ⟨g0, g1, g2⟩ := G0.ce3
    have hbY := ((hb.setCell (p := ⟨w.heap.size + 1, 0, none⟩) (Nat.le_add_right _ _) (.bool N)).setCell (p := ⟨w.heap.size + 1, 1, none⟩) (Nat.le_add_right _ _) (.string (bstr m))).setCell (p := ⟨w.heap.size + 1, 2, none⟩) (Nat.le_add_right _ _) (.int .i64 E)
    have HG := Lib.hid (And.intro (And.intro g0 (And.intro g1 g2)) hbY)
    clear g0 g1 g2 hbY G0 Z hb D
    go_wp2
    obtain ⟨⟨g0, g1, g2⟩, hbY⟩ := HG.out
    exact bodyPost_ret (v := .tuple #[.agg #[.bool N, .string (bstr m), .int .i64 E], .bool true]) (by simp [results, Tryz.results12, go_sem, g0, g1, g2]) rfl ⟨rfl, hbY⟩
end Go.Proofs.YtbfnafcpjbdbpaaGreatDoor

/- ratios of Dyads and of numbers: the program and the reference agree. -/
namespace Go.Proofs.YtbfnafcpjbdbpaaGreatDoor
open Go Go.RowKit Go.PlainAid Fil

theorem divInt_one (z : Int) : (Rat.divInt z ((1 : Nat) : Int)).num = z ∧ (Rat.divInt z ((1 : Nat) : Int)).den = 1 := by
  refine ⟨?_, ?_⟩
  · rw [Rat.num_divInt]; simp
  · rw [Rat.den_divInt]; simp
theorem natB_nil {S : ByteArray} (h : S.size = 0) : natB S = true := by unfold natB; rw [h]; rfl
theorem new_agree (N : Bool) (P Q : ByteArray) (hP : P.size ≤ 300) (hQ : Q.size ≤ 300) :
    ∃ (n : Bool) (s t : ByteArray) (e : Int), (∀ W, Calls Tryz.prog 8 #[.bool N, .string P, .string Q] W fun r w' => r = .returned (.tuple #[.agg #[.bool n, .string s, .string t], .int .i64 e]) ∧ Below W.heap.size W w') ∧
      (∀ W, Calls Tryz.prog 9 #[.bool N, .string P, .string Q] W fun r w' => r = .returned (.tuple #[.agg #[.bool n, .string s, .string t], .int .i64 e]) ∧ Below W.heap.size W w') := by
  have c1 := fun W => natcheck_any P W (by omega)
  have c2 := fun W => natcheck_any Q W (by omega)
  have d1 := fun W => (r2May_any P W (by omega)).mono (R' := fun r w' => r = .returned (.bool (natB P)) ∧ Below W.heap.size W w') (fun _ _ ⟨h, k⟩ => ⟨h, by rw [← k]; exact Below.refl _ _⟩)
  have d2 := fun W => (r2May_any Q W (by omega)).mono (R' := fun r w' => r = .returned (.bool (natB Q)) ∧ Below W.heap.size W w') (fun _ _ ⟨h, k⟩ => ⟨h, by rw [← k]; exact Below.refl _ _⟩)
  cases hP1 : natB P
  · rw [hP1] at c1 d1
    exact ⟨_, _, _, _, fun W => knew_bad0 _ _ _ W c1, fun W => p4new_bad0 _ _ _ W d1⟩
  · rw [hP1] at c1 d1
    cases hQ1 : natB Q
    · rw [hQ1] at c2 d2
      exact ⟨_, _, _, _, fun W => knew_bad1 _ _ _ W c1 c2, fun W => p4new_bad1 _ _ _ W d1 d2⟩
    · rw [hQ1] at c2 d2
      by_cases h0 : Q.size = 0
      · exact ⟨_, _, _, _, fun W => knew_bad2 _ _ _ W c1 c2 (str_nil h0), fun W => p4new_bad2 _ _ _ W d1 d2 (str_nil h0)⟩
      · obtain ⟨n, rfl, hn⟩ := nat_of_natB hP1
        obtain ⟨d, rfl, hd⟩ := nat_of_natB hQ1
        rw [bstr_size] at hP hQ h0
        have hd0 : d ≠ 0 := fun e => h0 (by rw [e, dn_zero])
        have hz : Rat.divInt (sz N n) (d : Int) = if N then -(Rat.divInt (n : Int) (d : Int)) else Rat.divInt (n : Int) (d : Int) := by
          cases N
          · rfl
          · rw [if_pos rfl, Rat.neg_divInt]; rfl
        have fz : Bts 300 (Rat.divInt (sz N n) (d : Int)) := bts_div (by omega) (by rw [sz_abs]; exact hP) (by rw [Int.natAbs_natCast]; exact hQ)
        have h := fun W => new_ok N n d W hn hd hd0 _ hz
        rw [kTold_fits (fz.fits (by omega))] at h
        exact ⟨_, _, _, _, h, fun W => p4new_ok _ _ _ _ _ _ W d1 d2 (bstr_ne hd0).1 (bstr_ne hd0).2 (fun W => p4lowest_any N n d W hd0 (by omega) (by omega))⟩

theorem rmay_b (N : Bool) (S : ByteArray) (e : Int) (hS : S.size ≤ 9223372036854775807) : ∀ W, Calls Tryz.prog 43 #[.agg #[.bool N, .string S, .int .i64 e]] W fun r w' => r = .returned (.bool (mayB N S e)) ∧ Below W.heap.size W w' := fun W => rmay_any N S e W hS
/-- a Dyad's ratio -/
theorem of_agree (N : Bool) (S : ByteArray) (e : Int) (hS : S.size ≤ 9223372036854775807) :
    ∃ (n : Bool) (s t : ByteArray) (c : Int), (∀ W, Calls Tryz.prog 10 #[.agg #[.bool N, .string S, .int .i64 e]] W fun r w' => r = .returned (.tuple #[.agg #[.bool n, .string s, .string t], .int .i64 c]) ∧ Below W.heap.size W w') ∧
      (∀ W, Calls Tryz.prog 11 #[.agg #[.bool N, .string S, .int .i64 e]] W fun r w' => r = .returned (.tuple #[.agg #[.bool n, .string s, .string t], .int .i64 c]) ∧ Below W.heap.size W w') := by
  have c1 := fun W => check_any N S e W hS
  have d1 := rmay_b N S e hS
  cases hm : mayB N S e
  · rw [hm] at c1 d1
    exact ⟨_, _, _, _, fun W => kof_bad N S e 2 W rfl (by omega) c1, fun W => p4of_bad _ _ _ W d1⟩
  · rw [hm] at c1 d1
    obtain ⟨x, rfl, hx⟩ := ok_of_may hm
    have hx8 := hx.dn
    by_cases h0 : x = 0
    · have hN : N = false ∧ e = 0 := by rcases hx with ⟨_, h1, h2⟩ | h; exact ⟨h1, h2⟩; omega
      obtain ⟨rfl, rfl⟩ := hN
      subst h0
      have hk := fun W => kof_ok false 0 0 W hx (by omega) (by omega) 0 (by simp [sz_zero])
      rw [kTold_fits (show Fits 0 from ⟨by decide, by decide⟩), kA_zero] at hk
      exact ⟨_, _, _, _, hk, fun W => p4of_0 _ _ _ W d1 bstr_nil⟩
    · have hodd : x % 2 = 1 := by rcases hx with ⟨h, _⟩ | h; exact absurd h h0; exact h.1
      have e1 := hx.e1
      have e2 := hx.e2
      have sN := bstr_ne h0
      by_cases hbig : 131072 < e
      · obtain ⟨k, rfl⟩ := Int.eq_ofNat_of_zero_le (show 0 ≤ e by omega)
        have hs := fun W => r2shift_up x k W (by omega) h0 (by omega) (by omega)
        have hl : ¬ Fil.dn 8 (x * 2 ^ k) ≤ 16384 := by
          have h1 := dn_mul_ge h0 (show 2 ^ k ≠ 0 from Nat.ne_of_gt (pp k))
          rw [dn_two] at h1
          have := dn_pos (k := 8) h0
          omega
        rw [endV_long hl] at hs
        exact ⟨_, _, _, _, fun W => kof_far0 _ _ _ W hbig c1, fun W => p4of_upl _ _ _ _ W d1 sN.1 sN.2 (by omega) hs⟩
      · by_cases hsm : e < -131072
        · obtain ⟨k, hk⟩ : ∃ k : Nat, -e = (k : Int) := ⟨(-e).toNat, by omega⟩
          have hs := fun W => r2shift_up 1 k W (by decide) (by omega) (by omega) (by omega)
          have hl : ¬ Fil.dn 8 (1 * 2 ^ k) ≤ 16384 := by rw [Nat.one_mul, dn_two]; omega
          rw [endV_long hl, bstr_one] at hs
          exact ⟨_, _, _, _, fun W => kof_far1 _ _ _ W hsm c1, fun W => p4of_dnl _ _ _ _ _ W d1 sN.1 sN.2 (by omega) hk (by omega) (by omega) hs⟩
        · by_cases hp : 0 ≤ e
          · obtain ⟨k, rfl⟩ := Int.eq_ofNat_of_zero_le hp
            obtain ⟨z1, z2⟩ := divInt_one (sz N (x * 2 ^ k))
            have hk := fun W => kof_ok N x (k : Int) W hx (by omega) (by omega) (Rat.divInt (sz N (x * 2 ^ k)) ((1 : Nat) : Int)) (by rw [Int.toNat_natCast, show (-(k : Int)).toNat = 0 by omega, Nat.pow_zero])
            have hx0 : x * 2 ^ k ≠ 0 := Nat.mul_ne_zero h0 (Nat.ne_of_gt (pp k))
            have hs : ∀ W, Calls Tryz.prog 44 #[.string (bstr x), .int .i64 (k : Int)] W fun r w' => r = .returned (endV (x * 2 ^ k)) ∧ Below W.heap.size W w' := fun W => by
              by_cases hk0 : k = 0
              · subst hk0
                rw [Nat.pow_zero, Nat.mul_one, endV_fit hx8]
                exact (r2shift_0 x 0 W (by omega) (.inr rfl)).mono fun _ _ ⟨h, k⟩ => ⟨h, by rw [← k]; exact Below.refl _ _⟩
              · exact r2shift_up x k W (by omega) h0 (by omega) (by omega)
            by_cases hf : Fil.dn 8 (x * 2 ^ k) ≤ 16384
            · rw [endV_fit hf] at hs
              rw [kTold_fits ⟨by rw [z1, sz_abs]; exact hf, by rw [z2]; decide⟩] at hk
              unfold kA at hk
              rw [z1, z2, sz_abs, sg_sz hx0, bstr_one] at hk
              exact ⟨_, _, _, _, hk, fun W => p4of_up _ _ _ _ W d1 sN.1 sN.2 hp hs⟩
            · rw [endV_long hf] at hs
              have hl : kToldV (Rat.divInt (sz N (x * 2 ^ k)) ((1 : Nat) : Int)) = .tuple #[.agg #[.bool false, .string { data := #[] }, .string { data := #[] }], .int .i64 4] := if_neg (by rw [z1, sz_abs]; exact fun h => hf h.1)
              rw [hl] at hk
              exact ⟨_, _, _, _, hk, fun W => p4of_upl _ _ _ _ W d1 sN.1 sN.2 hp hs⟩
          · obtain ⟨k, hk0⟩ : ∃ k : Nat, -e = (k : Int) := ⟨(-e).toNat, by omega⟩
            have hk := fun W => kof_ok N x e W hx (by omega) (by omega) (Rat.divInt (sz N x) ((2 ^ k : Nat) : Int)) (by rw [hk0, Int.toNat_natCast, show e.toNat = 0 by omega, Nat.pow_zero, Nat.mul_one])
            have hd0 : ((2 ^ k : Nat) : Int) ≠ 0 := by have := pp k; omega
            have hg : Nat.gcd x (2 ^ k) = 1 := by
              have h1 : Nat.Coprime x 2 := by
                rw [Nat.Coprime, Nat.gcd_comm]
                have := Nat.gcd_rec 2 x
                rw [this, hodd]; rfl
              exact Nat.Coprime.pow_right k h1
            have n1 := norm_num (sz N x) ((2 ^ k : Nat) : Int) hd0
            have n2 := norm_den (sz N x) ((2 ^ k : Nat) : Int) hd0
            rw [sz_abs, Int.natAbs_natCast, hg, Nat.div_one] at n1 n2
            rw [sg_sz h0, show sg ((2 ^ k : Nat) : Int) = false by unfold sg; exact decide_eq_false (by omega), show (!(N == false)) = N by cases N <;> rfl] at n1
            have hs := fun W => r2shift_up 1 k W (by decide) (by omega) (by omega) (by omega)
            rw [Nat.one_mul, bstr_one] at hs
            by_cases hf : Fil.dn 8 (2 ^ k) ≤ 16384
            · rw [endV_fit hf] at hs
              rw [kTold_fits ⟨by rw [← n1, sz_abs]; exact hx8, by rw [← n2]; exact hf⟩] at hk
              unfold kA at hk
              rw [← n1, ← n2, sz_abs, sg_sz h0] at hk
              exact ⟨_, _, _, _, hk, fun W => p4of_dn _ _ _ _ _ W d1 sN.1 sN.2 hp hk0 (by omega) (by omega) hs⟩
            · rw [endV_long hf] at hs
              have hl : kToldV (Rat.divInt (sz N x) ((2 ^ k : Nat) : Int)) = .tuple #[.agg #[.bool false, .string { data := #[] }, .string { data := #[] }], .int .i64 4] := if_neg (by rw [← n2]; exact fun h => hf h.2)
              rw [hl] at hk
              exact ⟨_, _, _, _, hk, fun W => p4of_dnl _ _ _ _ _ W d1 sN.1 sN.2 hp hk0 (by omega) (by omega) hs⟩

theorem bl_two {q : Nat} (h : q ≠ 0) : q / 2 ^ tz q = 1 ↔ bl q = tz q + 1 := by
  have h1 : q / 2 ^ tz q * 2 ^ tz q = q := tz_mul
  have h2 : q / 2 ^ tz q ≠ 0 := fun e => by rw [e, Nat.zero_mul] at h1; exact h h1.symm
  have h3 : bl q = bl (q / 2 ^ tz q) + tz q := by
    have := bl_shift (k := tz q) h2
    rw [h1] at this
    exact this
  rw [h3]
  generalize q / 2 ^ tz q = o at *
  constructor
  · rintro rfl
    rw [show bl 1 = 1 by decide]; omega
  · intro h4
    have h5 : bl o = 1 := by omega
    have h6 := lt_bl o
    rw [h5] at h6
    omega
theorem dyad_agree (N : Bool) (S T : ByteArray) (hS : S.size ≤ 300) (hT : T.size ≤ 300) :
    ∃ (n : Bool) (s : ByteArray) (e : Int) (b : Bool), (∀ W, Tab W → Calls Tryz.prog 12 #[.agg #[.bool N, .string S, .string T]] W fun r w' => r = .returned (.tuple #[.agg #[.bool n, .string s, .int .i64 e], .bool b]) ∧ Below W.heap.size W w') ∧
      (∀ W, Calls Tryz.prog 13 #[.agg #[.bool N, .string S, .string T]] W fun r w' => r = .returned (.tuple #[.agg #[.bool n, .string s, .int .i64 e], .bool b]) ∧ Below W.heap.size W w') := by
  have c1 := fun W => kmay_any N S T W (by omega) (by omega)
  have d1 := fun W => p4may_any N S T W (by omega) (by omega)
  cases hm : kMayB N S T
  · rw [hm] at c1 d1
    exact ⟨_, _, _, _, fun W _ => kdyad_bad _ _ _ W c1, fun W => p4dyad_bad _ _ _ W d1⟩
  · rw [hm] at c1 d1
    obtain ⟨x, fx, rfl, rfl, rfl⟩ := rat_of_may hm
    rw [bstr_size] at hS hT
    have hB : Bts 300 x := ⟨hS, hT⟩
    have hl := fun W => (r2low_any x.den W (by omega) x.den_nz).mono (R' := fun r w' => r = .returned (.int .i64 ((tz x.den : Nat) : Int)) ∧ Below W.heap.size W w') (fun _ _ ⟨h, k⟩ => ⟨h, by rw [← k]; exact Below.refl _ _⟩)
    have ht8 : tz x.den ≤ 2400 := by
      have h1 := tz_le_log x.den_nz
      have h2 := (Nat.log2_lt x.den_nz).2 (lt_of_dn (by omega) hT)
      omega
    have hs : ∀ W, Calls Tryz.prog 44 #[.string (bstr x.den), .int .i64 (-((tz x.den : Nat) : Int))] W fun r w' => r = .returned (.tuple #[.string (bstr (x.den / 2 ^ tz x.den)), .int .i64 0]) ∧ Below W.heap.size W w' := fun W => by
      by_cases h0 : tz x.den = 0
      · rw [h0, Nat.pow_zero, Nat.div_one]
        exact (r2shift_0 x.den _ W (by omega) (.inr (by omega))).mono fun _ _ ⟨h, k⟩ => ⟨h, by rw [← k]; exact Below.refl _ _⟩
      · exact r2shift_down x.den (tz x.den) _ W (by omega) x.den_nz (by omega) (by omega) rfl
    have hU : (bstr (x.den / 2 ^ tz x.den)).toList = [1] ↔ bl x.den = tz x.den + 1 := by rw [bstr_eq_one]; exact bl_two x.den_nz
    by_cases h0 : x.num = 0
    · have hx0 : x = 0 := Rat.num_eq_zero.1 h0
      subst hx0
      have hU1 : (bstr ((0 : Rat).den / 2 ^ tz (0 : Rat).den)).toList = [1] := hU.2 (by decide)
      have hmk := fun W => rmake_ok false 0 (-((tz (0 : Rat).den : Nat) : Int)) W (by decide) (by omega) (by omega)
      rw [sz_zero, mkV_zero] at hmk
      unfold dyR at hmk
      rw [bstr_zero] at hmk
      refine ⟨_, _, _, _, fun W _ => kdyad_0 _ _ _ W c1 bstr_nil, fun W => p4dyad_1 _ _ _ _ _ _ _ _ _ 0 _ W d1 hl rfl (by omega) (by omega) hs hU1 ?_ rfl⟩
      intro W
      have h := hmk W
      rw [← bstr_zero] at h
      exact h
    · have hnp : x.num.natAbs ≠ 0 := by omega
      by_cases hp : bl x.den = tz x.den + 1
      · have hU1 := hU.2 hp
        have hn8 : tz x.num.natAbs ≤ 2400 := by
          have h1 := tz_le_log hnp
          have h2 := (Nat.log2_lt hnp).2 (lt_of_dn (by omega) hS)
          omega
        have hmk := fun W => rmake_ok (sg x.num) x.num.natAbs (-((tz x.den : Nat) : Int)) W (by omega) (by omega) (by omega)
        have hok : mkOk (sz (sg x.num) x.num.natAbs) (-((tz x.den : Nat) : Int)) = true := by
          refine mkOk_yes ?_ ?_ ?_
          · rw [sz_abs]; exact Nat.le_trans (dn_mono (by omega) (Nat.div_le_self _ _)) (by omega)
          · rw [sz_abs]; omega
          · rw [sz_abs]; omega
        rw [← fit_yes hnp hok, show -((tz x.den : Nat) : Int) + ((tz x.num.natAbs : Nat) : Int) = ((tz x.num.natAbs : Nat) : Int) - ((tz x.den : Nat) : Int) by omega] at hmk
        exact ⟨_, _, _, _, fun W hT => kdyad_yes x W hT hB h0 hp, fun W => p4dyad_1 _ _ _ _ _ _ _ _ _ 0 _ W d1 hl rfl (by omega) (by omega) hs hU1 hmk rfl⟩
      · have hU1 : ¬ (bstr (x.den / 2 ^ tz x.den)).toList = [1] := fun h => hp (hU.1 h)
        exact ⟨_, _, _, _, fun W hT => kdyad_no x W hT hB h0 hp, fun W => p4dyad_0 _ _ _ _ _ _ W d1 hl rfl (by omega) (by omega) hs (beq_eq_false_iff_ne.2 hU1) hU1⟩
set_option maxRecDepth 100000 in
set_option maxHeartbeats 2000000 in
theorem ratsetint64_any (b : Nat) (z : Int) (w : World) (hr : RRoom w b) (h0 : -9223372036854775808 ≤ z) (h1 : z ≤ 9223372036854775807) :
    Calls Tryz.prog 54 #[.pointer (some ⟨b, 0, none⟩), .int .i64 z] w fun e w' => e = .returned (.pointer (some ⟨b, 0, none⟩)) ∧ RatAt w' b (Rat.divInt z 1) ∧ Far w w' b := by
  have hn := fun W => newint_any z W h0 h1
  have hs := fun W B a c n => ratsetint_any b B z W a c n (by
    have : z.natAbs < 2 ^ (32 * 3) := by omega
    exact Nat.le_trans (dn_le (n := 3) (by omega) this) (by omega))
  have lb := hr.lt
  have HR := Lib.hid hr
  clear h0 h1 hr
  go_enter Tryz.func54, Tryz.ntmps54
  go_wp2_with fail
  refine (hn _).mono ?_
  rintro r w1 ⟨rfl, I1, hB⟩
  have hr1 := HR.out.below hB
  have hne : w.heap.size ≠ b := by omega
  clear hn lb
  go_wp2_with fail
  refine (hs _ _ hr1 I1 hne).mono ?_
  rintro r w2 ⟨rfl, R2, hF⟩
  clear hs
  go_wp2
  go_ret
  exact ⟨rfl, R2, Far.after hB hF HR.out⟩

set_option maxRecDepth 100000 in
set_option maxHeartbeats 4000000 in
theorem kWhole_ok (z : Int) (w : World) (h0 : -9223372036854775808 ≤ z) (h1 : z ≤ 9223372036854775807) (tn : Bool) (tS tT : ByteArray) (hV : kToldV (Rat.divInt z 1) = .tuple #[.agg #[.bool tn, .string tS, .string tT], .int .i64 0]) :
    Calls Tryz.prog 16 #[.int .i64 z] w fun r w' => r = .returned (.agg #[.bool tn, .string tS, .string tT]) ∧ Below w.heap.size w w' := by
  have hs := fun W a => ratsetint64_any (w.heap.size + 1) z W a h0 h1
  have hz32 : Fil.dn 32 z.natAbs ≤ 3 := dn_le (by omega) (by omega)
  have hsz : Szd 100000000000 (Rat.divInt z 1) := Szd.div (by omega) (by omega) (by decide)
  have htd := fun W B R => ktold_any B (Rat.divInt z 1) W R hsz
  rw [hV] at htd
  have Z := (Blk.put w #[.bool false, .string { data := #[] }, .string { data := #[] }] 24).allocd (.cells #[.bool false, .slice none 0 0, .bool false, .slice none 0 0] 65)
  have R := RRoom.new (w.alloc (.cells #[.bool false, .string { data := #[] }, .string { data := #[] }] 24))
  rw [show (w.alloc (.cells #[.bool false, .string { data := #[] }, .string { data := #[] }] 24)).heap.size = w.heap.size + 1 by simp] at R
  have hb := ((Below.refl w.heap.size w).alloc (Nat.le_refl _) (.cells #[.bool false, .string { data := #[] }, .string { data := #[] }] 24)).alloc (by simp) (.cells #[.bool false, .slice none 0 0, .bool false, .slice none 0 0] 65)
  have HR := Lib.hid R
  clear R hz32 hsz h0 h1 hV
  go_enter Tryz.func16, Tryz.ntmps16
  go_wp2_with fail
  refine (hs _ HR.out).mono ?_
  rintro r w1 ⟨rfl, R1, hF⟩
  replace Z := Z.ofFar hF (by omega)
  replace hb := hb.trans (hF.below (Nat.le_add_right _ _) hb.size)
  clear hF hs HR
  go_wp2_with fail
  refine (htd _ _ R1).mono ?_
  rintro r w2 ⟨rfl, hB⟩
  replace Z := Z.keep hB
  replace hb := hb.trans (hB.mono hb.size)
  clear hB htd R1
  have lz := Z.lt
  have hbs := hb.size
  have D := Blk.put w2 #[.bool tn, .string tS, .string tT] 24
  replace Z := Z.allocd (.cells #[.bool tn, .string tS, .string tT] 24)
  replace hb := hb.alloc hb.size (.cells #[.bool tn, .string tS, .string tT] 24)
  have HV := Lib.hid (And.intro D (And.intro Z (And.intro hb lz)))
  clear D Z hb hbs lz
  go_upto_region 2 with fail
  obtain ⟨D, Z, hb, lz⟩ := HV.out
  clear HV
  generalize w2.alloc (.cells #[.bool tn, .string tS, .string tT] 24) = v at *
  obtain ⟨d0, d1, d2⟩ := D.ce3
  obtain ⟨zf0, zf1, zf2⟩ := Z.fr3
  obtain ⟨z0, z1, z2⟩ := Z.ce3
  have G0 : Blk (((v.setCell ⟨w.heap.size, 0, none⟩ (.bool tn)).setCell ⟨w.heap.size, 1, none⟩ (.string tS)).setCell ⟨w.heap.size, 2, none⟩ (.string tT)) w.heap.size #[.bool tn, .string tS, .string tT] 24 := (((Z.setAt 0 (.bool tn)).setAt 1 (.string tS)).setAt 2 (.string tT))
  obtain ⟨g0, g1, g2⟩ := G0.ce3
  have hbY := ((hb.setCell (p := ⟨w.heap.size, 0, none⟩) (Nat.le_refl _) (.bool tn)).setCell (p := ⟨w.heap.size, 1, none⟩) (Nat.le_refl _) (.string tS)).setCell (p := ⟨w.heap.size, 2, none⟩) (Nat.le_refl _) (.string tT)
  have HG := Lib.hid (And.intro (And.intro g0 (And.intro g1 g2)) hbY)
  clear g0 g1 g2 hbY G0 Z hb D
  go_wp2
  obtain ⟨⟨g0, g1, g2⟩, hbY⟩ := HG.out
  exact bodyPost_ret (v := .agg #[.bool tn, .string tS, .string tT]) (by simp [results, Tryz.results16, go_sem, g0, g1, g2]) rfl ⟨rfl, hbY⟩

theorem whole_agree (z : Int) (h0 : -9223372036854775808 ≤ z) (h1 : z ≤ 9223372036854775807) :
    ∃ (n : Bool) (s t : ByteArray), (∀ W, Calls Tryz.prog 16 #[.int .i64 z] W fun r w' => r = .returned (.agg #[.bool n, .string s, .string t]) ∧ Below W.heap.size W w') ∧
      (∀ W, Calls Tryz.prog 17 #[.int .i64 z] W fun r w' => r = .returned (.agg #[.bool n, .string s, .string t]) ∧ Below W.heap.size W w') := by
  obtain ⟨x, hx⟩ : ∃ x, x = z.natAbs := ⟨_, rfl⟩
  have hxb : x < 18446744073709551616 := by omega
  have hx8 : Fil.dn 8 x ≤ 8 := dn_le (by omega) (by omega)
  have h2 := fun W => r2of_any x W hxb
  obtain ⟨z1, z2⟩ := divInt_one z
  have hf : Fits (Rat.divInt z 1) := ⟨by rw [show (1 : Int) = ((1 : Nat) : Int) from rfl, z1, ← hx]; omega, by rw [show (1 : Int) = ((1 : Nat) : Int) from rfl, z2]; decide⟩
  have hk := fun W => kWhole_ok z W h0 h1 _ _ _ (kTold_fits hf)
  have hl := fun N W => p4lowest_any N x 1 W (by omega) (by omega) (by decide)
  rw [bstr_one] at hl
  by_cases hz : z < 0
  · have hlz := hl true
    rw [show sz true x = z by unfold sz; simp; omega] at hlz
    exact ⟨_, _, _, hk, fun W => p4whole_1 _ _ _ _ _ W x hz (by rw [IntKind.wrap_u64, IntKind.wrap_u64]; omega) h2 hlz⟩
  · have hlz := hl false
    rw [show sz false x = z by unfold sz; simp; omega] at hlz
    obtain rfl : z = (x : Int) := by omega
    exact ⟨_, _, _, hk, fun W => p4whole_0 _ _ _ _ W x (by rw [IntKind.wrap_u64]; omega) (decide_eq_false (by omega)) h2 hlz⟩
end Go.Proofs.YtbfnafcpjbdbpaaGreatDoor
