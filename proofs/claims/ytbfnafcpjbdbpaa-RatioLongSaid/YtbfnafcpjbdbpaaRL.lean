/- Merged: RF RG RI RJ RK RL -/
import Derived.Test.YtbfnafcpjbdbpaaR9
import Derived.Test.YtbfnafcpjbdbpaaJI
import Derived.Test.YtbfnafcpjbdbpaaB8
import Derived.Test.YtbfnafcpjbdbpaaBJ
import Derived.Test.YtbfnafcpjbdbpaaJZ
import Derived.Test.YtbfnafcpjbdbpaaJU

/- The reference of layer 2: two, Shift, Bit, Low, Len. -/
namespace Go.Proofs.Ytbfnafcpjbdbpaa
open Go Go.RowKit Go.PlainAid Fil

theorem dg_two (n j : Nat) : dg 8 (2 ^ n) j = if j = n / 8 then 2 ^ (n % 8) else 0 := by
  unfold dg
  by_cases h : j = n / 8
  · rw [if_pos h, Nat.pow_div (by omega) (by omega), show n - 8 * j = n % 8 by omega]
    refine Nat.mod_eq_of_lt (Nat.pow_lt_pow_right (by omega) (by omega))
  · rw [if_neg h]
    rcases Nat.lt_or_ge j (n / 8) with h1 | h1
    · rw [Nat.pow_div (by omega) (by omega)]
      refine Nat.mod_eq_zero_of_dvd (Nat.pow_dvd_pow 2 (by omega))
    · rw [Nat.div_eq_of_lt (Nat.pow_lt_pow_right (by omega) (by omega))]
theorem dn_two (n : Nat) : Fil.dn 8 (2 ^ n) = n / 8 + 1 := by
  rw [dn8_bl, bl_eq (n := n) (Nat.le_refl _) (Nat.pow_lt_pow_right (by omega) (by omega))]
  omega
set_option maxRecDepth 100000 in
set_option maxHeartbeats 2000000 in
theorem r2two_any (n : Nat) (w : World) (hn : n ≤ 1000000) :
    Calls Try.prog 87 #[.int .i64 (n : Int)] w fun r w' => r = .returned (.string (bstr (2 ^ n))) ∧ Below w.heap.size w w' := by
  obtain ⟨q, hq⟩ : ∃ q, q = n / 8 := ⟨_, rfl⟩
  obtain ⟨s, hs⟩ : ∃ s, s = n % 8 := ⟨_, rfl⟩
  have hmk := run_make_row' (P := Try.prog) 123 3 (.int .i64 0) 8 Try.underlying123 Try.info3 rfl .i64 .i64 (q + 1) (by omega) (by omega)
  rw [show ((q + 1 : Nat) : Int) = (q : Int) + 1 by omega] at hmk
  have e1 : (n : Int) / 8 = (q : Int) := by omega
  have e2 : (n : Int) % 8 = (s : Int) := by omega
  have e3 : (n : Int).tmod 8 = (s : Int) := by rw [← e2]; exact Int.tmod_eq_emod_of_nonneg (by omega)
  have hlt : 2 ^ n < 2 ^ (8 * (q + 1)) := Nat.pow_lt_pow_right (by omega) (by omega)
  have hq8 : q ≤ 125000 := by omega
  have p0 : (0 : Int) ≤ (q : Int) := by omega
  have p1 : (q : Int) < (q : Int) + 1 := by omega
  obtain ⟨T, hT⟩ : ∃ T, T = 2 ^ s := ⟨_, rfl⟩
  have hT8 : T ≤ 128 := by rw [hT]; exact Nat.le_trans (Nat.pow_le_pow_right (by omega) (show s ≤ 7 by omega)) (by decide)
  have hs8 : s < 8 := by omega
  have e4 : RowKit.wrap64 (2 ^ s) = (T : Int) := by
    rw [show ((2 : Int) ^ s) = (T : Int) by rw [hT]; simp, ← i64_is]
    exact IntWalk.i64_in _ (by omega)
  have HQ := Lib.hid (And.intro hq (And.intro hs (And.intro hT hlt)))
  clear hq hs hT hlt
  go_enter Try.func87, Try.ntmps87
  go_upto_region 2 with fail
  have hr0 := World.rowIs_made w (.int .i64 0) (q + 1) 3
  have hbel := (Below.refl w.heap.size w).alloc (Nat.le_refl _) (.cells (madeCells #[.int .i64 0] (q + 1)) 3)
  clear hmk
  generalize w.alloc (.cells (madeCells #[.int .i64 0] (q + 1)) 3) = v at *
  have hc1 := hr0.cell (i := q) (by omega)
  have hc2 := hr0.frozen q
  go_upto_region 3 with fail
  obtain ⟨hq, hs, hT, hlt⟩ := HQ.out
  have hrow := (hr0.set q (.int .i64 (T : Int))).congr (g := i8 (2 ^ n)) (fun j hj => by
    rw [i8, dg_two, ← hq, ← hs, ← hT]
    by_cases h : j = q
    · rw [if_pos h, if_pos h]
    · rw [if_neg h, if_neg h]; rfl)
  have hbel2 := hbel.setCell (p := ⟨w.heap.size, q, none⟩) (Nat.le_refl _) (.int .i64 (T : Int))
  clear hc1 hc2 hr0 HQ hbel hs hT
  generalize v.setCell ⟨w.heap.size, q, none⟩ (.int .i64 (T : Int)) = v2 at *
  have hL := Lib.hid hlt
  clear hlt hq
  go_wp2_with fail
  refine (r2made_gen _ (q + 1) (q + 1) (2 ^ n) _ hL.out (by omega) (Slc.of_row hrow (by omega))).mono ?_
  rintro r w1 ⟨rfl, hb1⟩
  go_wp2
  go_ret
  exact ⟨rfl, hbel2.trans (hb1.mono hbel2.size)⟩
set_option maxHeartbeats 2000000 in
theorem r2shift_0 (x : Nat) (z : Int) (w : World) (hx8 : Fil.dn 8 x ≤ 400000) (h : x = 0 ∨ z = 0) :
    Calls Try.prog 60 #[.string (bstr x), .int .i64 z] w fun r w' => r = .returned (.tuple #[.string (bstr x), .int .i64 0]) ∧ w = w' := by
  by_cases h0 : x = 0
  · subst h0
    have e := bstr_nil
    clear h
    go_enter Try.func60, Try.ntmps60
    go_wp2
    go_returns
    exact ⟨rfl, rfl⟩
  · have hz : z = 0 := by rcases h with h | h; exact absurd h h0; exact h
    subst hz
    have e1 := (bstr_ne h0).1
    have e2 := (bstr_ne h0).2
    clear h
    go_enter Try.func60, Try.ntmps60
    go_wp2
    go_returns
    exact ⟨rfl, rfl⟩
set_option maxHeartbeats 2000000 in
theorem r2shift_up (x k : Nat) (w : World) (hx8 : Fil.dn 8 x ≤ 400000) (h0 : x ≠ 0) (hk : 0 < k) (hk8 : k ≤ 4611686018427387904) :
    Calls Try.prog 60 #[.string (bstr x), .int .i64 (k : Int)] w fun r w' => r = .returned (endV (x * 2 ^ k)) ∧ Below w.heap.size w w' := by
  have e1 := (bstr_ne h0).1
  have e2 := (bstr_ne h0).2
  have hk1 : (0 : Int) < (k : Int) := by omega
  have hk2 : ((k : Int) == 0) = false := by rw [beq_eq_false_iff_ne]; omega
  have hb := Below.refl w.heap.size w
  by_cases hl : 131072 < k
  · have e : endV (x * 2 ^ k) = .tuple #[.string { data := #[] }, .int .i64 4] := by
      refine endV_long ?_
      have h1 := dn_mul_ge h0 (show 2 ^ k ≠ 0 from Nat.ne_of_gt (pp k))
      rw [dn_two] at h1
      have := dn_pos (k := 8) h0
      omega
    rw [e]
    have hk3 : (131072 : Int) < (k : Int) := by omega
    clear e h0 hx8
    go_enter Try.func60, Try.ntmps60
    go_wp2
    go_returns
    exact ⟨rfl, hb⟩
  · have ht := fun W => r2two_any k W (by omega)
    have hm := fun W => r2Mul_any x (2 ^ k) W hx8 (by rw [dn_two]; omega) (.inl ⟨h0, Nat.ne_of_gt (pp k)⟩)
    obtain ⟨S, E, hE⟩ := endV_parts (x * 2 ^ k)
    rw [hE] at hm ⊢
    have hk3 : ¬ (131072 : Int) < (k : Int) := by omega
    clear hE h0 hx8 hl
    go_enter Try.func60, Try.ntmps60
    go_wp2_with fail
    refine (ht _).mono ?_
    rintro r w1 ⟨rfl, hb1⟩
    clear ht
    go_wp2_with fail
    refine (hm _).mono ?_
    rintro r w2 ⟨rfl, hb2⟩
    clear hm
    go_wp2
    go_returns
    exact ⟨rfl, hb1.trans (hb2.mono hb1.size)⟩
end Go.Proofs.Ytbfnafcpjbdbpaa

/- ratio.Of and the reference's Of: ratios of Dyads. -/
namespace Go.Proofs.Ytbfnafcpjbdbpaa
open Go Go.RowKit Go.PlainAid Fil

set_option maxRecDepth 100000 in
set_option maxHeartbeats 8000000 in
theorem kof_bad (N : Bool) (S : ByteArray) (e : Int) (c : Int) (w : World) (hc : (c != 0) = true) (_hc2 : ¬ c = 0) (h : ∀ W, Calls Try.prog 57 #[.agg #[.bool N, .string S, .int .i64 e]] W fun r w' => r = .returned (.int .i64 c) ∧ Below W.heap.size W w') :
    Calls Try.prog 22 #[.agg #[.bool N, .string S, .int .i64 e]] w fun r w' => r = .returned (.tuple #[.agg #[.bool false, .string { data := #[] }, .string { data := #[] }], .int .i64 2]) ∧ Below w.heap.size w w' := by
  go_enter Try.func22, Try.ntmps22
  have B0 := Below.refl w.heap.size w
  have F1 := Blk.put (w) #[.bool N, .string S, .int .i64 e] 44
  replace B0 := B0.alloc B0.size (.cells #[.bool N, .string S, .int .i64 e] 44)
  have q_w_F2 : Hid (w.heap.size ≤ w.heap.size + 1) := Lib.hid (by omega)
  replace F1 := F1.allocd (.cells #[.bool false, .string { data := #[] }, .string { data := #[] }] 25)
  have F2 := Blk.put ((w).alloc (.cells #[.bool N, .string S, .int .i64 e] 44)) #[.bool false, .string { data := #[] }, .string { data := #[] }] 25
  rw [show ((w).alloc (.cells #[.bool N, .string S, .int .i64 e] 44)).heap.size = w.heap.size + 1 by simp] at F2
  replace B0 := B0.alloc B0.size (.cells #[.bool false, .string { data := #[] }, .string { data := #[] }] 25)
  obtain ⟨xF10_0, xF10_1, xF10_2⟩ := F1.ce3
  go_wp2_with fail
  (with_reducible refine (h _).mono ?_)
  rintro r w1 ⟨rfl, hb1⟩
  clear xF10_0 xF10_1 xF10_2
  replace F1 := F1.keep hb1
  replace F2 := F2.keep hb1
  replace B0 := B0.trans (hb1.mono B0.size)
  clear hb1
  obtain ⟨xF21_0, xF21_1, xF21_2⟩ := F2.ce3
  obtain ⟨xF21_0f, xF21_1f, xF21_2f⟩ := F2.fr3
  clear F1
  replace F2 : Blk ((((w1).setCell ⟨w.heap.size + 1, 0, none⟩ (.bool false)).setCell ⟨w.heap.size + 1, 1, none⟩ (.string { data := #[] })).setCell ⟨w.heap.size + 1, 2, none⟩ (.string { data := #[] })) (w.heap.size + 1) #[.bool false, .string { data := #[] }, .string { data := #[] }] 25 := (((F2.setAt 0 (.bool false)).setAt 1 (.string { data := #[] })).setAt 2 (.string { data := #[] }))
  replace B0 := (((B0.setCell (p := ⟨w.heap.size + 1, 0, none⟩) q_w_F2.out (.bool false)).setCell (p := ⟨w.heap.size + 1, 1, none⟩) q_w_F2.out (.string { data := #[] })).setCell (p := ⟨w.heap.size + 1, 2, none⟩) q_w_F2.out (.string { data := #[] }))
  obtain ⟨xF22_0, xF22_1, xF22_2⟩ := F2.ce3
  go_wp2
  exact bodyPost_ret (v := .tuple #[.agg #[.bool false, .string { data := #[] }, .string { data := #[] }], .int .i64 2]) (by simp [results, Try.results22, go_sem, xF22_0, xF22_1, xF22_2]) rfl ⟨rfl, B0⟩
set_option maxRecDepth 100000 in
set_option maxHeartbeats 8000000 in
theorem kof_far0 (N : Bool) (S : ByteArray) (e : Int) (w : World) (he : 131072 < e) (h : ∀ W, Calls Try.prog 57 #[.agg #[.bool N, .string S, .int .i64 e]] W fun r w' => r = .returned (.int .i64 0) ∧ Below W.heap.size W w') :
    Calls Try.prog 22 #[.agg #[.bool N, .string S, .int .i64 e]] w fun r w' => r = .returned (.tuple #[.agg #[.bool false, .string { data := #[] }, .string { data := #[] }], .int .i64 4]) ∧ Below w.heap.size w w' := by
  go_enter Try.func22, Try.ntmps22
  have B0 := Below.refl w.heap.size w
  have F1 := Blk.put (w) #[.bool N, .string S, .int .i64 e] 44
  replace B0 := B0.alloc B0.size (.cells #[.bool N, .string S, .int .i64 e] 44)
  have q_F1_F2 := Lib.hid (show w.heap.size < w.heap.size + 1 by omega)
  have q_w_F2 : Hid (w.heap.size ≤ w.heap.size + 1) := Lib.hid (by omega)
  replace F1 := F1.allocd (.cells #[.bool false, .string { data := #[] }, .string { data := #[] }] 25)
  have F2 := Blk.put ((w).alloc (.cells #[.bool N, .string S, .int .i64 e] 44)) #[.bool false, .string { data := #[] }, .string { data := #[] }] 25
  rw [show ((w).alloc (.cells #[.bool N, .string S, .int .i64 e] 44)).heap.size = w.heap.size + 1 by simp] at F2
  replace B0 := B0.alloc B0.size (.cells #[.bool false, .string { data := #[] }, .string { data := #[] }] 25)
  obtain ⟨xF10_0, xF10_1, xF10_2⟩ := F1.ce3
  go_wp2_with fail
  (with_reducible refine (h _).mono ?_)
  rintro r w1 ⟨rfl, hb1⟩
  clear xF10_0 xF10_1 xF10_2
  replace F1 := F1.keep hb1
  replace F2 := F2.keep hb1
  replace B0 := B0.trans (hb1.mono B0.size)
  clear hb1
  obtain ⟨xF11_0, xF11_1, xF11_2⟩ := F1.ce3
  obtain ⟨xF21_0, xF21_1, xF21_2⟩ := F2.ce3
  obtain ⟨xF21_0f, xF21_1f, xF21_2f⟩ := F2.fr3
  replace F1 := (((F1.far 0 (.bool false) (Nat.ne_of_lt q_F1_F2.out)).far 1 (.string { data := #[] }) (Nat.ne_of_lt q_F1_F2.out)).far 2 (.string { data := #[] }) (Nat.ne_of_lt q_F1_F2.out))
  replace F2 : Blk ((((w1).setCell ⟨w.heap.size + 1, 0, none⟩ (.bool false)).setCell ⟨w.heap.size + 1, 1, none⟩ (.string { data := #[] })).setCell ⟨w.heap.size + 1, 2, none⟩ (.string { data := #[] })) (w.heap.size + 1) #[.bool false, .string { data := #[] }, .string { data := #[] }] 25 := (((F2.setAt 0 (.bool false)).setAt 1 (.string { data := #[] })).setAt 2 (.string { data := #[] }))
  replace B0 := (((B0.setCell (p := ⟨w.heap.size + 1, 0, none⟩) q_w_F2.out (.bool false)).setCell (p := ⟨w.heap.size + 1, 1, none⟩) q_w_F2.out (.string { data := #[] })).setCell (p := ⟨w.heap.size + 1, 2, none⟩) q_w_F2.out (.string { data := #[] }))
  obtain ⟨xF22_0, xF22_1, xF22_2⟩ := F2.ce3
  go_wp2
  exact bodyPost_ret (v := .tuple #[.agg #[.bool false, .string { data := #[] }, .string { data := #[] }], .int .i64 4]) (by simp [results, Try.results22, go_sem, xF22_0, xF22_1, xF22_2]) rfl ⟨rfl, B0⟩
set_option maxRecDepth 100000 in
set_option maxHeartbeats 8000000 in
theorem kof_far1 (N : Bool) (S : ByteArray) (e : Int) (w : World) (he : e < -131072) (h : ∀ W, Calls Try.prog 57 #[.agg #[.bool N, .string S, .int .i64 e]] W fun r w' => r = .returned (.int .i64 0) ∧ Below W.heap.size W w') :
    Calls Try.prog 22 #[.agg #[.bool N, .string S, .int .i64 e]] w fun r w' => r = .returned (.tuple #[.agg #[.bool false, .string { data := #[] }, .string { data := #[] }], .int .i64 4]) ∧ Below w.heap.size w w' := by
  go_enter Try.func22, Try.ntmps22
  have B0 := Below.refl w.heap.size w
  have F1 := Blk.put (w) #[.bool N, .string S, .int .i64 e] 44
  replace B0 := B0.alloc B0.size (.cells #[.bool N, .string S, .int .i64 e] 44)
  have q_F1_F2 := Lib.hid (show w.heap.size < w.heap.size + 1 by omega)
  have q_w_F2 : Hid (w.heap.size ≤ w.heap.size + 1) := Lib.hid (by omega)
  replace F1 := F1.allocd (.cells #[.bool false, .string { data := #[] }, .string { data := #[] }] 25)
  have F2 := Blk.put ((w).alloc (.cells #[.bool N, .string S, .int .i64 e] 44)) #[.bool false, .string { data := #[] }, .string { data := #[] }] 25
  rw [show ((w).alloc (.cells #[.bool N, .string S, .int .i64 e] 44)).heap.size = w.heap.size + 1 by simp] at F2
  replace B0 := B0.alloc B0.size (.cells #[.bool false, .string { data := #[] }, .string { data := #[] }] 25)
  obtain ⟨xF10_0, xF10_1, xF10_2⟩ := F1.ce3
  go_wp2_with fail
  (with_reducible refine (h _).mono ?_)
  rintro r w1 ⟨rfl, hb1⟩
  clear xF10_0 xF10_1 xF10_2
  replace F1 := F1.keep hb1
  replace F2 := F2.keep hb1
  replace B0 := B0.trans (hb1.mono B0.size)
  clear hb1
  obtain ⟨xF11_0, xF11_1, xF11_2⟩ := F1.ce3
  obtain ⟨xF21_0, xF21_1, xF21_2⟩ := F2.ce3
  obtain ⟨xF21_0f, xF21_1f, xF21_2f⟩ := F2.fr3
  replace F1 := (((F1.far 0 (.bool false) (Nat.ne_of_lt q_F1_F2.out)).far 1 (.string { data := #[] }) (Nat.ne_of_lt q_F1_F2.out)).far 2 (.string { data := #[] }) (Nat.ne_of_lt q_F1_F2.out))
  replace F2 : Blk ((((w1).setCell ⟨w.heap.size + 1, 0, none⟩ (.bool false)).setCell ⟨w.heap.size + 1, 1, none⟩ (.string { data := #[] })).setCell ⟨w.heap.size + 1, 2, none⟩ (.string { data := #[] })) (w.heap.size + 1) #[.bool false, .string { data := #[] }, .string { data := #[] }] 25 := (((F2.setAt 0 (.bool false)).setAt 1 (.string { data := #[] })).setAt 2 (.string { data := #[] }))
  replace B0 := (((B0.setCell (p := ⟨w.heap.size + 1, 0, none⟩) q_w_F2.out (.bool false)).setCell (p := ⟨w.heap.size + 1, 1, none⟩) q_w_F2.out (.string { data := #[] })).setCell (p := ⟨w.heap.size + 1, 2, none⟩) q_w_F2.out (.string { data := #[] }))
  obtain ⟨xF22_0, xF22_1, xF22_2⟩ := F2.ce3
  go_wp2
  exact bodyPost_ret (v := .tuple #[.agg #[.bool false, .string { data := #[] }, .string { data := #[] }], .int .i64 4]) (by simp [results, Try.results22, go_sem, xF22_0, xF22_1, xF22_2]) rfl ⟨rfl, B0⟩
set_option maxRecDepth 100000 in
set_option maxHeartbeats 8000000 in
theorem p4of_bad (N : Bool) (S : ByteArray) (e : Int) (w : World) (h : ∀ W, Calls Try.prog 59 #[.agg #[.bool N, .string S, .int .i64 e]] W fun r w' => r = .returned (.bool false) ∧ Below W.heap.size W w') :
    Calls Try.prog 23 #[.agg #[.bool N, .string S, .int .i64 e]] w fun r w' => r = .returned (.tuple #[.agg #[.bool false, .string { data := #[] }, .string { data := #[] }], .int .i64 2]) ∧ Below w.heap.size w w' := by
  go_enter Try.func23, Try.ntmps23
  have B0 := Below.refl w.heap.size w
  have F1 := Blk.put (w) #[.bool N, .string S, .int .i64 e] 44
  replace B0 := B0.alloc B0.size (.cells #[.bool N, .string S, .int .i64 e] 44)
  have q_w_F2 : Hid (w.heap.size ≤ w.heap.size + 1) := Lib.hid (by omega)
  replace F1 := F1.allocd (.cells #[.bool false, .string { data := #[] }, .string { data := #[] }] 25)
  have F2 := Blk.put ((w).alloc (.cells #[.bool N, .string S, .int .i64 e] 44)) #[.bool false, .string { data := #[] }, .string { data := #[] }] 25
  rw [show ((w).alloc (.cells #[.bool N, .string S, .int .i64 e] 44)).heap.size = w.heap.size + 1 by simp] at F2
  replace B0 := B0.alloc B0.size (.cells #[.bool false, .string { data := #[] }, .string { data := #[] }] 25)
  obtain ⟨xF10_0, xF10_1, xF10_2⟩ := F1.ce3
  go_wp2_with fail
  (with_reducible refine (h _).mono ?_)
  rintro r w1 ⟨rfl, hb1⟩
  clear xF10_0 xF10_1 xF10_2
  replace F1 := F1.keep hb1
  replace F2 := F2.keep hb1
  replace B0 := B0.trans (hb1.mono B0.size)
  clear hb1
  obtain ⟨xF21_0, xF21_1, xF21_2⟩ := F2.ce3
  obtain ⟨xF21_0f, xF21_1f, xF21_2f⟩ := F2.fr3
  clear F1
  replace F2 : Blk ((((w1).setCell ⟨w.heap.size + 1, 0, none⟩ (.bool false)).setCell ⟨w.heap.size + 1, 1, none⟩ (.string { data := #[] })).setCell ⟨w.heap.size + 1, 2, none⟩ (.string { data := #[] })) (w.heap.size + 1) #[.bool false, .string { data := #[] }, .string { data := #[] }] 25 := (((F2.setAt 0 (.bool false)).setAt 1 (.string { data := #[] })).setAt 2 (.string { data := #[] }))
  replace B0 := (((B0.setCell (p := ⟨w.heap.size + 1, 0, none⟩) q_w_F2.out (.bool false)).setCell (p := ⟨w.heap.size + 1, 1, none⟩) q_w_F2.out (.string { data := #[] })).setCell (p := ⟨w.heap.size + 1, 2, none⟩) q_w_F2.out (.string { data := #[] }))
  obtain ⟨xF22_0, xF22_1, xF22_2⟩ := F2.ce3
  go_wp2
  exact bodyPost_ret (v := .tuple #[.agg #[.bool false, .string { data := #[] }, .string { data := #[] }], .int .i64 2]) (by simp [results, Try.results23, go_sem, xF22_0, xF22_1, xF22_2]) rfl ⟨rfl, B0⟩
set_option maxRecDepth 100000 in
set_option maxHeartbeats 8000000 in
theorem p4of_0 (N : Bool) (S : ByteArray) (e : Int) (w : World) (h : ∀ W, Calls Try.prog 59 #[.agg #[.bool N, .string S, .int .i64 e]] W fun r w' => r = .returned (.bool true) ∧ Below W.heap.size W w') (hS : S.toList = []) :
    Calls Try.prog 23 #[.agg #[.bool N, .string S, .int .i64 e]] w fun r w' => r = .returned (.tuple #[.agg #[.bool false, .string { data := #[] }, .string { data := #[1] }], .int .i64 0]) ∧ Below w.heap.size w w' := by
  go_enter Try.func23, Try.ntmps23
  have B0 := Below.refl w.heap.size w
  have F1 := Blk.put (w) #[.bool N, .string S, .int .i64 e] 44
  replace B0 := B0.alloc B0.size (.cells #[.bool N, .string S, .int .i64 e] 44)
  have q_F1_F2 := Lib.hid (show w.heap.size < w.heap.size + 1 by omega)
  have q_w_F2 : Hid (w.heap.size ≤ w.heap.size + 1) := Lib.hid (by omega)
  replace F1 := F1.allocd (.cells #[.bool false, .string { data := #[] }, .string { data := #[] }] 25)
  have F2 := Blk.put ((w).alloc (.cells #[.bool N, .string S, .int .i64 e] 44)) #[.bool false, .string { data := #[] }, .string { data := #[] }] 25
  rw [show ((w).alloc (.cells #[.bool N, .string S, .int .i64 e] 44)).heap.size = w.heap.size + 1 by simp] at F2
  replace B0 := B0.alloc B0.size (.cells #[.bool false, .string { data := #[] }, .string { data := #[] }] 25)
  obtain ⟨xF10_0, xF10_1, xF10_2⟩ := F1.ce3
  go_wp2_with fail
  (with_reducible refine (h _).mono ?_)
  rintro r w1 ⟨rfl, hb1⟩
  clear xF10_0 xF10_1 xF10_2
  replace F1 := F1.keep hb1
  replace F2 := F2.keep hb1
  replace B0 := B0.trans (hb1.mono B0.size)
  clear hb1
  obtain ⟨xF11_0, xF11_1, xF11_2⟩ := F1.ce3
  obtain ⟨xF21_0, xF21_1, xF21_2⟩ := F2.ce3
  obtain ⟨xF21_0f, xF21_1f, xF21_2f⟩ := F2.fr3
  replace F1 := (((F1.far 0 (.bool false) (Nat.ne_of_lt q_F1_F2.out)).far 1 (.string { data := #[] }) (Nat.ne_of_lt q_F1_F2.out)).far 2 ((Value.string { data := #[1] })) (Nat.ne_of_lt q_F1_F2.out))
  replace F2 : Blk ((((w1).setCell ⟨w.heap.size + 1, 0, none⟩ (.bool false)).setCell ⟨w.heap.size + 1, 1, none⟩ (.string { data := #[] })).setCell ⟨w.heap.size + 1, 2, none⟩ ((Value.string { data := #[1] }))) (w.heap.size + 1) #[.bool false, .string { data := #[] }, (Value.string { data := #[1] })] 25 := (((F2.setAt 0 (.bool false)).setAt 1 (.string { data := #[] })).setAt 2 ((Value.string { data := #[1] })))
  replace B0 := (((B0.setCell (p := ⟨w.heap.size + 1, 0, none⟩) q_w_F2.out (.bool false)).setCell (p := ⟨w.heap.size + 1, 1, none⟩) q_w_F2.out (.string { data := #[] })).setCell (p := ⟨w.heap.size + 1, 2, none⟩) q_w_F2.out ((Value.string { data := #[1] })))
  obtain ⟨xF22_0, xF22_1, xF22_2⟩ := F2.ce3
  go_wp2
  exact bodyPost_ret (v := .tuple #[.agg #[.bool false, .string { data := #[] }, (Value.string { data := #[1] })], .int .i64 0]) (by simp [results, Try.results23, go_sem, xF22_0, xF22_1, xF22_2]) rfl ⟨rfl, B0⟩
set_option maxRecDepth 100000 in
set_option maxHeartbeats 8000000 in
theorem p4of_up (N : Bool) (S : ByteArray) (e : Int) (U : ByteArray) (w : World) (h : ∀ W, Calls Try.prog 59 #[.agg #[.bool N, .string S, .int .i64 e]] W fun r w' => r = .returned (.bool true) ∧ Below W.heap.size W w') (hS : S.toList.isEmpty = false) (_hS2 : S.toList ≠ []) (he : 0 ≤ e) (h2 : ∀ W, Calls Try.prog 60 #[.string S, .int .i64 e] W fun r w' => r = .returned (.tuple #[.string U, .int .i64 0]) ∧ Below W.heap.size W w') :
    Calls Try.prog 23 #[.agg #[.bool N, .string S, .int .i64 e]] w fun r w' => r = .returned (.tuple #[.agg #[.bool N, .string U, .string { data := #[1] }], .int .i64 0]) ∧ Below w.heap.size w w' := by
  go_enter Try.func23, Try.ntmps23
  have B0 := Below.refl w.heap.size w
  have F1 := Blk.put (w) #[.bool N, .string S, .int .i64 e] 44
  replace B0 := B0.alloc B0.size (.cells #[.bool N, .string S, .int .i64 e] 44)
  have q_F1_F2 := Lib.hid (show w.heap.size < w.heap.size + 1 by omega)
  have q_w_F2 : Hid (w.heap.size ≤ w.heap.size + 1) := Lib.hid (by omega)
  replace F1 := F1.allocd (.cells #[.bool false, .string { data := #[] }, .string { data := #[] }] 25)
  have F2 := Blk.put ((w).alloc (.cells #[.bool N, .string S, .int .i64 e] 44)) #[.bool false, .string { data := #[] }, .string { data := #[] }] 25
  rw [show ((w).alloc (.cells #[.bool N, .string S, .int .i64 e] 44)).heap.size = w.heap.size + 1 by simp] at F2
  replace B0 := B0.alloc B0.size (.cells #[.bool false, .string { data := #[] }, .string { data := #[] }] 25)
  obtain ⟨xF10_0, xF10_1, xF10_2⟩ := F1.ce3
  go_wp2_with fail
  (with_reducible refine (h _).mono ?_)
  rintro r w1 ⟨rfl, hb1⟩
  clear xF10_0 xF10_1 xF10_2
  replace F1 := F1.keep hb1
  replace F2 := F2.keep hb1
  replace B0 := B0.trans (hb1.mono B0.size)
  clear hb1
  obtain ⟨xF11_0, xF11_1, xF11_2⟩ := F1.ce3
  go_wp2_with fail
  (with_reducible refine (h2 _).mono ?_)
  rintro r w2 ⟨rfl, hb2⟩
  clear xF11_0 xF11_1 xF11_2
  replace F1 := F1.keep hb2
  replace F2 := F2.keep hb2
  replace B0 := B0.trans (hb2.mono B0.size)
  clear hb2
  obtain ⟨xF12_0, xF12_1, xF12_2⟩ := F1.ce3
  obtain ⟨xF22_0, xF22_1, xF22_2⟩ := F2.ce3
  obtain ⟨xF22_0f, xF22_1f, xF22_2f⟩ := F2.fr3
  replace F1 := (((F1.far 0 (.bool N) (Nat.ne_of_lt q_F1_F2.out)).far 1 (.string U) (Nat.ne_of_lt q_F1_F2.out)).far 2 ((Value.string { data := #[1] })) (Nat.ne_of_lt q_F1_F2.out))
  replace F2 : Blk ((((w2).setCell ⟨w.heap.size + 1, 0, none⟩ (.bool N)).setCell ⟨w.heap.size + 1, 1, none⟩ (.string U)).setCell ⟨w.heap.size + 1, 2, none⟩ ((Value.string { data := #[1] }))) (w.heap.size + 1) #[.bool N, .string U, (Value.string { data := #[1] })] 25 := (((F2.setAt 0 (.bool N)).setAt 1 (.string U)).setAt 2 ((Value.string { data := #[1] })))
  replace B0 := (((B0.setCell (p := ⟨w.heap.size + 1, 0, none⟩) q_w_F2.out (.bool N)).setCell (p := ⟨w.heap.size + 1, 1, none⟩) q_w_F2.out (.string U)).setCell (p := ⟨w.heap.size + 1, 2, none⟩) q_w_F2.out ((Value.string { data := #[1] })))
  obtain ⟨xF23_0, xF23_1, xF23_2⟩ := F2.ce3
  go_wp2
  exact bodyPost_ret (v := .tuple #[.agg #[.bool N, .string U, (Value.string { data := #[1] })], .int .i64 0]) (by simp [results, Try.results23, go_sem, xF23_0, xF23_1, xF23_2]) rfl ⟨rfl, B0⟩
set_option maxRecDepth 100000 in
set_option maxHeartbeats 8000000 in
theorem p4of_upl (N : Bool) (S : ByteArray) (e : Int) (U : ByteArray) (w : World) (h : ∀ W, Calls Try.prog 59 #[.agg #[.bool N, .string S, .int .i64 e]] W fun r w' => r = .returned (.bool true) ∧ Below W.heap.size W w') (hS : S.toList.isEmpty = false) (_hS2 : S.toList ≠ []) (he : 0 ≤ e) (h2 : ∀ W, Calls Try.prog 60 #[.string S, .int .i64 e] W fun r w' => r = .returned (.tuple #[.string U, .int .i64 4]) ∧ Below W.heap.size W w') :
    Calls Try.prog 23 #[.agg #[.bool N, .string S, .int .i64 e]] w fun r w' => r = .returned (.tuple #[.agg #[.bool false, .string { data := #[] }, .string { data := #[] }], .int .i64 4]) ∧ Below w.heap.size w w' := by
  go_enter Try.func23, Try.ntmps23
  have B0 := Below.refl w.heap.size w
  have F1 := Blk.put (w) #[.bool N, .string S, .int .i64 e] 44
  replace B0 := B0.alloc B0.size (.cells #[.bool N, .string S, .int .i64 e] 44)
  have q_w_F2 : Hid (w.heap.size ≤ w.heap.size + 1) := Lib.hid (by omega)
  replace F1 := F1.allocd (.cells #[.bool false, .string { data := #[] }, .string { data := #[] }] 25)
  have F2 := Blk.put ((w).alloc (.cells #[.bool N, .string S, .int .i64 e] 44)) #[.bool false, .string { data := #[] }, .string { data := #[] }] 25
  rw [show ((w).alloc (.cells #[.bool N, .string S, .int .i64 e] 44)).heap.size = w.heap.size + 1 by simp] at F2
  replace B0 := B0.alloc B0.size (.cells #[.bool false, .string { data := #[] }, .string { data := #[] }] 25)
  obtain ⟨xF10_0, xF10_1, xF10_2⟩ := F1.ce3
  go_wp2_with fail
  (with_reducible refine (h _).mono ?_)
  rintro r w1 ⟨rfl, hb1⟩
  clear xF10_0 xF10_1 xF10_2
  replace F1 := F1.keep hb1
  replace F2 := F2.keep hb1
  replace B0 := B0.trans (hb1.mono B0.size)
  clear hb1
  obtain ⟨xF11_0, xF11_1, xF11_2⟩ := F1.ce3
  go_wp2_with fail
  (with_reducible refine (h2 _).mono ?_)
  rintro r w2 ⟨rfl, hb2⟩
  clear xF11_0 xF11_1 xF11_2
  replace F1 := F1.keep hb2
  replace F2 := F2.keep hb2
  replace B0 := B0.trans (hb2.mono B0.size)
  clear hb2
  obtain ⟨xF22_0, xF22_1, xF22_2⟩ := F2.ce3
  obtain ⟨xF22_0f, xF22_1f, xF22_2f⟩ := F2.fr3
  clear F1
  replace F2 : Blk ((((w2).setCell ⟨w.heap.size + 1, 0, none⟩ (.bool false)).setCell ⟨w.heap.size + 1, 1, none⟩ (.string { data := #[] })).setCell ⟨w.heap.size + 1, 2, none⟩ (.string { data := #[] })) (w.heap.size + 1) #[.bool false, .string { data := #[] }, .string { data := #[] }] 25 := (((F2.setAt 0 (.bool false)).setAt 1 (.string { data := #[] })).setAt 2 (.string { data := #[] }))
  replace B0 := (((B0.setCell (p := ⟨w.heap.size + 1, 0, none⟩) q_w_F2.out (.bool false)).setCell (p := ⟨w.heap.size + 1, 1, none⟩) q_w_F2.out (.string { data := #[] })).setCell (p := ⟨w.heap.size + 1, 2, none⟩) q_w_F2.out (.string { data := #[] }))
  obtain ⟨xF23_0, xF23_1, xF23_2⟩ := F2.ce3
  go_wp2
  exact bodyPost_ret (v := .tuple #[.agg #[.bool false, .string { data := #[] }, .string { data := #[] }], .int .i64 4]) (by simp [results, Try.results23, go_sem, xF23_0, xF23_1, xF23_2]) rfl ⟨rfl, B0⟩
set_option maxRecDepth 100000 in
set_option maxHeartbeats 8000000 in
theorem p4of_dn (N : Bool) (S : ByteArray) (e : Int) (U : ByteArray) (m : Int) (w : World) (h : ∀ W, Calls Try.prog 59 #[.agg #[.bool N, .string S, .int .i64 e]] W fun r w' => r = .returned (.bool true) ∧ Below W.heap.size W w') (hS : S.toList.isEmpty = false) (_hS2 : S.toList ≠ []) (he : ¬ 0 ≤ e) (he2 : -e = m) (hm1 : 0 ≤ m) (hm2 : m ≤ 2000000) (h2 : ∀ W, Calls Try.prog 60 #[.string { data := #[1] }, .int .i64 m] W fun r w' => r = .returned (.tuple #[.string U, .int .i64 0]) ∧ Below W.heap.size W w') :
    Calls Try.prog 23 #[.agg #[.bool N, .string S, .int .i64 e]] w fun r w' => r = .returned (.tuple #[.agg #[.bool N, .string S, .string U], .int .i64 0]) ∧ Below w.heap.size w w' := by
  go_enter Try.func23, Try.ntmps23
  have B0 := Below.refl w.heap.size w
  have F1 := Blk.put (w) #[.bool N, .string S, .int .i64 e] 44
  replace B0 := B0.alloc B0.size (.cells #[.bool N, .string S, .int .i64 e] 44)
  have q_F1_F2 := Lib.hid (show w.heap.size < w.heap.size + 1 by omega)
  have q_w_F2 : Hid (w.heap.size ≤ w.heap.size + 1) := Lib.hid (by omega)
  replace F1 := F1.allocd (.cells #[.bool false, .string { data := #[] }, .string { data := #[] }] 25)
  have F2 := Blk.put ((w).alloc (.cells #[.bool N, .string S, .int .i64 e] 44)) #[.bool false, .string { data := #[] }, .string { data := #[] }] 25
  rw [show ((w).alloc (.cells #[.bool N, .string S, .int .i64 e] 44)).heap.size = w.heap.size + 1 by simp] at F2
  replace B0 := B0.alloc B0.size (.cells #[.bool false, .string { data := #[] }, .string { data := #[] }] 25)
  obtain ⟨xF10_0, xF10_1, xF10_2⟩ := F1.ce3
  go_wp2_with fail
  (with_reducible refine (h _).mono ?_)
  rintro r w1 ⟨rfl, hb1⟩
  clear xF10_0 xF10_1 xF10_2
  replace F1 := F1.keep hb1
  replace F2 := F2.keep hb1
  replace B0 := B0.trans (hb1.mono B0.size)
  clear hb1
  obtain ⟨xF11_0, xF11_1, xF11_2⟩ := F1.ce3
  go_wp2_with fail
  (with_reducible refine (h2 _).mono ?_)
  rintro r w2 ⟨rfl, hb2⟩
  clear xF11_0 xF11_1 xF11_2
  replace F1 := F1.keep hb2
  replace F2 := F2.keep hb2
  replace B0 := B0.trans (hb2.mono B0.size)
  clear hb2
  obtain ⟨xF12_0, xF12_1, xF12_2⟩ := F1.ce3
  obtain ⟨xF22_0, xF22_1, xF22_2⟩ := F2.ce3
  obtain ⟨xF22_0f, xF22_1f, xF22_2f⟩ := F2.fr3
  replace F1 := (((F1.far 0 (.bool N) (Nat.ne_of_lt q_F1_F2.out)).far 1 (.string S) (Nat.ne_of_lt q_F1_F2.out)).far 2 (.string U) (Nat.ne_of_lt q_F1_F2.out))
  replace F2 : Blk ((((w2).setCell ⟨w.heap.size + 1, 0, none⟩ (.bool N)).setCell ⟨w.heap.size + 1, 1, none⟩ (.string S)).setCell ⟨w.heap.size + 1, 2, none⟩ (.string U)) (w.heap.size + 1) #[.bool N, .string S, .string U] 25 := (((F2.setAt 0 (.bool N)).setAt 1 (.string S)).setAt 2 (.string U))
  replace B0 := (((B0.setCell (p := ⟨w.heap.size + 1, 0, none⟩) q_w_F2.out (.bool N)).setCell (p := ⟨w.heap.size + 1, 1, none⟩) q_w_F2.out (.string S)).setCell (p := ⟨w.heap.size + 1, 2, none⟩) q_w_F2.out (.string U))
  obtain ⟨xF23_0, xF23_1, xF23_2⟩ := F2.ce3
  go_wp2
  exact bodyPost_ret (v := .tuple #[.agg #[.bool N, .string S, .string U], .int .i64 0]) (by simp [results, Try.results23, go_sem, xF23_0, xF23_1, xF23_2]) rfl ⟨rfl, B0⟩
set_option maxRecDepth 100000 in
set_option maxHeartbeats 8000000 in
theorem p4of_dnl (N : Bool) (S : ByteArray) (e : Int) (U : ByteArray) (m : Int) (w : World) (h : ∀ W, Calls Try.prog 59 #[.agg #[.bool N, .string S, .int .i64 e]] W fun r w' => r = .returned (.bool true) ∧ Below W.heap.size W w') (hS : S.toList.isEmpty = false) (_hS2 : S.toList ≠ []) (he : ¬ 0 ≤ e) (he2 : -e = m) (hm1 : 0 ≤ m) (hm2 : m ≤ 2000000) (h2 : ∀ W, Calls Try.prog 60 #[.string { data := #[1] }, .int .i64 m] W fun r w' => r = .returned (.tuple #[.string U, .int .i64 4]) ∧ Below W.heap.size W w') :
    Calls Try.prog 23 #[.agg #[.bool N, .string S, .int .i64 e]] w fun r w' => r = .returned (.tuple #[.agg #[.bool false, .string { data := #[] }, .string { data := #[] }], .int .i64 4]) ∧ Below w.heap.size w w' := by
  go_enter Try.func23, Try.ntmps23
  have B0 := Below.refl w.heap.size w
  have F1 := Blk.put (w) #[.bool N, .string S, .int .i64 e] 44
  replace B0 := B0.alloc B0.size (.cells #[.bool N, .string S, .int .i64 e] 44)
  have q_w_F2 : Hid (w.heap.size ≤ w.heap.size + 1) := Lib.hid (by omega)
  replace F1 := F1.allocd (.cells #[.bool false, .string { data := #[] }, .string { data := #[] }] 25)
  have F2 := Blk.put ((w).alloc (.cells #[.bool N, .string S, .int .i64 e] 44)) #[.bool false, .string { data := #[] }, .string { data := #[] }] 25
  rw [show ((w).alloc (.cells #[.bool N, .string S, .int .i64 e] 44)).heap.size = w.heap.size + 1 by simp] at F2
  replace B0 := B0.alloc B0.size (.cells #[.bool false, .string { data := #[] }, .string { data := #[] }] 25)
  obtain ⟨xF10_0, xF10_1, xF10_2⟩ := F1.ce3
  go_wp2_with fail
  (with_reducible refine (h _).mono ?_)
  rintro r w1 ⟨rfl, hb1⟩
  clear xF10_0 xF10_1 xF10_2
  replace F1 := F1.keep hb1
  replace F2 := F2.keep hb1
  replace B0 := B0.trans (hb1.mono B0.size)
  clear hb1
  obtain ⟨xF11_0, xF11_1, xF11_2⟩ := F1.ce3
  go_wp2_with fail
  (with_reducible refine (h2 _).mono ?_)
  rintro r w2 ⟨rfl, hb2⟩
  clear xF11_0 xF11_1 xF11_2
  replace F1 := F1.keep hb2
  replace F2 := F2.keep hb2
  replace B0 := B0.trans (hb2.mono B0.size)
  clear hb2
  obtain ⟨xF22_0, xF22_1, xF22_2⟩ := F2.ce3
  obtain ⟨xF22_0f, xF22_1f, xF22_2f⟩ := F2.fr3
  clear F1
  replace F2 : Blk ((((w2).setCell ⟨w.heap.size + 1, 0, none⟩ (.bool false)).setCell ⟨w.heap.size + 1, 1, none⟩ (.string { data := #[] })).setCell ⟨w.heap.size + 1, 2, none⟩ (.string { data := #[] })) (w.heap.size + 1) #[.bool false, .string { data := #[] }, .string { data := #[] }] 25 := (((F2.setAt 0 (.bool false)).setAt 1 (.string { data := #[] })).setAt 2 (.string { data := #[] }))
  replace B0 := (((B0.setCell (p := ⟨w.heap.size + 1, 0, none⟩) q_w_F2.out (.bool false)).setCell (p := ⟨w.heap.size + 1, 1, none⟩) q_w_F2.out (.string { data := #[] })).setCell (p := ⟨w.heap.size + 1, 2, none⟩) q_w_F2.out (.string { data := #[] }))
  obtain ⟨xF23_0, xF23_1, xF23_2⟩ := F2.ce3
  go_wp2
  exact bodyPost_ret (v := .tuple #[.agg #[.bool false, .string { data := #[] }, .string { data := #[] }], .int .i64 4]) (by simp [results, Try.results23, go_sem, xF23_0, xF23_1, xF23_2]) rfl ⟨rfl, B0⟩
set_option maxRecDepth 100000 in
set_option maxHeartbeats 8000000 in
theorem kof_ok (neg : Bool) (x : Nat) (e : Int) (w : World) (h : okD neg x e) (h1 : -131072 ≤ e) (h2 : e ≤ 131072) (z : Rat) (hz : z = Rat.divInt (sz neg (x * 2 ^ e.toNat)) ((2 ^ (-e).toNat : Nat) : Int)) :
    Calls Try.prog 22 #[.agg #[.bool neg, .string (bstr x), .int .i64 e]] w fun r w' => r = .returned (kToldV z) ∧ Below w.heap.size w w' := by
  have hx8 := h.dn
  have hck := fun W => check_any neg (bstr x) e W (by rw [bstr_size]; omega)
  rw [mayB_ok h, okE_t] at hck
  have hw1 := fun W => kwhole_any x W (Nat.le_trans hx8 (by omega))
  have hw2 := fun W => newint_any 1 W (by omega) (by omega)
  obtain ⟨P, hP⟩ : ∃ P, P = x * 2 ^ e.toNat := ⟨_, rfl⟩
  obtain ⟨Q, hQ⟩ : ∃ Q, Q = 2 ^ (-e).toNat := ⟨_, rfl⟩
  have hQ0 : Q ≠ 0 := by rw [hQ]; exact Nat.ne_of_gt (pp _)
  have hP32 : Fil.dn 32 P ≤ 20000 := by
    have h8 : Fil.dn 8 P ≤ 16384 + 16385 := by rw [hP]; exact mul_dn hx8 (by rw [dn_two]; omega)
    exact Nat.le_trans (dn8_32 P _ (lt_of_dn (by omega) h8)) (by omega)
  have hQ32 : Fil.dn 32 Q ≤ 20000 := by
    have h8 : Fil.dn 8 Q ≤ 16385 := by rw [hQ, dn_two]; omega
    exact Nat.le_trans (dn8_32 Q _ (lt_of_dn (by omega) h8)) (by omega)
  have hx32 : Fil.dn 32 x ≤ 20000 := Nat.le_trans (dn8_32 x _ (lt_of_dn (by omega) hx8)) (by omega)
  rw [← hP, ← hQ] at hz
  have hQi : (Q : Int) ≠ 0 := by omega
  have hsz : Szd 20000 z := by rw [hz]; exact Szd.div hQi (by rw [sz_abs]; exact hP32) (by rw [Int.natAbs_natCast]; exact hQ32)
  have htd := fun W B R => ktold_any B z W R (hsz.mono (by omega))
  obtain ⟨tn, tS, tT, te, hV⟩ := kTold_parts z
  rw [hV] at htd ⊢
  have HS := Lib.hid (And.intro hP (And.intro hQ (And.intro hP32 (And.intro hQ32 (And.intro hx32 (And.intro hQi hz))))))
  clear hP hQ hQ0 hP32 hQ32 hx32 hQi hz hsz hV h hx8
  generalize hSx : bstr x = S at *
  clear hSx
  have F := (Blk.put w #[.bool neg, .string S, .int .i64 e] 44).allocd (.cells #[.bool false, .string { data := #[] }, .string { data := #[] }] 25)
  have Z := Blk.put (w.alloc (.cells #[.bool neg, .string S, .int .i64 e] 44)) #[.bool false, .string { data := #[] }, .string { data := #[] }] 25
  rw [show (w.alloc (.cells #[.bool neg, .string S, .int .i64 e] 44)).heap.size = w.heap.size + 1 by simp] at Z
  have hb := ((Below.refl w.heap.size w).alloc (Nat.le_refl _) (.cells #[.bool neg, .string S, .int .i64 e] 44)).alloc (by simp) (.cells #[.bool false, .string { data := #[] }, .string { data := #[] }] 25)
  obtain ⟨f0, f1, f2⟩ := F.ce3
  go_enter Try.func22, Try.ntmps22
  go_wp2_with fail
  refine (hck _).mono ?_
  rintro r w1 ⟨rfl, hB⟩
  clear f0 f1 f2
  replace F := F.keep hB
  replace Z := Z.keep hB
  replace hb := hb.trans (hB.mono hb.size)
  clear hB hck
  obtain ⟨f0, f1, f2⟩ := F.ce3
  have lF := F.lt
  have lZ := Z.lt
  have k1 : decide (131072 < e) = false := decide_eq_false (by omega)
  have k2 : decide (e < -131072) = false := decide_eq_false (by omega)
  have k3 : ¬ 131072 < e := by omega
  have k4 : ¬ e < -131072 := by omega
  go_wp2_with fail
  refine (hw1 _).mono ?_
  rintro r w2 ⟨rfl, I1, hB⟩
  clear f0 f1 f2
  replace F := F.keep hB
  replace Z := Z.keep hB
  replace hb := hb.trans (hB.mono hb.size)
  have lI := I1.lt
  clear hB hw1
  go_wp2_with fail
  refine (hw2 _).mono ?_
  rintro r w3 ⟨rfl, I2, hB⟩
  replace F := F.keep hB
  replace Z := Z.keep hB
  replace I1 := I1.below hB
  replace hb := hb.trans (hB.mono hb.size)
  clear hB hw2
  have hwb := hb.size
  have l0 : w.heap.size ≤ w1.heap.size := by omega
  have n1 : w1.heap.size ≠ w2.heap.size := by omega
  have nF1 : w.heap.size ≠ w1.heap.size := by omega
  have nF2 : w.heap.size ≠ w2.heap.size := by omega
  have nZ1 : w.heap.size + 1 ≠ w1.heap.size := by omega
  have nZ2 : w.heap.size + 1 ≠ w2.heap.size := by omega
  have l1 : w.heap.size ≤ w2.heap.size := by omega
  obtain ⟨B1, hB1⟩ : ∃ B1, B1 = w1.heap.size := ⟨_, rfl⟩
  obtain ⟨B2, hB2⟩ : ∃ B2, B2 = w2.heap.size := ⟨_, rfl⟩
  rw [← hB1] at I1 n1 nF1 nZ1 l0 ⊢
  rw [← hB2] at I2 n1 nF2 nZ2 l1 ⊢
  have HN := Lib.hid (And.intro n1 (And.intro nF1 (And.intro nF2 (And.intro nZ1 (And.intro nZ2 (And.intro l0 l1))))))
  clear lF lZ lI n1 nF1 nF2 nZ1 nZ2 l0 l1 hB1 hB2 hwb
  obtain ⟨f0, f1, f2⟩ := F.ce3
  go_upto_if 25 with fail
  go_cut [] (fun wx => IntAt wx B1 0 (P : Int) ∧ IntAt wx B2 0 (Q : Int) ∧ Blk wx w.heap.size #[.bool neg, .string S, .int .i64 e] 44 ∧ Blk wx (w.heap.size + 1) #[.bool false, .string { data := #[] }, .string { data := #[] }] 25 ∧ Below w.heap.size w wx)
  case first =>
    by_cases he : 0 ≤ e
    · obtain ⟨k, rfl⟩ := Int.eq_ofNat_of_zero_le he
      have hl := fun W a b => lsh_any B1 0 B1 0 k (x : Int) W a b (by rw [Int.natAbs_natCast]; have := HS.out.2.2.2.2.1; omega) (by omega)
      have hP : (x : Int) * 2 ^ k = (P : Int) := by rw [HS.out.1, Int.toNat_natCast]; simp
      have hQ : (1 : Int) = (Q : Int) := by rw [HS.out.2.1, show (-(k : Int)).toNat = 0 by omega]; rfl
      rw [hP] at hl
      rw [hQ] at I2
      have HL := Lib.hid hl
      clear hl hP hQ
      have hwr : IntKind.u64.wrap (k : Int) = (k : Int) := IntWalk.u64_in _ ⟨by omega, by omega⟩
      go_wp2_with fail
      refine (HL.out _ I1.room I1).mono ?_
      rintro r w4 ⟨rfl, I1', hB⟩
      clear f0 f1 f2 HL
      obtain ⟨n1, nF1, nF2, nZ1, nZ2, l0, l1⟩ := HN.out
      replace I2 := I2.but hB (.inl n1.symm)
      replace F := F.ofFar hB.toFar nF1
      replace Z := Z.ofFar hB.toFar nZ1
      replace hb := hb.trans (hB.below l0 hb.size)
      clear hB n1 nF1 nF2 nZ1 nZ2 l0 l1
      go_wp2_with fail
      go_meet
      exact ⟨I1', I2, F, Z, hb⟩
    · obtain ⟨k, hk⟩ : ∃ k : Nat, -e = (k : Int) := ⟨(-e).toNat, by omega⟩
      have hl := fun W a b => lsh_any B2 0 B2 0 k (1 : Int) W a b (by decide) (by omega)
      have hP : (x : Int) = (P : Int) := by rw [HS.out.1, show e.toNat = 0 by omega]; simp
      have hQ : (1 : Int) * 2 ^ k = (Q : Int) := by rw [HS.out.2.1, hk, Int.toNat_natCast]; simp
      rw [hQ] at hl
      rw [hP] at I1
      have HL := Lib.hid hl
      clear hl hP hQ
      have hwr : IntKind.u64.wrap (k : Int) = (k : Int) := IntWalk.u64_in _ ⟨by omega, by omega⟩
      go_wp2_with fail
      refine (HL.out _ I2.room I2).mono ?_
      rintro r w4 ⟨rfl, I2', hB⟩
      clear f0 f1 f2 HL
      obtain ⟨n1, nF1, nF2, nZ1, nZ2, l0, l1⟩ := HN.out
      replace I1 := I1.but hB (.inl n1)
      replace F := F.ofFar hB.toFar nF2
      replace Z := Z.ofFar hB.toFar nZ2
      replace hb := hb.trans (hB.below l1 hb.size)
      clear hB n1 nF1 nF2 nZ1 nZ2 l0 l1
      go_wp2_with fail
      go_meet
      exact ⟨I1, I2', F, Z, hb⟩
  case rest =>
    clear I1 I2 F Z hb f0 f1 f2 k1 k2 k3 k4
    obtain ⟨I1, I2, F, Z, hb⟩ := hcut
    generalize wc = v1 at *
    obtain ⟨f0, f1, f2⟩ := F.ce3
    go_upto_if 40 with fail
    go_cut [] (fun wx => IntAt wx B1 0 (sz neg P) ∧ IntAt wx B2 0 (Q : Int) ∧ Blk wx (w.heap.size + 1) #[.bool false, .string { data := #[] }, .string { data := #[] }] 25 ∧ Below w.heap.size w wx)
    case first =>
      cases neg
      · go_wp2_with fail
        go_meet
        exact ⟨I1, I2, Z, hb⟩
      · have hng := fun W a b => neg_any B1 0 B1 0 (P : Int) W a b (by rw [Int.natAbs_natCast]; have := HS.out.2.2.1; omega)
        go_wp2_with fail
        refine (hng _ I1.room I1).mono ?_
        rintro r w4 ⟨rfl, I1', hB⟩
        clear f0 f1 f2 hng
        obtain ⟨n1, nF1, nF2, nZ1, nZ2, l0, l1⟩ := HN.out
        replace I2 := I2.but hB (.inl n1.symm)
        replace Z := Z.ofFar hB.toFar nZ1
        replace hb := hb.trans (hB.below l0 hb.size)
        clear hB n1 nF1 nF2 nZ1 nZ2 l0 l1
        go_wp2_with fail
        go_meet
        exact ⟨I1', I2, Z, hb⟩
    case rest =>
      clear I1 I2 F Z hb f0 f1 f2
      obtain ⟨I1, I2, Z, hb⟩ := hcut
      generalize wc = v2 at *
      have R := RRoom.new v2
      have m1 : B1 ≠ v2.heap.size := by have := I1.lt; omega
      have m2 : B2 ≠ v2.heap.size := by have := I2.lt; omega
      have mz : w.heap.size + 1 ≠ v2.heap.size := by have := Z.lt; omega
      have hbs := hb.size
      replace I1 := I1.alloc (.cells #[.bool false, .slice none 0 0, .bool false, .slice none 0 0] 87)
      replace I2 := I2.alloc (.cells #[.bool false, .slice none 0 0, .bool false, .slice none 0 0] 87)
      replace Z := Z.allocd (.cells #[.bool false, .slice none 0 0, .bool false, .slice none 0 0] 87)
      replace hb := hb.alloc hb.size (.cells #[.bool false, .slice none 0 0, .bool false, .slice none 0 0] 87)
      have HM := Lib.hid (And.intro m1 (And.intro m2 (And.intro mz hbs)))
      clear m1 m2 mz hbs
      go_wp2_with fail
      refine (ratsetfrac_any v2.heap.size B1 B2 (sz neg P) (Q : Int) _ R I1 I2 HM.out.1 HM.out.2.1 HS.out.2.2.2.2.2.1 (by rw [sz_abs]; have := HS.out.2.2.1; omega) (by rw [Int.natAbs_natCast]; have := HS.out.2.2.2.1; omega)).mono ?_
      rintro r w5 ⟨rfl, R5, hF⟩
      replace Z := Z.ofFar hF HM.out.2.2.1
      replace hb := hb.trans (hF.below HM.out.2.2.2 hb.size)
      have hR : RatAt w5 v2.heap.size z := by rw [HS.out.2.2.2.2.2.2]; exact R5
      clear hF R I1 I2 R5
      go_wp2_with fail
      refine (htd _ _ hR).mono ?_
      rintro r w6 ⟨rfl, hB⟩
      replace Z := Z.keep hB
      replace hb := hb.trans (hB.mono hb.size)
      clear hB hR htd
      obtain ⟨zf0, zf1, zf2⟩ := Z.fr3
      obtain ⟨z0, z1, z2⟩ := Z.ce3
      have G0 : Blk (((w6.setCell ⟨w.heap.size + 1, 0, none⟩ (.bool tn)).setCell ⟨w.heap.size + 1, 1, none⟩ (.string tS)).setCell ⟨w.heap.size + 1, 2, none⟩ (.string tT)) (w.heap.size + 1) #[.bool tn, .string tS, .string tT] 25 := (((Z.setAt 0 (.bool tn)).setAt 1 (.string tS)).setAt 2 (.string tT))
      obtain ⟨g0, g1, g2⟩ := G0.ce3
      have hbY := ((hb.setCell (p := ⟨w.heap.size + 1, 0, none⟩) (Nat.le_add_right _ _) (.bool tn)).setCell (p := ⟨w.heap.size + 1, 1, none⟩) (Nat.le_add_right _ _) (.string tS)).setCell (p := ⟨w.heap.size + 1, 2, none⟩) (Nat.le_add_right _ _) (.string tT)
      have HG := Lib.hid (And.intro (And.intro g0 (And.intro g1 g2)) hbY)
      clear g0 g1 g2 hbY G0 Z hb
      go_wp2
      obtain ⟨⟨g0, g1, g2⟩, hbY⟩ := HG.out
      exact bodyPost_ret (v := .tuple #[.agg #[.bool tn, .string tS, .string tT], .int .i64 te]) (by simp [results, Try.results22, go_sem, g0, g1, g2]) rfl ⟨rfl, hbY⟩
end Go.Proofs.Ytbfnafcpjbdbpaa

/- ratio.New, Whole and the reference's. -/
namespace Go.Proofs.Ytbfnafcpjbdbpaa
open Go Go.RowKit Go.PlainAid Fil

end Go.Proofs.Ytbfnafcpjbdbpaa

/- The reference of layer 2: Bit, Low, Len. -/
namespace Go.Proofs.Ytbfnafcpjbdbpaa
open Go Go.RowKit Go.PlainAid Fil

end Go.Proofs.Ytbfnafcpjbdbpaa

/- ratio.Dyad, ratio.Whole; the reference's Dyad. -/
namespace Go.Proofs.Ytbfnafcpjbdbpaa
open Go Go.RowKit Go.PlainAid Fil

end Go.Proofs.Ytbfnafcpjbdbpaa

/- ratios of Dyads and of numbers: the program and the reference agree. -/
namespace Go.Proofs.Ytbfnafcpjbdbpaa
open Go Go.RowKit Go.PlainAid Fil

theorem divInt_one (z : Int) : (Rat.divInt z ((1 : Nat) : Int)).num = z ∧ (Rat.divInt z ((1 : Nat) : Int)).den = 1 := by
  refine ⟨?_, ?_⟩
  · rw [Rat.num_divInt]; simp
  · rw [Rat.den_divInt]; simp
theorem rmay_b (N : Bool) (S : ByteArray) (e : Int) (hS : S.size ≤ 9223372036854775807) : ∀ W, Calls Try.prog 59 #[.agg #[.bool N, .string S, .int .i64 e]] W fun r w' => r = .returned (.bool (mayB N S e)) ∧ Below W.heap.size W w' := fun W => rmay_any N S e W hS
/-- a Dyad's ratio -/
theorem of_agree (N : Bool) (S : ByteArray) (e : Int) (hS : S.size ≤ 9223372036854775807) :
    ∃ (n : Bool) (s t : ByteArray) (c : Int), (∀ W, Calls Try.prog 22 #[.agg #[.bool N, .string S, .int .i64 e]] W fun r w' => r = .returned (.tuple #[.agg #[.bool n, .string s, .string t], .int .i64 c]) ∧ Below W.heap.size W w') ∧
      (∀ W, Calls Try.prog 23 #[.agg #[.bool N, .string S, .int .i64 e]] W fun r w' => r = .returned (.tuple #[.agg #[.bool n, .string s, .string t], .int .i64 c]) ∧ Below W.heap.size W w') := by
  have c1 := fun W => check_any N S e W hS
  have d1 := rmay_b N S e hS
  cases hm : mayB N S e
  · rw [hm] at c1 d1
    exact ⟨_, _, _, _, fun W => kof_bad N S e 2 W rfl (by omega) c1, fun W => p4of_bad _ _ _ W d1⟩
  · rw [hm] at c1 d1
    obtain ⟨x, rfl, hx⟩ := ok_of_may hm
    have hx8 := hx.dn
    by_cases h0 : x = 0
    · have hN : N = false ∧ e = 0 := by rcases hx with ⟨_, h1, h2⟩ | h; exact ⟨h1, h2⟩; omega
      obtain ⟨rfl, rfl⟩ := hN
      subst h0
      have hk := fun W => kof_ok false 0 0 W hx (by omega) (by omega) 0 (by simp [sz_zero])
      rw [kTold_fits (show Fits 0 from ⟨by decide, by decide⟩), kA_zero] at hk
      exact ⟨_, _, _, _, hk, fun W => p4of_0 _ _ _ W d1 bstr_nil⟩
    · have hodd : x % 2 = 1 := by rcases hx with ⟨h, _⟩ | h; exact absurd h h0; exact h.1
      have e1 := hx.e1
      have e2 := hx.e2
      have sN := bstr_ne h0
      by_cases hbig : 131072 < e
      · obtain ⟨k, rfl⟩ := Int.eq_ofNat_of_zero_le (show 0 ≤ e by omega)
        have hs := fun W => r2shift_up x k W (by omega) h0 (by omega) (by omega)
        have hl : ¬ Fil.dn 8 (x * 2 ^ k) ≤ 16384 := by
          have h1 := dn_mul_ge h0 (show 2 ^ k ≠ 0 from Nat.ne_of_gt (pp k))
          rw [dn_two] at h1
          have := dn_pos (k := 8) h0
          omega
        rw [endV_long hl] at hs
        exact ⟨_, _, _, _, fun W => kof_far0 _ _ _ W hbig c1, fun W => p4of_upl _ _ _ _ W d1 sN.1 sN.2 (by omega) hs⟩
      · by_cases hsm : e < -131072
        · obtain ⟨k, hk⟩ : ∃ k : Nat, -e = (k : Int) := ⟨(-e).toNat, by omega⟩
          have hs := fun W => r2shift_up 1 k W (by decide) (by omega) (by omega) (by omega)
          have hl : ¬ Fil.dn 8 (1 * 2 ^ k) ≤ 16384 := by rw [Nat.one_mul, dn_two]; omega
          rw [endV_long hl, bstr_one] at hs
          exact ⟨_, _, _, _, fun W => kof_far1 _ _ _ W hsm c1, fun W => p4of_dnl _ _ _ _ _ W d1 sN.1 sN.2 (by omega) hk (by omega) (by omega) hs⟩
        · by_cases hp : 0 ≤ e
          · obtain ⟨k, rfl⟩ := Int.eq_ofNat_of_zero_le hp
            obtain ⟨z1, z2⟩ := divInt_one (sz N (x * 2 ^ k))
            have hk := fun W => kof_ok N x (k : Int) W hx (by omega) (by omega) (Rat.divInt (sz N (x * 2 ^ k)) ((1 : Nat) : Int)) (by rw [Int.toNat_natCast, show (-(k : Int)).toNat = 0 by omega, Nat.pow_zero])
            have hx0 : x * 2 ^ k ≠ 0 := Nat.mul_ne_zero h0 (Nat.ne_of_gt (pp k))
            have hs : ∀ W, Calls Try.prog 60 #[.string (bstr x), .int .i64 (k : Int)] W fun r w' => r = .returned (endV (x * 2 ^ k)) ∧ Below W.heap.size W w' := fun W => by
              by_cases hk0 : k = 0
              · subst hk0
                rw [Nat.pow_zero, Nat.mul_one, endV_fit hx8]
                exact (r2shift_0 x 0 W (by omega) (.inr rfl)).mono fun _ _ ⟨h, k⟩ => ⟨h, by rw [← k]; exact Below.refl _ _⟩
              · exact r2shift_up x k W (by omega) h0 (by omega) (by omega)
            by_cases hf : Fil.dn 8 (x * 2 ^ k) ≤ 16384
            · rw [endV_fit hf] at hs
              rw [kTold_fits ⟨by rw [z1, sz_abs]; exact hf, by rw [z2]; decide⟩] at hk
              unfold kA at hk
              rw [z1, z2, sz_abs, sg_sz hx0, bstr_one] at hk
              exact ⟨_, _, _, _, hk, fun W => p4of_up _ _ _ _ W d1 sN.1 sN.2 hp hs⟩
            · rw [endV_long hf] at hs
              have hl : kToldV (Rat.divInt (sz N (x * 2 ^ k)) ((1 : Nat) : Int)) = .tuple #[.agg #[.bool false, .string { data := #[] }, .string { data := #[] }], .int .i64 4] := if_neg (by rw [z1, sz_abs]; exact fun h => hf h.1)
              rw [hl] at hk
              exact ⟨_, _, _, _, hk, fun W => p4of_upl _ _ _ _ W d1 sN.1 sN.2 hp hs⟩
          · obtain ⟨k, hk0⟩ : ∃ k : Nat, -e = (k : Int) := ⟨(-e).toNat, by omega⟩
            have hk := fun W => kof_ok N x e W hx (by omega) (by omega) (Rat.divInt (sz N x) ((2 ^ k : Nat) : Int)) (by rw [hk0, Int.toNat_natCast, show e.toNat = 0 by omega, Nat.pow_zero, Nat.mul_one])
            have hd0 : ((2 ^ k : Nat) : Int) ≠ 0 := by have := pp k; omega
            have hg : Nat.gcd x (2 ^ k) = 1 := by
              have h1 : Nat.Coprime x 2 := by
                rw [Nat.Coprime, Nat.gcd_comm]
                have := Nat.gcd_rec 2 x
                rw [this, hodd]; rfl
              exact Nat.Coprime.pow_right k h1
            have n1 := norm_num (sz N x) ((2 ^ k : Nat) : Int) hd0
            have n2 := norm_den (sz N x) ((2 ^ k : Nat) : Int) hd0
            rw [sz_abs, Int.natAbs_natCast, hg, Nat.div_one] at n1 n2
            rw [sg_sz h0, show sg ((2 ^ k : Nat) : Int) = false by unfold sg; exact decide_eq_false (by omega), show (!(N == false)) = N by cases N <;> rfl] at n1
            have hs := fun W => r2shift_up 1 k W (by decide) (by omega) (by omega) (by omega)
            rw [Nat.one_mul, bstr_one] at hs
            by_cases hf : Fil.dn 8 (2 ^ k) ≤ 16384
            · rw [endV_fit hf] at hs
              rw [kTold_fits ⟨by rw [← n1, sz_abs]; exact hx8, by rw [← n2]; exact hf⟩] at hk
              unfold kA at hk
              rw [← n1, ← n2, sz_abs, sg_sz h0] at hk
              exact ⟨_, _, _, _, hk, fun W => p4of_dn _ _ _ _ _ W d1 sN.1 sN.2 hp hk0 (by omega) (by omega) hs⟩
            · rw [endV_long hf] at hs
              have hl : kToldV (Rat.divInt (sz N x) ((2 ^ k : Nat) : Int)) = .tuple #[.agg #[.bool false, .string { data := #[] }, .string { data := #[] }], .int .i64 4] := if_neg (by rw [← n2]; exact fun h => hf h.2)
              rw [hl] at hk
              exact ⟨_, _, _, _, hk, fun W => p4of_dnl _ _ _ _ _ W d1 sN.1 sN.2 hp hk0 (by omega) (by omega) hs⟩

end Go.Proofs.Ytbfnafcpjbdbpaa
