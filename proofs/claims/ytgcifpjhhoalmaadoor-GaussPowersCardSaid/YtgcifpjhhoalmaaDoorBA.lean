/- Shift and Floor, both. -/
import Derived.Test.YtgcifpjhhoalmaaDoorB9

/- The walks over dyad.Shift and the reference's. -/
namespace Go.Proofs.YtgcifpjhhoalmaaDoor
open Go Go.RowKit Go.PlainAid Fil

theorem mkV_odd_yes {neg : Bool} {x : Nat} {f : Int} (h1 : x % 2 = 1) (h2 : Fil.dn 8 x ≤ 16384) (h3 : -1048576 ≤ f) (h4 : f ≤ 1048576) : mkV (sz neg x) f = dyR neg x f 0 := mkV_id (.inr ⟨h1, h2, h3, h4⟩)
theorem mkV_odd_no {neg : Bool} {x : Nat} {f : Int} (h1 : x % 2 = 1) (h : f < -1048576 ∨ 1048576 < f) : mkV (sz neg x) f = dyR false 0 0 4 := by
  have hz := sz_ne (neg := neg) (show x ≠ 0 by omega)
  rcases h with h | h
  · exact mkV_bad (mkOk_no2 hz (by rw [sz_abs, tz_odd h1]; omega))
  · exact mkV_bad (mkOk_no3 hz (by rw [sz_abs, tz_odd h1]; omega))
theorem okD.odd {neg : Bool} {x : Nat} {e : Int} (h : okD neg x e) (hx : x ≠ 0) : x % 2 = 1 := by
  rcases h with ⟨h, _⟩ | h
  · exact absurd h hx
  · exact h.1
theorem okD.nil {neg : Bool} {e : Int} (h : okD neg 0 e) : neg = false ∧ e = 0 := by
  rcases h with ⟨_, h1, h2⟩ | h
  · exact ⟨h1, h2⟩
  · omega
/-- what a call of one Dyad with one to answer leaves when it lays its answer -/
theorem dy_put {w w' : World} (u v x : Value) (hB : Below w.heap.size w w') : Below w.heap.size w (((w'.setCell ⟨w.heap.size + 1, 0, none⟩ u).setCell ⟨w.heap.size + 1, 1, none⟩ v).setCell ⟨w.heap.size + 1, 2, none⟩ x) :=
  ((hB.setCell (Nat.le_succ _) _).setCell (Nat.le_succ _) _).setCell (Nat.le_succ _) _

set_option maxHeartbeats 1000000 in
theorem dshift_bad (neg : Bool) (s : ByteArray) (e k : Int) (w : World) (h : mayB neg s e = false) (hs : s.size ≤ 9223372036854775807) :
    Calls Tryd.prog 39 #[.agg #[.bool neg, .string s, .int .i64 e], .int .i64 k] w fun r w' => r = .returned (dyR false 0 0 2) ∧ Below w.heap.size w w' := by
  have hc := fun W => check_any neg s e W hs
  rw [h, okE_f] at hc
  clear h
  go_enter Tryd.func39, Tryd.ntmps39
  go_wp2_with fail
  refine (hc _).mono ?_
  rintro r w1 ⟨rfl, hb1⟩
  obtain ⟨_, ⟨c0, c1, c2, f0, f1, f2⟩, hb⟩ := dy_two w neg s e hb1
  have hbZ := dy_put (.bool false) (.string { data := #[] }) (.int .i64 0) hb
  clear hb1 hb hc
  go_wp2
  exact bodyPost_ret (v := .tuple #[.agg #[.bool false, .string { data := #[] }, .int .i64 0], .int .i64 2]) (by simp [results, Tryd.results39, go_sem, c0, c1, c2]) rfl ⟨dyR_none ⟨rfl, rfl, rfl, rfl⟩, hbZ⟩

set_option maxHeartbeats 2000000 in
theorem dshift_ok (neg : Bool) (x : Nat) (e k : Int) (w : World) (h : okD neg x e) (hk1 : -9223372036854775808 ≤ k) (hk2 : k ≤ 9223372036854775807) :
    Calls Tryd.prog 39 #[.agg #[.bool neg, .string (bstr x), .int .i64 e], .int .i64 k] w fun r w' => r = .returned (mkV (sz neg x) (e + k)) ∧ Below w.heap.size w w' := by
  have hc := fun W => check_any neg (bstr x) e W (bstr_len h)
  rw [mayB_ok h, okE_t] at hc
  have hsg := fun W => dsign_ok neg x e W h
  by_cases hx : x = 0
  · subst hx
    obtain ⟨rfl, rfl⟩ := h.nil
    rw [sz_sign_zero] at hsg
    have H := Lib.hid (mkV_zero (0 + k))
    rw [sz_zero]
    clear h hk1 hk2
    go_enter Tryd.func39, Tryd.ntmps39
    go_wp2_with fail
    refine (hc _).mono ?_
    rintro r w1 ⟨rfl, hb1⟩
    obtain ⟨⟨a0, a1, a2, -, -, -⟩, -, -⟩ := dy_two w false (bstr 0) 0 hb1
    go_wp2_with fail
    refine (hsg _).mono ?_
    rintro r w2 ⟨rfl, hb2⟩
    clear a0 a1 a2
    have hb3 := hb1.trans (hb2.mono hb1.size)
    obtain ⟨⟨a0, a1, a2, g0, g1, g2⟩, ⟨c0, c1, c2, f0, f1, f2⟩, hb⟩ := dy_two w false (bstr 0) 0 hb3
    have hbZ := dy_put (.bool false) (.string (bstr 0)) (.int .i64 0) hb
    clear hb1 hb2 hb3 hb hc hsg
    go_wp2
    exact bodyPost_ret (v := .tuple #[.agg #[.bool false, .string (bstr 0), .int .i64 0], .int .i64 0]) (by simp [results, Tryd.results39, go_sem, c0, c1, c2]) rfl ⟨by rw [H.out]; rfl, hbZ⟩
  · have ho := h.odd hx
    have hs0 := sz_sign_ne (neg := neg) hx
    have he1 := h.e1
    have he2 := h.e2
    have hno := fun hf => @mkV_odd_no neg x (e + k) ho hf
    have hyes := fun h1 h2 => @mkV_odd_yes neg x (e + k) ho h.dn h1 h2
    obtain ⟨V, hV⟩ : ∃ V, V = mkV (sz neg x) (e + k) := ⟨_, rfl⟩
    rw [← hV] at hno hyes ⊢
    have HN := Lib.hid hno
    have HY := Lib.hid hyes
    clear hno hyes hV hx ho h
    go_enter Tryd.func39, Tryd.ntmps39
    go_wp2_with fail
    refine (hc _).mono ?_
    rintro r w1 ⟨rfl, hb1⟩
    obtain ⟨⟨a0, a1, a2, -, -, -⟩, -, -⟩ := dy_two w neg (bstr x) e hb1
    go_wp2_with fail
    refine (hsg _).mono ?_
    rintro r w2 ⟨rfl, hb2⟩
    clear a0 a1 a2
    have hb3 := hb1.trans (hb2.mono hb1.size)
    obtain ⟨⟨a0, a1, a2, g0, g1, g2⟩, ⟨c0, c1, c2, f0, f1, f2⟩, hb⟩ := dy_two w neg (bstr x) e hb3
    have hbZ := dy_put (.bool false) (.string { data := #[] }) (.int .i64 0) hb
    have hbY := dy_put (.bool neg) (.string (bstr x)) (.int .i64 (e + k)) (hb.setCell (Nat.le_refl _) (.int .i64 (e + k)) (p := ⟨w.heap.size, 2, none⟩))
    clear hb1 hb2 hb3 hb hc hsg
    by_cases g1 : 1099511627776 < k
    · have Hv := Lib.hid (HN.out (by omega))
      clear hbY HN HY
      go_wp2
      exact bodyPost_ret (v := .tuple #[.agg #[.bool false, .string { data := #[] }, .int .i64 0], .int .i64 4]) (by simp [results, Tryd.results39, go_sem, c0, c1, c2]) rfl ⟨by rw [Hv.out]; exact dyR_none ⟨rfl, rfl, rfl, rfl⟩, hbZ⟩
    · by_cases g2 : k < -1099511627776
      · have Hv := Lib.hid (HN.out (by omega))
        clear hbY HN HY
        go_wp2
        exact bodyPost_ret (v := .tuple #[.agg #[.bool false, .string { data := #[] }, .int .i64 0], .int .i64 4]) (by simp [results, Tryd.results39, go_sem, c0, c1, c2]) rfl ⟨by rw [Hv.out]; exact dyR_none ⟨rfl, rfl, rfl, rfl⟩, hbZ⟩
      · by_cases g3 : 1048576 < e + k
        · have Hv := Lib.hid (HN.out (by omega))
          clear hbY HN HY
          go_wp2
          exact bodyPost_ret (v := .tuple #[.agg #[.bool false, .string { data := #[] }, .int .i64 0], .int .i64 4]) (by simp [results, Tryd.results39, go_sem, c0, c1, c2]) rfl ⟨by rw [Hv.out]; exact dyR_none ⟨rfl, rfl, rfl, rfl⟩, hbZ⟩
        · by_cases g4 : e + k < -1048576
          · have Hv := Lib.hid (HN.out (by omega))
            clear hbY HN HY
            go_wp2
            exact bodyPost_ret (v := .tuple #[.agg #[.bool false, .string { data := #[] }, .int .i64 0], .int .i64 4]) (by simp [results, Tryd.results39, go_sem, c0, c1, c2]) rfl ⟨by rw [Hv.out]; exact dyR_none ⟨rfl, rfl, rfl, rfl⟩, hbZ⟩
          · have Hv := Lib.hid (HY.out (by omega) (by omega))
            clear hbZ HN HY
            go_wp2
            exact bodyPost_ret (v := .tuple #[.agg #[.bool neg, .string (bstr x), .int .i64 (e + k)], .int .i64 0]) (by simp [results, Tryd.results39, go_sem, c0, c1, c2]) rfl ⟨by rw [Hv.out]; rfl, hbY⟩

set_option maxHeartbeats 2000000 in
theorem rshift_ok (neg : Bool) (x : Nat) (e k : Int) (w : World) (h : okD neg x e) (hk1 : -9223372036854775808 ≤ k) (hk2 : k ≤ 9223372036854775807) :
    Calls Tryd.prog 41 #[.agg #[.bool neg, .string (bstr x), .int .i64 e], .int .i64 k] w fun r w' => r = .returned (mkV (sz neg x) (e + k)) ∧ Below w.heap.size w w' := by
  by_cases hx : x = 0
  · subst hx
    obtain ⟨rfl, rfl⟩ := h.nil
    have H := Lib.hid (mkV_zero (0 + k))
    have h1 := bstr_nil
    rw [sz_zero]
    clear h hk1 hk2
    go_enter Tryd.func41, Tryd.ntmps41
    go_wp2
    go_returns
    exact ⟨by rw [H.out]; rfl, ((Below.refl _ _).alloc (Nat.le_refl _) _).alloc (by simp) _⟩
  · have ho := h.odd hx
    obtain ⟨h1, h2⟩ := bstr_ne hx
    have he1 := h.e1
    have he2 := h.e2
    have hno := fun hf => @mkV_odd_no neg x (e + k) ho hf
    have hyes := fun h1 h2 => @mkV_odd_yes neg x (e + k) ho h.dn h1 h2
    obtain ⟨V, hV⟩ : ∃ V, V = mkV (sz neg x) (e + k) := ⟨_, rfl⟩
    rw [← hV] at hno hyes ⊢
    have HN := Lib.hid hno
    have HY := Lib.hid hyes
    clear hno hyes hV hx ho h
    by_cases g1 : 4194304 < k
    · have Hv := Lib.hid (HN.out (by omega))
      clear HN HY
      go_enter Tryd.func41, Tryd.ntmps41
      go_wp2
      go_returns
      exact ⟨by rw [Hv.out]; exact dyR_none ⟨rfl, rfl, rfl, rfl⟩, ((Below.refl _ _).alloc (Nat.le_refl _) _).alloc (by simp) _⟩
    · by_cases g2 : k < -4194304
      · have Hv := Lib.hid (HN.out (by omega))
        clear HN HY
        go_enter Tryd.func41, Tryd.ntmps41
        go_wp2
        go_returns
        exact ⟨by rw [Hv.out]; exact dyR_none ⟨rfl, rfl, rfl, rfl⟩, ((Below.refl _ _).alloc (Nat.le_refl _) _).alloc (by simp) _⟩
      · by_cases g3 : 1048576 < e + k
        · have Hv := Lib.hid (HN.out (by omega))
          clear HN HY
          go_enter Tryd.func41, Tryd.ntmps41
          go_wp2
          go_returns
          exact ⟨by rw [Hv.out]; exact dyR_none ⟨rfl, rfl, rfl, rfl⟩, ((Below.refl _ _).alloc (Nat.le_refl _) _).alloc (by simp) _⟩
        · by_cases g4 : e + k < -1048576
          · have Hv := Lib.hid (HN.out (by omega))
            clear HN HY
            go_enter Tryd.func41, Tryd.ntmps41
            go_wp2
            go_returns
            exact ⟨by rw [Hv.out]; exact dyR_none ⟨rfl, rfl, rfl, rfl⟩, ((Below.refl _ _).alloc (Nat.le_refl _) _).alloc (by simp) _⟩
          · have Hv := Lib.hid (HY.out (by omega) (by omega))
            clear HN HY
            go_enter Tryd.func41, Tryd.ntmps41
            go_wp2
            go_returns
            exact ⟨by rw [Hv.out]; rfl, ((Below.refl _ _).alloc (Nat.le_refl _) _).alloc (by simp) _⟩
end Go.Proofs.YtgcifpjhhoalmaaDoor

/- The walks over dyad.Floor and the reference's. -/
namespace Go.Proofs.YtgcifpjhhoalmaaDoor
open Go Go.RowKit Go.PlainAid Fil

/-- the floor's magnitude -/
def flX (neg : Bool) (x k : Nat) : Nat := if neg then x / 2 ^ k + 1 else x / 2 ^ k
theorem shr_flX {neg : Bool} {x k : Nat} (ho : x % 2 = 1) (hk : 0 < k) : shrZ (sz neg x) k = sz neg (flX neg x k) := by
  have hx : x ≠ 0 := by omega
  unfold shrZ
  rw [sg_sz hx, sz_abs, tz_odd ho]
  cases neg
  · have : ¬ sz false x < 0 := by simp [sz]
    rw [if_neg (fun h => this h.1)]; rfl
  · have : sz true x < 0 := by unfold sz; simp; omega
    rw [if_pos ⟨this, hk⟩]; rfl
theorem flX_le (neg : Bool) (x k : Nat) : flX neg x k ≤ x + 1 := by
  have := Nat.div_le_self x (2 ^ k)
  unfold flX; split <;> omega
theorem dn_flX {neg : Bool} {x k : Nat} (h : Fil.dn 8 x ≤ 16384) : Fil.dn 8 (flX neg x k) ≤ 16385 ∧ Fil.dn 32 (flX neg x k) ≤ 16385 := by
  have h0 := lt_of_dn (k := 8) (by omega) h
  obtain ⟨n, hn⟩ : ∃ n : Nat, n = 16384 := ⟨_, rfl⟩
  rw [← hn] at h0
  have h1 : flX neg x k < 2 ^ (8 * (n + 1)) := by
    have h2 := flX_le neg x k
    rw [pstep]
    have := pp (8 * n)
    omega
  have h3 := dn_le (k := 8) (by omega) h1
  have h4 := dn_le (k := 32) (n := n + 1) (by omega) (Nat.lt_of_lt_of_le h1 (pmono (by omega)))
  exact ⟨by omega, by omega⟩
/-- Floor's answer -/
def flV (neg : Bool) (x : Nat) (e f : Int) : Value :=
  if f < -1048576 ∨ 1048576 < f then dyR false 0 0 2 else if f ≤ e ∨ x = 0 then dyR neg x e 0 else mkV (sz neg (flX neg x (f - e).toNat)) f
theorem flV_out {neg : Bool} {x : Nat} {e f : Int} (h : f < -1048576 ∨ 1048576 < f) : flV neg x e f = dyR false 0 0 2 := if_pos h
theorem flV_same {neg : Bool} {x : Nat} {e f : Int} (h1 : ¬ f < -1048576) (h2 : ¬ 1048576 < f) (h : f ≤ e ∨ x = 0) : flV neg x e f = dyR neg x e 0 := by unfold flV; rw [if_neg (by omega), if_pos h]
theorem flV_cut {neg : Bool} {x : Nat} {e f : Int} {k : Nat} (h1 : ¬ f < -1048576) (h2 : ¬ 1048576 < f) (h3 : ¬ f ≤ e) (h4 : x ≠ 0) (hk : f - e = k) : flV neg x e f = mkV (sz neg (flX neg x k)) f := by
  unfold flV; rw [if_neg (by omega), if_neg (by omega), show (f - e).toNat = k by omega]

set_option maxHeartbeats 1000000 in
theorem dfloor_bad (neg : Bool) (s : ByteArray) (e f : Int) (w : World) (h : mayB neg s e = false) (hs : s.size ≤ 9223372036854775807) :
    Calls Tryd.prog 40 #[.agg #[.bool neg, .string s, .int .i64 e], .int .i64 f] w fun r w' => r = .returned (dyR false 0 0 2) ∧ Below w.heap.size w w' := by
  have hc := fun W => check_any neg s e W hs
  rw [h, okE_f] at hc
  clear h
  go_enter Tryd.func40, Tryd.ntmps40
  go_wp2_with fail
  refine (hc _).mono ?_
  rintro r w1 ⟨rfl, hb1⟩
  obtain ⟨_, ⟨c0, c1, c2, f0, f1, f2⟩, hb⟩ := dy_two w neg s e hb1
  have hbZ := dy_put (.bool false) (.string { data := #[] }) (.int .i64 0) hb
  clear hb1 hb hc
  go_wp2
  exact bodyPost_ret (v := .tuple #[.agg #[.bool false, .string { data := #[] }, .int .i64 0], .int .i64 2]) (by simp [results, Tryd.results40, go_sem, c0, c1, c2]) rfl ⟨dyR_none ⟨rfl, rfl, rfl, rfl⟩, hbZ⟩

set_option maxHeartbeats 4000000 in
theorem dfloor_ok (neg : Bool) (x : Nat) (e f : Int) (w : World) (h : okD neg x e) (hT : Tab w) :
    Calls Tryd.prog 40 #[.agg #[.bool neg, .string (bstr x), .int .i64 e], .int .i64 f] w fun r w' => r = .returned (flV neg x e f) ∧ Below w.heap.size w w' := by
  have hc := fun W => check_any neg (bstr x) e W (bstr_len h)
  rw [mayB_ok h, okE_t] at hc
  have hsg := fun W => dsign_ok neg x e W h
  by_cases g1 : f < -1048576
  · have Hv := Lib.hid (@flV_out neg x e f (.inl g1))
    go_enter Tryd.func40, Tryd.ntmps40
    go_wp2_with fail
    refine (hc _).mono ?_
    rintro r w1 ⟨rfl, hb1⟩
    obtain ⟨_, ⟨c0, c1, c2, f0, f1, f2⟩, hb⟩ := dy_two w neg (bstr x) e hb1
    have hbZ := dy_put (.bool false) (.string { data := #[] }) (.int .i64 0) hb
    clear hb1 hb hc
    go_wp2
    exact bodyPost_ret (v := .tuple #[.agg #[.bool false, .string { data := #[] }, .int .i64 0], .int .i64 2]) (by simp [results, Tryd.results40, go_sem, c0, c1, c2]) rfl ⟨by rw [Hv.out]; exact dyR_none ⟨rfl, rfl, rfl, rfl⟩, hbZ⟩
  · by_cases g2 : 1048576 < f
    · have Hv := Lib.hid (@flV_out neg x e f (.inr g2))
      go_enter Tryd.func40, Tryd.ntmps40
      go_wp2_with fail
      refine (hc _).mono ?_
      rintro r w1 ⟨rfl, hb1⟩
      obtain ⟨_, ⟨c0, c1, c2, f0, f1, f2⟩, hb⟩ := dy_two w neg (bstr x) e hb1
      have hbZ := dy_put (.bool false) (.string { data := #[] }) (.int .i64 0) hb
      clear hb1 hb hc
      go_wp2
      exact bodyPost_ret (v := .tuple #[.agg #[.bool false, .string { data := #[] }, .int .i64 0], .int .i64 2]) (by simp [results, Tryd.results40, go_sem, c0, c1, c2]) rfl ⟨by rw [Hv.out]; exact dyR_none ⟨rfl, rfl, rfl, rfl⟩, hbZ⟩
    · by_cases g3 : f ≤ e
      · have Hv := Lib.hid (@flV_same neg x e f g1 g2 (.inl g3))
        clear h hT
        go_enter Tryd.func40, Tryd.ntmps40
        go_wp2_with fail
        refine (hc _).mono ?_
        rintro r w1 ⟨rfl, hb1⟩
        obtain ⟨⟨a0, a1, a2, -, -, -⟩, ⟨c0, c1, c2, f0, f1, f2⟩, hb⟩ := dy_two w neg (bstr x) e hb1
        have hbZ := dy_put (.bool neg) (.string (bstr x)) (.int .i64 e) hb
        clear hb1 hb hc
        go_wp2
        exact bodyPost_ret (v := .tuple #[.agg #[.bool neg, .string (bstr x), .int .i64 e], .int .i64 0]) (by simp [results, Tryd.results40, go_sem, c0, c1, c2]) rfl ⟨by rw [Hv.out]; rfl, hbZ⟩
      · have g3' : decide (f ≤ e) = false := decide_eq_false g3
        by_cases hx : x = 0
        · have Hv := Lib.hid (@flV_same neg x e f g1 g2 (.inr hx))
          subst hx
          rw [sz_sign_zero] at hsg
          clear h hT
          go_enter Tryd.func40, Tryd.ntmps40
          go_wp2_with fail
          refine (hc _).mono ?_
          rintro r w1 ⟨rfl, hb1⟩
          obtain ⟨⟨a0, a1, a2, -, -, -⟩, -, -⟩ := dy_two w neg (bstr 0) e hb1
          go_wp2_with fail
          refine (hsg _).mono ?_
          rintro r w2 ⟨rfl, hb2⟩
          clear a0 a1 a2
          have hb3 := hb1.trans (hb2.mono hb1.size)
          obtain ⟨⟨a0, a1, a2, -, -, -⟩, ⟨c0, c1, c2, f0, f1, f2⟩, hb⟩ := dy_two w neg (bstr 0) e hb3
          have hbZ := dy_put (.bool neg) (.string (bstr 0)) (.int .i64 e) hb
          clear hb1 hb2 hb3 hb hc hsg
          go_wp2
          exact bodyPost_ret (v := .tuple #[.agg #[.bool neg, .string (bstr 0), .int .i64 e], .int .i64 0]) (by simp [results, Tryd.results40, go_sem, c0, c1, c2]) rfl ⟨by rw [Hv.out]; rfl, hbZ⟩
        · have he1 := h.e1
          have he2 := h.e2
          obtain ⟨k, hk⟩ : ∃ k : Nat, f - e = k := ⟨(f - e).toNat, by omega⟩
          have hk0 : 0 < k := by omega
          have hk2 : k ≤ 2097152 := by omega
          have Hv := Lib.hid (@flV_cut neg x e f k g1 g2 g3 hx hk)
          have hs0 := sz_sign_ne (neg := neg) hx
          have HF := Lib.hid (shr_flX (neg := neg) (h.odd hx) hk0)
          have HD := Lib.hid (dn_flX (neg := neg) (k := k) h.dn)
          have hd32 : Fil.dn 32 x ≤ 1099511627775 := by have := h.dn; have := dn8_32 x (Fil.dn 8 x) (lt_dn (by omega) x); omega
          have hw := fun W => whole_any neg x e W h
          have HT := Lib.hid hT
          clear hx h hT
          go_enter Tryd.func40, Tryd.ntmps40
          go_wp2_with fail
          refine (hc _).mono ?_
          rintro r w1 ⟨rfl, hb1⟩
          obtain ⟨⟨a0, a1, a2, -, -, -⟩, -, -⟩ := dy_two w neg (bstr x) e hb1
          go_wp2_with fail
          refine (hsg _).mono ?_
          rintro r w2 ⟨rfl, hb2⟩
          clear a0 a1 a2
          have hb3 := hb1.trans (hb2.mono hb1.size)
          obtain ⟨⟨a0, a1, a2, -, -, -⟩, -, -⟩ := dy_two w neg (bstr x) e hb3
          clear hb1 hb2 hc hsg
          go_wp2_with fail
          refine (hw _).mono ?_
          rintro r w3 ⟨rfl, hI, hb4⟩
          clear a0 a1 a2
          have hs3 := hb3.size
          have hb5 := hb3.trans (hb4.mono hs3)
          obtain ⟨⟨a0, a1, a2, -, -, -⟩, -, hB5⟩ := dy_two w neg (bstr x) e hb5
          have hs5 := hb5.size
          have hT5 := Lib.hid (HT.out.below hB5)
          have l3 := hI.lt
          have hsA : ((w.alloc (.cells #[.bool neg, .string (bstr x), .int .i64 e] 24)).alloc (.cells #[.bool false, .string { data := #[] }, .int .i64 0] 24)).heap.size = w.heap.size + 1 + 1 := by simp
          rw [hsA] at hs3 hs5
          generalize hp : w2.heap.size + 1 = p at *
          have hp2 : w.heap.size + 1 + 1 < p := by omega
          clear hb3 hb4 hw hB5 hp hs3
          go_wp2_with fail
          refine (rsh_any p 0 p 0 k (sz neg x) _ hI.room hI (by rw [sz_abs]; exact hd32) (by omega) hT5.out).mono ?_
          rintro r w4 ⟨rfl, hI4, hB4⟩
          rw [HF.out] at hI4
          have hb6 := hb5.trans (hB4.below (by rw [hsA]; omega) (by rw [hsA]; exact hs5))
          obtain ⟨-, -, hB6⟩ := dy_two w neg (bstr x) e hb6
          have hT6 := Lib.hid (HT.out.below hB6)
          have hs6 := hb6.size
          clear hB4 hI hb5 hT5 a0 a1 a2 hk l3 hs5
          go_wp2_with fail
          refine (made_any p 0 _ f w4 hI4 (by rw [sz_abs]; have := HD.out.2; omega) hT6.out (by omega) (by omega)).mono ?_
          rintro r w5 ⟨rfl, hb7⟩
          have hb8 := hb6.trans (hb7.mono hs6)
          obtain ⟨-, ⟨c0, c1, c2, f0, f1, f2⟩, hb⟩ := dy_two w neg (bstr x) e hb8
          obtain ⟨Z, hZ⟩ : ∃ Z, Z = sz neg (flX neg x k) := ⟨_, rfl⟩
          rw [← hZ] at Hv ⊢
          have hbZ := dy_put (.bool (mkN Z f)) (.string (bstr (mkX Z f))) (.int .i64 (mkE Z f)) hb
          clear hb6 hb7 hb8 hb hI4 hT6 hs6 hB6 hsA hp2 hZ
          unfold dyR
          go_wp2
          exact bodyPost_ret (v := .tuple #[.agg #[.bool (mkN Z f), .string (bstr (mkX Z f)), .int .i64 (mkE Z f)], .int .i64 (mkR Z f)]) (by simp [results, Tryd.results40, go_sem, c0, c1, c2]) rfl ⟨by rw [Hv.out]; rfl, hbZ⟩
end Go.Proofs.YtgcifpjhhoalmaaDoor

/- The walk over the reference's Floor. -/
namespace Go.Proofs.YtgcifpjhhoalmaaDoor
open Go Go.RowKit Go.PlainAid Fil

theorem dn8_one : Fil.dn 8 1 = 1 := by rw [dn8_bl]; decide
theorem slc_one (w : World) : Slc (w.alloc (.cells #[.int .i64 1] 3)) 3 (some ⟨w.heap.size, 0, none⟩) 1 (i8 1) := fun _ =>
  ⟨w.heap.size, 0, _, _, rfl, heap_alloc_new w _, fun j hj => by
    have : j = 0 := by omega
    subst this
    rfl⟩

set_option maxRecDepth 100000 in
set_option maxHeartbeats 4000000 in
theorem rfloor_ok (neg : Bool) (x : Nat) (e f : Int) (w : World) (h : okD neg x e) :
    Calls Tryd.prog 42 #[.agg #[.bool neg, .string (bstr x), .int .i64 e], .int .i64 f] w fun r w' => r = .returned (flV neg x e f) ∧ Below w.heap.size w w' := by
  have hbw := ((Below.refl w.heap.size w).alloc (Nat.le_refl _) (.cells #[.bool neg, .string (bstr x), .int .i64 e] 24)).alloc (by simp) (.cells #[.bool false, .string { data := #[] }, .int .i64 0] 24)
  by_cases g1 : f < -1048576
  · have Hv := Lib.hid (@flV_out neg x e f (.inl g1))
    clear h
    go_enter Tryd.func42, Tryd.ntmps42
    go_wp2
    go_returns
    exact ⟨by rw [Hv.out]; exact dyR_none ⟨rfl, rfl, rfl, rfl⟩, ((Below.refl _ _).alloc (Nat.le_refl _) _).alloc (by simp) _⟩
  · by_cases g2 : 1048576 < f
    · have Hv := Lib.hid (@flV_out neg x e f (.inr g2))
      clear h
      go_enter Tryd.func42, Tryd.ntmps42
      go_wp2
      go_returns
      exact ⟨by rw [Hv.out]; exact dyR_none ⟨rfl, rfl, rfl, rfl⟩, ((Below.refl _ _).alloc (Nat.le_refl _) _).alloc (by simp) _⟩
    · by_cases hx : x = 0
      · have Hv := Lib.hid (@flV_same neg x e f g1 g2 (.inr hx))
        subst hx
        have h1 := bstr_nil
        clear h
        go_enter Tryd.func42, Tryd.ntmps42
        go_wp2
        go_returns
        exact ⟨by rw [Hv.out]; rfl, ((Below.refl _ _).alloc (Nat.le_refl _) _).alloc (by simp) _⟩
      · obtain ⟨h1, h2⟩ := bstr_ne hx
        by_cases g3 : f ≤ e
        · have Hv := Lib.hid (@flV_same neg x e f g1 g2 (.inl g3))
          clear h
          go_enter Tryd.func42, Tryd.ntmps42
          go_wp2
          go_returns
          exact ⟨by rw [Hv.out]; rfl, ((Below.refl _ _).alloc (Nat.le_refl _) _).alloc (by simp) _⟩
        · have g3' : decide (f ≤ e) = false := decide_eq_false g3
          have he1 := h.e1
          have he2 := h.e2
          obtain ⟨k, hk⟩ : ∃ k : Nat, f - e = k := ⟨(f - e).toNat, by omega⟩
          have hk0 : 0 < k := by omega
          have hk2 : k ≤ 2097152 := by omega
          have Hv := Lib.hid (@flV_cut neg x e f k g1 g2 g3 hx hk)
          have hdn := h.dn
          have hsz := bstr_size x
          have hbl : Fil.dn 8 x ≤ 1048576 := by omega
          have HDN : Hid (Fil.dn 8 (x / 2 ^ k) ≤ 16384) := Lib.hid (Nat.le_trans (dn_mono (by omega) (Nat.div_le_self _ _)) hdn)
          have HDP : Hid (Fil.dn 8 (x / 2 ^ k + 1) ≤ 16385) := Lib.hid (dn_flX (neg := true) (k := k) hdn).1
          have hHZ : Fil.dn 8 x < k / 8 + 1 → x / 2 ^ k = 0 := fun hlt => Nat.div_eq_of_lt (Nat.lt_of_lt_of_le (lt_dn (k := 8) (by omega) x) (pmono (by omega)))
          have HZ := Lib.hid hHZ
          have hrof := fun W => rof_any x W hbl
          obtain ⟨n, hn⟩ : ∃ n, n = Fil.dn 8 x := ⟨_, rfl⟩
          have hn8 : n ≤ 16384 := by omega
          rw [← hn] at hsz HZ hrof
          have Hn := Lib.hid hn
          have hbA0 := (Below.refl ((w.alloc (.cells #[.bool neg, .string (bstr x), .int .i64 e] 24)).alloc (.cells #[.bool false, .string { data := #[] }, .int .i64 0] 24)).heap.size ((w.alloc (.cells #[.bool neg, .string (bstr x), .int .i64 e] 24)).alloc (.cells #[.bool false, .string { data := #[] }, .int .i64 0] 24)))
          clear h hx hn hbl hdn hHZ hbw
          by_cases g4 : k ≤ 8 * n
          · go_enter Tryd.func42, Tryd.ntmps42
            go_wp2_with fail
            refine (hrof _).mono ?_
            rintro r w0 ⟨v, rfl, hown, hb0⟩
            obtain ⟨A, c, rfl, hnc, hsl⟩ := Own.slc hown
            clear hown
            have hs0 : Slc w0 3 A n (i8 x) := hsl
            clear hsl
            have hbB := hbA0.trans hb0
            obtain ⟨⟨a0, a1, a2, -, -, -⟩, -, -⟩ := dy_two w neg (bstr x) e hbB
            go_wp2_with fail
            refine (rhalved_any A n c x k w0 Hn.out hnc (by omega) (by omega) hs0).mono ?_
            rintro r w1 ⟨A', c', rfl, hnc', hs', hb1⟩
            have hbA := hbB.trans (hb1.mono hbB.size)
            clear hb0 hb1 hbB hbA0 hs0 hnc hrof a0 a1 a2
            obtain ⟨⟨a0, a1, a2, -, -, -⟩, -, hB1⟩ := dy_two w neg (bstr x) e hbA
            have hdy := HDN.out
            have hdz := HDP.out
            cases neg
            · obtain ⟨Z, hZ⟩ : ∃ Z, Z = sz false (flX false x k) := ⟨_, rfl⟩
              have hfit := rfit_any false A' (Fil.dn 8 (x / 2 ^ k)) c' (x / 2 ^ k) f w1 rfl hnc' (by omega) (by omega) (by omega) hs'
              rw [show sz false (x / 2 ^ k) = sz false (flX false x k) from rfl, ← hZ] at hfit
              rw [← hZ] at Hv
              clear hZ hs'
              go_wp2_with fail
              (with_reducible refine hfit.mono ?_)
              rintro r w2 ⟨rfl, hb2⟩
              have hbF := hbA.trans (hb2.mono hbA.size)
              obtain ⟨-, ⟨c0, c1, c2, f0, f1, f2⟩, hb⟩ := dy_two w false (bstr x) e hbF
              have hbZ := dy_put (.bool (mkN Z f)) (.string (bstr (mkX Z f))) (.int .i64 (mkE Z f)) hb
              clear hb2 hbF hb
              unfold mkV dyR
              go_wp2
              exact bodyPost_ret (v := .tuple #[.agg #[.bool (mkN Z f), .string (bstr (mkX Z f)), .int .i64 (mkE Z f)], .int .i64 (mkR Z f)]) (by simp [results, Tryd.results42, go_sem, c0, c1, c2]) rfl ⟨by rw [Hv.out]; rfl, hbZ⟩
            · obtain ⟨Z, hZ⟩ : ∃ Z, Z = sz true (flX true x k) := ⟨_, rfl⟩
              have hpl := rplus_any A' (some ⟨(w1).heap.size, 0, none⟩) (Fil.dn 8 (x / 2 ^ k)) c' (x / 2 ^ k) 1 1 1 ((w1).alloc (.cells #[.int .i64 1] 3)) rfl dn8_one.symm (by omega) (by omega) (hs'.alloc _) (slc_one _)
              have hbB := hbA.alloc hbA.size (.cells #[.int .i64 1] 3)
              rw [← hZ] at Hv
              clear hs'
              go_wp2_with fail
              (with_reducible refine hpl.mono ?_)
              rintro r w2 ⟨A2, c2, rfl, hnc2, hs2, hb2⟩
              have hbC := hbB.trans (hb2.mono hbB.size)
              obtain ⟨⟨d0, d1, d2, -, -, -⟩, -, -⟩ := dy_two w true (bstr x) e hbC
              have hfit := rfit_any true A2 (Fil.dn 8 ((x / 2 ^ k) + 1)) c2 ((x / 2 ^ k) + 1) f w2 rfl hnc2 (by omega) (by omega) (by omega) hs2
              rw [show sz true ((x / 2 ^ k) + 1) = sz true (flX true x k) from rfl, ← hZ] at hfit
              clear hZ hs2 hb2 hpl hbB
              clear a0 a1 a2
              go_wp2_with fail
              (with_reducible refine hfit.mono ?_)
              rintro r w3 ⟨rfl, hb3⟩
              have hbF := hbC.trans (hb3.mono hbC.size)
              obtain ⟨-, ⟨c0, c1, c2, f0, f1, f2⟩, hb⟩ := dy_two w true (bstr x) e hbF
              have hbZ := dy_put (.bool (mkN Z f)) (.string (bstr (mkX Z f))) (.int .i64 (mkE Z f)) hb
              clear hb3 hbF hb
              unfold mkV dyR
              go_wp2
              exact bodyPost_ret (v := .tuple #[.agg #[.bool (mkN Z f), .string (bstr (mkX Z f)), .int .i64 (mkE Z f)], .int .i64 (mkR Z f)]) (by simp [results, Tryd.results42, go_sem, c0, c1, c2]) rfl ⟨by rw [Hv.out]; rfl, hbZ⟩
          · have hz := HZ.out (by omega)
            have hs' : Slc ((w.alloc (.cells #[.bool neg, .string (bstr x), .int .i64 e] 24)).alloc (.cells #[.bool false, .string { data := #[] }, .int .i64 0] 24)) 3 none 0 (i8 0) := Slc.nil _ _ _ _
            have Hzz := Lib.hid hz
            have hd0 : Fil.dn 8 (0 + 1) ≤ 1 := Nat.le_of_eq dn8_one
            have g4' : 8 * (n : Int) < (k : Int) := by omega
            clear hz g4
            have hbA := hbA0
            clear hbA0
            go_enter Tryd.func42, Tryd.ntmps42
            obtain ⟨⟨a0, a1, a2, -, -, -⟩, -, hB1⟩ := dy_two w neg (bstr x) e hbA
            have hdy := HDN.out
            have hdz := HDP.out
            cases neg
            · obtain ⟨Z, hZ⟩ : ∃ Z, Z = sz false (flX false x k) := ⟨_, rfl⟩
              have hfit := rfit_any false none 0 0 0 f ((w.alloc (.cells #[.bool false, .string (bstr x), .int .i64 e] 24)).alloc (.cells #[.bool false, .string { data := #[] }, .int .i64 0] 24)) (dn_zero 8).symm (Nat.le_refl _) (by omega) (by omega) (by omega) hs'
              rw [show sz false 0 = sz false (flX false x k) from (by unfold flX; rw [Hzz.out]; rfl), ← hZ] at hfit
              rw [← hZ] at Hv
              clear hZ hs'
              go_wp2_with fail
              (with_reducible refine hfit.mono ?_)
              rintro r w2 ⟨rfl, hb2⟩
              have hbF := hbA.trans (hb2.mono hbA.size)
              obtain ⟨-, ⟨c0, c1, c2, f0, f1, f2⟩, hb⟩ := dy_two w false (bstr x) e hbF
              have hbZ := dy_put (.bool (mkN Z f)) (.string (bstr (mkX Z f))) (.int .i64 (mkE Z f)) hb
              clear hb2 hbF hb
              unfold mkV dyR
              go_wp2
              exact bodyPost_ret (v := .tuple #[.agg #[.bool (mkN Z f), .string (bstr (mkX Z f)), .int .i64 (mkE Z f)], .int .i64 (mkR Z f)]) (by simp [results, Tryd.results42, go_sem, c0, c1, c2]) rfl ⟨by rw [Hv.out]; rfl, hbZ⟩
            · obtain ⟨Z, hZ⟩ : ∃ Z, Z = sz true (flX true x k) := ⟨_, rfl⟩
              have hpl := rplus_any none (some ⟨(((w.alloc (.cells #[.bool true, .string (bstr x), .int .i64 e] 24)).alloc (.cells #[.bool false, .string { data := #[] }, .int .i64 0] 24))).heap.size, 0, none⟩) 0 0 0 1 1 1 ((((w.alloc (.cells #[.bool true, .string (bstr x), .int .i64 e] 24)).alloc (.cells #[.bool false, .string { data := #[] }, .int .i64 0] 24))).alloc (.cells #[.int .i64 1] 3)) (dn_zero 8).symm dn8_one.symm (by omega) (by omega) (hs'.alloc _) (slc_one _)
              rw [show (((w.alloc (.cells #[.bool true, .string (bstr x), .int .i64 e] 24)).alloc (.cells #[.bool false, .string { data := #[] }, .int .i64 0] 24))).heap.size = w.heap.size + 1 + 1 by simp] at hpl
              have hbB := hbA.alloc hbA.size (.cells #[.int .i64 1] 3)
              rw [← hZ] at Hv
              clear hs'
              go_wp2_with fail
              (with_reducible refine hpl.mono ?_)
              rintro r w2 ⟨A2, c2, rfl, hnc2, hs2, hb2⟩
              have hbC := hbB.trans (hb2.mono hbB.size)
              obtain ⟨⟨d0, d1, d2, -, -, -⟩, -, -⟩ := dy_two w true (bstr x) e hbC
              have hfit := rfit_any true A2 (Fil.dn 8 (0 + 1)) c2 (0 + 1) f w2 rfl hnc2 (by omega) (by omega) (by omega) hs2
              rw [show sz true (0 + 1) = sz true (flX true x k) from (by unfold flX; rw [Hzz.out]; rfl), ← hZ] at hfit
              clear hZ hs2 hb2 hpl hbB
              clear a0 a1 a2
              go_wp2_with fail
              (with_reducible refine hfit.mono ?_)
              rintro r w3 ⟨rfl, hb3⟩
              have hbF := hbC.trans (hb3.mono hbC.size)
              obtain ⟨-, ⟨c0, c1, c2, f0, f1, f2⟩, hb⟩ := dy_two w true (bstr x) e hbF
              have hbZ := dy_put (.bool (mkN Z f)) (.string (bstr (mkX Z f))) (.int .i64 (mkE Z f)) hb
              clear hb3 hbF hb
              unfold mkV dyR
              go_wp2
              exact bodyPost_ret (v := .tuple #[.agg #[.bool (mkN Z f), .string (bstr (mkX Z f)), .int .i64 (mkE Z f)], .int .i64 (mkR Z f)]) (by simp [results, Tryd.results42, go_sem, c0, c1, c2]) rfl ⟨by rw [Hv.out]; rfl, hbZ⟩
set_option maxHeartbeats 1000000 in
theorem nothing_yes (w : World) : Calls Tryd.prog 29 #[.agg #[.bool false, .string { data := #[] }, .int .i64 0], .int .i64 2] w fun r w' => r = .returned (.bool true) ∧ Below w.heap.size w w' := by
  go_enter Tryd.func29, Tryd.ntmps29
  go_wp2
  go_ret
  exact ⟨rfl, (Below.refl _ _).alloc (Nat.le_refl _) _⟩
theorem dyR_nil (r : Int) : dyR false 0 0 r = .tuple #[.agg #[.bool false, .string { data := #[] }, .int .i64 0], .int .i64 r] := by unfold dyR; rw [bstr_zero]
theorem DyAt.put (w : World) (neg : Bool) (s : ByteArray) (e : Int) : DyAt (w.alloc (.cells #[.bool neg, .string s, .int .i64 e] 24)) w.heap.size neg s e := DyAt.new w _ neg s e rfl (Below.refl _ _)
theorem DyAt.lt {w : World} {b : Nat} {neg : Bool} {s : ByteArray} {e : Int} (h : DyAt w b neg s e) : b < w.heap.size := World.block_lt_of_cell? _ _ h.c0
theorem DyAt.keep {w w' : World} {b : Nat} {neg : Bool} {s : ByteArray} {e : Int} (h : DyAt w b neg s e) (hb : Below w.heap.size w w') : DyAt w' b neg s e := h.below hb h.lt
theorem DyAt.allocd {w : World} {b : Nat} {neg : Bool} {s : ByteArray} {e : Int} (h : DyAt w b neg s e) (o : Obj) : DyAt (w.alloc o) b neg s e := h.keep ((Below.refl _ _).alloc (Nat.le_refl _) _)
theorem flV_form (neg : Bool) (x : Nat) (e f : Int) : ∃ n y g r, flV neg x e f = dyR n y g r := by
  unfold flV
  split
  · exact ⟨_, _, _, _, rfl⟩
  · split
    · exact ⟨_, _, _, _, rfl⟩
    · exact ⟨_, _, _, _, rfl⟩
end Go.Proofs.YtgcifpjhhoalmaaDoor
