/- The walks over dyad.Shift and the reference's. -/
import Derived.Test.YtgcifpjhhoalmaaDoorRm
namespace Go.Proofs.YtgcifpjhhoalmaaDoor
open Go Go.RowKit Go.PlainAid Fil

theorem mkV_odd_yes {neg : Bool} {x : Nat} {f : Int} (h1 : x % 2 = 1) (h2 : Fil.dn 8 x ≤ 16384) (h3 : -1048576 ≤ f) (h4 : f ≤ 1048576) : mkV (sz neg x) f = dyR neg x f 0 := mkV_id (.inr ⟨h1, h2, h3, h4⟩)
theorem mkV_odd_no {neg : Bool} {x : Nat} {f : Int} (h1 : x % 2 = 1) (h : f < -1048576 ∨ 1048576 < f) : mkV (sz neg x) f = dyR false 0 0 4 := by
  have hz := sz_ne (neg := neg) (show x ≠ 0 by omega)
  rcases h with h | h
  · exact mkV_bad (mkOk_no2 hz (by rw [sz_abs, tz_odd h1]; omega))
  · exact mkV_bad (mkOk_no3 hz (by rw [sz_abs, tz_odd h1]; omega))
theorem okD.odd {neg : Bool} {x : Nat} {e : Int} (h : okD neg x e) (hx : x ≠ 0) : x % 2 = 1 := by
  rcases h with ⟨h, _⟩ | h
  · exact absurd h hx
  · exact h.1
theorem okD.nil {neg : Bool} {e : Int} (h : okD neg 0 e) : neg = false ∧ e = 0 := by
  rcases h with ⟨_, h1, h2⟩ | h
  · exact ⟨h1, h2⟩
  · omega
/-- what a call of one Dyad with one to answer leaves when it lays its answer -/
theorem dy_put {w w' : World} (u v x : Value) (hB : Below w.heap.size w w') : Below w.heap.size w (((w'.setCell ⟨w.heap.size + 1, 0, none⟩ u).setCell ⟨w.heap.size + 1, 1, none⟩ v).setCell ⟨w.heap.size + 1, 2, none⟩ x) :=
  ((hB.setCell (Nat.le_succ _) _).setCell (Nat.le_succ _) _).setCell (Nat.le_succ _) _

set_option maxHeartbeats 1000000 in
theorem dshift_bad (neg : Bool) (s : ByteArray) (e k : Int) (w : World) (h : mayB neg s e = false) (hs : s.size ≤ 9223372036854775807) :
    Calls Tryd.prog 39 #[.agg #[.bool neg, .string s, .int .i64 e], .int .i64 k] w fun r w' => r = .returned (dyR false 0 0 2) ∧ Below w.heap.size w w' := by
  have hc := fun W => check_any neg s e W hs
  rw [h, okE_f] at hc
  clear h
  go_enter Tryd.func39, Tryd.ntmps39
  go_wp2_with fail
  refine (hc _).mono ?_
  rintro r w1 ⟨rfl, hb1⟩
  obtain ⟨_, ⟨c0, c1, c2, f0, f1, f2⟩, hb⟩ := dy_two w neg s e hb1
  have hbZ := dy_put (.bool false) (.string { data := #[] }) (.int .i64 0) hb
  clear hb1 hb hc
  go_wp2
  exact bodyPost_ret (v := .tuple #[.agg #[.bool false, .string { data := #[] }, .int .i64 0], .int .i64 2]) (by simp [results, Tryd.results39, go_sem, c0, c1, c2]) rfl ⟨dyR_none ⟨rfl, rfl, rfl, rfl⟩, hbZ⟩

set_option maxHeartbeats 2000000 in
theorem dshift_ok (neg : Bool) (x : Nat) (e k : Int) (w : World) (h : okD neg x e) (hk1 : -9223372036854775808 ≤ k) (hk2 : k ≤ 9223372036854775807) :
    Calls Tryd.prog 39 #[.agg #[.bool neg, .string (bstr x), .int .i64 e], .int .i64 k] w fun r w' => r = .returned (mkV (sz neg x) (e + k)) ∧ Below w.heap.size w w' := by
  have hc := fun W => check_any neg (bstr x) e W (bstr_len h)
  rw [mayB_ok h, okE_t] at hc
  have hsg := fun W => dsign_ok neg x e W h
  by_cases hx : x = 0
  · subst hx
    obtain ⟨rfl, rfl⟩ := h.nil
    rw [sz_sign_zero] at hsg
    have H := Lib.hid (mkV_zero (0 + k))
    rw [sz_zero]
    clear h hk1 hk2
    go_enter Tryd.func39, Tryd.ntmps39
    go_wp2_with fail
    refine (hc _).mono ?_
    rintro r w1 ⟨rfl, hb1⟩
    obtain ⟨⟨a0, a1, a2, -, -, -⟩, -, -⟩ := dy_two w false (bstr 0) 0 hb1
    go_wp2_with fail
    refine (hsg _).mono ?_
    rintro r w2 ⟨rfl, hb2⟩
    clear a0 a1 a2
    have hb3 := hb1.trans (hb2.mono hb1.size)
    obtain ⟨⟨a0, a1, a2, g0, g1, g2⟩, ⟨c0, c1, c2, f0, f1, f2⟩, hb⟩ := dy_two w false (bstr 0) 0 hb3
    have hbZ := dy_put (.bool false) (.string (bstr 0)) (.int .i64 0) hb
    clear hb1 hb2 hb3 hb hc hsg
    go_wp2
    exact bodyPost_ret (v := .tuple #[.agg #[.bool false, .string (bstr 0), .int .i64 0], .int .i64 0]) (by simp [results, Tryd.results39, go_sem, c0, c1, c2]) rfl ⟨by rw [H.out]; rfl, hbZ⟩
  · have ho := h.odd hx
    have hs0 := sz_sign_ne (neg := neg) hx
    have he1 := h.e1
    have he2 := h.e2
    have hno := fun hf => @mkV_odd_no neg x (e + k) ho hf
    have hyes := fun h1 h2 => @mkV_odd_yes neg x (e + k) ho h.dn h1 h2
    obtain ⟨V, hV⟩ : ∃ V, V = mkV (sz neg x) (e + k) := ⟨_, rfl⟩
    rw [← hV] at hno hyes ⊢
    have HN := Lib.hid hno
    have HY := Lib.hid hyes
    clear hno hyes hV hx ho h
    go_enter Tryd.func39, Tryd.ntmps39
    go_wp2_with fail
    refine (hc _).mono ?_
    rintro r w1 ⟨rfl, hb1⟩
    obtain ⟨⟨a0, a1, a2, -, -, -⟩, -, -⟩ := dy_two w neg (bstr x) e hb1
    go_wp2_with fail
    refine (hsg _).mono ?_
    rintro r w2 ⟨rfl, hb2⟩
    clear a0 a1 a2
    have hb3 := hb1.trans (hb2.mono hb1.size)
    obtain ⟨⟨a0, a1, a2, g0, g1, g2⟩, ⟨c0, c1, c2, f0, f1, f2⟩, hb⟩ := dy_two w neg (bstr x) e hb3
    have hbZ := dy_put (.bool false) (.string { data := #[] }) (.int .i64 0) hb
    have hbY := dy_put (.bool neg) (.string (bstr x)) (.int .i64 (e + k)) (hb.setCell (Nat.le_refl _) (.int .i64 (e + k)) (p := ⟨w.heap.size, 2, none⟩))
    clear hb1 hb2 hb3 hb hc hsg
    by_cases g1 : 1099511627776 < k
    · have Hv := Lib.hid (HN.out (by omega))
      clear hbY HN HY
      go_wp2
      exact bodyPost_ret (v := .tuple #[.agg #[.bool false, .string { data := #[] }, .int .i64 0], .int .i64 4]) (by simp [results, Tryd.results39, go_sem, c0, c1, c2]) rfl ⟨by rw [Hv.out]; exact dyR_none ⟨rfl, rfl, rfl, rfl⟩, hbZ⟩
    · by_cases g2 : k < -1099511627776
      · have Hv := Lib.hid (HN.out (by omega))
        clear hbY HN HY
        go_wp2
        exact bodyPost_ret (v := .tuple #[.agg #[.bool false, .string { data := #[] }, .int .i64 0], .int .i64 4]) (by simp [results, Tryd.results39, go_sem, c0, c1, c2]) rfl ⟨by rw [Hv.out]; exact dyR_none ⟨rfl, rfl, rfl, rfl⟩, hbZ⟩
      · by_cases g3 : 1048576 < e + k
        · have Hv := Lib.hid (HN.out (by omega))
          clear hbY HN HY
          go_wp2
          exact bodyPost_ret (v := .tuple #[.agg #[.bool false, .string { data := #[] }, .int .i64 0], .int .i64 4]) (by simp [results, Tryd.results39, go_sem, c0, c1, c2]) rfl ⟨by rw [Hv.out]; exact dyR_none ⟨rfl, rfl, rfl, rfl⟩, hbZ⟩
        · by_cases g4 : e + k < -1048576
          · have Hv := Lib.hid (HN.out (by omega))
            clear hbY HN HY
            go_wp2
            exact bodyPost_ret (v := .tuple #[.agg #[.bool false, .string { data := #[] }, .int .i64 0], .int .i64 4]) (by simp [results, Tryd.results39, go_sem, c0, c1, c2]) rfl ⟨by rw [Hv.out]; exact dyR_none ⟨rfl, rfl, rfl, rfl⟩, hbZ⟩
          · have Hv := Lib.hid (HY.out (by omega) (by omega))
            clear hbZ HN HY
            go_wp2
            exact bodyPost_ret (v := .tuple #[.agg #[.bool neg, .string (bstr x), .int .i64 (e + k)], .int .i64 0]) (by simp [results, Tryd.results39, go_sem, c0, c1, c2]) rfl ⟨by rw [Hv.out]; rfl, hbY⟩

set_option maxHeartbeats 2000000 in
theorem rshift_ok (neg : Bool) (x : Nat) (e k : Int) (w : World) (h : okD neg x e) (hk1 : -9223372036854775808 ≤ k) (hk2 : k ≤ 9223372036854775807) :
    Calls Tryd.prog 41 #[.agg #[.bool neg, .string (bstr x), .int .i64 e], .int .i64 k] w fun r w' => r = .returned (mkV (sz neg x) (e + k)) ∧ Below w.heap.size w w' := by
  by_cases hx : x = 0
  · subst hx
    obtain ⟨rfl, rfl⟩ := h.nil
    have H := Lib.hid (mkV_zero (0 + k))
    have h1 := bstr_nil
    rw [sz_zero]
    clear h hk1 hk2
    go_enter Tryd.func41, Tryd.ntmps41
    go_wp2
    go_returns
    exact ⟨by rw [H.out]; rfl, ((Below.refl _ _).alloc (Nat.le_refl _) _).alloc (by simp) _⟩
  · have ho := h.odd hx
    obtain ⟨h1, h2⟩ := bstr_ne hx
    have he1 := h.e1
    have he2 := h.e2
    have hno := fun hf => @mkV_odd_no neg x (e + k) ho hf
    have hyes := fun h1 h2 => @mkV_odd_yes neg x (e + k) ho h.dn h1 h2
    obtain ⟨V, hV⟩ : ∃ V, V = mkV (sz neg x) (e + k) := ⟨_, rfl⟩
    rw [← hV] at hno hyes ⊢
    have HN := Lib.hid hno
    have HY := Lib.hid hyes
    clear hno hyes hV hx ho h
    by_cases g1 : 4194304 < k
    · have Hv := Lib.hid (HN.out (by omega))
      clear HN HY
      go_enter Tryd.func41, Tryd.ntmps41
      go_wp2
      go_returns
      exact ⟨by rw [Hv.out]; exact dyR_none ⟨rfl, rfl, rfl, rfl⟩, ((Below.refl _ _).alloc (Nat.le_refl _) _).alloc (by simp) _⟩
    · by_cases g2 : k < -4194304
      · have Hv := Lib.hid (HN.out (by omega))
        clear HN HY
        go_enter Tryd.func41, Tryd.ntmps41
        go_wp2
        go_returns
        exact ⟨by rw [Hv.out]; exact dyR_none ⟨rfl, rfl, rfl, rfl⟩, ((Below.refl _ _).alloc (Nat.le_refl _) _).alloc (by simp) _⟩
      · by_cases g3 : 1048576 < e + k
        · have Hv := Lib.hid (HN.out (by omega))
          clear HN HY
          go_enter Tryd.func41, Tryd.ntmps41
          go_wp2
          go_returns
          exact ⟨by rw [Hv.out]; exact dyR_none ⟨rfl, rfl, rfl, rfl⟩, ((Below.refl _ _).alloc (Nat.le_refl _) _).alloc (by simp) _⟩
        · by_cases g4 : e + k < -1048576
          · have Hv := Lib.hid (HN.out (by omega))
            clear HN HY
            go_enter Tryd.func41, Tryd.ntmps41
            go_wp2
            go_returns
            exact ⟨by rw [Hv.out]; exact dyR_none ⟨rfl, rfl, rfl, rfl⟩, ((Below.refl _ _).alloc (Nat.le_refl _) _).alloc (by simp) _⟩
          · have Hv := Lib.hid (HY.out (by omega) (by omega))
            clear HN HY
            go_enter Tryd.func41, Tryd.ntmps41
            go_wp2
            go_returns
            exact ⟨by rw [Hv.out]; rfl, ((Below.refl _ _).alloc (Nat.le_refl _) _).alloc (by simp) _⟩
end Go.Proofs.YtgcifpjhhoalmaaDoor
