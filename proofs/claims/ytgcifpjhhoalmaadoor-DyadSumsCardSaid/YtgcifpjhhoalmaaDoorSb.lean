/- The walks over dyad.Floor and the reference's. -/
import Derived.Test.YtgcifpjhhoalmaaDoorSa
namespace Go.Proofs.YtgcifpjhhoalmaaDoor
open Go Go.RowKit Go.PlainAid Fil

/-- the floor's magnitude -/
def flX (neg : Bool) (x k : Nat) : Nat := if neg then x / 2 ^ k + 1 else x / 2 ^ k
theorem shr_flX {neg : Bool} {x k : Nat} (ho : x % 2 = 1) (hk : 0 < k) : shrZ (sz neg x) k = sz neg (flX neg x k) := by
  have hx : x ≠ 0 := by omega
  unfold shrZ
  rw [sg_sz hx, sz_abs, tz_odd ho]
  cases neg
  · have : ¬ sz false x < 0 := by simp [sz]
    rw [if_neg (fun h => this h.1)]; rfl
  · have : sz true x < 0 := by unfold sz; simp; omega
    rw [if_pos ⟨this, hk⟩]; rfl
theorem flX_le (neg : Bool) (x k : Nat) : flX neg x k ≤ x + 1 := by
  have := Nat.div_le_self x (2 ^ k)
  unfold flX; split <;> omega
theorem dn_flX {neg : Bool} {x k : Nat} (h : Fil.dn 8 x ≤ 16384) : Fil.dn 8 (flX neg x k) ≤ 16385 ∧ Fil.dn 32 (flX neg x k) ≤ 16385 := by
  have h0 := lt_of_dn (k := 8) (by omega) h
  obtain ⟨n, hn⟩ : ∃ n : Nat, n = 16384 := ⟨_, rfl⟩
  rw [← hn] at h0
  have h1 : flX neg x k < 2 ^ (8 * (n + 1)) := by
    have h2 := flX_le neg x k
    rw [pstep]
    have := pp (8 * n)
    omega
  have h3 := dn_le (k := 8) (by omega) h1
  have h4 := dn_le (k := 32) (n := n + 1) (by omega) (Nat.lt_of_lt_of_le h1 (pmono (by omega)))
  exact ⟨by omega, by omega⟩
/-- Floor's answer -/
def flV (neg : Bool) (x : Nat) (e f : Int) : Value :=
  if f < -1048576 ∨ 1048576 < f then dyR false 0 0 2 else if f ≤ e ∨ x = 0 then dyR neg x e 0 else mkV (sz neg (flX neg x (f - e).toNat)) f
theorem flV_out {neg : Bool} {x : Nat} {e f : Int} (h : f < -1048576 ∨ 1048576 < f) : flV neg x e f = dyR false 0 0 2 := if_pos h
theorem flV_same {neg : Bool} {x : Nat} {e f : Int} (h1 : ¬ f < -1048576) (h2 : ¬ 1048576 < f) (h : f ≤ e ∨ x = 0) : flV neg x e f = dyR neg x e 0 := by unfold flV; rw [if_neg (by omega), if_pos h]
theorem flV_cut {neg : Bool} {x : Nat} {e f : Int} {k : Nat} (h1 : ¬ f < -1048576) (h2 : ¬ 1048576 < f) (h3 : ¬ f ≤ e) (h4 : x ≠ 0) (hk : f - e = k) : flV neg x e f = mkV (sz neg (flX neg x k)) f := by
  unfold flV; rw [if_neg (by omega), if_neg (by omega), show (f - e).toNat = k by omega]

set_option maxHeartbeats 1000000 in
theorem dfloor_bad (neg : Bool) (s : ByteArray) (e f : Int) (w : World) (h : mayB neg s e = false) (hs : s.size ≤ 9223372036854775807) :
    Calls Tryd.prog 40 #[.agg #[.bool neg, .string s, .int .i64 e], .int .i64 f] w fun r w' => r = .returned (dyR false 0 0 2) ∧ Below w.heap.size w w' := by
  have hc := fun W => check_any neg s e W hs
  rw [h, okE_f] at hc
  clear h
  go_enter Tryd.func40, Tryd.ntmps40
  go_wp2_with fail
  refine (hc _).mono ?_
  rintro r w1 ⟨rfl, hb1⟩
  obtain ⟨_, ⟨c0, c1, c2, f0, f1, f2⟩, hb⟩ := dy_two w neg s e hb1
  have hbZ := dy_put (.bool false) (.string { data := #[] }) (.int .i64 0) hb
  clear hb1 hb hc
  go_wp2
  exact bodyPost_ret (v := .tuple #[.agg #[.bool false, .string { data := #[] }, .int .i64 0], .int .i64 2]) (by simp [results, Tryd.results40, go_sem, c0, c1, c2]) rfl ⟨dyR_none ⟨rfl, rfl, rfl, rfl⟩, hbZ⟩

set_option maxHeartbeats 4000000 in
theorem dfloor_ok (neg : Bool) (x : Nat) (e f : Int) (w : World) (h : okD neg x e) (hT : Tab w) :
    Calls Tryd.prog 40 #[.agg #[.bool neg, .string (bstr x), .int .i64 e], .int .i64 f] w fun r w' => r = .returned (flV neg x e f) ∧ Below w.heap.size w w' := by
  have hc := fun W => check_any neg (bstr x) e W (bstr_len h)
  rw [mayB_ok h, okE_t] at hc
  have hsg := fun W => dsign_ok neg x e W h
  by_cases g1 : f < -1048576
  · have Hv := Lib.hid (@flV_out neg x e f (.inl g1))
    go_enter Tryd.func40, Tryd.ntmps40
    go_wp2_with fail
    refine (hc _).mono ?_
    rintro r w1 ⟨rfl, hb1⟩
    obtain ⟨_, ⟨c0, c1, c2, f0, f1, f2⟩, hb⟩ := dy_two w neg (bstr x) e hb1
    have hbZ := dy_put (.bool false) (.string { data := #[] }) (.int .i64 0) hb
    clear hb1 hb hc
    go_wp2
    exact bodyPost_ret (v := .tuple #[.agg #[.bool false, .string { data := #[] }, .int .i64 0], .int .i64 2]) (by simp [results, Tryd.results40, go_sem, c0, c1, c2]) rfl ⟨by rw [Hv.out]; exact dyR_none ⟨rfl, rfl, rfl, rfl⟩, hbZ⟩
  · by_cases g2 : 1048576 < f
    · have Hv := Lib.hid (@flV_out neg x e f (.inr g2))
      go_enter Tryd.func40, Tryd.ntmps40
      go_wp2_with fail
      refine (hc _).mono ?_
      rintro r w1 ⟨rfl, hb1⟩
      obtain ⟨_, ⟨c0, c1, c2, f0, f1, f2⟩, hb⟩ := dy_two w neg (bstr x) e hb1
      have hbZ := dy_put (.bool false) (.string { data := #[] }) (.int .i64 0) hb
      clear hb1 hb hc
      go_wp2
      exact bodyPost_ret (v := .tuple #[.agg #[.bool false, .string { data := #[] }, .int .i64 0], .int .i64 2]) (by simp [results, Tryd.results40, go_sem, c0, c1, c2]) rfl ⟨by rw [Hv.out]; exact dyR_none ⟨rfl, rfl, rfl, rfl⟩, hbZ⟩
    · by_cases g3 : f ≤ e
      · have Hv := Lib.hid (@flV_same neg x e f g1 g2 (.inl g3))
        clear h hT
        go_enter Tryd.func40, Tryd.ntmps40
        go_wp2_with fail
        refine (hc _).mono ?_
        rintro r w1 ⟨rfl, hb1⟩
        obtain ⟨⟨a0, a1, a2, -, -, -⟩, ⟨c0, c1, c2, f0, f1, f2⟩, hb⟩ := dy_two w neg (bstr x) e hb1
        have hbZ := dy_put (.bool neg) (.string (bstr x)) (.int .i64 e) hb
        clear hb1 hb hc
        go_wp2
        exact bodyPost_ret (v := .tuple #[.agg #[.bool neg, .string (bstr x), .int .i64 e], .int .i64 0]) (by simp [results, Tryd.results40, go_sem, c0, c1, c2]) rfl ⟨by rw [Hv.out]; rfl, hbZ⟩
      · have g3' : decide (f ≤ e) = false := decide_eq_false g3
        by_cases hx : x = 0
        · have Hv := Lib.hid (@flV_same neg x e f g1 g2 (.inr hx))
          subst hx
          rw [sz_sign_zero] at hsg
          clear h hT
          go_enter Tryd.func40, Tryd.ntmps40
          go_wp2_with fail
          refine (hc _).mono ?_
          rintro r w1 ⟨rfl, hb1⟩
          obtain ⟨⟨a0, a1, a2, -, -, -⟩, -, -⟩ := dy_two w neg (bstr 0) e hb1
          go_wp2_with fail
          refine (hsg _).mono ?_
          rintro r w2 ⟨rfl, hb2⟩
          clear a0 a1 a2
          have hb3 := hb1.trans (hb2.mono hb1.size)
          obtain ⟨⟨a0, a1, a2, -, -, -⟩, ⟨c0, c1, c2, f0, f1, f2⟩, hb⟩ := dy_two w neg (bstr 0) e hb3
          have hbZ := dy_put (.bool neg) (.string (bstr 0)) (.int .i64 e) hb
          clear hb1 hb2 hb3 hb hc hsg
          go_wp2
          exact bodyPost_ret (v := .tuple #[.agg #[.bool neg, .string (bstr 0), .int .i64 e], .int .i64 0]) (by simp [results, Tryd.results40, go_sem, c0, c1, c2]) rfl ⟨by rw [Hv.out]; rfl, hbZ⟩
        · have he1 := h.e1
          have he2 := h.e2
          obtain ⟨k, hk⟩ : ∃ k : Nat, f - e = k := ⟨(f - e).toNat, by omega⟩
          have hk0 : 0 < k := by omega
          have hk2 : k ≤ 2097152 := by omega
          have Hv := Lib.hid (@flV_cut neg x e f k g1 g2 g3 hx hk)
          have hs0 := sz_sign_ne (neg := neg) hx
          have HF := Lib.hid (shr_flX (neg := neg) (h.odd hx) hk0)
          have HD := Lib.hid (dn_flX (neg := neg) (k := k) h.dn)
          have hd32 : Fil.dn 32 x ≤ 1099511627775 := by have := h.dn; have := dn8_32 x (Fil.dn 8 x) (lt_dn (by omega) x); omega
          have hw := fun W => whole_any neg x e W h
          have HT := Lib.hid hT
          clear hx h hT
          go_enter Tryd.func40, Tryd.ntmps40
          go_wp2_with fail
          refine (hc _).mono ?_
          rintro r w1 ⟨rfl, hb1⟩
          obtain ⟨⟨a0, a1, a2, -, -, -⟩, -, -⟩ := dy_two w neg (bstr x) e hb1
          go_wp2_with fail
          refine (hsg _).mono ?_
          rintro r w2 ⟨rfl, hb2⟩
          clear a0 a1 a2
          have hb3 := hb1.trans (hb2.mono hb1.size)
          obtain ⟨⟨a0, a1, a2, -, -, -⟩, -, -⟩ := dy_two w neg (bstr x) e hb3
          clear hb1 hb2 hc hsg
          go_wp2_with fail
          refine (hw _).mono ?_
          rintro r w3 ⟨rfl, hI, hb4⟩
          clear a0 a1 a2
          have hs3 := hb3.size
          have hb5 := hb3.trans (hb4.mono hs3)
          obtain ⟨⟨a0, a1, a2, -, -, -⟩, -, hB5⟩ := dy_two w neg (bstr x) e hb5
          have hs5 := hb5.size
          have hT5 := Lib.hid (HT.out.below hB5)
          have l3 := hI.lt
          have hsA : ((w.alloc (.cells #[.bool neg, .string (bstr x), .int .i64 e] 24)).alloc (.cells #[.bool false, .string { data := #[] }, .int .i64 0] 24)).heap.size = w.heap.size + 1 + 1 := by simp
          rw [hsA] at hs3 hs5
          generalize hp : w2.heap.size + 1 = p at *
          have hp2 : w.heap.size + 1 + 1 < p := by omega
          clear hb3 hb4 hw hB5 hp hs3
          go_wp2_with fail
          refine (rsh_any p 0 p 0 k (sz neg x) _ hI.room hI (by rw [sz_abs]; exact hd32) (by omega) hT5.out).mono ?_
          rintro r w4 ⟨rfl, hI4, hB4⟩
          rw [HF.out] at hI4
          have hb6 := hb5.trans (hB4.below (by rw [hsA]; omega) (by rw [hsA]; exact hs5))
          obtain ⟨-, -, hB6⟩ := dy_two w neg (bstr x) e hb6
          have hT6 := Lib.hid (HT.out.below hB6)
          have hs6 := hb6.size
          clear hB4 hI hb5 hT5 a0 a1 a2 hk l3 hs5
          go_wp2_with fail
          refine (made_any p 0 _ f w4 hI4 (by rw [sz_abs]; have := HD.out.2; omega) hT6.out (by omega) (by omega)).mono ?_
          rintro r w5 ⟨rfl, hb7⟩
          have hb8 := hb6.trans (hb7.mono hs6)
          obtain ⟨-, ⟨c0, c1, c2, f0, f1, f2⟩, hb⟩ := dy_two w neg (bstr x) e hb8
          obtain ⟨Z, hZ⟩ : ∃ Z, Z = sz neg (flX neg x k) := ⟨_, rfl⟩
          rw [← hZ] at Hv ⊢
          have hbZ := dy_put (.bool (mkN Z f)) (.string (bstr (mkX Z f))) (.int .i64 (mkE Z f)) hb
          clear hb6 hb7 hb8 hb hI4 hT6 hs6 hB6 hsA hp2 hZ
          unfold dyR
          go_wp2
          exact bodyPost_ret (v := .tuple #[.agg #[.bool (mkN Z f), .string (bstr (mkX Z f)), .int .i64 (mkE Z f)], .int .i64 (mkR Z f)]) (by simp [results, Tryd.results40, go_sem, c0, c1, c2]) rfl ⟨by rw [Hv.out]; rfl, hbZ⟩
end Go.Proofs.YtgcifpjhhoalmaaDoor
