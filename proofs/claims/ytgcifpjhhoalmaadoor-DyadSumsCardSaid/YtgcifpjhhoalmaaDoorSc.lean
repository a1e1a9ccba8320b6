/- The walk over the reference's Floor. -/
import Derived.Test.YtgcifpjhhoalmaaDoorSb
namespace Go.Proofs.YtgcifpjhhoalmaaDoor
open Go Go.RowKit Go.PlainAid Fil

theorem dn8_one : Fil.dn 8 1 = 1 := by rw [dn8_bl]; decide
theorem slc_one (w : World) : Slc (w.alloc (.cells #[.int .i64 1] 3)) 3 (some ⟨w.heap.size, 0, none⟩) 1 (i8 1) := fun _ =>
  ⟨w.heap.size, 0, _, _, rfl, heap_alloc_new w _, fun j hj => by
    have : j = 0 := by omega
    subst this
    rfl⟩

set_option maxRecDepth 100000 in
set_option maxHeartbeats 4000000 in
theorem rfloor_ok (neg : Bool) (x : Nat) (e f : Int) (w : World) (h : okD neg x e) :
    Calls Tryd.prog 42 #[.agg #[.bool neg, .string (bstr x), .int .i64 e], .int .i64 f] w fun r w' => r = .returned (flV neg x e f) ∧ Below w.heap.size w w' := by
  have hbw := ((Below.refl w.heap.size w).alloc (Nat.le_refl _) (.cells #[.bool neg, .string (bstr x), .int .i64 e] 24)).alloc (by simp) (.cells #[.bool false, .string { data := #[] }, .int .i64 0] 24)
  by_cases g1 : f < -1048576
  · have Hv := Lib.hid (@flV_out neg x e f (.inl g1))
    clear h
    go_enter Tryd.func42, Tryd.ntmps42
    go_wp2
    go_returns
    exact ⟨by rw [Hv.out]; exact dyR_none ⟨rfl, rfl, rfl, rfl⟩, ((Below.refl _ _).alloc (Nat.le_refl _) _).alloc (by simp) _⟩
  · by_cases g2 : 1048576 < f
    · have Hv := Lib.hid (@flV_out neg x e f (.inr g2))
      clear h
      go_enter Tryd.func42, Tryd.ntmps42
      go_wp2
      go_returns
      exact ⟨by rw [Hv.out]; exact dyR_none ⟨rfl, rfl, rfl, rfl⟩, ((Below.refl _ _).alloc (Nat.le_refl _) _).alloc (by simp) _⟩
    · by_cases hx : x = 0
      · have Hv := Lib.hid (@flV_same neg x e f g1 g2 (.inr hx))
        subst hx
        have h1 := bstr_nil
        clear h
        go_enter Tryd.func42, Tryd.ntmps42
        go_wp2
        go_returns
        exact ⟨by rw [Hv.out]; rfl, ((Below.refl _ _).alloc (Nat.le_refl _) _).alloc (by simp) _⟩
      · obtain ⟨h1, h2⟩ := bstr_ne hx
        by_cases g3 : f ≤ e
        · have Hv := Lib.hid (@flV_same neg x e f g1 g2 (.inl g3))
          clear h
          go_enter Tryd.func42, Tryd.ntmps42
          go_wp2
          go_returns
          exact ⟨by rw [Hv.out]; rfl, ((Below.refl _ _).alloc (Nat.le_refl _) _).alloc (by simp) _⟩
        · have g3' : decide (f ≤ e) = false := decide_eq_false g3
          have he1 := h.e1
          have he2 := h.e2
          obtain ⟨k, hk⟩ : ∃ k : Nat, f - e = k := ⟨(f - e).toNat, by omega⟩
          have hk0 : 0 < k := by omega
          have hk2 : k ≤ 2097152 := by omega
          have Hv := Lib.hid (@flV_cut neg x e f k g1 g2 g3 hx hk)
          have hdn := h.dn
          have hsz := bstr_size x
          have hbl : Fil.dn 8 x ≤ 1048576 := by omega
          have HDN : Hid (Fil.dn 8 (x / 2 ^ k) ≤ 16384) := Lib.hid (Nat.le_trans (dn_mono (by omega) (Nat.div_le_self _ _)) hdn)
          have HDP : Hid (Fil.dn 8 (x / 2 ^ k + 1) ≤ 16385) := Lib.hid (dn_flX (neg := true) (k := k) hdn).1
          have hHZ : Fil.dn 8 x < k / 8 + 1 → x / 2 ^ k = 0 := fun hlt => Nat.div_eq_of_lt (Nat.lt_of_lt_of_le (lt_dn (k := 8) (by omega) x) (pmono (by omega)))
          have HZ := Lib.hid hHZ
          have hrof := fun W => rof_any x W hbl
          obtain ⟨n, hn⟩ : ∃ n, n = Fil.dn 8 x := ⟨_, rfl⟩
          have hn8 : n ≤ 16384 := by omega
          rw [← hn] at hsz HZ hrof
          have Hn := Lib.hid hn
          have hbA0 := (Below.refl ((w.alloc (.cells #[.bool neg, .string (bstr x), .int .i64 e] 24)).alloc (.cells #[.bool false, .string { data := #[] }, .int .i64 0] 24)).heap.size ((w.alloc (.cells #[.bool neg, .string (bstr x), .int .i64 e] 24)).alloc (.cells #[.bool false, .string { data := #[] }, .int .i64 0] 24)))
          clear h hx hn hbl hdn hHZ hbw
          by_cases g4 : k ≤ 8 * n
          · go_enter Tryd.func42, Tryd.ntmps42
            go_wp2_with fail
            refine (hrof _).mono ?_
            rintro r w0 ⟨v, rfl, hown, hb0⟩
            obtain ⟨A, c, rfl, hnc, hsl⟩ := Own.slc hown
            clear hown
            have hs0 : Slc w0 3 A n (i8 x) := hsl
            clear hsl
            have hbB := hbA0.trans hb0
            obtain ⟨⟨a0, a1, a2, -, -, -⟩, -, -⟩ := dy_two w neg (bstr x) e hbB
            go_wp2_with fail
            refine (rhalved_any A n c x k w0 Hn.out hnc (by omega) (by omega) hs0).mono ?_
            rintro r w1 ⟨A', c', rfl, hnc', hs', hb1⟩
            have hbA := hbB.trans (hb1.mono hbB.size)
            clear hb0 hb1 hbB hbA0 hs0 hnc hrof a0 a1 a2
            obtain ⟨⟨a0, a1, a2, -, -, -⟩, -, hB1⟩ := dy_two w neg (bstr x) e hbA
            have hdy := HDN.out
            have hdz := HDP.out
            cases neg
            · obtain ⟨Z, hZ⟩ : ∃ Z, Z = sz false (flX false x k) := ⟨_, rfl⟩
              have hfit := rfit_any false A' (Fil.dn 8 (x / 2 ^ k)) c' (x / 2 ^ k) f w1 rfl hnc' (by omega) (by omega) (by omega) hs'
              rw [show sz false (x / 2 ^ k) = sz false (flX false x k) from rfl, ← hZ] at hfit
              rw [← hZ] at Hv
              clear hZ hs'
              go_wp2_with fail
              (with_reducible refine hfit.mono ?_)
              rintro r w2 ⟨rfl, hb2⟩
              have hbF := hbA.trans (hb2.mono hbA.size)
              obtain ⟨-, ⟨c0, c1, c2, f0, f1, f2⟩, hb⟩ := dy_two w false (bstr x) e hbF
              have hbZ := dy_put (.bool (mkN Z f)) (.string (bstr (mkX Z f))) (.int .i64 (mkE Z f)) hb
              clear hb2 hbF hb
              unfold mkV dyR
              go_wp2
              exact bodyPost_ret (v := .tuple #[.agg #[.bool (mkN Z f), .string (bstr (mkX Z f)), .int .i64 (mkE Z f)], .int .i64 (mkR Z f)]) (by simp [results, Tryd.results42, go_sem, c0, c1, c2]) rfl ⟨by rw [Hv.out]; rfl, hbZ⟩
            · obtain ⟨Z, hZ⟩ : ∃ Z, Z = sz true (flX true x k) := ⟨_, rfl⟩
              have hpl := rplus_any A' (some ⟨(w1).heap.size, 0, none⟩) (Fil.dn 8 (x / 2 ^ k)) c' (x / 2 ^ k) 1 1 1 ((w1).alloc (.cells #[.int .i64 1] 3)) rfl dn8_one.symm (by omega) (by omega) (hs'.alloc _) (slc_one _)
              have hbB := hbA.alloc hbA.size (.cells #[.int .i64 1] 3)
              rw [← hZ] at Hv
              clear hs'
              go_wp2_with fail
              (with_reducible refine hpl.mono ?_)
              rintro r w2 ⟨A2, c2, rfl, hnc2, hs2, hb2⟩
              have hbC := hbB.trans (hb2.mono hbB.size)
              obtain ⟨⟨d0, d1, d2, -, -, -⟩, -, -⟩ := dy_two w true (bstr x) e hbC
              have hfit := rfit_any true A2 (Fil.dn 8 ((x / 2 ^ k) + 1)) c2 ((x / 2 ^ k) + 1) f w2 rfl hnc2 (by omega) (by omega) (by omega) hs2
              rw [show sz true ((x / 2 ^ k) + 1) = sz true (flX true x k) from rfl, ← hZ] at hfit
              clear hZ hs2 hb2 hpl hbB
              clear a0 a1 a2
              go_wp2_with fail
              (with_reducible refine hfit.mono ?_)
              rintro r w3 ⟨rfl, hb3⟩
              have hbF := hbC.trans (hb3.mono hbC.size)
              obtain ⟨-, ⟨c0, c1, c2, f0, f1, f2⟩, hb⟩ := dy_two w true (bstr x) e hbF
              have hbZ := dy_put (.bool (mkN Z f)) (.string (bstr (mkX Z f))) (.int .i64 (mkE Z f)) hb
              clear hb3 hbF hb
              unfold mkV dyR
              go_wp2
              exact bodyPost_ret (v := .tuple #[.agg #[.bool (mkN Z f), .string (bstr (mkX Z f)), .int .i64 (mkE Z f)], .int .i64 (mkR Z f)]) (by simp [results, Tryd.results42, go_sem, c0, c1, c2]) rfl ⟨by rw [Hv.out]; rfl, hbZ⟩
          · have hz := HZ.out (by omega)
            have hs' : Slc ((w.alloc (.cells #[.bool neg, .string (bstr x), .int .i64 e] 24)).alloc (.cells #[.bool false, .string { data := #[] }, .int .i64 0] 24)) 3 none 0 (i8 0) := Slc.nil _ _ _ _
            have Hzz := Lib.hid hz
            have hd0 : Fil.dn 8 (0 + 1) ≤ 1 := Nat.le_of_eq dn8_one
            have g4' : 8 * (n : Int) < (k : Int) := by omega
            clear hz g4
            have hbA := hbA0
            clear hbA0
            go_enter Tryd.func42, Tryd.ntmps42
            obtain ⟨⟨a0, a1, a2, -, -, -⟩, -, hB1⟩ := dy_two w neg (bstr x) e hbA
            have hdy := HDN.out
            have hdz := HDP.out
            cases neg
            · obtain ⟨Z, hZ⟩ : ∃ Z, Z = sz false (flX false x k) := ⟨_, rfl⟩
              have hfit := rfit_any false none 0 0 0 f ((w.alloc (.cells #[.bool false, .string (bstr x), .int .i64 e] 24)).alloc (.cells #[.bool false, .string { data := #[] }, .int .i64 0] 24)) (dn_zero 8).symm (Nat.le_refl _) (by omega) (by omega) (by omega) hs'
              rw [show sz false 0 = sz false (flX false x k) from (by unfold flX; rw [Hzz.out]; rfl), ← hZ] at hfit
              rw [← hZ] at Hv
              clear hZ hs'
              go_wp2_with fail
              (with_reducible refine hfit.mono ?_)
              rintro r w2 ⟨rfl, hb2⟩
              have hbF := hbA.trans (hb2.mono hbA.size)
              obtain ⟨-, ⟨c0, c1, c2, f0, f1, f2⟩, hb⟩ := dy_two w false (bstr x) e hbF
              have hbZ := dy_put (.bool (mkN Z f)) (.string (bstr (mkX Z f))) (.int .i64 (mkE Z f)) hb
              clear hb2 hbF hb
              unfold mkV dyR
              go_wp2
              exact bodyPost_ret (v := .tuple #[.agg #[.bool (mkN Z f), .string (bstr (mkX Z f)), .int .i64 (mkE Z f)], .int .i64 (mkR Z f)]) (by simp [results, Tryd.results42, go_sem, c0, c1, c2]) rfl ⟨by rw [Hv.out]; rfl, hbZ⟩
            · obtain ⟨Z, hZ⟩ : ∃ Z, Z = sz true (flX true x k) := ⟨_, rfl⟩
              have hpl := rplus_any none (some ⟨(((w.alloc (.cells #[.bool true, .string (bstr x), .int .i64 e] 24)).alloc (.cells #[.bool false, .string { data := #[] }, .int .i64 0] 24))).heap.size, 0, none⟩) 0 0 0 1 1 1 ((((w.alloc (.cells #[.bool true, .string (bstr x), .int .i64 e] 24)).alloc (.cells #[.bool false, .string { data := #[] }, .int .i64 0] 24))).alloc (.cells #[.int .i64 1] 3)) (dn_zero 8).symm dn8_one.symm (by omega) (by omega) (hs'.alloc _) (slc_one _)
              rw [show (((w.alloc (.cells #[.bool true, .string (bstr x), .int .i64 e] 24)).alloc (.cells #[.bool false, .string { data := #[] }, .int .i64 0] 24))).heap.size = w.heap.size + 1 + 1 by simp] at hpl
              have hbB := hbA.alloc hbA.size (.cells #[.int .i64 1] 3)
              rw [← hZ] at Hv
              clear hs'
              go_wp2_with fail
              (with_reducible refine hpl.mono ?_)
              rintro r w2 ⟨A2, c2, rfl, hnc2, hs2, hb2⟩
              have hbC := hbB.trans (hb2.mono hbB.size)
              obtain ⟨⟨d0, d1, d2, -, -, -⟩, -, -⟩ := dy_two w true (bstr x) e hbC
              have hfit := rfit_any true A2 (Fil.dn 8 (0 + 1)) c2 (0 + 1) f w2 rfl hnc2 (by omega) (by omega) (by omega) hs2
              rw [show sz true (0 + 1) = sz true (flX true x k) from (by unfold flX; rw [Hzz.out]; rfl), ← hZ] at hfit
              clear hZ hs2 hb2 hpl hbB
              clear a0 a1 a2
              go_wp2_with fail
              (with_reducible refine hfit.mono ?_)
              rintro r w3 ⟨rfl, hb3⟩
              have hbF := hbC.trans (hb3.mono hbC.size)
              obtain ⟨-, ⟨c0, c1, c2, f0, f1, f2⟩, hb⟩ := dy_two w true (bstr x) e hbF
              have hbZ := dy_put (.bool (mkN Z f)) (.string (bstr (mkX Z f))) (.int .i64 (mkE Z f)) hb
              clear hb3 hbF hb
              unfold mkV dyR
              go_wp2
              exact bodyPost_ret (v := .tuple #[.agg #[.bool (mkN Z f), .string (bstr (mkX Z f)), .int .i64 (mkE Z f)], .int .i64 (mkR Z f)]) (by simp [results, Tryd.results42, go_sem, c0, c1, c2]) rfl ⟨by rw [Hv.out]; rfl, hbZ⟩
end Go.Proofs.YtgcifpjhhoalmaaDoor
