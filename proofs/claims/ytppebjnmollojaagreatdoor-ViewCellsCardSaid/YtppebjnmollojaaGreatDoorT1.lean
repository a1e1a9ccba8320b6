/- The reference of layer 24: side, May, on, below, Cell. -/
import Derived.Test.YtppebjnmollojaaGreatDoorQ3
import Derived.Test.YtppebjnmollojaaGreatDoorH1
import Derived.Test.YtppebjnmollojaaGreatDoorH4
import Derived.Test.YtppebjnmollojaaGreatDoorBK
namespace Go.Proofs.YtppebjnmollojaaGreatDoor
open Go Go.RowKit Go.PlainAid Fil

theorem rside_any (e : Int) (w : World) : Calls Tryz.prog 52 #[.int .i64 e] w fun r w' => r = .returned (.bool (sideB e)) ∧ Below w.heap.size w w' := by
  have B0 := Below.refl w.heap.size w
  unfold sideB
  by_cases h1 : -4096 ≤ e
  · by_cases h2 : e ≤ 4096
    · rw [decide_eq_true h1, decide_eq_true h2]
      go_enter Tryz.func52, Tryz.ntmps52
      go_wp2
      go_ret
      exact ⟨rfl, B0⟩
    · rw [decide_eq_true h1, decide_eq_false h2]
      go_enter Tryz.func52, Tryz.ntmps52
      go_wp2
      go_ret
      exact ⟨rfl, B0⟩
  · rw [decide_eq_false h1, Bool.false_and]
    go_enter Tryz.func52, Tryz.ntmps52
    go_wp2
    go_ret
    exact ⟨rfl, B0⟩
theorem rcof (z f : Int) (w : World) (h0 : -9223372036854775808 ≤ z) (h1 : z ≤ 9223372036854775807) (he1 : -9223372036854775808 ≤ f) (he2 : f ≤ 9223372036854775807) :
    Calls Tryz.prog 63 #[.int .i64 z, .int .i64 f] w fun r w' => r = .returned (.tuple #[.agg #[.bool (mkD z f, mkR z f).1.n, .string (bstr (mkD z f, mkR z f).1.x), .int .i64 (mkD z f, mkR z f).1.e], .int .i64 (mkD z f, mkR z f).2]) ∧ Below w.heap.size w w' := rof2_any z f w h0 h1 he1 he2

set_option maxRecDepth 10000 in
set_option maxHeartbeats 4000000 in
theorem rmay24_any (g : GR) (e : Int) (a : Int) (d : Int) (w : World) (ok_g : g.fit)  :
    Calls Tryz.prog 12 #[.agg #[.bool g.n, .string g.s, .int .i64 g.e, .bool g.m, .string g.t, .int .i64 g.f, .int .i64 e, .int .i64 a, .int .i64 d]] w fun r w' => r = .returned (.bool (winB g e a d)) ∧ Below w.heap.size w w' := by
  have h1 := fun W => qmay_any g.n g.s g.e g.m g.t g.f W ok_g.1 ok_g.2
  have h2 := fun W => rside_any e W
  unfold winB GR.may countB
  clear ok_g
  obtain ⟨gn, gS, ge, gm, gT, gf⟩ := g
  dsimp only at *
  generalize (mayB gn gS ge && mayB gm gT gf) = M at *
  generalize sideB e = S at *
  cases M
  · clear h2
    go_enter Tryz.func12, Tryz.ntmps12
    have B0 := Below.refl w.heap.size w
    have F1 := Blk.put (w) #[.bool gn, .string gS, .int .i64 ge, .bool gm, .string gT, .int .i64 gf, .int .i64 e, .int .i64 a, .int .i64 d] 28
    replace B0 := B0.alloc B0.size (.cells #[.bool gn, .string gS, .int .i64 ge, .bool gm, .string gT, .int .i64 gf, .int .i64 e, .int .i64 a, .int .i64 d] 28)
    obtain ⟨xF10_0, xF10_1, xF10_2, xF10_3, xF10_4, xF10_5, xF10_6, xF10_7, xF10_8⟩ := F1.ce9
    go_wp2_with fail
    (with_reducible refine (h1 _).mono ?_)
    rintro r w1 ⟨rfl, hb1⟩
    clear xF10_0 xF10_1 xF10_2 xF10_3 xF10_4 xF10_5 xF10_6 xF10_7 xF10_8
    replace F1 := F1.keep hb1
    replace B0 := B0.trans (hb1.mono B0.size)
    clear hb1
    go_wp2
    go_ret
    exact ⟨rfl, B0⟩
  · cases S
    · go_enter Tryz.func12, Tryz.ntmps12
      have B0 := Below.refl w.heap.size w
      have F1 := Blk.put (w) #[.bool gn, .string gS, .int .i64 ge, .bool gm, .string gT, .int .i64 gf, .int .i64 e, .int .i64 a, .int .i64 d] 28
      replace B0 := B0.alloc B0.size (.cells #[.bool gn, .string gS, .int .i64 ge, .bool gm, .string gT, .int .i64 gf, .int .i64 e, .int .i64 a, .int .i64 d] 28)
      obtain ⟨xF10_0, xF10_1, xF10_2, xF10_3, xF10_4, xF10_5, xF10_6, xF10_7, xF10_8⟩ := F1.ce9
      go_wp2_with fail
      (with_reducible refine (h1 _).mono ?_)
      rintro r w1 ⟨rfl, hb1⟩
      clear xF10_0 xF10_1 xF10_2 xF10_3 xF10_4 xF10_5 xF10_6 xF10_7 xF10_8
      replace F1 := F1.keep hb1
      replace B0 := B0.trans (hb1.mono B0.size)
      clear hb1
      obtain ⟨xF11_0, xF11_1, xF11_2, xF11_3, xF11_4, xF11_5, xF11_6, xF11_7, xF11_8⟩ := F1.ce9
      go_wp2_with fail
      (with_reducible refine (h2 _).mono ?_)
      rintro r w2 ⟨rfl, hb2⟩
      clear xF11_0 xF11_1 xF11_2 xF11_3 xF11_4 xF11_5 xF11_6 xF11_7 xF11_8
      replace F1 := F1.keep hb2
      replace B0 := B0.trans (hb2.mono B0.size)
      clear hb2
      go_wp2
      go_ret
      exact ⟨rfl, B0⟩
    · by_cases ha : 1 ≤ a
      · rw [decide_eq_true ha]
        by_cases hb : a ≤ 65536
        · rw [decide_eq_true hb]
          by_cases hc : 1 ≤ d
          · rw [decide_eq_true hc]
            go_enter Tryz.func12, Tryz.ntmps12
            have B0 := Below.refl w.heap.size w
            have F1 := Blk.put (w) #[.bool gn, .string gS, .int .i64 ge, .bool gm, .string gT, .int .i64 gf, .int .i64 e, .int .i64 a, .int .i64 d] 28
            replace B0 := B0.alloc B0.size (.cells #[.bool gn, .string gS, .int .i64 ge, .bool gm, .string gT, .int .i64 gf, .int .i64 e, .int .i64 a, .int .i64 d] 28)
            obtain ⟨xF10_0, xF10_1, xF10_2, xF10_3, xF10_4, xF10_5, xF10_6, xF10_7, xF10_8⟩ := F1.ce9
            go_wp2_with fail
            (with_reducible refine (h1 _).mono ?_)
            rintro r w1 ⟨rfl, hb1⟩
            clear xF10_0 xF10_1 xF10_2 xF10_3 xF10_4 xF10_5 xF10_6 xF10_7 xF10_8
            replace F1 := F1.keep hb1
            replace B0 := B0.trans (hb1.mono B0.size)
            clear hb1
            obtain ⟨xF11_0, xF11_1, xF11_2, xF11_3, xF11_4, xF11_5, xF11_6, xF11_7, xF11_8⟩ := F1.ce9
            go_wp2_with fail
            (with_reducible refine (h2 _).mono ?_)
            rintro r w2 ⟨rfl, hb2⟩
            clear xF11_0 xF11_1 xF11_2 xF11_3 xF11_4 xF11_5 xF11_6 xF11_7 xF11_8
            replace F1 := F1.keep hb2
            replace B0 := B0.trans (hb2.mono B0.size)
            clear hb2
            obtain ⟨xF12_0, xF12_1, xF12_2, xF12_3, xF12_4, xF12_5, xF12_6, xF12_7, xF12_8⟩ := F1.ce9
            go_wp2
            go_ret
            exact ⟨rfl, B0⟩
          · rw [decide_eq_false hc]
            go_enter Tryz.func12, Tryz.ntmps12
            have B0 := Below.refl w.heap.size w
            have F1 := Blk.put (w) #[.bool gn, .string gS, .int .i64 ge, .bool gm, .string gT, .int .i64 gf, .int .i64 e, .int .i64 a, .int .i64 d] 28
            replace B0 := B0.alloc B0.size (.cells #[.bool gn, .string gS, .int .i64 ge, .bool gm, .string gT, .int .i64 gf, .int .i64 e, .int .i64 a, .int .i64 d] 28)
            obtain ⟨xF10_0, xF10_1, xF10_2, xF10_3, xF10_4, xF10_5, xF10_6, xF10_7, xF10_8⟩ := F1.ce9
            go_wp2_with fail
            (with_reducible refine (h1 _).mono ?_)
            rintro r w1 ⟨rfl, hb1⟩
            clear xF10_0 xF10_1 xF10_2 xF10_3 xF10_4 xF10_5 xF10_6 xF10_7 xF10_8
            replace F1 := F1.keep hb1
            replace B0 := B0.trans (hb1.mono B0.size)
            clear hb1
            obtain ⟨xF11_0, xF11_1, xF11_2, xF11_3, xF11_4, xF11_5, xF11_6, xF11_7, xF11_8⟩ := F1.ce9
            go_wp2_with fail
            (with_reducible refine (h2 _).mono ?_)
            rintro r w2 ⟨rfl, hb2⟩
            clear xF11_0 xF11_1 xF11_2 xF11_3 xF11_4 xF11_5 xF11_6 xF11_7 xF11_8
            replace F1 := F1.keep hb2
            replace B0 := B0.trans (hb2.mono B0.size)
            clear hb2
            obtain ⟨xF12_0, xF12_1, xF12_2, xF12_3, xF12_4, xF12_5, xF12_6, xF12_7, xF12_8⟩ := F1.ce9
            go_wp2
            go_ret
            exact ⟨rfl, B0⟩
        · rw [decide_eq_false hb]
          go_enter Tryz.func12, Tryz.ntmps12
          have B0 := Below.refl w.heap.size w
          have F1 := Blk.put (w) #[.bool gn, .string gS, .int .i64 ge, .bool gm, .string gT, .int .i64 gf, .int .i64 e, .int .i64 a, .int .i64 d] 28
          replace B0 := B0.alloc B0.size (.cells #[.bool gn, .string gS, .int .i64 ge, .bool gm, .string gT, .int .i64 gf, .int .i64 e, .int .i64 a, .int .i64 d] 28)
          obtain ⟨xF10_0, xF10_1, xF10_2, xF10_3, xF10_4, xF10_5, xF10_6, xF10_7, xF10_8⟩ := F1.ce9
          go_wp2_with fail
          (with_reducible refine (h1 _).mono ?_)
          rintro r w1 ⟨rfl, hb1⟩
          clear xF10_0 xF10_1 xF10_2 xF10_3 xF10_4 xF10_5 xF10_6 xF10_7 xF10_8
          replace F1 := F1.keep hb1
          replace B0 := B0.trans (hb1.mono B0.size)
          clear hb1
          obtain ⟨xF11_0, xF11_1, xF11_2, xF11_3, xF11_4, xF11_5, xF11_6, xF11_7, xF11_8⟩ := F1.ce9
          go_wp2_with fail
          (with_reducible refine (h2 _).mono ?_)
          rintro r w2 ⟨rfl, hb2⟩
          clear xF11_0 xF11_1 xF11_2 xF11_3 xF11_4 xF11_5 xF11_6 xF11_7 xF11_8
          replace F1 := F1.keep hb2
          replace B0 := B0.trans (hb2.mono B0.size)
          clear hb2
          obtain ⟨xF12_0, xF12_1, xF12_2, xF12_3, xF12_4, xF12_5, xF12_6, xF12_7, xF12_8⟩ := F1.ce9
          go_wp2
          go_ret
          exact ⟨rfl, B0⟩
      · rw [decide_eq_false ha]
        go_enter Tryz.func12, Tryz.ntmps12
        have B0 := Below.refl w.heap.size w
        have F1 := Blk.put (w) #[.bool gn, .string gS, .int .i64 ge, .bool gm, .string gT, .int .i64 gf, .int .i64 e, .int .i64 a, .int .i64 d] 28
        replace B0 := B0.alloc B0.size (.cells #[.bool gn, .string gS, .int .i64 ge, .bool gm, .string gT, .int .i64 gf, .int .i64 e, .int .i64 a, .int .i64 d] 28)
        obtain ⟨xF10_0, xF10_1, xF10_2, xF10_3, xF10_4, xF10_5, xF10_6, xF10_7, xF10_8⟩ := F1.ce9
        go_wp2_with fail
        (with_reducible refine (h1 _).mono ?_)
        rintro r w1 ⟨rfl, hb1⟩
        clear xF10_0 xF10_1 xF10_2 xF10_3 xF10_4 xF10_5 xF10_6 xF10_7 xF10_8
        replace F1 := F1.keep hb1
        replace B0 := B0.trans (hb1.mono B0.size)
        clear hb1
        obtain ⟨xF11_0, xF11_1, xF11_2, xF11_3, xF11_4, xF11_5, xF11_6, xF11_7, xF11_8⟩ := F1.ce9
        go_wp2_with fail
        (with_reducible refine (h2 _).mono ?_)
        rintro r w2 ⟨rfl, hb2⟩
        clear xF11_0 xF11_1 xF11_2 xF11_3 xF11_4 xF11_5 xF11_6 xF11_7 xF11_8
        replace F1 := F1.keep hb2
        replace B0 := B0.trans (hb2.mono B0.size)
        clear hb2
        obtain ⟨xF12_0, xF12_1, xF12_2, xF12_3, xF12_4, xF12_5, xF12_6, xF12_7, xF12_8⟩ := F1.ce9
        go_wp2
        go_ret
        exact ⟨rfl, B0⟩

set_option maxRecDepth 10000 in
set_option maxHeartbeats 4000000 in
theorem ron_w (d : DY) (n : Int) (e : Int) (p : DY × Int) (R : DY × Int) (E_p : (mkD n e, mkR n e) = p) (E_R : yAdd d p.1 = R) (w : World) (ok_d : d.ok) (n1 : -549755813888 ≤ n) (n2 : n ≤ 549755813888) (e1 : -10000 ≤ e) (e2 : e ≤ 10000) :
    Calls Tryz.prog 54 #[.agg #[.bool d.n, .string (bstr d.x), .int .i64 d.e], .int .i64 n, .int .i64 e] w fun r w' => r = .returned (.tuple #[.agg #[.bool R.1.n, .string (bstr R.1.x), .int .i64 R.1.e], .int .i64 R.2]) ∧ Below w.heap.size w w' := by
  have ok_p : p.1.ok := E_p ▸ mkD_ok _ _
  have h1 := fun W => rcof n e W (by omega) (by omega) (by omega) (by omega)
  rw [E_p] at h1
  have h2 := fun W => rcadd d p.1 W ok_d ok_p
  rw [E_R] at h2
  clear E_p E_R ok_p ok_d
  obtain ⟨dn, dX, de⟩ := d
  obtain ⟨⟨pn, pX, pe⟩, pr⟩ := p
  obtain ⟨⟨Rn, RX, Re⟩, Rr⟩ := R
  dsimp only at *
  generalize bstr dX = dS at *
  generalize bstr pX = pS at *
  generalize bstr RX = RS at *
  clear n1 n2 e1 e2
  go_enter Tryz.func54, Tryz.ntmps54
  have B0 := Below.refl w.heap.size w
  have F3 := Blk.put (w) #[.bool dn, .string dS, .int .i64 de] 24
  replace B0 := B0.alloc B0.size (.cells #[.bool dn, .string dS, .int .i64 de] 24)
  have q_w_F6 : Hid (w.heap.size ≤ w.heap.size + 1) := Lib.hid (by omega)
  replace F3 := F3.allocd (.cells #[.bool false, .string { data := #[] }, .int .i64 0] 24)
  have F6 := Blk.put ((w).alloc (.cells #[.bool dn, .string dS, .int .i64 de] 24)) #[.bool false, .string { data := #[] }, .int .i64 0] 24
  rw [show ((w).alloc (.cells #[.bool dn, .string dS, .int .i64 de] 24)).heap.size = w.heap.size + 1 by simp] at F6
  replace B0 := B0.alloc B0.size (.cells #[.bool false, .string { data := #[] }, .int .i64 0] 24)
  go_wp2_with fail
  (with_reducible refine (h1 _).mono ?_)
  rintro r w1 ⟨rfl, hb1⟩
  replace F3 := F3.keep hb1
  replace F6 := F6.keep hb1
  replace B0 := B0.trans (hb1.mono B0.size)
  clear hb1
  replace F3 := F3.allocd (.cells #[.bool pn, .string pS, .int .i64 pe] 24)
  replace F6 := F6.allocd (.cells #[.bool pn, .string pS, .int .i64 pe] 24)
  have F8 := Blk.put (w1) #[.bool pn, .string pS, .int .i64 pe] 24
  replace B0 := B0.alloc B0.size (.cells #[.bool pn, .string pS, .int .i64 pe] 24)
  obtain ⟨xF31_0, xF31_1, xF31_2⟩ := F3.ce3
  obtain ⟨xF81_0, xF81_1, xF81_2⟩ := F8.ce3
  go_wp2_with fail
  (with_reducible refine (h2 _).mono ?_)
  rintro r w2 ⟨rfl, hb2⟩
  clear xF31_0 xF31_1 xF31_2 xF81_0 xF81_1 xF81_2
  replace F3 := F3.keep hb2
  replace F6 := F6.keep hb2
  replace F8 := F8.keep hb2
  replace B0 := B0.trans (hb2.mono B0.size)
  clear hb2
  obtain ⟨xF62_0, xF62_1, xF62_2⟩ := F6.ce3
  obtain ⟨xF62_0f, xF62_1f, xF62_2f⟩ := F6.fr3
  clear F3
  clear F8
  replace F6 : Blk ((((w2).setCell ⟨w.heap.size + 1, 0, none⟩ (.bool Rn)).setCell ⟨w.heap.size + 1, 1, none⟩ (.string RS)).setCell ⟨w.heap.size + 1, 2, none⟩ (.int .i64 Re)) (w.heap.size + 1) #[.bool Rn, .string RS, .int .i64 Re] 24 := (((F6.setAt 0 (.bool Rn)).setAt 1 (.string RS)).setAt 2 (.int .i64 Re))
  replace B0 := (((B0.setCell (p := ⟨w.heap.size + 1, 0, none⟩) q_w_F6.out (.bool Rn)).setCell (p := ⟨w.heap.size + 1, 1, none⟩) q_w_F6.out (.string RS)).setCell (p := ⟨w.heap.size + 1, 2, none⟩) q_w_F6.out (.int .i64 Re))
  obtain ⟨xF63_0, xF63_1, xF63_2⟩ := F6.ce3
  go_wp2
  exact bodyPost_ret (v := .tuple #[.agg #[.bool Rn, .string RS, .int .i64 Re], .int .i64 Rr]) (by simp [results, Tryz.results54, go_sem, xF63_0, xF63_1, xF63_2]) rfl ⟨rfl, B0⟩

theorem ron (d : DY) (n e : Int) (w : World) (hd : d.ok) (n1 : -549755813888 ≤ n) (n2 : n ≤ 549755813888) (e1 : -10000 ≤ e) (e2 : e ≤ 10000) :
    Calls Tryz.prog 54 #[.agg #[.bool d.n, .string (bstr d.x), .int .i64 d.e], .int .i64 n, .int .i64 e] w fun r w' => r = .returned (.tuple #[.agg #[.bool (vM d n e).1.n, .string (bstr (vM d n e).1.x), .int .i64 (vM d n e).1.e], .int .i64 (vM d n e).2]) ∧ Below w.heap.size w w' :=
  ron_w d n e _ _ rfl rfl w hd n1 n2 e1 e2

set_option maxRecDepth 10000 in
set_option maxHeartbeats 4000000 in
theorem rbelow_w (d : DY) (n : Int) (e : Int) (p : DY × Int) (K : Int) (E_p : (mkD n e, mkR n e) = p) (E_K : yCmp d p.1 = K) (w : World) (ok_d : d.ok) (n1 : -549755813888 ≤ n) (n2 : n ≤ 549755813888) (e1 : -10000 ≤ e) (e2 : e ≤ 10000) :
    Calls Tryz.prog 57 #[.agg #[.bool d.n, .string (bstr d.x), .int .i64 d.e], .int .i64 n, .int .i64 e] w fun r w' => r = .returned (.bool (decide (K ≤ 0))) ∧ Below w.heap.size w w' := by
  have ok_p : p.1.ok := E_p ▸ mkD_ok _ _
  have h1 := fun W => rcof n e W (by omega) (by omega) (by omega) (by omega)
  rw [E_p] at h1
  have h2 := fun W => rccmp d p.1 W ok_d ok_p
  rw [E_K] at h2
  clear E_p E_K ok_p ok_d
  obtain ⟨dn, dX, de⟩ := d
  obtain ⟨⟨pn, pX, pe⟩, pr⟩ := p
  dsimp only at *
  generalize bstr dX = dS at *
  generalize bstr pX = pS at *
  clear n1 n2 e1 e2
  go_enter Tryz.func57, Tryz.ntmps57
  have B0 := Below.refl w.heap.size w
  have F3 := Blk.put (w) #[.bool dn, .string dS, .int .i64 de] 24
  replace B0 := B0.alloc B0.size (.cells #[.bool dn, .string dS, .int .i64 de] 24)
  go_wp2_with fail
  (with_reducible refine (h1 _).mono ?_)
  rintro r w1 ⟨rfl, hb1⟩
  replace F3 := F3.keep hb1
  replace B0 := B0.trans (hb1.mono B0.size)
  clear hb1
  replace F3 := F3.allocd (.cells #[.bool pn, .string pS, .int .i64 pe] 24)
  have F7 := Blk.put (w1) #[.bool pn, .string pS, .int .i64 pe] 24
  replace B0 := B0.alloc B0.size (.cells #[.bool pn, .string pS, .int .i64 pe] 24)
  obtain ⟨xF31_0, xF31_1, xF31_2⟩ := F3.ce3
  obtain ⟨xF71_0, xF71_1, xF71_2⟩ := F7.ce3
  go_wp2_with fail
  (with_reducible refine (h2 _).mono ?_)
  rintro r w2 ⟨rfl, hb2⟩
  clear xF31_0 xF31_1 xF31_2 xF71_0 xF71_1 xF71_2
  replace F3 := F3.keep hb2
  replace F7 := F7.keep hb2
  replace B0 := B0.trans (hb2.mono B0.size)
  clear hb2
  go_wp2
  go_ret
  exact ⟨rfl, B0⟩

theorem rbelow (d : DY) (n e : Int) (w : World) (hd : d.ok) (n1 : -549755813888 ≤ n) (n2 : n ≤ 549755813888) (e1 : -10000 ≤ e) (e2 : e ≤ 10000) :
    Calls Tryz.prog 57 #[.agg #[.bool d.n, .string (bstr d.x), .int .i64 d.e], .int .i64 n, .int .i64 e] w fun r w' => r = .returned (.bool (decide (yCmp d (mkD n e) ≤ 0))) ∧ Below w.heap.size w w' :=
  rbelow_w d n e _ _ rfl rfl w hd n1 n2 e1 e2

theorem Blk.far7 {w : World} {b' b : Nat} {cs : Array Value} {t : TypeId} (h : Blk w b' cs t) (hne : b' ≠ b) (v0 v1 v2 v3 v4 v5 v6 : Value) : Blk ((((((((w).setCell ⟨b, 0, none⟩ v0).setCell ⟨b, 1, none⟩ v1).setCell ⟨b, 2, none⟩ v2).setCell ⟨b, 3, none⟩ v3).setCell ⟨b, 4, none⟩ v4).setCell ⟨b, 5, none⟩ v5).setCell ⟨b, 6, none⟩ v6) b' cs t :=
  (((((((h.far 0 v0 hne).far 1 v1 hne).far 2 v2 hne).far 3 v3 hne).far 4 v4 hne).far 5 v5 hne).far 6 v6 hne)
theorem Blk.put7 {w : World} {b : Nat} {u0 u1 u2 u3 u4 u5 u6 : Value} {t : TypeId} (h : Blk w b #[u0, u1, u2, u3, u4, u5, u6] t) (v0 v1 v2 v3 v4 v5 v6 : Value) : Blk ((((((((w).setCell ⟨b, 0, none⟩ v0).setCell ⟨b, 1, none⟩ v1).setCell ⟨b, 2, none⟩ v2).setCell ⟨b, 3, none⟩ v3).setCell ⟨b, 4, none⟩ v4).setCell ⟨b, 5, none⟩ v5).setCell ⟨b, 6, none⟩ v6) b #[v0, v1, v2, v3, v4, v5, v6] t := by
  replace h : Blk ((w).setCell ⟨b, 0, none⟩ v0) b #[v0, u1, u2, u3, u4, u5, u6] t := h.setAt 0 v0
  replace h : Blk (((w).setCell ⟨b, 0, none⟩ v0).setCell ⟨b, 1, none⟩ v1) b #[v0, v1, u2, u3, u4, u5, u6] t := h.setAt 1 v1
  replace h : Blk ((((w).setCell ⟨b, 0, none⟩ v0).setCell ⟨b, 1, none⟩ v1).setCell ⟨b, 2, none⟩ v2) b #[v0, v1, v2, u3, u4, u5, u6] t := h.setAt 2 v2
  replace h : Blk (((((w).setCell ⟨b, 0, none⟩ v0).setCell ⟨b, 1, none⟩ v1).setCell ⟨b, 2, none⟩ v2).setCell ⟨b, 3, none⟩ v3) b #[v0, v1, v2, v3, u4, u5, u6] t := h.setAt 3 v3
  replace h : Blk ((((((w).setCell ⟨b, 0, none⟩ v0).setCell ⟨b, 1, none⟩ v1).setCell ⟨b, 2, none⟩ v2).setCell ⟨b, 3, none⟩ v3).setCell ⟨b, 4, none⟩ v4) b #[v0, v1, v2, v3, v4, u5, u6] t := h.setAt 4 v4
  replace h : Blk (((((((w).setCell ⟨b, 0, none⟩ v0).setCell ⟨b, 1, none⟩ v1).setCell ⟨b, 2, none⟩ v2).setCell ⟨b, 3, none⟩ v3).setCell ⟨b, 4, none⟩ v4).setCell ⟨b, 5, none⟩ v5) b #[v0, v1, v2, v3, v4, v5, u6] t := h.setAt 5 v5
  replace h : Blk ((((((((w).setCell ⟨b, 0, none⟩ v0).setCell ⟨b, 1, none⟩ v1).setCell ⟨b, 2, none⟩ v2).setCell ⟨b, 3, none⟩ v3).setCell ⟨b, 4, none⟩ v4).setCell ⟨b, 5, none⟩ v5).setCell ⟨b, 6, none⟩ v6) b #[v0, v1, v2, v3, v4, v5, v6] t := h.setAt 6 v6
  exact h
theorem below_put7 {B b : Nat} {w' w : World} (h : Below B w' w) (hb : B ≤ b) (v0 v1 v2 v3 v4 v5 v6 : Value) : Below B w' ((((((((w).setCell ⟨b, 0, none⟩ v0).setCell ⟨b, 1, none⟩ v1).setCell ⟨b, 2, none⟩ v2).setCell ⟨b, 3, none⟩ v3).setCell ⟨b, 4, none⟩ v4).setCell ⟨b, 5, none⟩ v5).setCell ⟨b, 6, none⟩ v6) :=
  (((((((h.setCell (p := ⟨b, 0, none⟩) hb v0).setCell (p := ⟨b, 1, none⟩) hb v1).setCell (p := ⟨b, 2, none⟩) hb v2).setCell (p := ⟨b, 3, none⟩) hb v3).setCell (p := ⟨b, 4, none⟩) hb v4).setCell (p := ⟨b, 5, none⟩) hb v5).setCell (p := ⟨b, 6, none⟩) hb v6)
set_option maxRecDepth 10000 in
set_option maxHeartbeats 4000000 in
theorem rcell_1 (g : GY) (e : Int) (a : Int) (d : Int) (c : Int) (r : Int) (p : DY × Int) (q : DY × Int) (E_p : vM g.re (2 * c - a) (e - 1) = p) (E_q : vM g.im (d - 2 * r - 2) (e - 1) = q) (w : World) (ok_g : g.ok) (e1 : -4096 ≤ e) (e2 : e ≤ 4096) (a1 : 1 ≤ a) (a2 : a ≤ 65536) (d1 : 1 ≤ d) (d2 : d ≤ 65536) (c1 : 0 ≤ c) (c2 : c < a) (r1 : 0 ≤ r) (r2 : r < d) (h_p : ¬ p.2 = 0) :
    Calls Tryz.prog 14 #[.agg #[.bool g.re.n, .string (bstr g.re.x), .int .i64 g.re.e, .bool g.im.n, .string (bstr g.im.x), .int .i64 g.im.e, .int .i64 e, .int .i64 a, .int .i64 d], .int .i64 c, .int .i64 r] w fun r w' => r = .returned (.tuple #[.agg #[.bool false, .string { data := #[] }, .int .i64 0, .bool false, .string { data := #[] }, .int .i64 0, .int .i64 0], .int .i64 4]) ∧ Below w.heap.size w w' := by
  have h1 := fun W => ron g.re (2 * c - a) (e - 1) W ok_g.1 (by omega) (by omega) (by omega) (by omega)
  rw [E_p] at h1
  have h2 := fun W => ron g.im (d - 2 * r - 2) (e - 1) W ok_g.2 (by omega) (by omega) (by omega) (by omega)
  rw [E_q] at h2
  clear E_p E_q ok_g
  obtain ⟨⟨gn, gX, ge⟩, ⟨gm, gY, gf⟩⟩ := g
  obtain ⟨⟨pn, pX, pe⟩, pr⟩ := p
  obtain ⟨⟨qn, qX, qe⟩, qr⟩ := q
  dsimp only at *
  generalize bstr gX = gS at *
  generalize bstr gY = gT at *
  generalize bstr pX = pS at *
  generalize bstr qX = qS at *
  have hu : (pr != 0) = true := by simpa using h_p
  clear h_p
  go_enter Tryz.func14, Tryz.ntmps14
  have B0 := Below.refl w.heap.size w
  have F3 := Blk.put (w) #[.bool gn, .string gS, .int .i64 ge, .bool gm, .string gT, .int .i64 gf, .int .i64 e, .int .i64 a, .int .i64 d] 28
  replace B0 := B0.alloc B0.size (.cells #[.bool gn, .string gS, .int .i64 ge, .bool gm, .string gT, .int .i64 gf, .int .i64 e, .int .i64 a, .int .i64 d] 28)
  have q_w_F6 : Hid (w.heap.size ≤ w.heap.size + 1) := Lib.hid (by omega)
  replace F3 := F3.allocd (.cells #[.bool false, .string { data := #[] }, .int .i64 0, .bool false, .string { data := #[] }, .int .i64 0, .int .i64 0] 30)
  have F6 := Blk.put ((w).alloc (.cells #[.bool gn, .string gS, .int .i64 ge, .bool gm, .string gT, .int .i64 gf, .int .i64 e, .int .i64 a, .int .i64 d] 28)) #[.bool false, .string { data := #[] }, .int .i64 0, .bool false, .string { data := #[] }, .int .i64 0, .int .i64 0] 30
  rw [show ((w).alloc (.cells #[.bool gn, .string gS, .int .i64 ge, .bool gm, .string gT, .int .i64 gf, .int .i64 e, .int .i64 a, .int .i64 d] 28)).heap.size = w.heap.size + 1 by simp] at F6
  replace B0 := B0.alloc B0.size (.cells #[.bool false, .string { data := #[] }, .int .i64 0, .bool false, .string { data := #[] }, .int .i64 0, .int .i64 0] 30)
  obtain ⟨xF30_0, xF30_1, xF30_2, xF30_3, xF30_4, xF30_5, xF30_6, xF30_7, xF30_8⟩ := F3.ce9
  go_wp2_with fail
  (with_reducible refine (h1 _).mono ?_)
  rintro r w1 ⟨rfl, hb1⟩
  clear xF30_0 xF30_1 xF30_2 xF30_3 xF30_4 xF30_5 xF30_6 xF30_7 xF30_8
  replace F3 := F3.keep hb1
  replace F6 := F6.keep hb1
  replace B0 := B0.trans (hb1.mono B0.size)
  clear hb1
  replace F3 := F3.allocd (.cells #[.bool pn, .string pS, .int .i64 pe] 24)
  replace F6 := F6.allocd (.cells #[.bool pn, .string pS, .int .i64 pe] 24)
  replace B0 := B0.alloc B0.size (.cells #[.bool pn, .string pS, .int .i64 pe] 24)
  obtain ⟨xF31_0, xF31_1, xF31_2, xF31_3, xF31_4, xF31_5, xF31_6, xF31_7, xF31_8⟩ := F3.ce9
  go_wp2_with fail
  (with_reducible refine (h2 _).mono ?_)
  rintro r w2 ⟨rfl, hb2⟩
  clear xF31_0 xF31_1 xF31_2 xF31_3 xF31_4 xF31_5 xF31_6 xF31_7 xF31_8
  replace F3 := F3.keep hb2
  replace F6 := F6.keep hb2
  replace B0 := B0.trans (hb2.mono B0.size)
  clear hb2
  clear F3
  replace F6 := F6.allocd (.cells #[.bool qn, .string qS, .int .i64 qe] 24)
  replace B0 := B0.alloc B0.size (.cells #[.bool qn, .string qS, .int .i64 qe] 24)
  obtain ⟨xF62_0, xF62_1, xF62_2, xF62_3, xF62_4, xF62_5, xF62_6⟩ := F6.ce7
  obtain ⟨xF62_0f, xF62_1f, xF62_2f, xF62_3f, xF62_4f, xF62_5f, xF62_6f⟩ := F6.fr7
  replace F6 := F6.put7 (.bool false) (.string { data := #[] }) (.int .i64 0) (.bool false) (.string { data := #[] }) (.int .i64 0) (.int .i64 0)
  replace B0 := below_put7 B0 q_w_F6.out (.bool false) (.string { data := #[] }) (.int .i64 0) (.bool false) (.string { data := #[] }) (.int .i64 0) (.int .i64 0)
  obtain ⟨xF63_0, xF63_1, xF63_2, xF63_3, xF63_4, xF63_5, xF63_6⟩ := F6.ce7
  go_wp2
  exact bodyPost_ret (v := .tuple #[.agg #[.bool false, .string { data := #[] }, .int .i64 0, .bool false, .string { data := #[] }, .int .i64 0, .int .i64 0], .int .i64 4]) (by simp [results, Tryz.results14, go_sem, xF63_0, xF63_1, xF63_2, xF63_3, xF63_4, xF63_5, xF63_6]) rfl ⟨rfl, B0⟩

set_option maxRecDepth 10000 in
set_option maxHeartbeats 4000000 in
theorem rcell_2 (g : GY) (e : Int) (a : Int) (d : Int) (c : Int) (r : Int) (p : DY × Int) (q : DY × Int) (E_p : vM g.re (2 * c - a) (e - 1) = p) (E_q : vM g.im (d - 2 * r - 2) (e - 1) = q) (w : World) (ok_g : g.ok) (e1 : -4096 ≤ e) (e2 : e ≤ 4096) (a1 : 1 ≤ a) (a2 : a ≤ 65536) (d1 : 1 ≤ d) (d2 : d ≤ 65536) (c1 : 0 ≤ c) (c2 : c < a) (r1 : 0 ≤ r) (r2 : r < d) (h_p : p.2 = 0) (h_q : ¬ q.2 = 0) :
    Calls Tryz.prog 14 #[.agg #[.bool g.re.n, .string (bstr g.re.x), .int .i64 g.re.e, .bool g.im.n, .string (bstr g.im.x), .int .i64 g.im.e, .int .i64 e, .int .i64 a, .int .i64 d], .int .i64 c, .int .i64 r] w fun r w' => r = .returned (.tuple #[.agg #[.bool false, .string { data := #[] }, .int .i64 0, .bool false, .string { data := #[] }, .int .i64 0, .int .i64 0], .int .i64 4]) ∧ Below w.heap.size w w' := by
  have h1 := fun W => ron g.re (2 * c - a) (e - 1) W ok_g.1 (by omega) (by omega) (by omega) (by omega)
  rw [E_p] at h1
  have h2 := fun W => ron g.im (d - 2 * r - 2) (e - 1) W ok_g.2 (by omega) (by omega) (by omega) (by omega)
  rw [E_q] at h2
  clear E_p E_q ok_g
  obtain ⟨⟨gn, gX, ge⟩, ⟨gm, gY, gf⟩⟩ := g
  obtain ⟨⟨pn, pX, pe⟩, pr⟩ := p
  obtain ⟨⟨qn, qX, qe⟩, qr⟩ := q
  dsimp only at *
  generalize bstr gX = gS at *
  generalize bstr gY = gT at *
  generalize bstr pX = pS at *
  generalize bstr qX = qS at *
  have hu : (pr != 0) = false := by simp [h_p]
  have hv : (qr != 0) = true := by simpa using h_q
  clear h_p h_q
  go_enter Tryz.func14, Tryz.ntmps14
  have B0 := Below.refl w.heap.size w
  have F3 := Blk.put (w) #[.bool gn, .string gS, .int .i64 ge, .bool gm, .string gT, .int .i64 gf, .int .i64 e, .int .i64 a, .int .i64 d] 28
  replace B0 := B0.alloc B0.size (.cells #[.bool gn, .string gS, .int .i64 ge, .bool gm, .string gT, .int .i64 gf, .int .i64 e, .int .i64 a, .int .i64 d] 28)
  have q_w_F6 : Hid (w.heap.size ≤ w.heap.size + 1) := Lib.hid (by omega)
  replace F3 := F3.allocd (.cells #[.bool false, .string { data := #[] }, .int .i64 0, .bool false, .string { data := #[] }, .int .i64 0, .int .i64 0] 30)
  have F6 := Blk.put ((w).alloc (.cells #[.bool gn, .string gS, .int .i64 ge, .bool gm, .string gT, .int .i64 gf, .int .i64 e, .int .i64 a, .int .i64 d] 28)) #[.bool false, .string { data := #[] }, .int .i64 0, .bool false, .string { data := #[] }, .int .i64 0, .int .i64 0] 30
  rw [show ((w).alloc (.cells #[.bool gn, .string gS, .int .i64 ge, .bool gm, .string gT, .int .i64 gf, .int .i64 e, .int .i64 a, .int .i64 d] 28)).heap.size = w.heap.size + 1 by simp] at F6
  replace B0 := B0.alloc B0.size (.cells #[.bool false, .string { data := #[] }, .int .i64 0, .bool false, .string { data := #[] }, .int .i64 0, .int .i64 0] 30)
  obtain ⟨xF30_0, xF30_1, xF30_2, xF30_3, xF30_4, xF30_5, xF30_6, xF30_7, xF30_8⟩ := F3.ce9
  go_wp2_with fail
  (with_reducible refine (h1 _).mono ?_)
  rintro r w1 ⟨rfl, hb1⟩
  clear xF30_0 xF30_1 xF30_2 xF30_3 xF30_4 xF30_5 xF30_6 xF30_7 xF30_8
  replace F3 := F3.keep hb1
  replace F6 := F6.keep hb1
  replace B0 := B0.trans (hb1.mono B0.size)
  clear hb1
  replace F3 := F3.allocd (.cells #[.bool pn, .string pS, .int .i64 pe] 24)
  replace F6 := F6.allocd (.cells #[.bool pn, .string pS, .int .i64 pe] 24)
  replace B0 := B0.alloc B0.size (.cells #[.bool pn, .string pS, .int .i64 pe] 24)
  obtain ⟨xF31_0, xF31_1, xF31_2, xF31_3, xF31_4, xF31_5, xF31_6, xF31_7, xF31_8⟩ := F3.ce9
  go_wp2_with fail
  (with_reducible refine (h2 _).mono ?_)
  rintro r w2 ⟨rfl, hb2⟩
  clear xF31_0 xF31_1 xF31_2 xF31_3 xF31_4 xF31_5 xF31_6 xF31_7 xF31_8
  replace F3 := F3.keep hb2
  replace F6 := F6.keep hb2
  replace B0 := B0.trans (hb2.mono B0.size)
  clear hb2
  clear F3
  replace F6 := F6.allocd (.cells #[.bool qn, .string qS, .int .i64 qe] 24)
  replace B0 := B0.alloc B0.size (.cells #[.bool qn, .string qS, .int .i64 qe] 24)
  obtain ⟨xF62_0, xF62_1, xF62_2, xF62_3, xF62_4, xF62_5, xF62_6⟩ := F6.ce7
  obtain ⟨xF62_0f, xF62_1f, xF62_2f, xF62_3f, xF62_4f, xF62_5f, xF62_6f⟩ := F6.fr7
  replace F6 := F6.put7 (.bool false) (.string { data := #[] }) (.int .i64 0) (.bool false) (.string { data := #[] }) (.int .i64 0) (.int .i64 0)
  replace B0 := below_put7 B0 q_w_F6.out (.bool false) (.string { data := #[] }) (.int .i64 0) (.bool false) (.string { data := #[] }) (.int .i64 0) (.int .i64 0)
  obtain ⟨xF63_0, xF63_1, xF63_2, xF63_3, xF63_4, xF63_5, xF63_6⟩ := F6.ce7
  go_wp2
  exact bodyPost_ret (v := .tuple #[.agg #[.bool false, .string { data := #[] }, .int .i64 0, .bool false, .string { data := #[] }, .int .i64 0, .int .i64 0], .int .i64 4]) (by simp [results, Tryz.results14, go_sem, xF63_0, xF63_1, xF63_2, xF63_3, xF63_4, xF63_5, xF63_6]) rfl ⟨rfl, B0⟩

set_option maxRecDepth 10000 in
set_option maxHeartbeats 4000000 in
theorem rcell_3 (g : GY) (e : Int) (a : Int) (d : Int) (c : Int) (r : Int) (p : DY × Int) (q : DY × Int) (E_p : vM g.re (2 * c - a) (e - 1) = p) (E_q : vM g.im (d - 2 * r - 2) (e - 1) = q) (w : World) (ok_g : g.ok) (e1 : -4096 ≤ e) (e2 : e ≤ 4096) (a1 : 1 ≤ a) (a2 : a ≤ 65536) (d1 : 1 ≤ d) (d2 : d ≤ 65536) (c1 : 0 ≤ c) (c2 : c < a) (r1 : 0 ≤ r) (r2 : r < d) (h_p : p.2 = 0) (h_q : q.2 = 0) :
    Calls Tryz.prog 14 #[.agg #[.bool g.re.n, .string (bstr g.re.x), .int .i64 g.re.e, .bool g.im.n, .string (bstr g.im.x), .int .i64 g.im.e, .int .i64 e, .int .i64 a, .int .i64 d], .int .i64 c, .int .i64 r] w fun r w' => r = .returned (.tuple #[.agg #[.bool p.1.n, .string (bstr p.1.x), .int .i64 p.1.e, .bool q.1.n, .string (bstr q.1.x), .int .i64 q.1.e, .int .i64 e], .int .i64 0]) ∧ Below w.heap.size w w' := by
  have h1 := fun W => ron g.re (2 * c - a) (e - 1) W ok_g.1 (by omega) (by omega) (by omega) (by omega)
  rw [E_p] at h1
  have h2 := fun W => ron g.im (d - 2 * r - 2) (e - 1) W ok_g.2 (by omega) (by omega) (by omega) (by omega)
  rw [E_q] at h2
  clear E_p E_q ok_g
  obtain ⟨⟨gn, gX, ge⟩, ⟨gm, gY, gf⟩⟩ := g
  obtain ⟨⟨pn, pX, pe⟩, pr⟩ := p
  obtain ⟨⟨qn, qX, qe⟩, qr⟩ := q
  dsimp only at *
  generalize bstr gX = gS at *
  generalize bstr gY = gT at *
  generalize bstr pX = pS at *
  generalize bstr qX = qS at *
  have hu : (pr != 0) = false := by simp [h_p]
  have hv : (qr != 0) = false := by simp [h_q]
  clear h_p h_q
  go_enter Tryz.func14, Tryz.ntmps14
  have B0 := Below.refl w.heap.size w
  have F3 := Blk.put (w) #[.bool gn, .string gS, .int .i64 ge, .bool gm, .string gT, .int .i64 gf, .int .i64 e, .int .i64 a, .int .i64 d] 28
  replace B0 := B0.alloc B0.size (.cells #[.bool gn, .string gS, .int .i64 ge, .bool gm, .string gT, .int .i64 gf, .int .i64 e, .int .i64 a, .int .i64 d] 28)
  have q_F3_F6 := Lib.hid (show w.heap.size < w.heap.size + 1 by omega)
  have q_w_F6 : Hid (w.heap.size ≤ w.heap.size + 1) := Lib.hid (by omega)
  replace F3 := F3.allocd (.cells #[.bool false, .string { data := #[] }, .int .i64 0, .bool false, .string { data := #[] }, .int .i64 0, .int .i64 0] 30)
  have F6 := Blk.put ((w).alloc (.cells #[.bool gn, .string gS, .int .i64 ge, .bool gm, .string gT, .int .i64 gf, .int .i64 e, .int .i64 a, .int .i64 d] 28)) #[.bool false, .string { data := #[] }, .int .i64 0, .bool false, .string { data := #[] }, .int .i64 0, .int .i64 0] 30
  rw [show ((w).alloc (.cells #[.bool gn, .string gS, .int .i64 ge, .bool gm, .string gT, .int .i64 gf, .int .i64 e, .int .i64 a, .int .i64 d] 28)).heap.size = w.heap.size + 1 by simp] at F6
  replace B0 := B0.alloc B0.size (.cells #[.bool false, .string { data := #[] }, .int .i64 0, .bool false, .string { data := #[] }, .int .i64 0, .int .i64 0] 30)
  obtain ⟨xF30_0, xF30_1, xF30_2, xF30_3, xF30_4, xF30_5, xF30_6, xF30_7, xF30_8⟩ := F3.ce9
  go_wp2_with fail
  (with_reducible refine (h1 _).mono ?_)
  rintro r w1 ⟨rfl, hb1⟩
  clear xF30_0 xF30_1 xF30_2 xF30_3 xF30_4 xF30_5 xF30_6 xF30_7 xF30_8
  replace F3 := F3.keep hb1
  replace F6 := F6.keep hb1
  replace B0 := B0.trans (hb1.mono B0.size)
  clear hb1
  have q_F6_F8 : Hid (w.heap.size + 1 < w1.heap.size) := Lib.hid (by have := F6.lt; first | exact this | omega | (simp; done) | simpa using this)
  replace F3 := F3.allocd (.cells #[.bool pn, .string pS, .int .i64 pe] 24)
  replace F6 := F6.allocd (.cells #[.bool pn, .string pS, .int .i64 pe] 24)
  have F8 := Blk.put (w1) #[.bool pn, .string pS, .int .i64 pe] 24
  replace B0 := B0.alloc B0.size (.cells #[.bool pn, .string pS, .int .i64 pe] 24)
  obtain ⟨xF31_0, xF31_1, xF31_2, xF31_3, xF31_4, xF31_5, xF31_6, xF31_7, xF31_8⟩ := F3.ce9
  go_wp2_with fail
  (with_reducible refine (h2 _).mono ?_)
  rintro r w2 ⟨rfl, hb2⟩
  clear xF31_0 xF31_1 xF31_2 xF31_3 xF31_4 xF31_5 xF31_6 xF31_7 xF31_8
  replace F3 := F3.keep hb2
  replace F6 := F6.keep hb2
  replace F8 := F8.keep hb2
  replace B0 := B0.trans (hb2.mono B0.size)
  clear hb2
  have q_F6_F10 : Hid (w.heap.size + 1 < w2.heap.size) := Lib.hid (by have := F6.lt; first | exact this | omega | (simp; done) | simpa using this)
  replace F3 := F3.allocd (.cells #[.bool qn, .string qS, .int .i64 qe] 24)
  replace F6 := F6.allocd (.cells #[.bool qn, .string qS, .int .i64 qe] 24)
  replace F8 := F8.allocd (.cells #[.bool qn, .string qS, .int .i64 qe] 24)
  have F10 := Blk.put (w2) #[.bool qn, .string qS, .int .i64 qe] 24
  replace B0 := B0.alloc B0.size (.cells #[.bool qn, .string qS, .int .i64 qe] 24)
  obtain ⟨xF82_0, xF82_1, xF82_2⟩ := F8.ce3
  obtain ⟨xF102_0, xF102_1, xF102_2⟩ := F10.ce3
  obtain ⟨xF32_0, xF32_1, xF32_2, xF32_3, xF32_4, xF32_5, xF32_6, xF32_7, xF32_8⟩ := F3.ce9
  obtain ⟨xF62_0, xF62_1, xF62_2, xF62_3, xF62_4, xF62_5, xF62_6⟩ := F6.ce7
  obtain ⟨xF62_0f, xF62_1f, xF62_2f, xF62_3f, xF62_4f, xF62_5f, xF62_6f⟩ := F6.fr7
  replace F3 := F3.far7 (Nat.ne_of_lt q_F3_F6.out) (.bool pn) (.string pS) (.int .i64 pe) (.bool qn) (.string qS) (.int .i64 qe) (.int .i64 e)
  replace F8 := F8.far7 (Nat.ne_of_gt q_F6_F8.out) (.bool pn) (.string pS) (.int .i64 pe) (.bool qn) (.string qS) (.int .i64 qe) (.int .i64 e)
  replace F10 := F10.far7 (Nat.ne_of_gt q_F6_F10.out) (.bool pn) (.string pS) (.int .i64 pe) (.bool qn) (.string qS) (.int .i64 qe) (.int .i64 e)
  replace F6 := F6.put7 (.bool pn) (.string pS) (.int .i64 pe) (.bool qn) (.string qS) (.int .i64 qe) (.int .i64 e)
  replace B0 := below_put7 B0 q_w_F6.out (.bool pn) (.string pS) (.int .i64 pe) (.bool qn) (.string qS) (.int .i64 qe) (.int .i64 e)
  obtain ⟨xF63_0, xF63_1, xF63_2, xF63_3, xF63_4, xF63_5, xF63_6⟩ := F6.ce7
  go_wp2
  exact bodyPost_ret (v := .tuple #[.agg #[.bool pn, .string pS, .int .i64 pe, .bool qn, .string qS, .int .i64 qe, .int .i64 e], .int .i64 0]) (by simp [results, Tryz.results14, go_sem, xF63_0, xF63_1, xF63_2, xF63_3, xF63_4, xF63_5, xF63_6]) rfl ⟨rfl, B0⟩

theorem rcell (g : GY) (e a d c r : Int) (w : World) (hg : g.ok) (e1 : -4096 ≤ e) (e2 : e ≤ 4096) (a1 : 1 ≤ a) (a2 : a ≤ 65536) (d1 : 1 ≤ d) (d2 : d ≤ 65536) (c1 : 0 ≤ c) (c2 : c < a) (r1 : 0 ≤ r) (r2 : r < d) :
    Calls Tryz.prog 14 #[.agg #[.bool g.re.n, .string (bstr g.re.x), .int .i64 g.re.e, .bool g.im.n, .string (bstr g.im.x), .int .i64 g.im.e, .int .i64 e, .int .i64 a, .int .i64 d], .int .i64 c, .int .i64 r] w fun r' w' => r' = .returned (.tuple #[.agg #[.bool (sB (vM g.re (2 * c - a) (e - 1)) (vM g.im (d - 2 * r - 2) (e - 1)) e).1.l.n, .string (bstr (sB (vM g.re (2 * c - a) (e - 1)) (vM g.im (d - 2 * r - 2) (e - 1)) e).1.l.x), .int .i64 (sB (vM g.re (2 * c - a) (e - 1)) (vM g.im (d - 2 * r - 2) (e - 1)) e).1.l.e, .bool (sB (vM g.re (2 * c - a) (e - 1)) (vM g.im (d - 2 * r - 2) (e - 1)) e).1.b.n, .string (bstr (sB (vM g.re (2 * c - a) (e - 1)) (vM g.im (d - 2 * r - 2) (e - 1)) e).1.b.x), .int .i64 (sB (vM g.re (2 * c - a) (e - 1)) (vM g.im (d - 2 * r - 2) (e - 1)) e).1.b.e, .int .i64 (sB (vM g.re (2 * c - a) (e - 1)) (vM g.im (d - 2 * r - 2) (e - 1)) e).1.e], .int .i64 (sB (vM g.re (2 * c - a) (e - 1)) (vM g.im (d - 2 * r - 2) (e - 1)) e).2]) ∧ Below w.heap.size w w' := by
  by_cases hp : (vM g.re (2 * c - a) (e - 1)).2 = 0
  · by_cases hq : (vM g.im (d - 2 * r - 2) (e - 1)).2 = 0
    · rw [sB_yes hp hq]
      exact rcell_3 g e a d c r _ _ rfl rfl w hg e1 e2 a1 a2 d1 d2 c1 c2 r1 r2 hp hq
    · rw [sB_no (fun k => hq k.2), show bstr SQ.zero.l.x = { data := #[] } from bstr_zero, show bstr SQ.zero.b.x = { data := #[] } from bstr_zero]
      exact rcell_2 g e a d c r _ _ rfl rfl w hg e1 e2 a1 a2 d1 d2 c1 c2 r1 r2 hp hq
  · rw [sB_no (fun k => hp k.1), show bstr SQ.zero.l.x = { data := #[] } from bstr_zero, show bstr SQ.zero.b.x = { data := #[] } from bstr_zero]
    exact rcell_1 g e a d c r _ _ rfl rfl w hg e1 e2 a1 a2 d1 d2 c1 c2 r1 r2 hp

set_option maxRecDepth 10000 in
set_option maxHeartbeats 4000000 in
theorem rcell_out (g : GY) (e : Int) (a : Int) (d : Int) (c : Int) (r : Int) (w : World) (hc : c < 0 ∨ (0 ≤ c ∧ a ≤ c) ∨ (0 ≤ c ∧ c < a ∧ r < 0) ∨ (0 ≤ c ∧ c < a ∧ 0 ≤ r ∧ d ≤ r)) :
    Calls Tryz.prog 14 #[.agg #[.bool g.re.n, .string (bstr g.re.x), .int .i64 g.re.e, .bool g.im.n, .string (bstr g.im.x), .int .i64 g.im.e, .int .i64 e, .int .i64 a, .int .i64 d], .int .i64 c, .int .i64 r] w fun r w' => r = .returned (.tuple #[.agg #[.bool false, .string { data := #[] }, .int .i64 0, .bool false, .string { data := #[] }, .int .i64 0, .int .i64 0], .int .i64 241]) ∧ Below w.heap.size w w' := by
  obtain ⟨⟨gn, gX, ge⟩, ⟨gm, gY, gf⟩⟩ := g
  dsimp only at *
  generalize bstr gX = gS at *
  generalize bstr gY = gT at *
  rcases hc with h | ⟨k1, h⟩ | ⟨k1, k2, h⟩ | ⟨k1, k2, k3, h⟩
  · go_enter Tryz.func14, Tryz.ntmps14
    have B0 := Below.refl w.heap.size w
    replace B0 := B0.alloc B0.size (.cells #[.bool gn, .string gS, .int .i64 ge, .bool gm, .string gT, .int .i64 gf, .int .i64 e, .int .i64 a, .int .i64 d] 28)
    have F6 := Blk.put ((w).alloc (.cells #[.bool gn, .string gS, .int .i64 ge, .bool gm, .string gT, .int .i64 gf, .int .i64 e, .int .i64 a, .int .i64 d] 28)) #[.bool false, .string { data := #[] }, .int .i64 0, .bool false, .string { data := #[] }, .int .i64 0, .int .i64 0] 30
    rw [show ((w).alloc (.cells #[.bool gn, .string gS, .int .i64 ge, .bool gm, .string gT, .int .i64 gf, .int .i64 e, .int .i64 a, .int .i64 d] 28)).heap.size = w.heap.size + 1 by simp] at F6
    replace B0 := B0.alloc B0.size (.cells #[.bool false, .string { data := #[] }, .int .i64 0, .bool false, .string { data := #[] }, .int .i64 0, .int .i64 0] 30)
    obtain ⟨xF60_0, xF60_1, xF60_2, xF60_3, xF60_4, xF60_5, xF60_6⟩ := F6.ce7
    obtain ⟨xF60_0f, xF60_1f, xF60_2f, xF60_3f, xF60_4f, xF60_5f, xF60_6f⟩ := F6.fr7
    go_wp2
    exact bodyPost_ret (v := .tuple #[.agg #[.bool false, .string { data := #[] }, .int .i64 0, .bool false, .string { data := #[] }, .int .i64 0, .int .i64 0], .int .i64 241]) (by simp [results, Tryz.results14, go_sem, xF60_0, xF60_1, xF60_2, xF60_3, xF60_4, xF60_5, xF60_6]) rfl ⟨rfl, B0⟩
  · go_enter Tryz.func14, Tryz.ntmps14
    have B0 := Below.refl w.heap.size w
    have F3 := Blk.put (w) #[.bool gn, .string gS, .int .i64 ge, .bool gm, .string gT, .int .i64 gf, .int .i64 e, .int .i64 a, .int .i64 d] 28
    replace B0 := B0.alloc B0.size (.cells #[.bool gn, .string gS, .int .i64 ge, .bool gm, .string gT, .int .i64 gf, .int .i64 e, .int .i64 a, .int .i64 d] 28)
    replace F3 := F3.allocd (.cells #[.bool false, .string { data := #[] }, .int .i64 0, .bool false, .string { data := #[] }, .int .i64 0, .int .i64 0] 30)
    have F6 := Blk.put ((w).alloc (.cells #[.bool gn, .string gS, .int .i64 ge, .bool gm, .string gT, .int .i64 gf, .int .i64 e, .int .i64 a, .int .i64 d] 28)) #[.bool false, .string { data := #[] }, .int .i64 0, .bool false, .string { data := #[] }, .int .i64 0, .int .i64 0] 30
    rw [show ((w).alloc (.cells #[.bool gn, .string gS, .int .i64 ge, .bool gm, .string gT, .int .i64 gf, .int .i64 e, .int .i64 a, .int .i64 d] 28)).heap.size = w.heap.size + 1 by simp] at F6
    replace B0 := B0.alloc B0.size (.cells #[.bool false, .string { data := #[] }, .int .i64 0, .bool false, .string { data := #[] }, .int .i64 0, .int .i64 0] 30)
    obtain ⟨xF30_0, xF30_1, xF30_2, xF30_3, xF30_4, xF30_5, xF30_6, xF30_7, xF30_8⟩ := F3.ce9
    obtain ⟨xF60_0, xF60_1, xF60_2, xF60_3, xF60_4, xF60_5, xF60_6⟩ := F6.ce7
    obtain ⟨xF60_0f, xF60_1f, xF60_2f, xF60_3f, xF60_4f, xF60_5f, xF60_6f⟩ := F6.fr7
    go_wp2
    exact bodyPost_ret (v := .tuple #[.agg #[.bool false, .string { data := #[] }, .int .i64 0, .bool false, .string { data := #[] }, .int .i64 0, .int .i64 0], .int .i64 241]) (by simp [results, Tryz.results14, go_sem, xF60_0, xF60_1, xF60_2, xF60_3, xF60_4, xF60_5, xF60_6]) rfl ⟨rfl, B0⟩
  · go_enter Tryz.func14, Tryz.ntmps14
    have B0 := Below.refl w.heap.size w
    have F3 := Blk.put (w) #[.bool gn, .string gS, .int .i64 ge, .bool gm, .string gT, .int .i64 gf, .int .i64 e, .int .i64 a, .int .i64 d] 28
    replace B0 := B0.alloc B0.size (.cells #[.bool gn, .string gS, .int .i64 ge, .bool gm, .string gT, .int .i64 gf, .int .i64 e, .int .i64 a, .int .i64 d] 28)
    replace F3 := F3.allocd (.cells #[.bool false, .string { data := #[] }, .int .i64 0, .bool false, .string { data := #[] }, .int .i64 0, .int .i64 0] 30)
    have F6 := Blk.put ((w).alloc (.cells #[.bool gn, .string gS, .int .i64 ge, .bool gm, .string gT, .int .i64 gf, .int .i64 e, .int .i64 a, .int .i64 d] 28)) #[.bool false, .string { data := #[] }, .int .i64 0, .bool false, .string { data := #[] }, .int .i64 0, .int .i64 0] 30
    rw [show ((w).alloc (.cells #[.bool gn, .string gS, .int .i64 ge, .bool gm, .string gT, .int .i64 gf, .int .i64 e, .int .i64 a, .int .i64 d] 28)).heap.size = w.heap.size + 1 by simp] at F6
    replace B0 := B0.alloc B0.size (.cells #[.bool false, .string { data := #[] }, .int .i64 0, .bool false, .string { data := #[] }, .int .i64 0, .int .i64 0] 30)
    obtain ⟨xF30_0, xF30_1, xF30_2, xF30_3, xF30_4, xF30_5, xF30_6, xF30_7, xF30_8⟩ := F3.ce9
    obtain ⟨xF60_0, xF60_1, xF60_2, xF60_3, xF60_4, xF60_5, xF60_6⟩ := F6.ce7
    obtain ⟨xF60_0f, xF60_1f, xF60_2f, xF60_3f, xF60_4f, xF60_5f, xF60_6f⟩ := F6.fr7
    go_wp2
    exact bodyPost_ret (v := .tuple #[.agg #[.bool false, .string { data := #[] }, .int .i64 0, .bool false, .string { data := #[] }, .int .i64 0, .int .i64 0], .int .i64 241]) (by simp [results, Tryz.results14, go_sem, xF60_0, xF60_1, xF60_2, xF60_3, xF60_4, xF60_5, xF60_6]) rfl ⟨rfl, B0⟩
  · go_enter Tryz.func14, Tryz.ntmps14
    have B0 := Below.refl w.heap.size w
    have F3 := Blk.put (w) #[.bool gn, .string gS, .int .i64 ge, .bool gm, .string gT, .int .i64 gf, .int .i64 e, .int .i64 a, .int .i64 d] 28
    replace B0 := B0.alloc B0.size (.cells #[.bool gn, .string gS, .int .i64 ge, .bool gm, .string gT, .int .i64 gf, .int .i64 e, .int .i64 a, .int .i64 d] 28)
    replace F3 := F3.allocd (.cells #[.bool false, .string { data := #[] }, .int .i64 0, .bool false, .string { data := #[] }, .int .i64 0, .int .i64 0] 30)
    have F6 := Blk.put ((w).alloc (.cells #[.bool gn, .string gS, .int .i64 ge, .bool gm, .string gT, .int .i64 gf, .int .i64 e, .int .i64 a, .int .i64 d] 28)) #[.bool false, .string { data := #[] }, .int .i64 0, .bool false, .string { data := #[] }, .int .i64 0, .int .i64 0] 30
    rw [show ((w).alloc (.cells #[.bool gn, .string gS, .int .i64 ge, .bool gm, .string gT, .int .i64 gf, .int .i64 e, .int .i64 a, .int .i64 d] 28)).heap.size = w.heap.size + 1 by simp] at F6
    replace B0 := B0.alloc B0.size (.cells #[.bool false, .string { data := #[] }, .int .i64 0, .bool false, .string { data := #[] }, .int .i64 0, .int .i64 0] 30)
    obtain ⟨xF30_0, xF30_1, xF30_2, xF30_3, xF30_4, xF30_5, xF30_6, xF30_7, xF30_8⟩ := F3.ce9
    obtain ⟨xF60_0, xF60_1, xF60_2, xF60_3, xF60_4, xF60_5, xF60_6⟩ := F6.ce7
    obtain ⟨xF60_0f, xF60_1f, xF60_2f, xF60_3f, xF60_4f, xF60_5f, xF60_6f⟩ := F6.fr7
    go_wp2
    exact bodyPost_ret (v := .tuple #[.agg #[.bool false, .string { data := #[] }, .int .i64 0, .bool false, .string { data := #[] }, .int .i64 0, .int .i64 0], .int .i64 241]) (by simp [results, Tryz.results14, go_sem, xF60_0, xF60_1, xF60_2, xF60_3, xF60_4, xF60_5, xF60_6]) rfl ⟨rfl, B0⟩

end Go.Proofs.YtppebjnmollojaaGreatDoor
