/- Merged: R8 R9 -/
import Derived.Test.YtbfnafcpjbdbpaaGreatR7
import Derived.Test.YtbfnafcpjbdbpaaGreatJZ

/- The reference of layer 4: May, Lowest, Add, Mul, Quo, Compare, Neg of ratios. -/
namespace Go.Proofs.YtbfnafcpjbdbpaaGreat
open Go Go.RowKit Go.PlainAid Fil

set_option maxRecDepth 100000 in
set_option maxHeartbeats 4000000 in
theorem p4may_any (N : Bool) (S T : ByteArray) (w : World) (fS : S.size ≤ 9223372036854775807) (fT : T.size ≤ 9223372036854775807) :
    Calls Tryz.prog 14 #[.agg #[.bool N, .string S, .string T]] w fun r w' => r = .returned (.bool (kMayB N S T)) ∧ Below w.heap.size w w' := by
  have hm1 := fun W => r2May_any S W fS
  have hm2 := fun W => r2May_any T W fT
  have F := Blk.put w #[.bool N, .string S, .string T] 24
  have hb := (Below.refl w.heap.size w).alloc (Nat.le_refl _) (.cells #[.bool N, .string S, .string T] 24)
  obtain ⟨c0, c1, c2⟩ := F.ce3
  clear F
  cases hS : natB S
  · have HE : Hid (kMayB N S T = false) := Lib.hid (by unfold kMayB; rw [hS]; rfl)
    rw [hS] at hm1
    clear hm2 hS fS fT
    go_enter Tryz.func14, Tryz.ntmps14
    go_wp2_with fail
    go_quiet (fail)
    go_wp2_with fail
    refine (hm1 _).mono ?_
    rintro r w1 ⟨rfl, rfl⟩
    clear hm1
    go_wp2
    go_ret
    exact ⟨by rw [HE.out]; rfl, Below.drewN' hb _⟩
  · rw [hS] at hm1
    cases hT : natB T
    · have HE : Hid (kMayB N S T = false) := Lib.hid (by unfold kMayB; rw [hS, hT]; rfl)
      rw [hT] at hm2
      clear hS hT fS fT
      go_enter Tryz.func14, Tryz.ntmps14
      go_wp2_with fail
      go_quiet (fail)
      go_wp2_with fail
      refine (hm1 _).mono ?_
      rintro r w1 ⟨rfl, rfl⟩
      go_wp2_with fail
      refine (hm2 _).mono ?_
      rintro r w1 ⟨rfl, rfl⟩
      clear hm1 hm2
      go_wp2
      go_ret
      exact ⟨by rw [HE.out]; rfl, Below.drewN' hb _⟩
    · rw [hT] at hm2
      by_cases h0 : T.size = 0
      · have HE : Hid (kMayB N S T = false) := Lib.hid (by unfold kMayB; rw [hS, hT, decide_eq_true h0]; rfl)
        have h1 := str_nil h0
        clear hS hT fS fT h0
        go_enter Tryz.func14, Tryz.ntmps14
        go_wp2_with fail
        go_quiet (fail)
        go_wp2_with fail
        refine (hm1 _).mono ?_
        rintro r w1 ⟨rfl, rfl⟩
        go_wp2_with fail
        refine (hm2 _).mono ?_
        rintro r w1 ⟨rfl, rfl⟩
        clear hm1 hm2
        go_wp2
        go_ret
        exact ⟨by rw [HE.out]; rfl, Below.drewN' hb _⟩
      · have t1 := str_cons (s := T) (by omega)
        have t2 : T.toList ≠ [] := by intro h; rw [h] at t1; cases t1
        by_cases s0 : S.size = 0
        · have u1 := str_nil s0
          cases hone : (T.toList == [1])
          · have HE : Hid (kMayB N S T = false) := Lib.hid (by
              unfold kMayB; rw [hS, hT, decide_eq_false h0, if_pos s0, decide_eq_false (beq_eq_false_iff_ne.1 hone)]; simp)
            clear hS hT fS fT h0 s0
            go_enter Tryz.func14, Tryz.ntmps14
            go_wp2_with fail
            go_quiet (fail)
            go_wp2_with fail
            refine (hm1 _).mono ?_
            rintro r w1 ⟨rfl, rfl⟩
            go_wp2_with fail
            refine (hm2 _).mono ?_
            rintro r w1 ⟨rfl, rfl⟩
            clear hm1 hm2
            go_wp2
            go_ret
            exact ⟨by rw [HE.out]; rfl, Below.drewN' hb _⟩
          · have HE : Hid (kMayB N S T = !N) := Lib.hid (by
              unfold kMayB; rw [hS, hT, decide_eq_false h0, if_pos s0, decide_eq_true (beq_iff_eq.1 hone)]; simp)
            clear hS hT fS fT h0 s0
            go_enter Tryz.func14, Tryz.ntmps14
            go_wp2_with fail
            go_quiet (fail)
            go_wp2_with fail
            refine (hm1 _).mono ?_
            rintro r w1 ⟨rfl, rfl⟩
            go_wp2_with fail
            refine (hm2 _).mono ?_
            rintro r w1 ⟨rfl, rfl⟩
            clear hm1 hm2
            go_wp2
            go_ret
            exact ⟨by rw [HE.out]; rfl, Below.drewN' hb _⟩
        · have u1 := str_cons (s := S) (by omega)
          have u2 : S.toList ≠ [] := by intro h; rw [h] at u1; cases u1
          obtain ⟨n, rfl, hn⟩ := nat_of_natB hS
          obtain ⟨d, rfl, hd⟩ := nat_of_natB hT
          have hg := fun W => r2Gcd_any n d W (by omega) (by omega)
          have HE : Hid (kMayB N (bstr n) (bstr d) = (Nat.gcd n d == 1)) := Lib.hid (by
            unfold kMayB; rw [hS, hT, decide_eq_false h0, if_neg s0, nb_bstr, nb_bstr]; simp)
          have HG : Hid (((bstr (Nat.gcd n d)).toList == [1]) = (Nat.gcd n d == 1)) := Lib.hid (by
            by_cases h : Nat.gcd n d = 1
            · rw [h]; rw [bstr_eq_one.2 rfl]; rfl
            · rw [beq_eq_false_iff_ne.2 h, beq_eq_false_iff_ne]; exact fun e => h (bstr_eq_one.1 e))
          generalize bstr (Nat.gcd n d) = G at *
          generalize bstr n = S at *
          generalize bstr d = T at *
          generalize Nat.gcd n d = g at *
          obtain ⟨X, hX⟩ : ∃ X, X = (g == 1) := ⟨_, rfl⟩
          rw [← hX] at HE HG
          have e1 := HG.out
          clear hS hT fS fT h0 s0 hX HG
          go_enter Tryz.func14, Tryz.ntmps14
          go_wp2_with fail
          go_quiet (fail)
          go_wp2_with fail
          refine (hm1 _).mono ?_
          rintro r w1 ⟨rfl, rfl⟩
          go_wp2_with fail
          refine (hm2 _).mono ?_
          rintro r w1 ⟨rfl, rfl⟩
          clear hm1 hm2
          go_wp2_with fail
          refine (hg _).mono ?_
          rintro r w1 ⟨rfl, hb1⟩
          have hb2 := (Below.drewN' hb _).trans (hb1.mono (Below.drewN' hb _).size)
          clear hg hb1 hb
          go_wp2
          go_ret
          exact ⟨by rw [HE.out]; rfl, hb2⟩
end Go.Proofs.YtbfnafcpjbdbpaaGreat

/- The reference of layer 4 over ratios: Lowest, Neg, Add, Mul, Quo, Compare. -/
namespace Go.Proofs.YtbfnafcpjbdbpaaGreat
open Go Go.RowKit Go.PlainAid Fil

theorem kA_zero : kA 0 = .agg #[.bool false, .string { data := #[] }, .string { data := #[1] }] := by
  unfold kA
  rw [show (0 : Rat).num = 0 from rfl, show (0 : Rat).den = 1 from rfl, bstr_one, show (0 : Int).natAbs = 0 from rfl, bstr_zero]
  rfl
theorem p4lowest_any (N : Bool) (n d : Nat) (w : World) (hd : d ≠ 0) (hn8 : Fil.dn 8 n ≤ 300000) (hd8 : Fil.dn 8 d ≤ 300000) :
    Calls Tryz.prog 52 #[.bool N, .string (bstr n), .string (bstr d)] w fun r w' => r = .returned (kA (Rat.divInt (sz N n) (d : Int))) ∧ Below w.heap.size w w' := by
  by_cases h0 : n = 0
  · subst h0
    rw [sz_zero, Rat.zero_divInt, kA_zero]
    exact p4lowest_0 N _ _ w bstr_nil
  · have hg0 : Nat.gcd n d ≠ 0 := fun h => hd (Nat.eq_zero_of_gcd_eq_zero_right h)
    have hgn : Fil.dn 8 (Nat.gcd n d) ≤ 300000 := Nat.le_trans (dn_mono (by omega) (Nat.gcd_le_right n (Nat.pos_of_ne_zero hd))) hd8
    have h := p4lowest_w N (bstr n) (bstr d) (bstr (Nat.gcd n d)) (bstr (n / Nat.gcd n d)) (bstr (d / Nat.gcd n d)) _ _ w (bstr_ne h0).1 (bstr_ne h0).2 (fun W => r2Gcd_any n d W (by omega) (by omega)) (fun W => r2Div_any n (Nat.gcd n d) W hg0 (by omega) (by omega)) (fun W => r2Div_any d (Nat.gcd n d) W hg0 (by omega) (by omega))
    have hdi : (d : Int) ≠ 0 := by omega
    have e1 := norm_num (sz N n) (d : Int) hdi
    have e2 := norm_den (sz N n) (d : Int) hdi
    rw [sz_abs, Int.natAbs_natCast] at e1 e2
    have e3 : sg (d : Int) = false := by unfold sg; exact decide_eq_false (by omega)
    rw [sg_sz h0, e3, show (!(N == false)) = N by cases N <;> rfl] at e1
    have hq : n / Nat.gcd n d ≠ 0 := by
      have h1 := Nat.gcd_le_left d (Nat.pos_of_ne_zero h0)
      have := Nat.div_pos h1 (Nat.pos_of_ne_zero hg0)
      omega
    unfold kA
    rw [← e1, ← e2, sz_abs, sg_sz hq]
    exact h
theorem num_sz (x : Rat) : x.num = sz (sg x.num) x.num.natAbs := (sz_self _).symm
theorem sz_mul_nat (N : Bool) (a d : Nat) : sz N a * (d : Int) = sz N (a * d) := by cases N <;> simp [sz, Int.neg_mul]
theorem p4add_ok (x y : Rat) (w : World) (hx : Bts 4000 x) (hy : Bts 4000 y) :
    Calls Tryz.prog 16 #[kA x, kA y] w fun r w' => r = .returned (kA (x + y)) ∧ Below w.heap.size w w' := by
  have h1 := fun W => p4times_any x.num.natAbs y.den W (by have := hx.1; have := hy.2; omega)
  have h2 := fun W => p4times_any y.num.natAbs x.den W (by have := hy.1; have := hx.2; omega)
  have h3 := fun W => p4times_any x.den y.den W (by have := hx.2; have := hy.2; omega)
  have hD0 : x.den * y.den ≠ 0 := Nat.mul_ne_zero x.den_nz y.den_nz
  have hP8 : Fil.dn 8 (x.num.natAbs * y.den) ≤ 8000 := Nat.le_trans (mul_dn hx.1 hy.2) (by omega)
  have hQ8 : Fil.dn 8 (y.num.natAbs * x.den) ≤ 8000 := Nat.le_trans (mul_dn hy.1 hx.2) (by omega)
  have hD8 : Fil.dn 8 (x.den * y.den) ≤ 8000 := Nat.le_trans (mul_dn hx.2 hy.2) (by omega)
  have hxy := divInt_add x y
  rw [num_sz x, num_sz y, sz_mul_nat, sz_mul_nat] at hxy
  have hDD : ((x.den : Int) * (y.den : Int)) = ((x.den * y.den : Nat) : Int) := by simp
  rw [hDD] at hxy
  generalize x.num.natAbs * y.den = P at *
  generalize y.num.natAbs * x.den = Q at *
  generalize x.den * y.den = D at *
  rw [← hxy]
  cases hs : (sg x.num == sg y.num)
  · have hcm := fun W => (r2Cmp_any P Q W (by omega) (by omega)).mono (R' := fun r w' => r = .returned (.int .i64 (cmpZ P Q)) ∧ Below W.heap.size W w') (fun _ _ ⟨h, k, hk⟩ => ⟨h, by rw [hk]; exact Below.drewN' (Below.refl _ _) k⟩)
    by_cases hle : Q ≤ P
    · have e : sz (sg x.num) P + sz (sg y.num) Q = sz (sg x.num) (P - Q) := by
        have : sg y.num = !sg x.num := by revert hs; cases sg x.num <;> cases sg y.num <;> simp
        rw [this]; unfold sz; cases sg x.num <;> simp <;> omega
      rw [e]
      have hl := fun W => p4lowest_any (sg x.num) (P - Q) D W hD0 (Nat.le_trans (dn_mono (by omega) (Nat.sub_le P Q)) (by omega)) (by omega)
      unfold kA at hl ⊢
      exact p4add_1 _ _ _ _ _ _ _ _ _ _ _ _ _ w h1 h2 h3 hs (cmpZ P Q) (by unfold cmpZ; rw [if_neg (by omega)]; split <;> omega) hcm (fun W => r2Sub_any P Q W hle (by omega)) hl
    · have e : sz (sg x.num) P + sz (sg y.num) Q = sz (sg y.num) (Q - P) := by
        have : sg y.num = !sg x.num := by revert hs; cases sg x.num <;> cases sg y.num <;> simp
        rw [this]; unfold sz; cases sg x.num <;> simp <;> omega
      rw [e]
      have hl := fun W => p4lowest_any (sg y.num) (Q - P) D W hD0 (Nat.le_trans (dn_mono (by omega) (Nat.sub_le Q P)) (by omega)) (by omega)
      unfold kA at hl ⊢
      exact p4add_2 _ _ _ _ _ _ _ _ _ _ _ _ _ w h1 h2 h3 hs (cmpZ P Q) (by unfold cmpZ; rw [if_pos (by omega)]; omega) hcm (fun W => r2Sub_any Q P W (by omega) (by omega)) hl
  · have e : sz (sg x.num) P + sz (sg y.num) Q = sz (sg x.num) (P + Q) := by
      rw [← beq_iff_eq.1 hs]; unfold sz; cases sg x.num <;> simp <;> omega
    rw [e]
    have hS8 : Fil.dn 8 (P + Q) ≤ 8001 := add_dn hP8 hQ8
    have ha := fun W => r2Add_any P Q W (by omega) (by omega)
    rw [endV_fit (Nat.le_trans hS8 (by omega))] at ha
    have hl := fun W => p4lowest_any (sg x.num) (P + Q) D W hD0 (by omega) (by omega)
    unfold kA at hl ⊢
    exact p4add_0 _ _ _ _ _ _ _ _ _ _ _ _ _ w h1 h2 h3 hs ha hl
theorem sz_mul_sz (a b : Bool) (x y : Nat) : sz a x * sz b y = sz (!(a == b)) (x * y) := by cases a <;> cases b <;> simp [sz, Int.neg_mul, Int.mul_neg]
theorem p4mul_ok (x y : Rat) (w : World) (hx : Bts 4000 x) (hy : Bts 4000 y) :
    Calls Tryz.prog 17 #[kA x, kA y] w fun r w' => r = .returned (kA (x * y)) ∧ Below w.heap.size w w' := by
  have h1 := fun W => p4times_any x.num.natAbs y.num.natAbs W (by have := hx.1; have := hy.1; omega)
  have h2 := fun W => p4times_any x.den y.den W (by have := hx.2; have := hy.2; omega)
  have hl := fun W => p4lowest_any (!(sg x.num == sg y.num)) (x.num.natAbs * y.num.natAbs) (x.den * y.den) W (Nat.mul_ne_zero x.den_nz y.den_nz) (Nat.le_trans (mul_dn hx.1 hy.1) (by omega)) (Nat.le_trans (mul_dn hx.2 hy.2) (by omega))
  have hxy := divInt_mul x y
  rw [num_sz x, num_sz y, sz_mul_sz, show ((x.den : Int) * (y.den : Int)) = ((x.den * y.den : Nat) : Int) by simp] at hxy
  rw [hxy] at hl
  unfold kA at hl ⊢
  exact p4mul_w _ _ _ _ _ _ _ _ _ _ _ _ w rfl h1 h2 hl
theorem p4quo_ok (x y : Rat) (w : World) (hx : Bts 4000 x) (hy : Bts 4000 y) (h0 : y ≠ 0) :
    Calls Tryz.prog 19 #[kA x, kA y] w fun r w' => r = .returned (kA (x / y)) ∧ Below w.heap.size w w' := by
  have hn0 := num_ne h0
  have h1 := fun W => p4times_any x.num.natAbs y.den W (by have := hx.1; have := hy.2; omega)
  have h2 := fun W => p4times_any x.den y.num.natAbs W (by have := hx.2; have := hy.1; omega)
  have hl := fun W => p4lowest_any (!(sg x.num == sg y.num)) (x.num.natAbs * y.den) (x.den * y.num.natAbs) W (Nat.mul_ne_zero x.den_nz (by omega)) (Nat.le_trans (mul_dn hx.1 hy.2) (by omega)) (Nat.le_trans (mul_dn hx.2 hy.1) (by omega))
  have hxy : Rat.divInt (sz (!(sg x.num == sg y.num)) (x.num.natAbs * y.den)) ((x.den * y.num.natAbs : Nat) : Int) = x / y := by
    rw [← divInt_quo]
    have e1 := num_sz x
    have e2 := num_sz y
    generalize x.num.natAbs = p at *
    generalize y.num.natAbs = q at *
    generalize sg x.num = a at *
    generalize sg y.num = b at *
    rw [e1, e2, sz_mul_nat]
    cases b
    · rw [show (!(a == false)) = a by cases a <;> rfl]; simp [sz]
    · rw [show (!(a == true)) = !a by cases a <;> rfl, show sz true q = -(q : Int) from rfl, Int.mul_neg, Rat.divInt_neg', show -sz a (p * y.den) = sz (!a) (p * y.den) by cases a <;> simp [sz]]
      simp
  rw [hxy] at hl
  unfold kA at hl ⊢
  exact p4quo_w _ _ _ _ _ _ _ _ _ w (fun W => p4mul_w _ _ _ _ _ _ _ _ _ _ _ _ W rfl h1 h2 hl)
theorem p4cmp_ok (x y : Rat) (w : World) (hx : Bts 4000 x) (hy : Bts 4000 y) :
    Calls Tryz.prog 18 #[kA x, kA y] w fun r w' => r = .returned (.int .i64 (cmpR x y)) ∧ Below w.heap.size w w' := by
  have h1 := fun W => p4times_any x.num.natAbs y.den W (by have := hx.1; have := hy.2; omega)
  have h2 := fun W => p4times_any y.num.natAbs x.den W (by have := hy.1; have := hx.2; omega)
  have hP8 : Fil.dn 8 (x.num.natAbs * y.den) ≤ 8000 := Nat.le_trans (mul_dn hx.1 hy.2) (by omega)
  have hQ8 : Fil.dn 8 (y.num.natAbs * x.den) ≤ 8000 := Nat.le_trans (mul_dn hy.1 hx.2) (by omega)
  have hxy := cmpR_eq x y
  have hsx : sg x.num = true → 0 < x.num.natAbs * y.den := fun h => by
    unfold sg at h
    have := of_decide_eq_true h
    exact Nat.mul_pos (by omega) (Nat.pos_of_ne_zero y.den_nz)
  have hsy : sg y.num = true → 0 < y.num.natAbs * x.den := fun h => by
    unfold sg at h
    have := of_decide_eq_true h
    exact Nat.mul_pos (by omega) (Nat.pos_of_ne_zero x.den_nz)
  rw [num_sz x, num_sz y, sz_mul_nat, sz_mul_nat] at hxy
  generalize x.num.natAbs * y.den = P at *
  generalize y.num.natAbs * x.den = Q at *
  have hcm := fun W => (r2Cmp_any P Q W (by omega) (by omega)).mono (R' := fun r w' => r = .returned (.int .i64 (cmpZ P Q)) ∧ Below W.heap.size W w') (fun _ _ ⟨h, k, hk⟩ => ⟨h, by rw [hk]; exact Below.drewN' (Below.refl _ _) k⟩)
  have hc1 : -1 ≤ cmpZ P Q := by unfold cmpZ; split <;> (try split) <;> omega
  have hc2 : cmpZ P Q ≤ 1 := by unfold cmpZ; split <;> (try split) <;> omega
  unfold kA
  rw [← hxy]
  cases ex : sg x.num <;> cases ey : sg y.num
  · have e : cmpI (sz false P) (sz false Q) = cmpZ P Q := by
      unfold cmpI cmpZ sz; simp
    rw [e]
    exact p4cmp_3 _ _ _ _ _ _ w _ h1 h2 hcm
  · have e : cmpI (sz false P) (sz true Q) = 1 := by
      have := hsy ey
      unfold cmpI sz; simp; rw [if_neg (by omega), if_pos (by omega)]
    rw [e]
    exact p4cmp_1 _ _ _ _ w
  · have e : cmpI (sz true P) (sz false Q) = -1 := by
      have := hsx ex
      unfold cmpI sz; simp; omega
    rw [e]
    exact p4cmp_0 _ _ _ _ w
  · have e : cmpI (sz true P) (sz true Q) = -cmpZ P Q := by
      unfold cmpI cmpZ sz; simp
      rcases Nat.lt_trichotomy P Q with h | h | h
      · rw [if_neg (by omega), if_pos (by omega), if_pos h]; rfl
      · rw [if_neg (by omega), if_neg (by omega), if_neg (by omega), if_neg (by omega)]; rfl
      · rw [if_pos (by omega), if_neg (by omega), if_pos h]
    rw [e]
    exact p4cmp_2 _ _ _ _ _ _ w _ h1 h2 hcm hc1 hc2
theorem p4neg_ok (x : Rat) (w : World) :
    Calls Tryz.prog 15 #[kA x] w fun r w' => r = .returned (kA (-x)) ∧ Below w.heap.size w w' := by
  by_cases h0 : x = 0
  · subst h0
    rw [show (-(0 : Rat)) = 0 from rfl]
    exact p4neg_0 _ _ _ w bstr_nil
  · have hn := num_ne h0
    have hp : x.num.natAbs ≠ 0 := by omega
    have e : sg (-x).num = !sg x.num := by
      rw [Rat.neg_num]; unfold sg
      by_cases h : x.num < 0
      · rw [decide_eq_true h, decide_eq_false (by omega)]; rfl
      · rw [decide_eq_false h, decide_eq_true (by omega)]; rfl
    unfold kA
    rw [e, Rat.neg_num, Int.natAbs_neg, Rat.neg_den]
    exact p4neg_w _ _ _ _ w rfl (bstr_ne hp).1 (bstr_ne hp).2
end Go.Proofs.YtbfnafcpjbdbpaaGreat
