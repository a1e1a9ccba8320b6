/- Merged: U6 U7 U8 -/
import Derived.Test.YtbfnafcpjbdbpaaGreatR9
import Derived.Test.YtbfnafcpjbdbpaaGreatB7
import Derived.Test.YtbfnafcpjbdbpaaGreatRL

/- The reference of layer 1: digits, signed, Make; of layer 2: Small. -/
namespace Go.Proofs.YtbfnafcpjbdbpaaGreat
open Go Go.RowKit Go.PlainAid Fil

set_option maxHeartbeats 1000000 in
theorem b1digits_any (m : Nat) (w : World) (h : m < 18446744073709551616) : Calls Tryz.prog 147 #[.int .u64 (m : Int)] w fun r w' => r = .returned (.int .i64 ((bl m : Nat) : Int)) ∧ w = w' := by
  go_enter Tryz.func147, Tryz.ntmps147
  go_wp2
  go_loopg [0, 3] (bl m) (fun g s0 s3 wr => w = wr ∧ ∃ (y n : Nat), s0 = .int .u64 (y : Int) ∧ s3 = .int .i64 (n : Int) ∧ g = bl y ∧ bl y + n = bl m ∧ y < 18446744073709551616 ∧ n ≤ 64)
  case atStart => exact ⟨rfl, m, 0, rfl, rfl, rfl, by omega, h, by omega⟩
  case round =>
    obtain ⟨rfl, y, n, rfl, rfl, hg, hs, hy, hn⟩ := hrel
    by_cases h0 : y = 0
    · subst h0
      rw [bl_zero, Nat.zero_add] at hs
      subst hs
      clear hg h hn
      go_wp2
      go_ret
      exact ⟨rfl, rfl⟩
    · have hp : (0 : Int) < (y : Int) := by omega
      have hp2 : 0 < y := by omega
      have hb := bl_half h0
      have hbm : bl m ≤ 64 := bl_le h
      obtain ⟨z, hz⟩ : ∃ z, z = y / 2 := ⟨_, rfl⟩
      have e1 : (y : Int) / 2 = (z : Int) := by omega
      have HB := Lib.hid (And.intro hb (And.intro hs (And.intro hg (And.intro hz hbm))))
      have hn63 : n ≤ 63 := by omega
      clear hb hs hg hz h hbm
      go_wp2
      go_roundg (bl z)
      case measure => have := HB.out; rw [this.2.2.2.1]; omega
      case rel =>
        obtain ⟨hb, hs, hg, hz, _⟩ := HB.out
        exact ⟨rfl, z, n + 1, rfl, by go_num, rfl, by rw [hz]; omega, by omega, by omega⟩
set_option maxHeartbeats 1000000 in
theorem b1signed_f (n : Nat) (w : World) (_h : n < 9223372036854775808) : Calls Tryz.prog 146 #[.bool false, .int .u64 (n : Int)] w fun r w' => r = .returned (.float .f64 n) ∧ w = w' := by
  have h2 := run_f64from
  have ht : ((n : Nat) : Int).toNat = n := Int.toNat_natCast _
  go_enter Tryz.func146, Tryz.ntmps146
  go_wp2
  go_ret
  exact ⟨rfl, rfl⟩
theorem half_even {m : Nat} (h0 : m ≠ 0) (he : m % 2 = 0) : m / 2 ≠ 0 ∧ m / 2 * 2 = m := by omega

set_option maxRecDepth 100000 in
set_option maxHeartbeats 4000000 in
theorem b1make_any (m : Nat) (e : Int) (w : World) (hm : m ≤ 9007199254740992) (he0 : -1074 ≤ e) (he1 : e ≤ 971) (hq : -1074 < e → 4503599627370496 ≤ m) (R : Nat) (hR : R = (e + 1074).toNat * 4503599627370496 + m) (ok : Bool) (hok : ok = decide (R < 9218868437227405312)) :
    Calls Tryz.prog 129 #[.bool false, .int .u64 (m : Int), .int .i64 e] w fun r w' => r = .returned (.tuple #[.float .f64 (if ok then R else 0), .bool ok]) ∧ w = w' := by
  have hsg := fun n W h => b1signed_f n W h
  by_cases h0 : m = 0
  · subst h0
    obtain rfl : e = -1074 := by
      rcases Int.lt_or_le (-1074) e with h | h
      · have := hq h; omega
      · omega
    obtain rfl : R = 0 := by rw [hR]; rfl
    rw [show ok = true by rw [hok]; rfl]
    have h1 := fun W => hsg 0 W (by omega)
    clear hsg hq hR hok hm
    go_enter Tryz.func129, Tryz.ntmps129
    go_wp2_with fail
    refine (h1 _).mono ?_
    rintro r w1 ⟨rfl, rfl⟩
    go_wp2
    go_returns
    exact ⟨rfl, rfl⟩
  · have hmv := mv_rung (m := m) (q := e) he0 hq hm
    rw [← hR] at hmv
    have hblm : bl m ≤ 54 := bl_le (by omega)
    have hover : ok = true → e + (bl m : Int) ≤ 1024 := fun h => by
      rw [hok, decide_eq_true_eq] at h
      rcases Nat.lt_or_ge m 9007199254740992 with h1 | h1
      · have : bl m ≤ 53 := bl_le (by omega)
        omega
      · obtain rfl : m = 9007199254740992 := by omega
        have : bl 9007199254740992 = 54 := by decide
        omega
    have hover2 : ok = false → 1024 < e + (bl m : Int) := fun h => by
      rw [hok, decide_eq_false_iff_not] at h
      have h971 : e = 971 ∧ m = 9007199254740992 := by omega
      have : bl 9007199254740992 = 54 := by decide
      rw [h971.2, this, h971.1]; omega
    have hRB : R < 9223372036854775808 := by omega
    have hdg := fun n W h => b1digits_any n W h
    have HP := Lib.hid (And.intro hmv (And.intro hover (And.intro hover2 (And.intro hblm (And.intro hm (And.intro h0 hRB))))))
    have HS := Lib.hid (And.intro hsg hdg)
    have h0i : ((m : Int) == 0) = false := by rw [beq_eq_false_iff_ne]; omega
    have hm2 : m < 18446744073709551616 := by omega
    clear hsg hdg hmv hover hover2 hblm hq hR hok hRB
    go_enter Tryz.func129, Tryz.ntmps129
    go_wp2
    go_loopg [1, 2] m (fun g s1 s2 wr => w = wr ∧ ∃ (y k : Nat), s1 = .int .u64 (y : Int) ∧ s2 = .int .i64 (e + (k : Int)) ∧ g = y ∧ y ≠ 0 ∧ y * 2 ^ k = m ∧ k ≤ 60)
    case atStart => exact ⟨rfl, m, 0, rfl, by rw [Int.add_comm]; simp, rfl, h0, by simp, by omega⟩
    case round =>
      clear h0i
      obtain ⟨rfl, y, k, rfl, rfl, hg, hy0, hyk, hk⟩ := hrel
      have hym : y ≤ m := by rw [← hyk]; exact Nat.le_mul_of_pos_right _ (pp k)
      by_cases hev : y % 2 = 0
      · have hev1 : (y : Int) % 2 = 0 := by omega
        obtain ⟨z, hz⟩ : ∃ z, z = y / 2 := ⟨_, rfl⟩
        have e1 : (y : Int) / 2 = (z : Int) := by omega
        have hzk : z * 2 ^ (k + 1) = m := by rw [Nat.pow_succ, Nat.mul_comm (2 ^ k), ← Nat.mul_assoc, show z * 2 = y by omega, hyk]
        have hz0 : z ≠ 0 := by omega
        have hk54 : k + 1 ≤ 54 := by
          rcases Nat.lt_or_ge k 54 with h | h
          · omega
          · have h1 : 2 ^ 54 ≤ 2 ^ (k + 1) := pmono (by omega)
            have h2 : 2 ^ (k + 1) ≤ z * 2 ^ (k + 1) := Nat.le_mul_of_pos_left _ (by omega)
            omega
        have HZ := Lib.hid (And.intro hzk (And.intro hz0 (And.intro hg hz)))
        have ek : e + (k : Int) + 1 = e + ((k + 1 : Nat) : Int) := by omega
        have Hk := Lib.hid ek
        clear hzk hz0 hg hz hyk hy0 ek
        go_wp2
        go_roundg z
        case measure => have := HZ.out; omega
        case rel => exact ⟨rfl, z, k + 1, rfl, congrArg (Value.int IntKind.i64) Hk.out, rfl, HZ.out.2.1, HZ.out.1, by omega⟩
      · have hod : ¬ (y : Int) % 2 = 0 := by omega
        have hod2 : ((y : Int) % 2 == 0) = false := by rw [beq_eq_false_iff_ne]; exact hod
        have hbm : bl m = bl y + k := by rw [← hyk]; exact bl_shift hy0
        have hbp : 0 < bl y := by
          rcases Nat.eq_zero_or_pos (bl y) with h | h
          · have := lt_bl y; rw [h] at this; omega
          · exact h
        obtain ⟨n, hn⟩ : ∃ n, n = bl y := ⟨_, rfl⟩
        have hd := fun W => HS.out.2 y W (by omega)
        rw [← hn] at hd hbm hbp
        have hn53 : n ≤ 53 := by
          rcases Nat.eq_zero_or_pos k with h | h
          · rw [h, Nat.pow_zero, Nat.mul_one] at hyk
            have : y ≠ 9007199254740992 := fun h => by omega
            rw [hn]; exact bl_le (by have := HP.out.2.2.2.2.1; omega)
          · have := HP.out.2.2.2.1; omega
        have HN := Lib.hid (And.intro hn (And.intro hyk (And.intro hy0 hbm)))
        clear hn hyk hy0 hod hg hev
        cases ok
        · have hov := HP.out.2.2.1 rfl
          have hov2 : 1024 < e + (k : Int) + (n : Int) := by have := HN.out.2.2.2; omega
          clear hov hbm
          go_wp2_with fail
          refine (hd _).mono ?_
          rintro r w1 ⟨rfl, rfl⟩
          clear hd
          go_wp2
          go_returns
          exact ⟨rfl, rfl⟩
        · have hov := HP.out.2.1 rfl
          have hov2 : ¬ 1024 < e + (k : Int) + (n : Int) := by have := HN.out.2.2.2; omega
          have hov3 : e + (k : Int) + (n : Int) ≤ 1024 := by omega
          clear hov hbm
          go_wp2_with fail
          refine (hd _).mono ?_
          rintro r w1 ⟨rfl, rfl⟩
          clear hd
          go_wp2
          go_loopg [1, 2, 8] (53 - n) (fun g s1 s2 s8 wr => w = wr ∧ ∃ (x i : Nat) (q : Int), s1 = .int .u64 (x : Int) ∧ s2 = .int .i64 q ∧ s8 = .int .i64 ((n + i : Nat) : Int) ∧ g = 53 - (n + i) ∧ n + i ≤ 53 ∧ x = y * 2 ^ i ∧ q + (i : Int) = e + (k : Int) ∧ -1074 ≤ q)
          case atStart => exact ⟨rfl, y, 0, e + k, rfl, rfl, by simp, by omega, by omega, by simp, by omega, by omega⟩
          case round =>
            obtain ⟨rfl, x, i, q, rfl, rfl, rfl, hg, hi, hx, hqe, hq0⟩ := hrel
            obtain ⟨l, hl⟩ : ∃ l, l = n + i := ⟨_, rfl⟩
            have hx53 : x < 2 ^ 53 := by
              rw [hx]
              have h1 := lt_bl y
              rw [← HN.out.1] at h1
              calc y * 2 ^ i < 2 ^ n * 2 ^ i := Nat.mul_lt_mul_of_pos_right h1 (pp i)
                _ = 2 ^ (n + i) := (Nat.pow_add ..).symm
                _ ≤ 2 ^ 53 := pmono hi
            rw [show (2 : Nat) ^ 53 = 9007199254740992 by rfl] at hx53
            by_cases hgo : l < 53 ∧ -1074 < q
            · obtain ⟨hl53, hqq⟩ := hgo
              rw [← hl] at hg ⊢
              have hx2 : 2 * (x : Int) = ((2 * x : Nat) : Int) := by omega
              have ex : 2 * x = y * 2 ^ (i + 1) := by rw [hx, Nat.pow_succ, Nat.mul_comm 2 (y * 2 ^ i), Nat.mul_assoc]
              have HX := Lib.hid (And.intro ex (And.intro hl (And.intro hg (And.intro hqe hx2))))
              have hli : (l : Int) < 53 := by omega
              have hqa : q ≤ 2000 := by omega
              clear ex hl hg hqe hx hi hx2
              go_wp2
              go_roundg (53 - (l + 1))
              case measure => have := HX.out; omega
              case rel =>
                obtain ⟨ex, hl, hg, hqe, hx2⟩ := HX.out
                exact ⟨rfl, 2 * x, i + 1, q - 1, congrArg (Value.int IntKind.u64) hx2, rfl, by rw [hl]; go_num, by omega, by omega, ex, by omega, by omega⟩
            · have hfin : (q + 1074).toNat * 4503599627370496 + x = R := by
                apply mv_inj
                have h1 : -1074 < q → 4503599627370496 ≤ x := fun h => by
                  have h53 : n + i = 53 := by omega
                  rw [hx]
                  have h2 := le_bl HN.out.2.2.1
                  rw [← HN.out.1] at h2
                  have h3 : 2 ^ (n - 1) * 2 ^ i ≤ y * 2 ^ i := Nat.mul_le_mul_right _ h2
                  rw [← Nat.pow_add, show n - 1 + i = 52 by omega] at h3
                  omega
                rw [mv_rung hq0 h1 (by omega), HP.out.1, hx, ← HN.out.2.1, Nat.mul_assoc, Nat.mul_assoc, ← Nat.pow_add, ← Nat.pow_add]
                congr 2; omega
              have hq971 : q ≤ 1000 := by omega
              rw [← hl] at hg ⊢
              have hne : ¬ (l < 53 ∧ -1074 < q) := hgo
              have hcase : x < 4503599627370496 → q = -1074 := fun h => by
                rcases Int.lt_or_le (-1074) q with h1 | h1
                · exfalso
                  have h53 : n + i = 53 := by omega
                  have h2 := le_bl HN.out.2.2.1
                  rw [← HN.out.1] at h2
                  have h3 : 2 ^ (n - 1) * 2 ^ i ≤ y * 2 ^ i := Nat.mul_le_mul_right _ h2
                  rw [← Nat.pow_add, show n - 1 + i = 52 by omega, ← hx] at h3
                  omega
                · omega
              have hstop : l = 53 ∨ q = -1074 := by omega
              have HF := Lib.hid (And.intro hfin hcase)
              have hl53 : l ≤ 53 := by omega
              clear hfin hx hqe hg hl hi hgo hne hcase
              by_cases hxs : x < 4503599627370496
              · have hqm := HF.out.2 hxs
                subst hqm
                have hsx := fun W => HS.out.1 x W (by omega)
                have hxR : x = R := by have := HF.out.1; simpa using this
                have HXR := Lib.hid hxR
                have hxi : (x : Int) < 4503599627370496 := by omega
                clear hxR hstop hxs
                by_cases hl5 : (l : Int) < 53
                · go_wp2_with fail
                  refine (hsx _).mono ?_
                  rintro r w2 ⟨rfl, rfl⟩
                  go_wp2
                  go_returns
                  exact ⟨by rw [← HXR.out]; rfl, rfl⟩
                · go_wp2_with fail
                  refine (hsx _).mono ?_
                  rintro r w2 ⟨rfl, rfl⟩
                  go_wp2
                  go_returns
                  exact ⟨by rw [← HXR.out]; rfl, rfl⟩
              · have hxi : ¬ (x : Int) < 4503599627370496 := by omega
                have hR63 : R < 9223372036854775808 := HP.out.2.2.2.2.2.2
                have hsx := fun W => HS.out.1 R W hR63
                rcases hstop with hstop | hstop
                · have hsum : (x : Int) - 4503599627370496 + (q + 1074 + 1) * 4503599627370496 = (R : Int) := by have := HF.out.1; omega
                  subst hstop
                  clear hxs
                  have hl5 : ¬ ((53 : Nat) : Int) < 53 := by omega
                  have HSUM := Lib.hid hsum
                  clear hsum hR63
                  go_wp2_with fail
                  rw [HSUM.out]
                  refine (hsx _).mono ?_
                  rintro r w2 ⟨rfl, rfl⟩
                  go_wp2
                  go_returns
                  exact ⟨rfl, rfl⟩
                · subst hstop
                  have hsum : R = x := by have := HF.out.1; omega
                  subst hsum
                  clear hxs hR63
                  by_cases hl5 : (l : Int) < 53
                  · go_wp2_with fail
                    refine (hsx _).mono ?_
                    rintro r w2 ⟨rfl, rfl⟩
                    go_wp2
                    go_returns
                    exact ⟨rfl, rfl⟩
                  · go_wp2_with fail
                    refine (hsx _).mono ?_
                    rintro r w2 ⟨rfl, rfl⟩
                    go_wp2
                    go_returns
                    exact ⟨rfl, rfl⟩
end Go.Proofs.YtbfnafcpjbdbpaaGreat

/- The reference of layer 2: Small; of layer 4: around. -/
namespace Go.Proofs.YtbfnafcpjbdbpaaGreat
open Go Go.RowKit Go.PlainAid Fil

theorem div_step (x k : Nat) : x / 2 ^ (8 * (k + 1)) * 256 + dg 8 x k = x / 2 ^ (8 * k) := by
  unfold dg
  rw [show 8 * (k + 1) = 8 * k + 8 by omega, Nat.pow_add, ← Nat.div_div_eq_div_mul]
  have := Nat.div_add_mod (x / 2 ^ (8 * k)) 256
  rw [show (2 : Nat) ^ 8 = 256 by decide]
  omega
set_option maxHeartbeats 2000000 in
theorem r2small_any (x : Nat) (w : World) (hx : Fil.dn 8 x ≤ 16384) :
    Calls Tryz.prog 128 #[.string (bstr x)] w fun r w' => r = .returned (.tuple #[.int .u64 ((if Fil.dn 8 x ≤ 8 then x else 0 : Nat) : Int), .bool (decide (Fil.dn 8 x ≤ 8))]) ∧ w = w' := by
  have hsz := bstr_size x
  have hm := fun W => r2May_any (bstr x) W (by omega)
  rw [natB_bstr hx] at hm
  have hgb := get_bt (bstr x)
  have hbt := fun k h => bstr_bt x k h
  have hlt := lt_dn (k := 8) (by omega) x
  obtain ⟨n, hn⟩ : ∃ n, n = Fil.dn 8 x := ⟨_, rfl⟩
  simp only [← hn] at hsz hx hbt hlt ⊢
  by_cases h8 : n ≤ 8
  · rw [if_pos h8, decide_eq_true h8]
    have hx64 : x < 18446744073709551616 := Nat.lt_of_lt_of_le hlt (Nat.le_trans (pmono (show 8 * n ≤ 64 by omega)) (by decide))
    have HX := Lib.hid (And.intro hbt hlt)
    have h8i : ¬ 8 < (n : Int) := by omega
    clear hbt hlt hn
    go_enter Tryz.func128, Tryz.ntmps128
    go_wp2_with fail
    refine (hm _).mono ?_
    rintro r w1 ⟨rfl, rfl⟩
    clear hm
    go_wp2
    go_loopg [4, 5] n (fun g s4 s5 wr => w = wr ∧ ∃ i : Nat, i ≤ n ∧ g = n - i ∧ s4 = .int .u64 ((x / 2 ^ (8 * (n - i)) : Nat) : Int) ∧ s5 = .int .i64 (i : Int))
    case atStart => exact ⟨rfl, 0, by omega, by omega, by rw [Nat.sub_zero, Nat.div_eq_of_lt HX.out.2]; rfl, rfl⟩
    case round =>
      obtain ⟨rfl, i, hi, hg, rfl, rfl⟩ := hrel
      by_cases hin : i < n
      · have hb : bt (bstr x) i = (dg 8 x (n - 1 - i) : Int) := HX.out.1 i hin
        have hst := div_step x (n - 1 - i)
        rw [show n - 1 - i + 1 = n - i by omega] at hst
        have hle := Nat.div_le_self x (2 ^ (8 * (n - 1 - i)))
        have hd := dg_lt 8 x (n - 1 - i)
        obtain ⟨u, hu⟩ : ∃ u, u = x / 2 ^ (8 * (n - i)) := ⟨_, rfl⟩
        obtain ⟨d, hdd⟩ : ∃ d, d = dg 8 x (n - 1 - i) := ⟨_, rfl⟩
        obtain ⟨v, hv⟩ : ∃ v, v = x / 2 ^ (8 * (n - 1 - i)) := ⟨_, rfl⟩
        rw [← hu, ← hdd, ← hv] at hst
        rw [← hv] at hle
        rw [← hdd] at hb hd
        rw [← hu]
        have e1 : 256 * (u : Int) + (d : Int) = (v : Int) := by omega
        have w1 : IntKind.u64.wrap (d : Int) = (d : Int) := IntWalk.u64_in _ ⟨by omega, by omega⟩
        have hu1 : 256 * (u : Int) < 18446744073709551616 := by omega
        have his : i < (bstr x).size := by omega
        have hv64 : v < 18446744073709551616 := by omega
        have HV := Lib.hid (And.intro hv hg)
        clear hu hdd hv hst hle hg
        go_wp2
        go_roundg (n - (i + 1))
        case measure => have := HV.out.2; omega
        case rel => exact ⟨rfl, i + 1, by omega, rfl, by rw [show n - (i + 1) = n - 1 - i by omega, ← HV.out.1], by go_num⟩
      · obtain rfl : i = n := by omega
        rw [Nat.sub_self, Nat.mul_zero, Nat.pow_zero, Nat.div_one]
        clear hg hi
        go_wp2
        go_returns
        exact ⟨rfl, rfl⟩
  · rw [if_neg h8, decide_eq_false h8]
    have h8i : 8 < (n : Int) := by omega
    clear hbt hlt hn h8
    go_enter Tryz.func128, Tryz.ntmps128
    go_wp2_with fail
    refine (hm _).mono ?_
    rintro r w1 ⟨rfl, rfl⟩
    clear hm
    go_wp2
    go_returns
    exact ⟨rfl, rfl⟩
theorem dn8_shift {x m k : Nat} (h : Fil.dn 8 x ≤ m) (hk : k ≤ 8 * 200) : Fil.dn 8 (x * 2 ^ k) ≤ m + 200 := by
  obtain ⟨K, hK⟩ : ∃ K, K = 200 := ⟨_, rfl⟩
  rw [← hK] at hk ⊢
  refine dn_le (by omega) ?_
  rw [Nat.mul_add, Nat.pow_add]
  exact Nat.mul_lt_mul_of_lt_of_le (lt_of_dn (by omega) h) (pmono hk) (pp _)
theorem r2shift_nn (x k : Nat) (w : World) (hx8 : Fil.dn 8 x ≤ 8000) (hk : k ≤ 1600) :
    Calls Tryz.prog 127 #[.string (bstr x), .int .i64 (k : Int)] w fun r w' => r = .returned (.tuple #[.string (bstr (x * 2 ^ k)), .int .i64 0]) ∧ Below w.heap.size w w' := by
  by_cases h : x = 0 ∨ (k : Int) = 0
  · refine (r2shift_0 x k w (by omega) h).mono ?_
    rintro r w1 ⟨rfl, rfl⟩
    have e : x * 2 ^ k = x := by
      rcases h with h | h
      · rw [h, Nat.zero_mul]
      · rw [show k = 0 by omega, Nat.pow_zero, Nat.mul_one]
    exact ⟨by rw [e], Below.refl _ _⟩
  · refine (r2shift_up x k w (by omega) (fun h1 => h (.inl h1)) (by omega) (by omega)).mono ?_
    rintro r w1 ⟨rfl, hb⟩
    rw [endV_fit (Nat.le_trans (dn8_shift hx8 (by omega)) (by omega))]
    exact ⟨rfl, hb⟩
def aX (n : Nat) (q : Int) : Nat := n * 2 ^ (-q).toNat
def aY (d : Nat) (q : Int) : Nat := d * 2 ^ q.toNat
def aM (n d : Nat) (q : Int) : Nat := aX n q / aY d q
theorem aY_pos {d : Nat} (hd : d ≠ 0) (q : Int) : 0 < aY d q := Nat.mul_pos (by omega) (pp _)
theorem aM_hi {n d : Nat} (hd : d ≠ 0) {q : Int} (h : (bl n : Int) - bl d - 52 ≤ q) : aM n d q < 9007199254740992 := by
  unfold aM
  rw [Nat.div_lt_iff_lt_mul (aY_pos hd q)]
  have h1 := lt_bl n
  have h2 := le_bl hd
  have h3 : 0 < bl d := by
    rcases Nat.eq_zero_or_pos (bl d) with h | h
    · have := lt_bl d; rw [h] at this; omega
    · exact h
  calc aX n q < 2 ^ bl n * 2 ^ (-q).toNat := Nat.mul_lt_mul_of_pos_right h1 (pp _)
    _ = 2 ^ (bl n + (-q).toNat) := (Nat.pow_add ..).symm
    _ ≤ 2 ^ (53 + ((bl d - 1) + q.toNat)) := pmono (by omega)
    _ = 2 ^ 53 * (2 ^ (bl d - 1) * 2 ^ q.toNat) := by rw [Nat.pow_add, Nat.pow_add]
    _ ≤ 9007199254740992 * aY d q := Nat.mul_le_mul (by decide) (Nat.mul_le_mul_right _ h2)
theorem aM_lo {n d : Nat} (hn : n ≠ 0) (hd : d ≠ 0) {q : Int} (h : q ≤ (bl n : Int) - bl d - 54) : 9007199254740992 ≤ aM n d q := by
  unfold aM
  rw [Nat.le_div_iff_mul_le (aY_pos hd q)]
  have h1 := le_bl hn
  have h2 := lt_bl d
  have h3 : 0 < bl n := by
    rcases Nat.eq_zero_or_pos (bl n) with h | h
    · have := lt_bl n; rw [h] at this; omega
    · exact h
  calc 9007199254740992 * aY d q ≤ 2 ^ 53 * (2 ^ bl d * 2 ^ q.toNat) := Nat.mul_le_mul (by decide) (Nat.mul_le_mul_right _ (Nat.le_of_lt h2))
    _ = 2 ^ (53 + (bl d + q.toNat)) := by rw [Nat.pow_add, Nat.pow_add]
    _ ≤ 2 ^ ((bl n - 1) + (-q).toNat) := pmono (by omega)
    _ = 2 ^ (bl n - 1) * 2 ^ (-q).toNat := Nat.pow_add ..
    _ ≤ aX n q := Nat.mul_le_mul_right _ h1
theorem aM_next {n d : Nat} (hd : d ≠ 0) {q : Int} (h : 9007199254740992 ≤ aM n d q) : 4503599627370496 ≤ aM n d (q + 1) := by
  unfold aM at *
  rw [Nat.le_div_iff_mul_le (aY_pos hd _)] at h ⊢
  unfold aX aY at *
  rcases Int.lt_or_le q 0 with h0 | h0
  · rw [show (-q).toNat = (-(q + 1)).toNat + 1 by omega, show q.toNat = 0 by omega, Nat.pow_succ, ← Nat.mul_assoc n, Nat.pow_zero, Nat.mul_one] at h
    rw [show (q + 1).toNat = 0 by omega, Nat.pow_zero, Nat.mul_one]
    omega
  · rw [show (-q).toNat = 0 by omega, Nat.pow_zero, Nat.mul_one] at h
    rw [show (-(q + 1)).toNat = 0 by omega, show (q + 1).toNat = q.toNat + 1 by omega, Nat.pow_succ, ← Nat.mul_assoc d, Nat.pow_zero, Nat.mul_one]
    omega
/-- the exponent at which the reference stops -/
def AQ (n d : Nat) (q : Int) : Prop := -1074 ≤ q ∧ (-1074 < q → 4503599627370496 ≤ aM n d q) ∧ (q ≤ 971 → aM n d q < 9007199254740992)
def aL (n d : Nat) (q : Int) : Nat := if 971 < q then 9218868437227405311 else (q + 1074).toNat * 4503599627370496 + aM n d q
def aC (n d : Nat) (q : Int) : Int := if 971 < q then 1 else if aX n q % aY d q = 0 then -2 else cmpZ (2 * (aX n q % aY d q)) (aY d q)
def aE (n d : Nat) (q : Int) : Bool := if 971 < q then false else decide (aM n d q % 2 = 0)
theorem aQ_ex {n d : Nat} (hd : d ≠ 0) : ∀ (g : Nat) (q : Int), (972 - q).toNat = g → -1074 ≤ q → (-1074 < q → 4503599627370496 ≤ aM n d q) →
    ∃ Q, q ≤ Q ∧ AQ n d Q ∧ ∀ p, q ≤ p → p < Q → p ≤ 971 ∧ 9007199254740992 ≤ aM n d p := by
  intro g
  induction g with
  | zero => intro q hg h0 h1; exact ⟨q, by omega, ⟨h0, h1, fun h => by omega⟩, fun p _ _ => by omega⟩
  | succ g ih =>
    intro q hg h0 h1
    rcases Nat.lt_or_ge (aM n d q) 9007199254740992 with hM | hM
    · exact ⟨q, by omega, ⟨h0, h1, fun _ => hM⟩, fun p _ _ => by omega⟩
    · obtain ⟨Q, hQ, hA, hp⟩ := ih (q + 1) (by omega) (by omega) (fun _ => aM_next hd hM)
      refine ⟨Q, by omega, hA, fun p h2 h3 => ?_⟩
      by_cases e : p = q
      · rw [e]; exact ⟨by omega, hM⟩
      · exact hp p (by omega) h3
set_option maxRecDepth 100000 in
set_option maxHeartbeats 400000 in
theorem p4around_any (N : Bool) (n d : Nat) (hn : n ≠ 0) (hd : d ≠ 0) (hn8 : Fil.dn 8 n ≤ 4001) (hd8 : Fil.dn 8 d ≤ 4001) :
    ∃ Q, AQ n d Q ∧ ∀ w, Calls Tryz.prog 89 #[.agg #[.bool N, .string (bstr n), .string (bstr d)]] w fun r w' => r = .returned (.tuple #[.float .f64 (aL n d Q), .float .f64 ((aL n d Q : Nat) + 1), .int .i64 (aC n d Q), .bool (aE n d Q)]) ∧ Below w.heap.size w w' := by
  obtain ⟨q0, hq0⟩ : ∃ q0, q0 = max (-1074) ((bl n : Int) - bl d - 54) := ⟨_, rfl⟩
  have hbn : bl n ≤ 8 * Fil.dn 8 n := bl_le (lt_dn (k := 8) (by omega) n)
  have hbd : bl d ≤ 8 * Fil.dn 8 d := bl_le (lt_dn (k := 8) (by omega) d)
  obtain ⟨Q, hQ0, hA, hQ⟩ := aQ_ex (n := n) hd _ q0 rfl (by omega) (fun h => Nat.le_trans (by decide) (aM_lo hn hd (by omega)))
  refine ⟨Q, hA, fun w => ?_⟩
  have hl1 := fun W => r2len_any n W (by omega)
  have hl2 := fun W => r2len_any d W (by omega)
  have hs1 := fun k h W => r2shift_nn n k W (by omega) h
  have hs2 := fun k h W => r2shift_nn d k W (by omega) h
  have hQ99 : Q ≤ 99999 := by
    rcases Int.lt_or_le 99999 Q with h | h
    · have := hQ (Q - 1) (by omega) (by omega)
      omega
    · exact h
  have HA := Lib.hid (And.intro hA (And.intro hQ (And.intro hn8 (And.intro hd8 (And.intro hn hd)))))
  obtain ⟨SN, hSN⟩ : ∃ SN, SN = bstr n := ⟨_, rfl⟩
  obtain ⟨SD, hSD⟩ : ∃ SD, SD = bstr d := ⟨_, rfl⟩
  rw [← hSN, ← hSD]
  simp only [← hSN] at hl1 hs1
  simp only [← hSD] at hl2 hs2
  have HS := Lib.hid (And.intro hSN hSD)
  obtain ⟨ln, hln⟩ : ∃ l, l = bl n := ⟨_, rfl⟩
  obtain ⟨ld, hld⟩ : ∃ l, l = bl d := ⟨_, rfl⟩
  rw [← hln] at hbn hq0 hl1
  rw [← hld] at hbd hq0 hl2
  have bn : ln ≤ 32008 := by omega
  have bd : ld ≤ 32008 := by omega
  have H2 := Lib.hid (And.intro hs1 hs2)
  have F := Blk.put w #[.bool N, .string SN, .string SD] 24
  have hb := (Below.refl w.heap.size w).alloc (Nat.le_refl _) (.cells #[.bool N, .string SN, .string SD] 24)
  obtain ⟨f0, f1, f2⟩ := F.ce3
  clear F hs1 hs2 hA hQ hn8 hd8 hSN hSD hln hld hbn hbd hn hd
  have hq0' : (if (ln : Int) - ld - 54 ≤ -1074 then -1074 else (ln : Int) - ld - 54) = q0 := by split <;> omega
  go_enter Tryz.func89, Tryz.ntmps89
  go_wp2_with fail
  generalize w.alloc (.cells #[.bool N, .string SN, .string SD] 24) = v at *
  go_quiet (fail)
  have hbq := Below.drewN' hb nq
  generalize v.drewN nq = u at *
  clear hb f0 f1 f2 hq0
  clear v
  go_wp2_with fail
  refine (hl1 _).mono ?_
  rintro r w1 ⟨rfl, rfl⟩
  go_wp2_with fail
  refine (hl2 _).mono ?_
  rintro r w1 ⟨rfl, rfl⟩
  clear hl1 hl2
  have hq0'' : max (-1074) ((ln : Int) - ld - 54) = q0 := by omega
  have hq1 : -1074 ≤ q0 := by omega
  go_wp2_with fail
  clear hq0' hq0'' bn bd
  go_loopg [8] (Q - q0).toNat (fun g s8 wr => ∃ q : Int, s8 = .int .i64 q ∧ g = (Q - q).toNat ∧ q0 ≤ q ∧ q ≤ Q ∧ Below w.heap.size w wr)
  case atStart => exact ⟨q0, rfl, rfl, Int.le_refl _, hQ0, hbq⟩
  case round =>
    obtain ⟨q, rfl, hg, hq2, hqQ, hbr⟩ := hrel
    clear hbq
    by_cases hq971 : 971 < q
    · have hi := fun W => minf_pos W
      have HQ := Lib.hid (show q = Q by
        rcases Int.lt_or_le q Q with h | h
        · have := HA.out.2.1 q hq2 h; omega
        · omega)
      have hq99 : q ≤ 99999 := by omega
      clear hg H2 HS hQ0 hQ99 hq2 hqQ
      go_wp2_with fail
      refine (hi _).mono ?_
      rintro r w1 ⟨rfl, rfl⟩
      clear hi
      go_wp2
      go_returns
      have hQ := HQ.out
      subst hQ
      unfold aL aC aE
      rw [if_pos hq971, if_pos hq971, if_pos hq971]
      exact ⟨rfl, hbr⟩
    · obtain ⟨k1, hk1⟩ : ∃ k, k = (-q).toNat := ⟨_, rfl⟩
      obtain ⟨k2, hk2⟩ : ∃ k, k = q.toNat := ⟨_, rfl⟩
      have m1 : max 0 (-q) = (k1 : Int) := by omega
      have m2 : max 0 q = (k2 : Int) := by omega
      have s1 := fun W => H2.out.1 k1 (by omega) W
      have s2 := fun W => H2.out.2 k2 (by omega) W
      obtain ⟨X, hX⟩ : ∃ X, X = n * 2 ^ k1 := ⟨_, rfl⟩
      obtain ⟨Y, hY⟩ : ∃ Y, Y = d * 2 ^ k2 := ⟨_, rfl⟩
      have eX : aX n q = X := by unfold aX; rw [hX, hk1]
      have eY : aY d q = Y := by unfold aY; rw [hY, hk2]
      have hX8 : Fil.dn 8 X ≤ 4201 := by rw [hX]; exact Nat.le_trans (dn8_shift HA.out.2.2.1 (by omega)) (by omega)
      have hY8 : Fil.dn 8 Y ≤ 4201 := by rw [hY]; exact Nat.le_trans (dn8_shift HA.out.2.2.2.1 (by omega)) (by omega)
      have hY0 : Y ≠ 0 := by rw [← eY]; exact Nat.ne_of_gt (aY_pos HA.out.2.2.2.2.2 q)
      rw [← hX] at s1
      rw [← hY] at s2
      have dv := fun W => r2Div_any X Y W hY0 (by omega) (by omega)
      obtain ⟨M, hM⟩ : ∃ M, M = X / Y := ⟨_, rfl⟩
      obtain ⟨r, hr⟩ : ∃ r, r = X % Y := ⟨_, rfl⟩
      have eM : aM n d q = M := by unfold aM; rw [eX, eY, hM]
      have hM8 : Fil.dn 8 M ≤ 4201 := Nat.le_trans (dn_mono (by omega) (by rw [hM]; exact Nat.div_le_self _ _)) hX8
      have hrY : r < Y := by rw [hr]; exact Nat.mod_lt _ (by omega)
      have hr8 : Fil.dn 8 r ≤ 4201 := Nat.le_trans (dn_mono (by omega) (Nat.le_of_lt hrY)) hY8
      rw [← hM, ← hr] at dv
      have sm := fun W => r2small_any M W (by omega)
      have sh := fun W => r2shift_nn r 1 W (by omega) (by omega)
      have cp := fun W => r2Cmp_any (r * 2 ^ 1) Y W (Nat.le_trans (dn8_shift (k := 1) hr8 (by omega)) (by omega)) (by omega)
      have er1 : r = 0 → (bstr r).toList = [] := fun h => by rw [h]; exact bstr_nil
      have er2 : r ≠ 0 → (bstr r).toList.isEmpty = false ∧ (bstr r).toList ≠ [] := bstr_ne
      obtain ⟨TX, hTX⟩ : ∃ T, T = bstr X := ⟨_, rfl⟩
      obtain ⟨TY, hTY⟩ : ∃ T, T = bstr Y := ⟨_, rfl⟩
      obtain ⟨TM, hTM⟩ : ∃ T, T = bstr M := ⟨_, rfl⟩
      obtain ⟨TR, hTR⟩ : ∃ T, T = bstr r := ⟨_, rfl⟩
      obtain ⟨TT, hTT⟩ : ∃ T, T = bstr (r * 2 ^ 1) := ⟨_, rfl⟩
      simp only [← hTX, ← hTY, ← hTM, ← hTR, ← hTT] at s1 s2 dv sm sh cp er1 er2
      have hq3 : -1074 ≤ q := by omega
      have HE := Lib.hid (And.intro eX (And.intro eY (And.intro eM (And.intro hr (And.intro er1 er2)))))
      have HG := Lib.hid (And.intro hg (And.intro hq2 (And.intro hqQ hQ0)))
      clear hTX hTY hTM hTR hTT hX hY hM hr eX eY eM hX8 hY8 hM8 hr8 hY0 er1 er2 hk1 hk2 H2 HS hg hq2 hqQ hQ0 hQ99 hq1
      by_cases hlt : q < Q
      · have hMb := (HA.out.2.1 q HG.out.2.1 hlt).2
        rw [HE.out.2.2.1] at hMb
        have hMb2 : ¬ M < 9007199254740992 := by omega
        have Hlt := Lib.hid hlt
        clear sh cp hlt hMb hrY
        obtain ⟨D, hD⟩ : ∃ D, D = Fil.dn 8 M := ⟨_, rfl⟩
        simp only [← hD] at sm
        have HD := Lib.hid hD
        clear hD
        by_cases h8 : D ≤ 8
        · simp only [if_pos h8, decide_eq_true h8] at sm
          have hM64 : M < 18446744073709551616 := by
            have h1 := lt_dn (k := 8) (by omega) M
            rw [← HD.out] at h1
            exact Nat.lt_of_lt_of_le h1 (Nat.le_trans (pmono (show 8 * D ≤ 64 by omega)) (by decide))
          have hMi : 9007199254740992 ≤ (M : Int) := by omega
          clear h8 hMb2
          go_wp2_with fail
          refine (s1 _).mono ?_
          rintro r1 w1 ⟨rfl, hb1⟩
          replace hbr := hbr.trans (hb1.mono hbr.size)
          clear hb1 s1 m1
          go_wp2_with fail
          refine (s2 _).mono ?_
          rintro r1 w2 ⟨rfl, hb1⟩
          replace hbr := hbr.trans (hb1.mono hbr.size)
          clear hb1 s2 m2
          go_wp2_with fail
          refine (dv _).mono ?_
          rintro r1 w3 ⟨rfl, hb1⟩
          replace hbr := hbr.trans (hb1.mono hbr.size)
          clear hb1 dv
          go_wp2_with fail
          refine (sm _).mono ?_
          rintro r1 w4 ⟨rfl, rfl⟩
          clear sm
          go_wp2
          go_roundg (Q - (q + 1)).toNat
          case measure => have := HG.out; have := Hlt.out; omega
          case rel => exact ⟨q + 1, rfl, rfl, by have := HG.out; omega, by have := Hlt.out; omega, hbr⟩
        · simp only [if_neg h8, decide_eq_false h8] at sm
          clear h8 hMb2
          go_wp2_with fail
          refine (s1 _).mono ?_
          rintro r1 w1 ⟨rfl, hb1⟩
          replace hbr := hbr.trans (hb1.mono hbr.size)
          clear hb1 s1 m1
          go_wp2_with fail
          refine (s2 _).mono ?_
          rintro r1 w2 ⟨rfl, hb1⟩
          replace hbr := hbr.trans (hb1.mono hbr.size)
          clear hb1 s2 m2
          go_wp2_with fail
          refine (dv _).mono ?_
          rintro r1 w3 ⟨rfl, hb1⟩
          replace hbr := hbr.trans (hb1.mono hbr.size)
          clear hb1 dv
          go_wp2_with fail
          refine (sm _).mono ?_
          rintro r1 w4 ⟨rfl, rfl⟩
          clear sm
          go_wp2
          go_roundg (Q - (q + 1)).toNat
          case measure => have := HG.out; have := Hlt.out; omega
          case rel => exact ⟨q + 1, rfl, rfl, by have := HG.out; omega, by have := Hlt.out; omega, hbr⟩
      · have hqQ2 := Lib.hid (show q = Q by have := HG.out; omega)
        have hMb : M < 9007199254740992 := by
          have := HA.out.1.2.2
          rw [← hqQ2.out, HE.out.2.2.1] at this
          exact this (by omega)
        have hMlo : -1074 < q → 4503599627370496 ≤ M := by
          have := HA.out.1.2.1
          rwa [← hqQ2.out, HE.out.2.2.1] at this
        have h8 : Fil.dn 8 M ≤ 8 := dn_le (by omega) (by omega)
        simp only [if_pos h8, decide_eq_true h8] at sm
        obtain ⟨L, hL⟩ : ∃ L, L = (q + 1074).toNat * 4503599627370496 + M := ⟨_, rfl⟩
        have hL1 : L < 9218868437227405312 := by omega
        have mk1 := fun W => b1make_any M q W (by omega) hq3 (by omega) hMlo L hL true (decide_eq_true hL1).symm
        obtain ⟨ok, hok⟩ : ∃ ok, ok = decide (L + 1 < 9218868437227405312) := ⟨_, rfl⟩
        have mk2 := fun W => b1make_any (M + 1) q W (by omega) hq3 (by omega) (fun h => by have := hMlo h; omega) (L + 1) (by omega) ok hok
        simp only [if_true] at mk1
        rw [show ((M + 1 : Nat) : Int) = (M : Int) + 1 by omega] at mk2
        have hL2 : ok = false → L + 1 = 9218868437227405312 := fun h => by
          rw [hok, decide_eq_false_iff_not] at h; omega
        have hi := fun W => minf_pos W
        have eL : aL n d q = L := by unfold aL; rw [if_neg hq971, HE.out.2.2.1, hL]
        have eC : aC n d q = if r = 0 then -2 else cmpZ (2 * r) Y := by unfold aC; rw [if_neg hq971, HE.out.1, HE.out.2.1, ← HE.out.2.2.2.1]
        have eE : aE n d q = decide (M % 2 = 0) := by unfold aE; rw [if_neg hq971, HE.out.2.2.1]
        have e2r : cmpZ (2 * r) Y = cmpZ (r * 2 ^ 1) Y := by rw [Nat.pow_one, Nat.mul_comm]
        obtain ⟨c, hc⟩ : ∃ c, c = cmpZ (r * 2 ^ 1) Y := ⟨_, rfl⟩
        simp only [← hc] at cp
        rw [e2r, ← hc] at eC
        rw [hqQ2.out] at eL eC eE
        have HF := Lib.hid (And.intro eL (And.intro eC eE))
        have HL := Lib.hid (And.intro hL (And.intro hok hL2))
        have er1 := HE.out.2.2.2.2.1
        have er2 := HE.out.2.2.2.2.2
        clear hL hok hL2 eL eC eE e2r hlt h8 hMlo hc hrY HG HE HA hL1
        obtain ⟨L2, hL2⟩ : ∃ l, l = L + 1 := ⟨_, rfl⟩
        simp only [← hL2] at mk2
        have HL2 := Lib.hid hL2
        clear hL2
        obtain ⟨z, hz⟩ : ∃ z, z = (M : Int) := ⟨_, rfl⟩
        have hz0 : 0 ≤ z := by omega
        have hz1 : z < 9007199254740992 := by omega
        have HM := Lib.hid (show decide (M % 2 = 0) = decide (z % 2 = 0) by rw [hz]; congr 1; apply propext; omega)
        simp only [← hz] at sm mk1 mk2
        clear hz hMb
        by_cases hr0 : r = 0
        · have er := er1 hr0
          have eC := HF.out.2.1
          rw [if_pos hr0] at eC
          have HC := Lib.hid eC
          clear er1 er2 hr0 eC
          go_wp2_with fail
          refine (s1 _).mono ?_
          rintro r1 w1 ⟨rfl, hb1⟩
          replace hbr := hbr.trans (hb1.mono hbr.size)
          clear hb1 s1 m1
          go_wp2_with fail
          refine (s2 _).mono ?_
          rintro r1 w2 ⟨rfl, hb1⟩
          replace hbr := hbr.trans (hb1.mono hbr.size)
          clear hb1 s2 m2
          go_wp2_with fail
          refine (dv _).mono ?_
          rintro r1 w3 ⟨rfl, hb1⟩
          replace hbr := hbr.trans (hb1.mono hbr.size)
          clear hb1 dv
          go_wp2_with fail
          refine (sm _).mono ?_
          rintro r1 w4 ⟨rfl, rfl⟩
          clear sm
          cases ok
          · simp only [Bool.false_eq_true, if_false] at mk2
            have hL3 := HL.out.2.2 rfl
            have HL3 := Lib.hid hL3
            clear hL3
            go_wp2_with fail
            refine (mk1 _).mono ?_
            rintro r1 w5 ⟨rfl, rfl⟩
            clear mk1
            go_wp2_with fail
            refine (mk2 _).mono ?_
            rintro r1 w6 ⟨rfl, rfl⟩
            clear mk2
            go_wp2_with fail
            refine (hi _).mono ?_
            rintro r1 w7 ⟨rfl, rfl⟩
            clear hi
            go_wp2
            go_returns
            rw [HF.out.1, HC.out, HF.out.2.2, HM.out]
            exact ⟨by rw [HL3.out]; rfl, hbr⟩
          · simp only [if_true] at mk2
            clear hi
            go_wp2_with fail
            refine (mk1 _).mono ?_
            rintro r1 w5 ⟨rfl, rfl⟩
            clear mk1
            go_wp2_with fail
            refine (mk2 _).mono ?_
            rintro r1 w6 ⟨rfl, rfl⟩
            clear mk2
            go_wp2
            go_returns
            rw [HF.out.1, HC.out, HF.out.2.2, HM.out, ← HL2.out]
            exact ⟨rfl, hbr⟩
        · have eC := HF.out.2.1
          rw [if_neg hr0] at eC
          obtain ⟨er, er3⟩ := er2 hr0
          have HC := Lib.hid eC
          rw [show ((1 : Nat) : Int) = 1 by rfl] at sh
          clear er1 er2 hr0 eC
          go_wp2_with fail
          refine (s1 _).mono ?_
          rintro r1 w1 ⟨rfl, hb1⟩
          replace hbr := hbr.trans (hb1.mono hbr.size)
          clear hb1 s1 m1
          go_wp2_with fail
          refine (s2 _).mono ?_
          rintro r1 w2 ⟨rfl, hb1⟩
          replace hbr := hbr.trans (hb1.mono hbr.size)
          clear hb1 s2 m2
          go_wp2_with fail
          refine (dv _).mono ?_
          rintro r1 w3 ⟨rfl, hb1⟩
          replace hbr := hbr.trans (hb1.mono hbr.size)
          clear hb1 dv
          go_wp2_with fail
          refine (sm _).mono ?_
          rintro r1 w4 ⟨rfl, rfl⟩
          clear sm
          cases ok
          · simp only [Bool.false_eq_true, if_false] at mk2
            have hL3 := HL.out.2.2 rfl
            have HL3 := Lib.hid hL3
            clear hL3
            go_wp2_with fail
            refine (mk1 _).mono ?_
            rintro r1 w5 ⟨rfl, rfl⟩
            clear mk1
            go_wp2_with fail
            refine (mk2 _).mono ?_
            rintro r1 w6 ⟨rfl, rfl⟩
            clear mk2
            go_wp2_with fail
            refine (hi _).mono ?_
            rintro r1 w7 ⟨rfl, rfl⟩
            clear hi
            go_wp2_with fail
            refine (sh _).mono ?_
            rintro r1 w8 ⟨rfl, hb1⟩
            replace hbr := hbr.trans (hb1.mono hbr.size)
            clear hb1 sh
            go_wp2_with fail
            refine (cp _).mono ?_
            rintro r1 w9 ⟨rfl, kk, rfl⟩
            clear cp
            replace hbr := Below.drewN' hbr kk
            go_wp2
            go_returns
            rw [HF.out.1, HC.out, HF.out.2.2, HM.out]
            exact ⟨by rw [HL3.out]; rfl, hbr⟩
          · simp only [if_true] at mk2
            clear hi
            go_wp2_with fail
            refine (mk1 _).mono ?_
            rintro r1 w5 ⟨rfl, rfl⟩
            clear mk1
            go_wp2_with fail
            refine (mk2 _).mono ?_
            rintro r1 w6 ⟨rfl, rfl⟩
            clear mk2
            go_wp2_with fail
            refine (sh _).mono ?_
            rintro r1 w8 ⟨rfl, hb1⟩
            replace hbr := hbr.trans (hb1.mono hbr.size)
            clear hb1 sh
            go_wp2_with fail
            refine (cp _).mono ?_
            rintro r1 w9 ⟨rfl, kk, rfl⟩
            clear cp
            replace hbr := Below.drewN' hbr kk
            go_wp2
            go_returns
            rw [HF.out.1, HC.out, HF.out.2.2, HM.out, ← HL2.out]
            exact ⟨rfl, hbr⟩
end Go.Proofs.YtbfnafcpjbdbpaaGreat

/- The reference of layer 4: signed, Float, Below, Above; the plain contracts over Rats. -/
namespace Go.Proofs.YtbfnafcpjbdbpaaGreat
open Go Go.RowKit Go.PlainAid Fil

theorem p4signed_any (N : Bool) (X : Nat) (w : World) (h : X < 9223372036854775808) :
    Calls Tryz.prog 79 #[.bool N, .float .f64 X] w fun r w' => r = .returned (.float .f64 (Ieee.double.word N X)) ∧ w = w' := by
  cases N
  · go_enter Tryz.func79, Tryz.ntmps79
    go_wp2
    go_ret
    exact ⟨rfl, rfl⟩
  · have hc := fun W => copysign_neg X W h
    go_enter Tryz.func79, Tryz.ntmps79
    go_wp2_with fail
    refine (hc _).mono ?_
    rintro r w1 ⟨rfl, rfl⟩
    clear hc
    go_wp2
    go_ret
    exact ⟨rfl, rfl⟩
theorem p4float_0 (N : Bool) (T : ByteArray) (w : World) :
    Calls Tryz.prog 35 #[.agg #[.bool N, .string { data := #[] }, .string T]] w fun r w' => r = .returned (.float .f64 0) ∧ Below w.heap.size w w' := by
  have F := Blk.put w #[.bool N, .string { data := #[] }, .string T] 24
  have hb := (Below.refl w.heap.size w).alloc (Nat.le_refl _) (.cells #[.bool N, .string { data := #[] }, .string T] 24)
  obtain ⟨f0, f1, f2⟩ := F.ce3
  go_enter Tryz.func35, Tryz.ntmps35
  go_wp2
  go_ret
  exact ⟨rfl, hb⟩
theorem p4below_0 (N : Bool) (T : ByteArray) (w : World) :
    Calls Tryz.prog 36 #[.agg #[.bool N, .string { data := #[] }, .string T]] w fun r w' => r = .returned (.float .f64 0) ∧ Below w.heap.size w w' := by
  have F := Blk.put w #[.bool N, .string { data := #[] }, .string T] 24
  have hb := (Below.refl w.heap.size w).alloc (Nat.le_refl _) (.cells #[.bool N, .string { data := #[] }, .string T] 24)
  obtain ⟨f0, f1, f2⟩ := F.ce3
  go_enter Tryz.func36, Tryz.ntmps36
  go_wp2
  go_ret
  exact ⟨rfl, hb⟩
theorem p4above_0 (N : Bool) (T : ByteArray) (w : World) :
    Calls Tryz.prog 37 #[.agg #[.bool N, .string { data := #[] }, .string T]] w fun r w' => r = .returned (.float .f64 0) ∧ Below w.heap.size w w' := by
  have F := Blk.put w #[.bool N, .string { data := #[] }, .string T] 24
  have hb := (Below.refl w.heap.size w).alloc (Nat.le_refl _) (.cells #[.bool N, .string { data := #[] }, .string T] 24)
  obtain ⟨f0, f1, f2⟩ := F.ce3
  go_enter Tryz.func37, Tryz.ntmps37
  go_wp2
  go_ret
  exact ⟨rfl, hb⟩
set_option maxRecDepth 100000 in
set_option maxHeartbeats 2000000 in
theorem p4float_gt  (S T : ByteArray) (X Y : Nat) (N : Bool) (Z : Nat) (c : Int) (e : Bool) (hc : 0 < c) (w : World) (hS1 : S.toList.isEmpty = false) (_hS2 : S.toList ≠ [])
    (h1 : ∀ W, Calls Tryz.prog 89 #[.agg #[.bool N, .string S, .string T]] W fun r w' => r = .returned (.tuple #[.float .f64 X, .float .f64 Y, .int .i64 c, .bool e]) ∧ Below W.heap.size W w') (h2 : ∀ W, Calls Tryz.prog 79 #[.bool N, .float .f64 Y] W fun r w' => r = .returned (.float .f64 Z) ∧ W = w') :
    Calls Tryz.prog 35 #[.agg #[.bool N, .string S, .string T]] w fun r w' => r = .returned (.float .f64 (Z)) ∧ Below w.heap.size w w' := by
  have F := Blk.put w #[.bool N, .string S, .string T] 24
  have hb := (Below.refl w.heap.size w).alloc (Nat.le_refl _) (.cells #[.bool N, .string S, .string T] 24)
  obtain ⟨f0, f1, f2⟩ := F.ce3
  go_enter Tryz.func35, Tryz.ntmps35
  go_wp2_with fail
  refine (h1 _).mono ?_
  rintro r w1 ⟨rfl, hB⟩
  clear f0 f1 f2 h1
  replace F := F.keep hB
  replace hb := hb.trans (hB.mono hb.size)
  clear hB
  obtain ⟨f0, f1, f2⟩ := F.ce3
  go_wp2_with fail
  refine (h2 _).mono ?_
  rintro r w2 ⟨rfl, rfl⟩
  clear h2
  go_wp2
  go_ret
  exact ⟨rfl, hb⟩
set_option maxRecDepth 100000 in
set_option maxHeartbeats 2000000 in
theorem p4float_lt  (S T : ByteArray) (X Y : Nat) (N : Bool) (Z : Nat) (c : Int) (e : Bool) (hc : ¬ 0 < c) (hc0 : ¬ c = 0) (w : World) (hS1 : S.toList.isEmpty = false) (_hS2 : S.toList ≠ [])
    (h1 : ∀ W, Calls Tryz.prog 89 #[.agg #[.bool N, .string S, .string T]] W fun r w' => r = .returned (.tuple #[.float .f64 X, .float .f64 Y, .int .i64 c, .bool e]) ∧ Below W.heap.size W w') (h2 : ∀ W, Calls Tryz.prog 79 #[.bool N, .float .f64 X] W fun r w' => r = .returned (.float .f64 Z) ∧ W = w') :
    Calls Tryz.prog 35 #[.agg #[.bool N, .string S, .string T]] w fun r w' => r = .returned (.float .f64 (Z)) ∧ Below w.heap.size w w' := by
  have F := Blk.put w #[.bool N, .string S, .string T] 24
  have hb := (Below.refl w.heap.size w).alloc (Nat.le_refl _) (.cells #[.bool N, .string S, .string T] 24)
  obtain ⟨f0, f1, f2⟩ := F.ce3
  go_enter Tryz.func35, Tryz.ntmps35
  go_wp2_with fail
  refine (h1 _).mono ?_
  rintro r w1 ⟨rfl, hB⟩
  clear f0 f1 f2 h1
  replace F := F.keep hB
  replace hb := hb.trans (hB.mono hb.size)
  clear hB
  obtain ⟨f0, f1, f2⟩ := F.ce3
  go_wp2_with fail
  refine (h2 _).mono ?_
  rintro r w2 ⟨rfl, rfl⟩
  clear h2
  go_wp2
  go_ret
  exact ⟨rfl, hb⟩
set_option maxRecDepth 100000 in
set_option maxHeartbeats 2000000 in
theorem p4float_even  (S T : ByteArray) (X Y : Nat) (N : Bool) (Z : Nat) (w : World) (hS1 : S.toList.isEmpty = false) (_hS2 : S.toList ≠ [])
    (h1 : ∀ W, Calls Tryz.prog 89 #[.agg #[.bool N, .string S, .string T]] W fun r w' => r = .returned (.tuple #[.float .f64 X, .float .f64 Y, .int .i64 0, .bool true]) ∧ Below W.heap.size W w') (h2 : ∀ W, Calls Tryz.prog 79 #[.bool N, .float .f64 X] W fun r w' => r = .returned (.float .f64 Z) ∧ W = w') :
    Calls Tryz.prog 35 #[.agg #[.bool N, .string S, .string T]] w fun r w' => r = .returned (.float .f64 (Z)) ∧ Below w.heap.size w w' := by
  have F := Blk.put w #[.bool N, .string S, .string T] 24
  have hb := (Below.refl w.heap.size w).alloc (Nat.le_refl _) (.cells #[.bool N, .string S, .string T] 24)
  obtain ⟨f0, f1, f2⟩ := F.ce3
  go_enter Tryz.func35, Tryz.ntmps35
  go_wp2_with fail
  refine (h1 _).mono ?_
  rintro r w1 ⟨rfl, hB⟩
  clear f0 f1 f2 h1
  replace F := F.keep hB
  replace hb := hb.trans (hB.mono hb.size)
  clear hB
  obtain ⟨f0, f1, f2⟩ := F.ce3
  go_wp2_with fail
  refine (h2 _).mono ?_
  rintro r w2 ⟨rfl, rfl⟩
  clear h2
  go_wp2
  go_ret
  exact ⟨rfl, hb⟩
set_option maxRecDepth 100000 in
set_option maxHeartbeats 2000000 in
theorem p4float_odd  (S T : ByteArray) (X Y : Nat) (N : Bool) (Z : Nat) (w : World) (hS1 : S.toList.isEmpty = false) (_hS2 : S.toList ≠ [])
    (h1 : ∀ W, Calls Tryz.prog 89 #[.agg #[.bool N, .string S, .string T]] W fun r w' => r = .returned (.tuple #[.float .f64 X, .float .f64 Y, .int .i64 0, .bool false]) ∧ Below W.heap.size W w') (h2 : ∀ W, Calls Tryz.prog 79 #[.bool N, .float .f64 Y] W fun r w' => r = .returned (.float .f64 Z) ∧ W = w') :
    Calls Tryz.prog 35 #[.agg #[.bool N, .string S, .string T]] w fun r w' => r = .returned (.float .f64 (Z)) ∧ Below w.heap.size w w' := by
  have F := Blk.put w #[.bool N, .string S, .string T] 24
  have hb := (Below.refl w.heap.size w).alloc (Nat.le_refl _) (.cells #[.bool N, .string S, .string T] 24)
  obtain ⟨f0, f1, f2⟩ := F.ce3
  go_enter Tryz.func35, Tryz.ntmps35
  go_wp2_with fail
  refine (h1 _).mono ?_
  rintro r w1 ⟨rfl, hB⟩
  clear f0 f1 f2 h1
  replace F := F.keep hB
  replace hb := hb.trans (hB.mono hb.size)
  clear hB
  obtain ⟨f0, f1, f2⟩ := F.ce3
  go_wp2_with fail
  refine (h2 _).mono ?_
  rintro r w2 ⟨rfl, rfl⟩
  clear h2
  go_wp2
  go_ret
  exact ⟨rfl, hb⟩
set_option maxRecDepth 100000 in
set_option maxHeartbeats 2000000 in
theorem p4below_f  (S T : ByteArray) (X Y : Nat) (Z : Nat) (c : Int) (e : Bool) (w : World) (hS1 : S.toList.isEmpty = false) (_hS2 : S.toList ≠ [])
    (h1 : ∀ W, Calls Tryz.prog 89 #[.agg #[.bool false, .string S, .string T]] W fun r w' => r = .returned (.tuple #[.float .f64 X, .float .f64 Y, .int .i64 c, .bool e]) ∧ Below W.heap.size W w') (h2 : ∀ W, Calls Tryz.prog 79 #[.bool false, .float .f64 X] W fun r w' => r = .returned (.float .f64 Z) ∧ W = w') :
    Calls Tryz.prog 36 #[.agg #[.bool false, .string S, .string T]] w fun r w' => r = .returned (.float .f64 (Z)) ∧ Below w.heap.size w w' := by
  have F := Blk.put w #[.bool false, .string S, .string T] 24
  have hb := (Below.refl w.heap.size w).alloc (Nat.le_refl _) (.cells #[.bool false, .string S, .string T] 24)
  obtain ⟨f0, f1, f2⟩ := F.ce3
  go_enter Tryz.func36, Tryz.ntmps36
  go_wp2_with fail
  refine (h1 _).mono ?_
  rintro r w1 ⟨rfl, hB⟩
  clear f0 f1 f2 h1
  replace F := F.keep hB
  replace hb := hb.trans (hB.mono hb.size)
  clear hB
  obtain ⟨f0, f1, f2⟩ := F.ce3
  go_wp2_with fail
  refine (h2 _).mono ?_
  rintro r w2 ⟨rfl, rfl⟩
  clear h2
  go_wp2
  go_ret
  exact ⟨rfl, hb⟩
set_option maxRecDepth 100000 in
set_option maxHeartbeats 2000000 in
theorem p4below_t  (S T : ByteArray) (X Y : Nat) (Z : Nat) (c : Int) (e : Bool) (hc : ¬ c = -2) (w : World) (hS1 : S.toList.isEmpty = false) (_hS2 : S.toList ≠ [])
    (h1 : ∀ W, Calls Tryz.prog 89 #[.agg #[.bool true, .string S, .string T]] W fun r w' => r = .returned (.tuple #[.float .f64 X, .float .f64 Y, .int .i64 c, .bool e]) ∧ Below W.heap.size W w') (h2 : ∀ W, Calls Tryz.prog 79 #[.bool true, .float .f64 Y] W fun r w' => r = .returned (.float .f64 Z) ∧ W = w') :
    Calls Tryz.prog 36 #[.agg #[.bool true, .string S, .string T]] w fun r w' => r = .returned (.float .f64 (Z)) ∧ Below w.heap.size w w' := by
  have F := Blk.put w #[.bool true, .string S, .string T] 24
  have hb := (Below.refl w.heap.size w).alloc (Nat.le_refl _) (.cells #[.bool true, .string S, .string T] 24)
  obtain ⟨f0, f1, f2⟩ := F.ce3
  go_enter Tryz.func36, Tryz.ntmps36
  go_wp2_with fail
  refine (h1 _).mono ?_
  rintro r w1 ⟨rfl, hB⟩
  clear f0 f1 f2 h1
  replace F := F.keep hB
  replace hb := hb.trans (hB.mono hb.size)
  clear hB
  obtain ⟨f0, f1, f2⟩ := F.ce3
  go_wp2_with fail
  refine (h2 _).mono ?_
  rintro r w2 ⟨rfl, rfl⟩
  clear h2
  go_wp2
  go_ret
  exact ⟨rfl, hb⟩
set_option maxRecDepth 100000 in
set_option maxHeartbeats 2000000 in
theorem p4below_x  (S T : ByteArray) (X Y : Nat) (Z : Nat) (e : Bool) (w : World) (hS1 : S.toList.isEmpty = false) (_hS2 : S.toList ≠ [])
    (h1 : ∀ W, Calls Tryz.prog 89 #[.agg #[.bool true, .string S, .string T]] W fun r w' => r = .returned (.tuple #[.float .f64 X, .float .f64 Y, .int .i64 (-2), .bool e]) ∧ Below W.heap.size W w') (h2 : ∀ W, Calls Tryz.prog 79 #[.bool true, .float .f64 X] W fun r w' => r = .returned (.float .f64 Z) ∧ W = w') :
    Calls Tryz.prog 36 #[.agg #[.bool true, .string S, .string T]] w fun r w' => r = .returned (.float .f64 (Z)) ∧ Below w.heap.size w w' := by
  have F := Blk.put w #[.bool true, .string S, .string T] 24
  have hb := (Below.refl w.heap.size w).alloc (Nat.le_refl _) (.cells #[.bool true, .string S, .string T] 24)
  obtain ⟨f0, f1, f2⟩ := F.ce3
  go_enter Tryz.func36, Tryz.ntmps36
  go_wp2_with fail
  refine (h1 _).mono ?_
  rintro r w1 ⟨rfl, hB⟩
  clear f0 f1 f2 h1
  replace F := F.keep hB
  replace hb := hb.trans (hB.mono hb.size)
  clear hB
  obtain ⟨f0, f1, f2⟩ := F.ce3
  go_wp2_with fail
  refine (h2 _).mono ?_
  rintro r w2 ⟨rfl, rfl⟩
  clear h2
  go_wp2
  go_ret
  exact ⟨rfl, hb⟩
set_option maxRecDepth 100000 in
set_option maxHeartbeats 2000000 in
theorem p4above_t  (S T : ByteArray) (X Y : Nat) (Z : Nat) (c : Int) (e : Bool) (w : World) (hS1 : S.toList.isEmpty = false) (_hS2 : S.toList ≠ [])
    (h1 : ∀ W, Calls Tryz.prog 89 #[.agg #[.bool true, .string S, .string T]] W fun r w' => r = .returned (.tuple #[.float .f64 X, .float .f64 Y, .int .i64 c, .bool e]) ∧ Below W.heap.size W w') (h2 : ∀ W, Calls Tryz.prog 79 #[.bool true, .float .f64 X] W fun r w' => r = .returned (.float .f64 Z) ∧ W = w') :
    Calls Tryz.prog 37 #[.agg #[.bool true, .string S, .string T]] w fun r w' => r = .returned (.float .f64 (Z)) ∧ Below w.heap.size w w' := by
  have F := Blk.put w #[.bool true, .string S, .string T] 24
  have hb := (Below.refl w.heap.size w).alloc (Nat.le_refl _) (.cells #[.bool true, .string S, .string T] 24)
  obtain ⟨f0, f1, f2⟩ := F.ce3
  go_enter Tryz.func37, Tryz.ntmps37
  go_wp2_with fail
  refine (h1 _).mono ?_
  rintro r w1 ⟨rfl, hB⟩
  clear f0 f1 f2 h1
  replace F := F.keep hB
  replace hb := hb.trans (hB.mono hb.size)
  clear hB
  obtain ⟨f0, f1, f2⟩ := F.ce3
  go_wp2_with fail
  refine (h2 _).mono ?_
  rintro r w2 ⟨rfl, rfl⟩
  clear h2
  go_wp2
  go_ret
  exact ⟨rfl, hb⟩
set_option maxRecDepth 100000 in
set_option maxHeartbeats 2000000 in
theorem p4above_f  (S T : ByteArray) (X Y : Nat) (c : Int) (e : Bool) (hc : ¬ c = -2) (w : World) (hS1 : S.toList.isEmpty = false) (_hS2 : S.toList ≠ [])
    (h1 : ∀ W, Calls Tryz.prog 89 #[.agg #[.bool false, .string S, .string T]] W fun r w' => r = .returned (.tuple #[.float .f64 X, .float .f64 Y, .int .i64 c, .bool e]) ∧ Below W.heap.size W w') :
    Calls Tryz.prog 37 #[.agg #[.bool false, .string S, .string T]] w fun r w' => r = .returned (.float .f64 (Y)) ∧ Below w.heap.size w w' := by
  have F := Blk.put w #[.bool false, .string S, .string T] 24
  have hb := (Below.refl w.heap.size w).alloc (Nat.le_refl _) (.cells #[.bool false, .string S, .string T] 24)
  obtain ⟨f0, f1, f2⟩ := F.ce3
  go_enter Tryz.func37, Tryz.ntmps37
  go_wp2_with fail
  refine (h1 _).mono ?_
  rintro r w1 ⟨rfl, hB⟩
  clear f0 f1 f2 h1
  replace F := F.keep hB
  replace hb := hb.trans (hB.mono hb.size)
  clear hB
  obtain ⟨f0, f1, f2⟩ := F.ce3
  go_wp2
  go_ret
  exact ⟨rfl, hb⟩
set_option maxRecDepth 100000 in
set_option maxHeartbeats 2000000 in
theorem p4above_x  (S T : ByteArray) (X Y : Nat) (Z : Nat) (e : Bool) (w : World) (hS1 : S.toList.isEmpty = false) (_hS2 : S.toList ≠ [])
    (h1 : ∀ W, Calls Tryz.prog 89 #[.agg #[.bool false, .string S, .string T]] W fun r w' => r = .returned (.tuple #[.float .f64 X, .float .f64 Y, .int .i64 (-2), .bool e]) ∧ Below W.heap.size W w') (h2 : ∀ W, Calls Tryz.prog 79 #[.bool false, .float .f64 X] W fun r w' => r = .returned (.float .f64 Z) ∧ W = w') :
    Calls Tryz.prog 37 #[.agg #[.bool false, .string S, .string T]] w fun r w' => r = .returned (.float .f64 (Z)) ∧ Below w.heap.size w w' := by
  have F := Blk.put w #[.bool false, .string S, .string T] 24
  have hb := (Below.refl w.heap.size w).alloc (Nat.le_refl _) (.cells #[.bool false, .string S, .string T] 24)
  obtain ⟨f0, f1, f2⟩ := F.ce3
  go_enter Tryz.func37, Tryz.ntmps37
  go_wp2_with fail
  refine (h1 _).mono ?_
  rintro r w1 ⟨rfl, hB⟩
  clear f0 f1 f2 h1
  replace F := F.keep hB
  replace hb := hb.trans (hB.mono hb.size)
  clear hB
  obtain ⟨f0, f1, f2⟩ := F.ce3
  go_wp2_with fail
  refine (h2 _).mono ?_
  rintro r w2 ⟨rfl, rfl⟩
  clear h2
  go_wp2
  go_ret
  exact ⟨rfl, hb⟩
set_option maxRecDepth 100000 in
set_option maxHeartbeats 8000000 in
theorem p4floor_0 (xS xT Q M : ByteArray) (vn : Bool) (vS vT : ByteArray) (w : World) (h1 : ∀ W, Calls Tryz.prog 88 #[.string xS, .string xT] W fun r w' => r = .returned (.tuple #[.string Q, .string M, .int .i64 0]) ∧ Below W.heap.size W w') (h3 : ∀ W, Calls Tryz.prog 52 #[.bool false, .string Q, .string { data := #[1] }] W fun r w' => r = .returned (.agg #[.bool vn, .string vS, .string vT]) ∧ Below W.heap.size W w') :
    Calls Tryz.prog 34 #[.agg #[.bool false, .string xS, .string xT]] w fun r w' => r = .returned (.agg #[.bool vn, .string vS, .string vT]) ∧ Below w.heap.size w w' := by
  go_enter Tryz.func34, Tryz.ntmps34
  have B0 := Below.refl w.heap.size w
  have F1 := Blk.put (w) #[.bool false, .string xS, .string xT] 24
  replace B0 := B0.alloc B0.size (.cells #[.bool false, .string xS, .string xT] 24)
  have q_w_F2 : Hid (w.heap.size ≤ w.heap.size + 1) := Lib.hid (by omega)
  replace F1 := F1.allocd (.cells #[.bool false, .string { data := #[] }, .string { data := #[] }] 24)
  have F2 := Blk.put ((w).alloc (.cells #[.bool false, .string xS, .string xT] 24)) #[.bool false, .string { data := #[] }, .string { data := #[] }] 24
  rw [show ((w).alloc (.cells #[.bool false, .string xS, .string xT] 24)).heap.size = w.heap.size + 1 by simp] at F2
  replace B0 := B0.alloc B0.size (.cells #[.bool false, .string { data := #[] }, .string { data := #[] }] 24)
  obtain ⟨xF10_0, xF10_1, xF10_2⟩ := F1.ce3
  go_wp2_with fail
  (with_reducible refine (h1 _).mono ?_)
  rintro r w1 ⟨rfl, hb1⟩
  clear xF10_0 xF10_1 xF10_2
  replace F1 := F1.keep hb1
  replace F2 := F2.keep hb1
  replace B0 := B0.trans (hb1.mono B0.size)
  clear hb1
  obtain ⟨xF11_0, xF11_1, xF11_2⟩ := F1.ce3
  go_wp2_with fail
  (with_reducible refine (h3 _).mono ?_)
  rintro r w2 ⟨rfl, hb2⟩
  clear xF11_0 xF11_1 xF11_2
  replace F1 := F1.keep hb2
  replace F2 := F2.keep hb2
  replace B0 := B0.trans (hb2.mono B0.size)
  clear hb2
  obtain ⟨xF22_0, xF22_1, xF22_2⟩ := F2.ce3
  obtain ⟨xF22_0f, xF22_1f, xF22_2f⟩ := F2.fr3
  clear F1
  replace F2 : Blk ((((w2).setCell ⟨w.heap.size + 1, 0, none⟩ (.bool vn)).setCell ⟨w.heap.size + 1, 1, none⟩ (.string vS)).setCell ⟨w.heap.size + 1, 2, none⟩ (.string vT)) (w.heap.size + 1) #[.bool vn, .string vS, .string vT] 24 := (((F2.setAt 0 (.bool vn)).setAt 1 (.string vS)).setAt 2 (.string vT))
  replace B0 := (((B0.setCell (p := ⟨w.heap.size + 1, 0, none⟩) q_w_F2.out (.bool vn)).setCell (p := ⟨w.heap.size + 1, 1, none⟩) q_w_F2.out (.string vS)).setCell (p := ⟨w.heap.size + 1, 2, none⟩) q_w_F2.out (.string vT))
  obtain ⟨xF23_0, xF23_1, xF23_2⟩ := F2.ce3
  go_wp2
  exact bodyPost_ret (v := .agg #[.bool vn, .string vS, .string vT]) (by simp [results, Tryz.results34, go_sem, xF23_0, xF23_1, xF23_2]) rfl ⟨rfl, B0⟩
set_option maxRecDepth 100000 in
set_option maxHeartbeats 8000000 in
theorem p4floor_1 (xS xT Q M : ByteArray) (vn : Bool) (vS vT : ByteArray) (w : World) (h1 : ∀ W, Calls Tryz.prog 88 #[.string xS, .string xT] W fun r w' => r = .returned (.tuple #[.string Q, .string M, .int .i64 0]) ∧ Below W.heap.size W w') (hM : M.toList = []) (h3 : ∀ W, Calls Tryz.prog 52 #[.bool true, .string Q, .string { data := #[1] }] W fun r w' => r = .returned (.agg #[.bool vn, .string vS, .string vT]) ∧ Below W.heap.size W w') :
    Calls Tryz.prog 34 #[.agg #[.bool true, .string xS, .string xT]] w fun r w' => r = .returned (.agg #[.bool vn, .string vS, .string vT]) ∧ Below w.heap.size w w' := by
  go_enter Tryz.func34, Tryz.ntmps34
  have B0 := Below.refl w.heap.size w
  have F1 := Blk.put (w) #[.bool true, .string xS, .string xT] 24
  replace B0 := B0.alloc B0.size (.cells #[.bool true, .string xS, .string xT] 24)
  have q_w_F2 : Hid (w.heap.size ≤ w.heap.size + 1) := Lib.hid (by omega)
  replace F1 := F1.allocd (.cells #[.bool false, .string { data := #[] }, .string { data := #[] }] 24)
  have F2 := Blk.put ((w).alloc (.cells #[.bool true, .string xS, .string xT] 24)) #[.bool false, .string { data := #[] }, .string { data := #[] }] 24
  rw [show ((w).alloc (.cells #[.bool true, .string xS, .string xT] 24)).heap.size = w.heap.size + 1 by simp] at F2
  replace B0 := B0.alloc B0.size (.cells #[.bool false, .string { data := #[] }, .string { data := #[] }] 24)
  obtain ⟨xF10_0, xF10_1, xF10_2⟩ := F1.ce3
  go_wp2_with fail
  (with_reducible refine (h1 _).mono ?_)
  rintro r w1 ⟨rfl, hb1⟩
  clear xF10_0 xF10_1 xF10_2
  replace F1 := F1.keep hb1
  replace F2 := F2.keep hb1
  replace B0 := B0.trans (hb1.mono B0.size)
  clear hb1
  obtain ⟨xF11_0, xF11_1, xF11_2⟩ := F1.ce3
  go_wp2_with fail
  (with_reducible refine (h3 _).mono ?_)
  rintro r w2 ⟨rfl, hb2⟩
  clear xF11_0 xF11_1 xF11_2
  replace F1 := F1.keep hb2
  replace F2 := F2.keep hb2
  replace B0 := B0.trans (hb2.mono B0.size)
  clear hb2
  obtain ⟨xF22_0, xF22_1, xF22_2⟩ := F2.ce3
  obtain ⟨xF22_0f, xF22_1f, xF22_2f⟩ := F2.fr3
  clear F1
  replace F2 : Blk ((((w2).setCell ⟨w.heap.size + 1, 0, none⟩ (.bool vn)).setCell ⟨w.heap.size + 1, 1, none⟩ (.string vS)).setCell ⟨w.heap.size + 1, 2, none⟩ (.string vT)) (w.heap.size + 1) #[.bool vn, .string vS, .string vT] 24 := (((F2.setAt 0 (.bool vn)).setAt 1 (.string vS)).setAt 2 (.string vT))
  replace B0 := (((B0.setCell (p := ⟨w.heap.size + 1, 0, none⟩) q_w_F2.out (.bool vn)).setCell (p := ⟨w.heap.size + 1, 1, none⟩) q_w_F2.out (.string vS)).setCell (p := ⟨w.heap.size + 1, 2, none⟩) q_w_F2.out (.string vT))
  obtain ⟨xF23_0, xF23_1, xF23_2⟩ := F2.ce3
  go_wp2
  exact bodyPost_ret (v := .agg #[.bool vn, .string vS, .string vT]) (by simp [results, Tryz.results34, go_sem, xF23_0, xF23_1, xF23_2]) rfl ⟨rfl, B0⟩
set_option maxRecDepth 100000 in
set_option maxHeartbeats 8000000 in
theorem p4floor_2 (xS xT Q M : ByteArray) (P : ByteArray) (vn : Bool) (vS vT : ByteArray) (w : World) (h1 : ∀ W, Calls Tryz.prog 88 #[.string xS, .string xT] W fun r w' => r = .returned (.tuple #[.string Q, .string M, .int .i64 0]) ∧ Below W.heap.size W w') (hM : M.toList.isEmpty = false) (_hM2 : M.toList ≠ []) (h2 : ∀ W, Calls Tryz.prog 51 #[.string Q, .string { data := #[1] }] W fun r w' => r = .returned (.tuple #[.string P, .int .i64 0]) ∧ Below W.heap.size W w') (h3 : ∀ W, Calls Tryz.prog 52 #[.bool true, .string P, .string { data := #[1] }] W fun r w' => r = .returned (.agg #[.bool vn, .string vS, .string vT]) ∧ Below W.heap.size W w') :
    Calls Tryz.prog 34 #[.agg #[.bool true, .string xS, .string xT]] w fun r w' => r = .returned (.agg #[.bool vn, .string vS, .string vT]) ∧ Below w.heap.size w w' := by
  go_enter Tryz.func34, Tryz.ntmps34
  have B0 := Below.refl w.heap.size w
  have F1 := Blk.put (w) #[.bool true, .string xS, .string xT] 24
  replace B0 := B0.alloc B0.size (.cells #[.bool true, .string xS, .string xT] 24)
  have q_w_F2 : Hid (w.heap.size ≤ w.heap.size + 1) := Lib.hid (by omega)
  replace F1 := F1.allocd (.cells #[.bool false, .string { data := #[] }, .string { data := #[] }] 24)
  have F2 := Blk.put ((w).alloc (.cells #[.bool true, .string xS, .string xT] 24)) #[.bool false, .string { data := #[] }, .string { data := #[] }] 24
  rw [show ((w).alloc (.cells #[.bool true, .string xS, .string xT] 24)).heap.size = w.heap.size + 1 by simp] at F2
  replace B0 := B0.alloc B0.size (.cells #[.bool false, .string { data := #[] }, .string { data := #[] }] 24)
  obtain ⟨xF10_0, xF10_1, xF10_2⟩ := F1.ce3
  go_wp2_with fail
  (with_reducible refine (h1 _).mono ?_)
  rintro r w1 ⟨rfl, hb1⟩
  clear xF10_0 xF10_1 xF10_2
  replace F1 := F1.keep hb1
  replace F2 := F2.keep hb1
  replace B0 := B0.trans (hb1.mono B0.size)
  clear hb1
  obtain ⟨xF11_0, xF11_1, xF11_2⟩ := F1.ce3
  go_wp2_with fail
  (with_reducible refine (h2 _).mono ?_)
  rintro r w2 ⟨rfl, hb2⟩
  clear xF11_0 xF11_1 xF11_2
  replace F1 := F1.keep hb2
  replace F2 := F2.keep hb2
  replace B0 := B0.trans (hb2.mono B0.size)
  clear hb2
  obtain ⟨xF12_0, xF12_1, xF12_2⟩ := F1.ce3
  go_wp2_with fail
  (with_reducible refine (h3 _).mono ?_)
  rintro r w3 ⟨rfl, hb3⟩
  clear xF12_0 xF12_1 xF12_2
  replace F1 := F1.keep hb3
  replace F2 := F2.keep hb3
  replace B0 := B0.trans (hb3.mono B0.size)
  clear hb3
  obtain ⟨xF23_0, xF23_1, xF23_2⟩ := F2.ce3
  obtain ⟨xF23_0f, xF23_1f, xF23_2f⟩ := F2.fr3
  clear F1
  replace F2 : Blk ((((w3).setCell ⟨w.heap.size + 1, 0, none⟩ (.bool vn)).setCell ⟨w.heap.size + 1, 1, none⟩ (.string vS)).setCell ⟨w.heap.size + 1, 2, none⟩ (.string vT)) (w.heap.size + 1) #[.bool vn, .string vS, .string vT] 24 := (((F2.setAt 0 (.bool vn)).setAt 1 (.string vS)).setAt 2 (.string vT))
  replace B0 := (((B0.setCell (p := ⟨w.heap.size + 1, 0, none⟩) q_w_F2.out (.bool vn)).setCell (p := ⟨w.heap.size + 1, 1, none⟩) q_w_F2.out (.string vS)).setCell (p := ⟨w.heap.size + 1, 2, none⟩) q_w_F2.out (.string vT))
  obtain ⟨xF24_0, xF24_1, xF24_2⟩ := F2.ce3
  go_wp2
  exact bodyPost_ret (v := .agg #[.bool vn, .string vS, .string vT]) (by simp [results, Tryz.results34, go_sem, xF24_0, xF24_1, xF24_2]) rfl ⟨rfl, B0⟩
end Go.Proofs.YtbfnafcpjbdbpaaGreat
