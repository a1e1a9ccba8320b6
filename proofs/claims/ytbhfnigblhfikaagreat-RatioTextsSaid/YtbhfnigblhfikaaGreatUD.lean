/- Merged: UB U6 U7 U8 U1 U2 U3 U4 U5 U9 UA UD -/
import Derived.Test.YtbhfnigblhfikaaGreatM4
import Derived.Test.YtbhfnigblhfikaaGreatB7
import Derived.Test.YtbhfnigblhfikaaGreatM9
import Derived.Test.YtbhfnigblhfikaaGreatJK
import Derived.Test.YtbhfnigblhfikaaGreatJU
import Derived.Test.YtbhfnigblhfikaaGreatJL
import Derived.Test.YtbhfnigblhfikaaGreatJF

/- ratio's Float, Floor, Below, Above, Part: the ways that were lacking; RatioFloors: its ways, by letters. -/
namespace Go.Proofs.YtbhfnigblhfikaaGreat
open Go Go.RowKit Go.PlainAid Fil

set_option maxRecDepth 100000 in
set_option maxHeartbeats 2000000 in
theorem l4like_same2 (f : Nat) (w : World) : Calls Tryz.prog 15 #[.float .f64 f, .float .f64 f] w fun r w' => r = .returned (.bool true) ∧ Below w.heap.size w w' := by
  have h1 := run_f64bits
  have hb := Below.refl w.heap.size w
  cases ho : (FloatKind.f64.format.order f f != some .eq)
  all_goals
    go_enter Tryz.func15, Tryz.ntmps15
    go_wp2_with fail
    go_ret
    exact ⟨rfl, hb⟩
set_option maxRecDepth 1000000 in
set_option maxHeartbeats 16000000 in
theorem kfloat_bad (xn : Bool) (xS xT : ByteArray)  (w : World) (h : ∀ W, Calls Tryz.prog 18 #[.agg #[.bool xn, .string xS, .string xT]] W fun r w' => r = .returned (.bool false) ∧ Below W.heap.size W w') :
    Calls Tryz.prog 45 #[.agg #[.bool xn, .string xS, .string xT]] w fun r w' => r = .returned (.tuple #[.float .f64 0, .int .i64 2]) ∧ Below w.heap.size w w' := by
  go_enter Tryz.func45, Tryz.ntmps45
  have B0 := Below.refl w.heap.size w
  have F1 := Blk.put (w) #[.bool xn, .string xS, .string xT] 24
  replace B0 := B0.alloc B0.size (.cells #[.bool xn, .string xS, .string xT] 24)
  obtain ⟨xF10_0, xF10_1, xF10_2⟩ := F1.ce3
  go_wp2_with fail
  (with_reducible refine (h _).mono ?_)
  rintro r w1 ⟨rfl, hb1⟩
  clear xF10_0 xF10_1 xF10_2
  replace F1 := F1.keep hb1
  replace B0 := B0.trans (hb1.mono B0.size)
  clear hb1
  go_wp2
  go_ret2
  exact ⟨rfl, B0⟩
end Go.Proofs.YtbhfnigblhfikaaGreat

/- The reference of layer 1: digits, signed, Make; of layer 2: Small. -/
namespace Go.Proofs.YtbhfnigblhfikaaGreat
open Go Go.RowKit Go.PlainAid Fil

set_option maxHeartbeats 1000000 in
theorem b1digits_any (m : Nat) (w : World) (h : m < 18446744073709551616) : Calls Tryz.prog 114 #[.int .u64 (m : Int)] w fun r w' => r = .returned (.int .i64 ((bl m : Nat) : Int)) ∧ w = w' := by
  go_enter Tryz.func114, Tryz.ntmps114
  go_wp2
  go_loopg [0, 3] (bl m) (fun g s0 s3 wr => w = wr ∧ ∃ (y n : Nat), s0 = .int .u64 (y : Int) ∧ s3 = .int .i64 (n : Int) ∧ g = bl y ∧ bl y + n = bl m ∧ y < 18446744073709551616 ∧ n ≤ 64)
  case atStart => exact ⟨rfl, m, 0, rfl, rfl, rfl, by omega, h, by omega⟩
  case round =>
    obtain ⟨rfl, y, n, rfl, rfl, hg, hs, hy, hn⟩ := hrel
    by_cases h0 : y = 0
    · subst h0
      rw [bl_zero, Nat.zero_add] at hs
      subst hs
      clear hg h hn
      go_wp2
      go_ret
      exact ⟨rfl, rfl⟩
    · have hp : (0 : Int) < (y : Int) := by omega
      have hp2 : 0 < y := by omega
      have hb := bl_half h0
      have hbm : bl m ≤ 64 := bl_le h
      obtain ⟨z, hz⟩ : ∃ z, z = y / 2 := ⟨_, rfl⟩
      have e1 : (y : Int) / 2 = (z : Int) := by omega
      have HB := Lib.hid (And.intro hb (And.intro hs (And.intro hg (And.intro hz hbm))))
      have hn63 : n ≤ 63 := by omega
      clear hb hs hg hz h hbm
      go_wp2
      go_roundg (bl z)
      case measure => have := HB.out; rw [this.2.2.2.1]; omega
      case rel =>
        obtain ⟨hb, hs, hg, hz, _⟩ := HB.out
        exact ⟨rfl, z, n + 1, rfl, by go_num, rfl, by rw [hz]; omega, by omega, by omega⟩
set_option maxHeartbeats 1000000 in
theorem b1signed_f (n : Nat) (w : World) (_h : n < 9223372036854775808) : Calls Tryz.prog 113 #[.bool false, .int .u64 (n : Int)] w fun r w' => r = .returned (.float .f64 n) ∧ w = w' := by
  have h2 := run_f64from
  have ht : ((n : Nat) : Int).toNat = n := Int.toNat_natCast _
  go_enter Tryz.func113, Tryz.ntmps113
  go_wp2
  go_ret
  exact ⟨rfl, rfl⟩
theorem half_even {m : Nat} (h0 : m ≠ 0) (he : m % 2 = 0) : m / 2 ≠ 0 ∧ m / 2 * 2 = m := by omega

set_option maxRecDepth 100000 in
set_option maxHeartbeats 4000000 in
theorem b1make_any (m : Nat) (e : Int) (w : World) (hm : m ≤ 9007199254740992) (he0 : -1074 ≤ e) (he1 : e ≤ 971) (hq : -1074 < e → 4503599627370496 ≤ m) (R : Nat) (hR : R = (e + 1074).toNat * 4503599627370496 + m) (ok : Bool) (hok : ok = decide (R < 9218868437227405312)) :
    Calls Tryz.prog 97 #[.bool false, .int .u64 (m : Int), .int .i64 e] w fun r w' => r = .returned (.tuple #[.float .f64 (if ok then R else 0), .bool ok]) ∧ w = w' := by
  have hsg := fun n W h => b1signed_f n W h
  by_cases h0 : m = 0
  · subst h0
    obtain rfl : e = -1074 := by
      rcases Int.lt_or_le (-1074) e with h | h
      · have := hq h; omega
      · omega
    obtain rfl : R = 0 := by rw [hR]; rfl
    rw [show ok = true by rw [hok]; rfl]
    have h1 := fun W => hsg 0 W (by omega)
    clear hsg hq hR hok hm
    go_enter Tryz.func97, Tryz.ntmps97
    go_wp2_with fail
    refine (h1 _).mono ?_
    rintro r w1 ⟨rfl, rfl⟩
    go_wp2
    go_returns
    exact ⟨rfl, rfl⟩
  · have hmv := mv_rung (m := m) (q := e) he0 hq hm
    rw [← hR] at hmv
    have hblm : bl m ≤ 54 := bl_le (by omega)
    have hover : ok = true → e + (bl m : Int) ≤ 1024 := fun h => by
      rw [hok, decide_eq_true_eq] at h
      rcases Nat.lt_or_ge m 9007199254740992 with h1 | h1
      · have : bl m ≤ 53 := bl_le (by omega)
        omega
      · obtain rfl : m = 9007199254740992 := by omega
        have : bl 9007199254740992 = 54 := by decide
        omega
    have hover2 : ok = false → 1024 < e + (bl m : Int) := fun h => by
      rw [hok, decide_eq_false_iff_not] at h
      have h971 : e = 971 ∧ m = 9007199254740992 := by omega
      have : bl 9007199254740992 = 54 := by decide
      rw [h971.2, this, h971.1]; omega
    have hRB : R < 9223372036854775808 := by omega
    have hdg := fun n W h => b1digits_any n W h
    have HP := Lib.hid (And.intro hmv (And.intro hover (And.intro hover2 (And.intro hblm (And.intro hm (And.intro h0 hRB))))))
    have HS := Lib.hid (And.intro hsg hdg)
    have h0i : ((m : Int) == 0) = false := by rw [beq_eq_false_iff_ne]; omega
    have hm2 : m < 18446744073709551616 := by omega
    clear hsg hdg hmv hover hover2 hblm hq hR hok hRB
    go_enter Tryz.func97, Tryz.ntmps97
    go_wp2
    go_loopg [1, 2] m (fun g s1 s2 wr => w = wr ∧ ∃ (y k : Nat), s1 = .int .u64 (y : Int) ∧ s2 = .int .i64 (e + (k : Int)) ∧ g = y ∧ y ≠ 0 ∧ y * 2 ^ k = m ∧ k ≤ 60)
    case atStart => exact ⟨rfl, m, 0, rfl, by rw [Int.add_comm]; simp, rfl, h0, by simp, by omega⟩
    case round =>
      clear h0i
      obtain ⟨rfl, y, k, rfl, rfl, hg, hy0, hyk, hk⟩ := hrel
      have hym : y ≤ m := by rw [← hyk]; exact Nat.le_mul_of_pos_right _ (pp k)
      by_cases hev : y % 2 = 0
      · have hev1 : (y : Int) % 2 = 0 := by omega
        obtain ⟨z, hz⟩ : ∃ z, z = y / 2 := ⟨_, rfl⟩
        have e1 : (y : Int) / 2 = (z : Int) := by omega
        have hzk : z * 2 ^ (k + 1) = m := by rw [Nat.pow_succ, Nat.mul_comm (2 ^ k), ← Nat.mul_assoc, show z * 2 = y by omega, hyk]
        have hz0 : z ≠ 0 := by omega
        have hk54 : k + 1 ≤ 54 := by
          rcases Nat.lt_or_ge k 54 with h | h
          · omega
          · have h1 : 2 ^ 54 ≤ 2 ^ (k + 1) := pmono (by omega)
            have h2 : 2 ^ (k + 1) ≤ z * 2 ^ (k + 1) := Nat.le_mul_of_pos_left _ (by omega)
            omega
        have HZ := Lib.hid (And.intro hzk (And.intro hz0 (And.intro hg hz)))
        have ek : e + (k : Int) + 1 = e + ((k + 1 : Nat) : Int) := by omega
        have Hk := Lib.hid ek
        clear hzk hz0 hg hz hyk hy0 ek
        go_wp2
        go_roundg z
        case measure => have := HZ.out; omega
        case rel => exact ⟨rfl, z, k + 1, rfl, congrArg (Value.int IntKind.i64) Hk.out, rfl, HZ.out.2.1, HZ.out.1, by omega⟩
      · have hod : ¬ (y : Int) % 2 = 0 := by omega
        have hod2 : ((y : Int) % 2 == 0) = false := by rw [beq_eq_false_iff_ne]; exact hod
        have hbm : bl m = bl y + k := by rw [← hyk]; exact bl_shift hy0
        have hbp : 0 < bl y := by
          rcases Nat.eq_zero_or_pos (bl y) with h | h
          · have := lt_bl y; rw [h] at this; omega
          · exact h
        obtain ⟨n, hn⟩ : ∃ n, n = bl y := ⟨_, rfl⟩
        have hd := fun W => HS.out.2 y W (by omega)
        rw [← hn] at hd hbm hbp
        have hn53 : n ≤ 53 := by
          rcases Nat.eq_zero_or_pos k with h | h
          · rw [h, Nat.pow_zero, Nat.mul_one] at hyk
            have : y ≠ 9007199254740992 := fun h => by omega
            rw [hn]; exact bl_le (by have := HP.out.2.2.2.2.1; omega)
          · have := HP.out.2.2.2.1; omega
        have HN := Lib.hid (And.intro hn (And.intro hyk (And.intro hy0 hbm)))
        clear hn hyk hy0 hod hg hev
        cases ok
        · have hov := HP.out.2.2.1 rfl
          have hov2 : 1024 < e + (k : Int) + (n : Int) := by have := HN.out.2.2.2; omega
          clear hov hbm
          go_wp2_with fail
          refine (hd _).mono ?_
          rintro r w1 ⟨rfl, rfl⟩
          clear hd
          go_wp2
          go_returns
          exact ⟨rfl, rfl⟩
        · have hov := HP.out.2.1 rfl
          have hov2 : ¬ 1024 < e + (k : Int) + (n : Int) := by have := HN.out.2.2.2; omega
          have hov3 : e + (k : Int) + (n : Int) ≤ 1024 := by omega
          clear hov hbm
          go_wp2_with fail
          refine (hd _).mono ?_
          rintro r w1 ⟨rfl, rfl⟩
          clear hd
          go_wp2
          go_loopg [1, 2, 8] (53 - n) (fun g s1 s2 s8 wr => w = wr ∧ ∃ (x i : Nat) (q : Int), s1 = .int .u64 (x : Int) ∧ s2 = .int .i64 q ∧ s8 = .int .i64 ((n + i : Nat) : Int) ∧ g = 53 - (n + i) ∧ n + i ≤ 53 ∧ x = y * 2 ^ i ∧ q + (i : Int) = e + (k : Int) ∧ -1074 ≤ q)
          case atStart => exact ⟨rfl, y, 0, e + k, rfl, rfl, by simp, by omega, by omega, by simp, by omega, by omega⟩
          case round =>
            obtain ⟨rfl, x, i, q, rfl, rfl, rfl, hg, hi, hx, hqe, hq0⟩ := hrel
            obtain ⟨l, hl⟩ : ∃ l, l = n + i := ⟨_, rfl⟩
            have hx53 : x < 2 ^ 53 := by
              rw [hx]
              have h1 := lt_bl y
              rw [← HN.out.1] at h1
              calc y * 2 ^ i < 2 ^ n * 2 ^ i := Nat.mul_lt_mul_of_pos_right h1 (pp i)
                _ = 2 ^ (n + i) := (Nat.pow_add ..).symm
                _ ≤ 2 ^ 53 := pmono hi
            rw [show (2 : Nat) ^ 53 = 9007199254740992 by rfl] at hx53
            by_cases hgo : l < 53 ∧ -1074 < q
            · obtain ⟨hl53, hqq⟩ := hgo
              rw [← hl] at hg ⊢
              have hx2 : 2 * (x : Int) = ((2 * x : Nat) : Int) := by omega
              have ex : 2 * x = y * 2 ^ (i + 1) := by rw [hx, Nat.pow_succ, Nat.mul_comm 2 (y * 2 ^ i), Nat.mul_assoc]
              have HX := Lib.hid (And.intro ex (And.intro hl (And.intro hg (And.intro hqe hx2))))
              have hli : (l : Int) < 53 := by omega
              have hqa : q ≤ 2000 := by omega
              clear ex hl hg hqe hx hi hx2
              go_wp2
              go_roundg (53 - (l + 1))
              case measure => have := HX.out; omega
              case rel =>
                obtain ⟨ex, hl, hg, hqe, hx2⟩ := HX.out
                exact ⟨rfl, 2 * x, i + 1, q - 1, congrArg (Value.int IntKind.u64) hx2, rfl, by rw [hl]; go_num, by omega, by omega, ex, by omega, by omega⟩
            · have hfin : (q + 1074).toNat * 4503599627370496 + x = R := by
                apply mv_inj
                have h1 : -1074 < q → 4503599627370496 ≤ x := fun h => by
                  have h53 : n + i = 53 := by omega
                  rw [hx]
                  have h2 := le_bl HN.out.2.2.1
                  rw [← HN.out.1] at h2
                  have h3 : 2 ^ (n - 1) * 2 ^ i ≤ y * 2 ^ i := Nat.mul_le_mul_right _ h2
                  rw [← Nat.pow_add, show n - 1 + i = 52 by omega] at h3
                  omega
                rw [mv_rung hq0 h1 (by omega), HP.out.1, hx, ← HN.out.2.1, Nat.mul_assoc, Nat.mul_assoc, ← Nat.pow_add, ← Nat.pow_add]
                congr 2; omega
              have hq971 : q ≤ 1000 := by omega
              rw [← hl] at hg ⊢
              have hne : ¬ (l < 53 ∧ -1074 < q) := hgo
              have hcase : x < 4503599627370496 → q = -1074 := fun h => by
                rcases Int.lt_or_le (-1074) q with h1 | h1
                · exfalso
                  have h53 : n + i = 53 := by omega
                  have h2 := le_bl HN.out.2.2.1
                  rw [← HN.out.1] at h2
                  have h3 : 2 ^ (n - 1) * 2 ^ i ≤ y * 2 ^ i := Nat.mul_le_mul_right _ h2
                  rw [← Nat.pow_add, show n - 1 + i = 52 by omega, ← hx] at h3
                  omega
                · omega
              have hstop : l = 53 ∨ q = -1074 := by omega
              have HF := Lib.hid (And.intro hfin hcase)
              have hl53 : l ≤ 53 := by omega
              clear hfin hx hqe hg hl hi hgo hne hcase
              by_cases hxs : x < 4503599627370496
              · have hqm := HF.out.2 hxs
                subst hqm
                have hsx := fun W => HS.out.1 x W (by omega)
                have hxR : x = R := by have := HF.out.1; simpa using this
                have HXR := Lib.hid hxR
                have hxi : (x : Int) < 4503599627370496 := by omega
                clear hxR hstop hxs
                by_cases hl5 : (l : Int) < 53
                · go_wp2_with fail
                  refine (hsx _).mono ?_
                  rintro r w2 ⟨rfl, rfl⟩
                  go_wp2
                  go_returns
                  exact ⟨by rw [← HXR.out]; rfl, rfl⟩
                · go_wp2_with fail
                  refine (hsx _).mono ?_
                  rintro r w2 ⟨rfl, rfl⟩
                  go_wp2
                  go_returns
                  exact ⟨by rw [← HXR.out]; rfl, rfl⟩
              · have hxi : ¬ (x : Int) < 4503599627370496 := by omega
                have hR63 : R < 9223372036854775808 := HP.out.2.2.2.2.2.2
                have hsx := fun W => HS.out.1 R W hR63
                rcases hstop with hstop | hstop
                · have hsum : (x : Int) - 4503599627370496 + (q + 1074 + 1) * 4503599627370496 = (R : Int) := by have := HF.out.1; omega
                  subst hstop
                  clear hxs
                  have hl5 : ¬ ((53 : Nat) : Int) < 53 := by omega
                  have HSUM := Lib.hid hsum
                  clear hsum hR63
                  go_wp2_with fail
                  rw [HSUM.out]
                  refine (hsx _).mono ?_
                  rintro r w2 ⟨rfl, rfl⟩
                  go_wp2
                  go_returns
                  exact ⟨rfl, rfl⟩
                · subst hstop
                  have hsum : R = x := by have := HF.out.1; omega
                  subst hsum
                  clear hxs hR63
                  by_cases hl5 : (l : Int) < 53
                  · go_wp2_with fail
                    refine (hsx _).mono ?_
                    rintro r w2 ⟨rfl, rfl⟩
                    go_wp2
                    go_returns
                    exact ⟨rfl, rfl⟩
                  · go_wp2_with fail
                    refine (hsx _).mono ?_
                    rintro r w2 ⟨rfl, rfl⟩
                    go_wp2
                    go_returns
                    exact ⟨rfl, rfl⟩
end Go.Proofs.YtbhfnigblhfikaaGreat

/- The reference of layer 2: Small; of layer 4: around. -/
namespace Go.Proofs.YtbhfnigblhfikaaGreat
open Go Go.RowKit Go.PlainAid Fil

theorem div_step (x k : Nat) : x / 2 ^ (8 * (k + 1)) * 256 + dg 8 x k = x / 2 ^ (8 * k) := by
  unfold dg
  rw [show 8 * (k + 1) = 8 * k + 8 by omega, Nat.pow_add, ← Nat.div_div_eq_div_mul]
  have := Nat.div_add_mod (x / 2 ^ (8 * k)) 256
  rw [show (2 : Nat) ^ 8 = 256 by decide]
  omega
set_option maxHeartbeats 2000000 in
theorem r2small_any (x : Nat) (w : World) (hx : Fil.dn 8 x ≤ 16384) :
    Calls Tryz.prog 96 #[.string (bstr x)] w fun r w' => r = .returned (.tuple #[.int .u64 ((if Fil.dn 8 x ≤ 8 then x else 0 : Nat) : Int), .bool (decide (Fil.dn 8 x ≤ 8))]) ∧ w = w' := by
  have hsz := bstr_size x
  have hm := fun W => r2May_any (bstr x) W (by omega)
  rw [natB_bstr hx] at hm
  have hgb := get_bt (bstr x)
  have hbt := fun k h => bstr_bt x k h
  have hlt := lt_dn (k := 8) (by omega) x
  obtain ⟨n, hn⟩ : ∃ n, n = Fil.dn 8 x := ⟨_, rfl⟩
  simp only [← hn] at hsz hx hbt hlt ⊢
  by_cases h8 : n ≤ 8
  · rw [if_pos h8, decide_eq_true h8]
    have hx64 : x < 18446744073709551616 := Nat.lt_of_lt_of_le hlt (Nat.le_trans (pmono (show 8 * n ≤ 64 by omega)) (by decide))
    have HX := Lib.hid (And.intro hbt hlt)
    have h8i : ¬ 8 < (n : Int) := by omega
    clear hbt hlt hn
    go_enter Tryz.func96, Tryz.ntmps96
    go_wp2_with fail
    refine (hm _).mono ?_
    rintro r w1 ⟨rfl, rfl⟩
    clear hm
    go_wp2
    go_loopg [4, 5] n (fun g s4 s5 wr => w = wr ∧ ∃ i : Nat, i ≤ n ∧ g = n - i ∧ s4 = .int .u64 ((x / 2 ^ (8 * (n - i)) : Nat) : Int) ∧ s5 = .int .i64 (i : Int))
    case atStart => exact ⟨rfl, 0, by omega, by omega, by rw [Nat.sub_zero, Nat.div_eq_of_lt HX.out.2]; rfl, rfl⟩
    case round =>
      obtain ⟨rfl, i, hi, hg, rfl, rfl⟩ := hrel
      by_cases hin : i < n
      · have hb : bt (bstr x) i = (dg 8 x (n - 1 - i) : Int) := HX.out.1 i hin
        have hst := div_step x (n - 1 - i)
        rw [show n - 1 - i + 1 = n - i by omega] at hst
        have hle := Nat.div_le_self x (2 ^ (8 * (n - 1 - i)))
        have hd := dg_lt 8 x (n - 1 - i)
        obtain ⟨u, hu⟩ : ∃ u, u = x / 2 ^ (8 * (n - i)) := ⟨_, rfl⟩
        obtain ⟨d, hdd⟩ : ∃ d, d = dg 8 x (n - 1 - i) := ⟨_, rfl⟩
        obtain ⟨v, hv⟩ : ∃ v, v = x / 2 ^ (8 * (n - 1 - i)) := ⟨_, rfl⟩
        rw [← hu, ← hdd, ← hv] at hst
        rw [← hv] at hle
        rw [← hdd] at hb hd
        rw [← hu]
        have e1 : 256 * (u : Int) + (d : Int) = (v : Int) := by omega
        have w1 : IntKind.u64.wrap (d : Int) = (d : Int) := IntWalk.u64_in _ ⟨by omega, by omega⟩
        have hu1 : 256 * (u : Int) < 18446744073709551616 := by omega
        have his : i < (bstr x).size := by omega
        have hv64 : v < 18446744073709551616 := by omega
        have HV := Lib.hid (And.intro hv hg)
        clear hu hdd hv hst hle hg
        go_wp2
        go_roundg (n - (i + 1))
        case measure => have := HV.out.2; omega
        case rel => exact ⟨rfl, i + 1, by omega, rfl, by rw [show n - (i + 1) = n - 1 - i by omega, ← HV.out.1], by go_num⟩
      · obtain rfl : i = n := by omega
        rw [Nat.sub_self, Nat.mul_zero, Nat.pow_zero, Nat.div_one]
        clear hg hi
        go_wp2
        go_returns
        exact ⟨rfl, rfl⟩
  · rw [if_neg h8, decide_eq_false h8]
    have h8i : 8 < (n : Int) := by omega
    clear hbt hlt hn h8
    go_enter Tryz.func96, Tryz.ntmps96
    go_wp2_with fail
    refine (hm _).mono ?_
    rintro r w1 ⟨rfl, rfl⟩
    clear hm
    go_wp2
    go_returns
    exact ⟨rfl, rfl⟩
theorem dn8_shift {x m k : Nat} (h : Fil.dn 8 x ≤ m) (hk : k ≤ 8 * 200) : Fil.dn 8 (x * 2 ^ k) ≤ m + 200 := by
  obtain ⟨K, hK⟩ : ∃ K, K = 200 := ⟨_, rfl⟩
  rw [← hK] at hk ⊢
  refine dn_le (by omega) ?_
  rw [Nat.mul_add, Nat.pow_add]
  exact Nat.mul_lt_mul_of_lt_of_le (lt_of_dn (by omega) h) (pmono hk) (pp _)
theorem r2shift_nn (x k : Nat) (w : World) (hx8 : Fil.dn 8 x ≤ 8000) (hk : k ≤ 1600) :
    Calls Tryz.prog 95 #[.string (bstr x), .int .i64 (k : Int)] w fun r w' => r = .returned (.tuple #[.string (bstr (x * 2 ^ k)), .int .i64 0]) ∧ Below w.heap.size w w' := by
  by_cases h : x = 0 ∨ (k : Int) = 0
  · refine (r2shift_0 x k w (by omega) h).mono ?_
    rintro r w1 ⟨rfl, rfl⟩
    have e : x * 2 ^ k = x := by
      rcases h with h | h
      · rw [h, Nat.zero_mul]
      · rw [show k = 0 by omega, Nat.pow_zero, Nat.mul_one]
    exact ⟨by rw [e], Below.refl _ _⟩
  · refine (r2shift_up x k w (by omega) (fun h1 => h (.inl h1)) (by omega) (by omega)).mono ?_
    rintro r w1 ⟨rfl, hb⟩
    rw [endV_fit (Nat.le_trans (dn8_shift hx8 (by omega)) (by omega))]
    exact ⟨rfl, hb⟩
def aX (n : Nat) (q : Int) : Nat := n * 2 ^ (-q).toNat
def aY (d : Nat) (q : Int) : Nat := d * 2 ^ q.toNat
def aM (n d : Nat) (q : Int) : Nat := aX n q / aY d q
theorem aY_pos {d : Nat} (hd : d ≠ 0) (q : Int) : 0 < aY d q := Nat.mul_pos (by omega) (pp _)
theorem aM_hi {n d : Nat} (hd : d ≠ 0) {q : Int} (h : (bl n : Int) - bl d - 52 ≤ q) : aM n d q < 9007199254740992 := by
  unfold aM
  rw [Nat.div_lt_iff_lt_mul (aY_pos hd q)]
  have h1 := lt_bl n
  have h2 := le_bl hd
  have h3 : 0 < bl d := by
    rcases Nat.eq_zero_or_pos (bl d) with h | h
    · have := lt_bl d; rw [h] at this; omega
    · exact h
  calc aX n q < 2 ^ bl n * 2 ^ (-q).toNat := Nat.mul_lt_mul_of_pos_right h1 (pp _)
    _ = 2 ^ (bl n + (-q).toNat) := (Nat.pow_add ..).symm
    _ ≤ 2 ^ (53 + ((bl d - 1) + q.toNat)) := pmono (by omega)
    _ = 2 ^ 53 * (2 ^ (bl d - 1) * 2 ^ q.toNat) := by rw [Nat.pow_add, Nat.pow_add]
    _ ≤ 9007199254740992 * aY d q := Nat.mul_le_mul (by decide) (Nat.mul_le_mul_right _ h2)
theorem aM_lo {n d : Nat} (hn : n ≠ 0) (hd : d ≠ 0) {q : Int} (h : q ≤ (bl n : Int) - bl d - 54) : 9007199254740992 ≤ aM n d q := by
  unfold aM
  rw [Nat.le_div_iff_mul_le (aY_pos hd q)]
  have h1 := le_bl hn
  have h2 := lt_bl d
  have h3 : 0 < bl n := by
    rcases Nat.eq_zero_or_pos (bl n) with h | h
    · have := lt_bl n; rw [h] at this; omega
    · exact h
  calc 9007199254740992 * aY d q ≤ 2 ^ 53 * (2 ^ bl d * 2 ^ q.toNat) := Nat.mul_le_mul (by decide) (Nat.mul_le_mul_right _ (Nat.le_of_lt h2))
    _ = 2 ^ (53 + (bl d + q.toNat)) := by rw [Nat.pow_add, Nat.pow_add]
    _ ≤ 2 ^ ((bl n - 1) + (-q).toNat) := pmono (by omega)
    _ = 2 ^ (bl n - 1) * 2 ^ (-q).toNat := Nat.pow_add ..
    _ ≤ aX n q := Nat.mul_le_mul_right _ h1
theorem aM_next {n d : Nat} (hd : d ≠ 0) {q : Int} (h : 9007199254740992 ≤ aM n d q) : 4503599627370496 ≤ aM n d (q + 1) := by
  unfold aM at *
  rw [Nat.le_div_iff_mul_le (aY_pos hd _)] at h ⊢
  unfold aX aY at *
  rcases Int.lt_or_le q 0 with h0 | h0
  · rw [show (-q).toNat = (-(q + 1)).toNat + 1 by omega, show q.toNat = 0 by omega, Nat.pow_succ, ← Nat.mul_assoc n, Nat.pow_zero, Nat.mul_one] at h
    rw [show (q + 1).toNat = 0 by omega, Nat.pow_zero, Nat.mul_one]
    omega
  · rw [show (-q).toNat = 0 by omega, Nat.pow_zero, Nat.mul_one] at h
    rw [show (-(q + 1)).toNat = 0 by omega, show (q + 1).toNat = q.toNat + 1 by omega, Nat.pow_succ, ← Nat.mul_assoc d, Nat.pow_zero, Nat.mul_one]
    omega
/-- the exponent at which the reference stops -/
def AQ (n d : Nat) (q : Int) : Prop := -1074 ≤ q ∧ (-1074 < q → 4503599627370496 ≤ aM n d q) ∧ (q ≤ 971 → aM n d q < 9007199254740992)
def aL (n d : Nat) (q : Int) : Nat := if 971 < q then 9218868437227405311 else (q + 1074).toNat * 4503599627370496 + aM n d q
def aC (n d : Nat) (q : Int) : Int := if 971 < q then 1 else if aX n q % aY d q = 0 then -2 else cmpZ (2 * (aX n q % aY d q)) (aY d q)
def aE (n d : Nat) (q : Int) : Bool := if 971 < q then false else decide (aM n d q % 2 = 0)
theorem aQ_ex {n d : Nat} (hd : d ≠ 0) : ∀ (g : Nat) (q : Int), (972 - q).toNat = g → -1074 ≤ q → (-1074 < q → 4503599627370496 ≤ aM n d q) →
    ∃ Q, q ≤ Q ∧ AQ n d Q ∧ ∀ p, q ≤ p → p < Q → p ≤ 971 ∧ 9007199254740992 ≤ aM n d p := by
  intro g
  induction g with
  | zero => intro q hg h0 h1; exact ⟨q, by omega, ⟨h0, h1, fun h => by omega⟩, fun p _ _ => by omega⟩
  | succ g ih =>
    intro q hg h0 h1
    rcases Nat.lt_or_ge (aM n d q) 9007199254740992 with hM | hM
    · exact ⟨q, by omega, ⟨h0, h1, fun _ => hM⟩, fun p _ _ => by omega⟩
    · obtain ⟨Q, hQ, hA, hp⟩ := ih (q + 1) (by omega) (by omega) (fun _ => aM_next hd hM)
      refine ⟨Q, by omega, hA, fun p h2 h3 => ?_⟩
      by_cases e : p = q
      · rw [e]; exact ⟨by omega, hM⟩
      · exact hp p (by omega) h3
set_option maxRecDepth 100000 in
set_option maxHeartbeats 400000 in
theorem p4around_any (N : Bool) (n d : Nat) (hn : n ≠ 0) (hd : d ≠ 0) (hn8 : Fil.dn 8 n ≤ 4001) (hd8 : Fil.dn 8 d ≤ 4001) :
    ∃ Q, AQ n d Q ∧ ∀ w, Calls Tryz.prog 82 #[.agg #[.bool N, .string (bstr n), .string (bstr d)]] w fun r w' => r = .returned (.tuple #[.float .f64 (aL n d Q), .float .f64 ((aL n d Q : Nat) + 1), .int .i64 (aC n d Q), .bool (aE n d Q)]) ∧ Below w.heap.size w w' := by
  obtain ⟨q0, hq0⟩ : ∃ q0, q0 = max (-1074) ((bl n : Int) - bl d - 54) := ⟨_, rfl⟩
  have hbn : bl n ≤ 8 * Fil.dn 8 n := bl_le (lt_dn (k := 8) (by omega) n)
  have hbd : bl d ≤ 8 * Fil.dn 8 d := bl_le (lt_dn (k := 8) (by omega) d)
  obtain ⟨Q, hQ0, hA, hQ⟩ := aQ_ex (n := n) hd _ q0 rfl (by omega) (fun h => Nat.le_trans (by decide) (aM_lo hn hd (by omega)))
  refine ⟨Q, hA, fun w => ?_⟩
  have hl1 := fun W => r2len_any n W (by omega)
  have hl2 := fun W => r2len_any d W (by omega)
  have hs1 := fun k h W => r2shift_nn n k W (by omega) h
  have hs2 := fun k h W => r2shift_nn d k W (by omega) h
  have hQ99 : Q ≤ 99999 := by
    rcases Int.lt_or_le 99999 Q with h | h
    · have := hQ (Q - 1) (by omega) (by omega)
      omega
    · exact h
  have HA := Lib.hid (And.intro hA (And.intro hQ (And.intro hn8 (And.intro hd8 (And.intro hn hd)))))
  obtain ⟨SN, hSN⟩ : ∃ SN, SN = bstr n := ⟨_, rfl⟩
  obtain ⟨SD, hSD⟩ : ∃ SD, SD = bstr d := ⟨_, rfl⟩
  rw [← hSN, ← hSD]
  simp only [← hSN] at hl1 hs1
  simp only [← hSD] at hl2 hs2
  have HS := Lib.hid (And.intro hSN hSD)
  obtain ⟨ln, hln⟩ : ∃ l, l = bl n := ⟨_, rfl⟩
  obtain ⟨ld, hld⟩ : ∃ l, l = bl d := ⟨_, rfl⟩
  rw [← hln] at hbn hq0 hl1
  rw [← hld] at hbd hq0 hl2
  have bn : ln ≤ 32008 := by omega
  have bd : ld ≤ 32008 := by omega
  have H2 := Lib.hid (And.intro hs1 hs2)
  have F := Blk.put w #[.bool N, .string SN, .string SD] 24
  have hb := (Below.refl w.heap.size w).alloc (Nat.le_refl _) (.cells #[.bool N, .string SN, .string SD] 24)
  obtain ⟨f0, f1, f2⟩ := F.ce3
  clear F hs1 hs2 hA hQ hn8 hd8 hSN hSD hln hld hbn hbd hn hd
  have hq0' : (if (ln : Int) - ld - 54 ≤ -1074 then -1074 else (ln : Int) - ld - 54) = q0 := by split <;> omega
  go_enter Tryz.func82, Tryz.ntmps82
  go_wp2_with fail
  generalize w.alloc (.cells #[.bool N, .string SN, .string SD] 24) = v at *
  go_quiet (fail)
  have hbq := Below.drewN' hb nq
  generalize v.drewN nq = u at *
  clear hb f0 f1 f2 hq0
  clear v
  go_wp2_with fail
  refine (hl1 _).mono ?_
  rintro r w1 ⟨rfl, rfl⟩
  go_wp2_with fail
  refine (hl2 _).mono ?_
  rintro r w1 ⟨rfl, rfl⟩
  clear hl1 hl2
  have hq0'' : max (-1074) ((ln : Int) - ld - 54) = q0 := by omega
  have hq1 : -1074 ≤ q0 := by omega
  go_wp2_with fail
  clear hq0' hq0'' bn bd
  go_loopg [8] (Q - q0).toNat (fun g s8 wr => ∃ q : Int, s8 = .int .i64 q ∧ g = (Q - q).toNat ∧ q0 ≤ q ∧ q ≤ Q ∧ Below w.heap.size w wr)
  case atStart => exact ⟨q0, rfl, rfl, Int.le_refl _, hQ0, hbq⟩
  case round =>
    obtain ⟨q, rfl, hg, hq2, hqQ, hbr⟩ := hrel
    clear hbq
    by_cases hq971 : 971 < q
    · have hi := fun W => minf_pos W
      have HQ := Lib.hid (show q = Q by
        rcases Int.lt_or_le q Q with h | h
        · have := HA.out.2.1 q hq2 h; omega
        · omega)
      have hq99 : q ≤ 99999 := by omega
      clear hg H2 HS hQ0 hQ99 hq2 hqQ
      go_wp2_with fail
      refine (hi _).mono ?_
      rintro r w1 ⟨rfl, rfl⟩
      clear hi
      go_wp2
      go_returns
      have hQ := HQ.out
      subst hQ
      unfold aL aC aE
      rw [if_pos hq971, if_pos hq971, if_pos hq971]
      exact ⟨rfl, hbr⟩
    · obtain ⟨k1, hk1⟩ : ∃ k, k = (-q).toNat := ⟨_, rfl⟩
      obtain ⟨k2, hk2⟩ : ∃ k, k = q.toNat := ⟨_, rfl⟩
      have m1 : max 0 (-q) = (k1 : Int) := by omega
      have m2 : max 0 q = (k2 : Int) := by omega
      have s1 := fun W => H2.out.1 k1 (by omega) W
      have s2 := fun W => H2.out.2 k2 (by omega) W
      obtain ⟨X, hX⟩ : ∃ X, X = n * 2 ^ k1 := ⟨_, rfl⟩
      obtain ⟨Y, hY⟩ : ∃ Y, Y = d * 2 ^ k2 := ⟨_, rfl⟩
      have eX : aX n q = X := by unfold aX; rw [hX, hk1]
      have eY : aY d q = Y := by unfold aY; rw [hY, hk2]
      have hX8 : Fil.dn 8 X ≤ 4201 := by rw [hX]; exact Nat.le_trans (dn8_shift HA.out.2.2.1 (by omega)) (by omega)
      have hY8 : Fil.dn 8 Y ≤ 4201 := by rw [hY]; exact Nat.le_trans (dn8_shift HA.out.2.2.2.1 (by omega)) (by omega)
      have hY0 : Y ≠ 0 := by rw [← eY]; exact Nat.ne_of_gt (aY_pos HA.out.2.2.2.2.2 q)
      rw [← hX] at s1
      rw [← hY] at s2
      have dv := fun W => r2Div_any X Y W hY0 (by omega) (by omega)
      obtain ⟨M, hM⟩ : ∃ M, M = X / Y := ⟨_, rfl⟩
      obtain ⟨r, hr⟩ : ∃ r, r = X % Y := ⟨_, rfl⟩
      have eM : aM n d q = M := by unfold aM; rw [eX, eY, hM]
      have hM8 : Fil.dn 8 M ≤ 4201 := Nat.le_trans (dn_mono (by omega) (by rw [hM]; exact Nat.div_le_self _ _)) hX8
      have hrY : r < Y := by rw [hr]; exact Nat.mod_lt _ (by omega)
      have hr8 : Fil.dn 8 r ≤ 4201 := Nat.le_trans (dn_mono (by omega) (Nat.le_of_lt hrY)) hY8
      rw [← hM, ← hr] at dv
      have sm := fun W => r2small_any M W (by omega)
      have sh := fun W => r2shift_nn r 1 W (by omega) (by omega)
      have cp := fun W => r2Cmp_any (r * 2 ^ 1) Y W (Nat.le_trans (dn8_shift (k := 1) hr8 (by omega)) (by omega)) (by omega)
      have er1 : r = 0 → (bstr r).toList = [] := fun h => by rw [h]; exact bstr_nil
      have er2 : r ≠ 0 → (bstr r).toList.isEmpty = false ∧ (bstr r).toList ≠ [] := bstr_ne
      obtain ⟨TX, hTX⟩ : ∃ T, T = bstr X := ⟨_, rfl⟩
      obtain ⟨TY, hTY⟩ : ∃ T, T = bstr Y := ⟨_, rfl⟩
      obtain ⟨TM, hTM⟩ : ∃ T, T = bstr M := ⟨_, rfl⟩
      obtain ⟨TR, hTR⟩ : ∃ T, T = bstr r := ⟨_, rfl⟩
      obtain ⟨TT, hTT⟩ : ∃ T, T = bstr (r * 2 ^ 1) := ⟨_, rfl⟩
      simp only [← hTX, ← hTY, ← hTM, ← hTR, ← hTT] at s1 s2 dv sm sh cp er1 er2
      have hq3 : -1074 ≤ q := by omega
      have HE := Lib.hid (And.intro eX (And.intro eY (And.intro eM (And.intro hr (And.intro er1 er2)))))
      have HG := Lib.hid (And.intro hg (And.intro hq2 (And.intro hqQ hQ0)))
      clear hTX hTY hTM hTR hTT hX hY hM hr eX eY eM hX8 hY8 hM8 hr8 hY0 er1 er2 hk1 hk2 H2 HS hg hq2 hqQ hQ0 hQ99 hq1
      by_cases hlt : q < Q
      · have hMb := (HA.out.2.1 q HG.out.2.1 hlt).2
        rw [HE.out.2.2.1] at hMb
        have hMb2 : ¬ M < 9007199254740992 := by omega
        have Hlt := Lib.hid hlt
        clear sh cp hlt hMb hrY
        obtain ⟨D, hD⟩ : ∃ D, D = Fil.dn 8 M := ⟨_, rfl⟩
        simp only [← hD] at sm
        have HD := Lib.hid hD
        clear hD
        by_cases h8 : D ≤ 8
        · simp only [if_pos h8, decide_eq_true h8] at sm
          have hM64 : M < 18446744073709551616 := by
            have h1 := lt_dn (k := 8) (by omega) M
            rw [← HD.out] at h1
            exact Nat.lt_of_lt_of_le h1 (Nat.le_trans (pmono (show 8 * D ≤ 64 by omega)) (by decide))
          have hMi : 9007199254740992 ≤ (M : Int) := by omega
          clear h8 hMb2
          go_wp2_with fail
          refine (s1 _).mono ?_
          rintro r1 w1 ⟨rfl, hb1⟩
          replace hbr := hbr.trans (hb1.mono hbr.size)
          clear hb1 s1 m1
          go_wp2_with fail
          refine (s2 _).mono ?_
          rintro r1 w2 ⟨rfl, hb1⟩
          replace hbr := hbr.trans (hb1.mono hbr.size)
          clear hb1 s2 m2
          go_wp2_with fail
          refine (dv _).mono ?_
          rintro r1 w3 ⟨rfl, hb1⟩
          replace hbr := hbr.trans (hb1.mono hbr.size)
          clear hb1 dv
          go_wp2_with fail
          refine (sm _).mono ?_
          rintro r1 w4 ⟨rfl, rfl⟩
          clear sm
          go_wp2
          go_roundg (Q - (q + 1)).toNat
          case measure => have := HG.out; have := Hlt.out; omega
          case rel => exact ⟨q + 1, rfl, rfl, by have := HG.out; omega, by have := Hlt.out; omega, hbr⟩
        · simp only [if_neg h8, decide_eq_false h8] at sm
          clear h8 hMb2
          go_wp2_with fail
          refine (s1 _).mono ?_
          rintro r1 w1 ⟨rfl, hb1⟩
          replace hbr := hbr.trans (hb1.mono hbr.size)
          clear hb1 s1 m1
          go_wp2_with fail
          refine (s2 _).mono ?_
          rintro r1 w2 ⟨rfl, hb1⟩
          replace hbr := hbr.trans (hb1.mono hbr.size)
          clear hb1 s2 m2
          go_wp2_with fail
          refine (dv _).mono ?_
          rintro r1 w3 ⟨rfl, hb1⟩
          replace hbr := hbr.trans (hb1.mono hbr.size)
          clear hb1 dv
          go_wp2_with fail
          refine (sm _).mono ?_
          rintro r1 w4 ⟨rfl, rfl⟩
          clear sm
          go_wp2
          go_roundg (Q - (q + 1)).toNat
          case measure => have := HG.out; have := Hlt.out; omega
          case rel => exact ⟨q + 1, rfl, rfl, by have := HG.out; omega, by have := Hlt.out; omega, hbr⟩
      · have hqQ2 := Lib.hid (show q = Q by have := HG.out; omega)
        have hMb : M < 9007199254740992 := by
          have := HA.out.1.2.2
          rw [← hqQ2.out, HE.out.2.2.1] at this
          exact this (by omega)
        have hMlo : -1074 < q → 4503599627370496 ≤ M := by
          have := HA.out.1.2.1
          rwa [← hqQ2.out, HE.out.2.2.1] at this
        have h8 : Fil.dn 8 M ≤ 8 := dn_le (by omega) (by omega)
        simp only [if_pos h8, decide_eq_true h8] at sm
        obtain ⟨L, hL⟩ : ∃ L, L = (q + 1074).toNat * 4503599627370496 + M := ⟨_, rfl⟩
        have hL1 : L < 9218868437227405312 := by omega
        have mk1 := fun W => b1make_any M q W (by omega) hq3 (by omega) hMlo L hL true (decide_eq_true hL1).symm
        obtain ⟨ok, hok⟩ : ∃ ok, ok = decide (L + 1 < 9218868437227405312) := ⟨_, rfl⟩
        have mk2 := fun W => b1make_any (M + 1) q W (by omega) hq3 (by omega) (fun h => by have := hMlo h; omega) (L + 1) (by omega) ok hok
        simp only [if_true] at mk1
        rw [show ((M + 1 : Nat) : Int) = (M : Int) + 1 by omega] at mk2
        have hL2 : ok = false → L + 1 = 9218868437227405312 := fun h => by
          rw [hok, decide_eq_false_iff_not] at h; omega
        have hi := fun W => minf_pos W
        have eL : aL n d q = L := by unfold aL; rw [if_neg hq971, HE.out.2.2.1, hL]
        have eC : aC n d q = if r = 0 then -2 else cmpZ (2 * r) Y := by unfold aC; rw [if_neg hq971, HE.out.1, HE.out.2.1, ← HE.out.2.2.2.1]
        have eE : aE n d q = decide (M % 2 = 0) := by unfold aE; rw [if_neg hq971, HE.out.2.2.1]
        have e2r : cmpZ (2 * r) Y = cmpZ (r * 2 ^ 1) Y := by rw [Nat.pow_one, Nat.mul_comm]
        obtain ⟨c, hc⟩ : ∃ c, c = cmpZ (r * 2 ^ 1) Y := ⟨_, rfl⟩
        simp only [← hc] at cp
        rw [e2r, ← hc] at eC
        rw [hqQ2.out] at eL eC eE
        have HF := Lib.hid (And.intro eL (And.intro eC eE))
        have HL := Lib.hid (And.intro hL (And.intro hok hL2))
        have er1 := HE.out.2.2.2.2.1
        have er2 := HE.out.2.2.2.2.2
        clear hL hok hL2 eL eC eE e2r hlt h8 hMlo hc hrY HG HE HA hL1
        obtain ⟨L2, hL2⟩ : ∃ l, l = L + 1 := ⟨_, rfl⟩
        simp only [← hL2] at mk2
        have HL2 := Lib.hid hL2
        clear hL2
        obtain ⟨z, hz⟩ : ∃ z, z = (M : Int) := ⟨_, rfl⟩
        have hz0 : 0 ≤ z := by omega
        have hz1 : z < 9007199254740992 := by omega
        have HM := Lib.hid (show decide (M % 2 = 0) = decide (z % 2 = 0) by rw [hz]; congr 1; apply propext; omega)
        simp only [← hz] at sm mk1 mk2
        clear hz hMb
        by_cases hr0 : r = 0
        · have er := er1 hr0
          have eC := HF.out.2.1
          rw [if_pos hr0] at eC
          have HC := Lib.hid eC
          clear er1 er2 hr0 eC
          go_wp2_with fail
          refine (s1 _).mono ?_
          rintro r1 w1 ⟨rfl, hb1⟩
          replace hbr := hbr.trans (hb1.mono hbr.size)
          clear hb1 s1 m1
          go_wp2_with fail
          refine (s2 _).mono ?_
          rintro r1 w2 ⟨rfl, hb1⟩
          replace hbr := hbr.trans (hb1.mono hbr.size)
          clear hb1 s2 m2
          go_wp2_with fail
          refine (dv _).mono ?_
          rintro r1 w3 ⟨rfl, hb1⟩
          replace hbr := hbr.trans (hb1.mono hbr.size)
          clear hb1 dv
          go_wp2_with fail
          refine (sm _).mono ?_
          rintro r1 w4 ⟨rfl, rfl⟩
          clear sm
          cases ok
          · simp only [Bool.false_eq_true, if_false] at mk2
            have hL3 := HL.out.2.2 rfl
            have HL3 := Lib.hid hL3
            clear hL3
            go_wp2_with fail
            refine (mk1 _).mono ?_
            rintro r1 w5 ⟨rfl, rfl⟩
            clear mk1
            go_wp2_with fail
            refine (mk2 _).mono ?_
            rintro r1 w6 ⟨rfl, rfl⟩
            clear mk2
            go_wp2_with fail
            refine (hi _).mono ?_
            rintro r1 w7 ⟨rfl, rfl⟩
            clear hi
            go_wp2
            go_returns
            rw [HF.out.1, HC.out, HF.out.2.2, HM.out]
            exact ⟨by rw [HL3.out]; rfl, hbr⟩
          · simp only [if_true] at mk2
            clear hi
            go_wp2_with fail
            refine (mk1 _).mono ?_
            rintro r1 w5 ⟨rfl, rfl⟩
            clear mk1
            go_wp2_with fail
            refine (mk2 _).mono ?_
            rintro r1 w6 ⟨rfl, rfl⟩
            clear mk2
            go_wp2
            go_returns
            rw [HF.out.1, HC.out, HF.out.2.2, HM.out, ← HL2.out]
            exact ⟨rfl, hbr⟩
        · have eC := HF.out.2.1
          rw [if_neg hr0] at eC
          obtain ⟨er, er3⟩ := er2 hr0
          have HC := Lib.hid eC
          rw [show ((1 : Nat) : Int) = 1 by rfl] at sh
          clear er1 er2 hr0 eC
          go_wp2_with fail
          refine (s1 _).mono ?_
          rintro r1 w1 ⟨rfl, hb1⟩
          replace hbr := hbr.trans (hb1.mono hbr.size)
          clear hb1 s1 m1
          go_wp2_with fail
          refine (s2 _).mono ?_
          rintro r1 w2 ⟨rfl, hb1⟩
          replace hbr := hbr.trans (hb1.mono hbr.size)
          clear hb1 s2 m2
          go_wp2_with fail
          refine (dv _).mono ?_
          rintro r1 w3 ⟨rfl, hb1⟩
          replace hbr := hbr.trans (hb1.mono hbr.size)
          clear hb1 dv
          go_wp2_with fail
          refine (sm _).mono ?_
          rintro r1 w4 ⟨rfl, rfl⟩
          clear sm
          cases ok
          · simp only [Bool.false_eq_true, if_false] at mk2
            have hL3 := HL.out.2.2 rfl
            have HL3 := Lib.hid hL3
            clear hL3
            go_wp2_with fail
            refine (mk1 _).mono ?_
            rintro r1 w5 ⟨rfl, rfl⟩
            clear mk1
            go_wp2_with fail
            refine (mk2 _).mono ?_
            rintro r1 w6 ⟨rfl, rfl⟩
            clear mk2
            go_wp2_with fail
            refine (hi _).mono ?_
            rintro r1 w7 ⟨rfl, rfl⟩
            clear hi
            go_wp2_with fail
            refine (sh _).mono ?_
            rintro r1 w8 ⟨rfl, hb1⟩
            replace hbr := hbr.trans (hb1.mono hbr.size)
            clear hb1 sh
            go_wp2_with fail
            refine (cp _).mono ?_
            rintro r1 w9 ⟨rfl, kk, rfl⟩
            clear cp
            replace hbr := Below.drewN' hbr kk
            go_wp2
            go_returns
            rw [HF.out.1, HC.out, HF.out.2.2, HM.out]
            exact ⟨by rw [HL3.out]; rfl, hbr⟩
          · simp only [if_true] at mk2
            clear hi
            go_wp2_with fail
            refine (mk1 _).mono ?_
            rintro r1 w5 ⟨rfl, rfl⟩
            clear mk1
            go_wp2_with fail
            refine (mk2 _).mono ?_
            rintro r1 w6 ⟨rfl, rfl⟩
            clear mk2
            go_wp2_with fail
            refine (sh _).mono ?_
            rintro r1 w8 ⟨rfl, hb1⟩
            replace hbr := hbr.trans (hb1.mono hbr.size)
            clear hb1 sh
            go_wp2_with fail
            refine (cp _).mono ?_
            rintro r1 w9 ⟨rfl, kk, rfl⟩
            clear cp
            replace hbr := Below.drewN' hbr kk
            go_wp2
            go_returns
            rw [HF.out.1, HC.out, HF.out.2.2, HM.out, ← HL2.out]
            exact ⟨rfl, hbr⟩
end Go.Proofs.YtbhfnigblhfikaaGreat

/- The reference of layer 4: signed, Float, Below, Above; the plain contracts over Rats. -/
namespace Go.Proofs.YtbhfnigblhfikaaGreat
open Go Go.RowKit Go.PlainAid Fil

theorem p4signed_any (N : Bool) (X : Nat) (w : World) (h : X < 9223372036854775808) :
    Calls Tryz.prog 48 #[.bool N, .float .f64 X] w fun r w' => r = .returned (.float .f64 (Ieee.double.word N X)) ∧ w = w' := by
  cases N
  · go_enter Tryz.func48, Tryz.ntmps48
    go_wp2
    go_ret
    exact ⟨rfl, rfl⟩
  · have hc := fun W => copysign_neg X W h
    go_enter Tryz.func48, Tryz.ntmps48
    go_wp2_with fail
    refine (hc _).mono ?_
    rintro r w1 ⟨rfl, rfl⟩
    clear hc
    go_wp2
    go_ret
    exact ⟨rfl, rfl⟩
theorem p4float_0 (N : Bool) (T : ByteArray) (w : World) :
    Calls Tryz.prog 49 #[.agg #[.bool N, .string { data := #[] }, .string T]] w fun r w' => r = .returned (.float .f64 0) ∧ Below w.heap.size w w' := by
  have F := Blk.put w #[.bool N, .string { data := #[] }, .string T] 24
  have hb := (Below.refl w.heap.size w).alloc (Nat.le_refl _) (.cells #[.bool N, .string { data := #[] }, .string T] 24)
  obtain ⟨f0, f1, f2⟩ := F.ce3
  go_enter Tryz.func49, Tryz.ntmps49
  go_wp2
  go_ret
  exact ⟨rfl, hb⟩
set_option maxRecDepth 100000 in
set_option maxHeartbeats 2000000 in
theorem p4float_gt  (S T : ByteArray) (X Y : Nat) (N : Bool) (Z : Nat) (c : Int) (e : Bool) (hc : 0 < c) (w : World) (hS1 : S.toList.isEmpty = false) (_hS2 : S.toList ≠ [])
    (h1 : ∀ W, Calls Tryz.prog 82 #[.agg #[.bool N, .string S, .string T]] W fun r w' => r = .returned (.tuple #[.float .f64 X, .float .f64 Y, .int .i64 c, .bool e]) ∧ Below W.heap.size W w') (h2 : ∀ W, Calls Tryz.prog 48 #[.bool N, .float .f64 Y] W fun r w' => r = .returned (.float .f64 Z) ∧ W = w') :
    Calls Tryz.prog 49 #[.agg #[.bool N, .string S, .string T]] w fun r w' => r = .returned (.float .f64 (Z)) ∧ Below w.heap.size w w' := by
  have F := Blk.put w #[.bool N, .string S, .string T] 24
  have hb := (Below.refl w.heap.size w).alloc (Nat.le_refl _) (.cells #[.bool N, .string S, .string T] 24)
  obtain ⟨f0, f1, f2⟩ := F.ce3
  go_enter Tryz.func49, Tryz.ntmps49
  go_wp2_with fail
  refine (h1 _).mono ?_
  rintro r w1 ⟨rfl, hB⟩
  clear f0 f1 f2 h1
  replace F := F.keep hB
  replace hb := hb.trans (hB.mono hb.size)
  clear hB
  obtain ⟨f0, f1, f2⟩ := F.ce3
  go_wp2_with fail
  refine (h2 _).mono ?_
  rintro r w2 ⟨rfl, rfl⟩
  clear h2
  go_wp2
  go_ret
  exact ⟨rfl, hb⟩
set_option maxRecDepth 100000 in
set_option maxHeartbeats 2000000 in
theorem p4float_lt  (S T : ByteArray) (X Y : Nat) (N : Bool) (Z : Nat) (c : Int) (e : Bool) (hc : ¬ 0 < c) (hc0 : ¬ c = 0) (w : World) (hS1 : S.toList.isEmpty = false) (_hS2 : S.toList ≠ [])
    (h1 : ∀ W, Calls Tryz.prog 82 #[.agg #[.bool N, .string S, .string T]] W fun r w' => r = .returned (.tuple #[.float .f64 X, .float .f64 Y, .int .i64 c, .bool e]) ∧ Below W.heap.size W w') (h2 : ∀ W, Calls Tryz.prog 48 #[.bool N, .float .f64 X] W fun r w' => r = .returned (.float .f64 Z) ∧ W = w') :
    Calls Tryz.prog 49 #[.agg #[.bool N, .string S, .string T]] w fun r w' => r = .returned (.float .f64 (Z)) ∧ Below w.heap.size w w' := by
  have F := Blk.put w #[.bool N, .string S, .string T] 24
  have hb := (Below.refl w.heap.size w).alloc (Nat.le_refl _) (.cells #[.bool N, .string S, .string T] 24)
  obtain ⟨f0, f1, f2⟩ := F.ce3
  go_enter Tryz.func49, Tryz.ntmps49
  go_wp2_with fail
  refine (h1 _).mono ?_
  rintro r w1 ⟨rfl, hB⟩
  clear f0 f1 f2 h1
  replace F := F.keep hB
  replace hb := hb.trans (hB.mono hb.size)
  clear hB
  obtain ⟨f0, f1, f2⟩ := F.ce3
  go_wp2_with fail
  refine (h2 _).mono ?_
  rintro r w2 ⟨rfl, rfl⟩
  clear h2
  go_wp2
  go_ret
  exact ⟨rfl, hb⟩
set_option maxRecDepth 100000 in
set_option maxHeartbeats 2000000 in
theorem p4float_even  (S T : ByteArray) (X Y : Nat) (N : Bool) (Z : Nat) (w : World) (hS1 : S.toList.isEmpty = false) (_hS2 : S.toList ≠ [])
    (h1 : ∀ W, Calls Tryz.prog 82 #[.agg #[.bool N, .string S, .string T]] W fun r w' => r = .returned (.tuple #[.float .f64 X, .float .f64 Y, .int .i64 0, .bool true]) ∧ Below W.heap.size W w') (h2 : ∀ W, Calls Tryz.prog 48 #[.bool N, .float .f64 X] W fun r w' => r = .returned (.float .f64 Z) ∧ W = w') :
    Calls Tryz.prog 49 #[.agg #[.bool N, .string S, .string T]] w fun r w' => r = .returned (.float .f64 (Z)) ∧ Below w.heap.size w w' := by
  have F := Blk.put w #[.bool N, .string S, .string T] 24
  have hb := (Below.refl w.heap.size w).alloc (Nat.le_refl _) (.cells #[.bool N, .string S, .string T] 24)
  obtain ⟨f0, f1, f2⟩ := F.ce3
  go_enter Tryz.func49, Tryz.ntmps49
  go_wp2_with fail
  refine (h1 _).mono ?_
  rintro r w1 ⟨rfl, hB⟩
  clear f0 f1 f2 h1
  replace F := F.keep hB
  replace hb := hb.trans (hB.mono hb.size)
  clear hB
  obtain ⟨f0, f1, f2⟩ := F.ce3
  go_wp2_with fail
  refine (h2 _).mono ?_
  rintro r w2 ⟨rfl, rfl⟩
  clear h2
  go_wp2
  go_ret
  exact ⟨rfl, hb⟩
set_option maxRecDepth 100000 in
set_option maxHeartbeats 2000000 in
theorem p4float_odd  (S T : ByteArray) (X Y : Nat) (N : Bool) (Z : Nat) (w : World) (hS1 : S.toList.isEmpty = false) (_hS2 : S.toList ≠ [])
    (h1 : ∀ W, Calls Tryz.prog 82 #[.agg #[.bool N, .string S, .string T]] W fun r w' => r = .returned (.tuple #[.float .f64 X, .float .f64 Y, .int .i64 0, .bool false]) ∧ Below W.heap.size W w') (h2 : ∀ W, Calls Tryz.prog 48 #[.bool N, .float .f64 Y] W fun r w' => r = .returned (.float .f64 Z) ∧ W = w') :
    Calls Tryz.prog 49 #[.agg #[.bool N, .string S, .string T]] w fun r w' => r = .returned (.float .f64 (Z)) ∧ Below w.heap.size w w' := by
  have F := Blk.put w #[.bool N, .string S, .string T] 24
  have hb := (Below.refl w.heap.size w).alloc (Nat.le_refl _) (.cells #[.bool N, .string S, .string T] 24)
  obtain ⟨f0, f1, f2⟩ := F.ce3
  go_enter Tryz.func49, Tryz.ntmps49
  go_wp2_with fail
  refine (h1 _).mono ?_
  rintro r w1 ⟨rfl, hB⟩
  clear f0 f1 f2 h1
  replace F := F.keep hB
  replace hb := hb.trans (hB.mono hb.size)
  clear hB
  obtain ⟨f0, f1, f2⟩ := F.ce3
  go_wp2_with fail
  refine (h2 _).mono ?_
  rintro r w2 ⟨rfl, rfl⟩
  clear h2
  go_wp2
  go_ret
  exact ⟨rfl, hb⟩
end Go.Proofs.YtbhfnigblhfikaaGreat

/- math.Frexp of positive floats; Ldexp by 53; the float's whole number. -/
namespace Go.Proofs.YtbhfnigblhfikaaGreat
open Go Go.RowKit Go.PlainAid Fil

theorem ord_sub {x : Nat} (h : x < 4503599627370496) : (FloatKind.f64.format.order (magB x) 4503599627370496 == some .lt) = true := by
  rw [magB_lt (by omega), order_pos (by omega) (by omega), cmp_lt (by omega)]; rfl
theorem mul_52 {r L F y : Nat} (hr : r < 4503599627370496) (hF : F < 4503599627370496) (hL : L < 52) (hv : (4503599627370496 + F) * 2 ^ L = r * 4503599627370496) (hy : y = (L + 1) * 4503599627370496 + F) : floatBits .mul .f64 r 4841369599423283200 = some y := by
  have key : ∀ K : Nat, K = 1074 → mv r * mv ((K + 1) * 4503599627370496 + 0) = mv y * 2 ^ K := fun K _ => by
    rw [mv_parts (by omega), hy, mv_parts hF, mv_small hr, hv, Nat.add_zero, Nat.mul_assoc]
  have k2 := key 1074 rfl
  clear key hv
  exact fmul_ok (M := 1074) rfl (by omega) (by omega) (by omega) k2
theorem normal_sub (r y : Nat) (w : World) (h : r < 4503599627370496) (hm : floatBits .mul .f64 r 4841369599423283200 = some y) : Calls Tryz.prog 121 #[.float .f64 r] w fun e w' => e = .returned (.tuple #[.float .f64 y, .int .i64 (-52)]) ∧ w = w' := by
  have ha := fun W => mabs_any r W (by omega)
  have ho := ord_sub h
  have hmul := fun W => run_float_arith (P := Tryz.prog) W .mul 35 .f64 r 4841369599423283200 y hm
  clear h hm
  go_enter Tryz.func121, Tryz.ntmps121
  go_wp2_with (go_at_call 119; go_must (refine (ha _).mono ?_); rintro r w1 ⟨rfl, rfl⟩)
  go_returns
  exact ⟨rfl, rfl⟩
theorem exp_bitsU (E : Nat) (hE : E < 2048) : bits BinOp.and IntKind.u64 (E : Int) 2047 = (E : Int) := by
  have h := u64_and_nat E 2047 (by omega) (by omega)
  rw [show ((2047 : Nat) : Int) = 2047 from rfl] at h
  rw [h, show 2047 = 2 ^ 11 - 1 by rfl, Nat.and_two_pow_sub_one_eq_mod, Nat.mod_eq_of_lt hE]
theorem half_bits (F : Nat) (hF : F < 4503599627370496) : bits BinOp.or IntKind.u64 (F : Int) 4602678819172646912 = ((1022 * 4503599627370496 + F : Nat) : Int) := by
  have h := pack_bits 1022 F (by omega) hF
  rw [show ((1022 : Nat) : Int) * 4503599627370496 = 4602678819172646912 from rfl] at h
  exact h

theorem ldexp_53 (F : Nat) (hF : F < 4503599627370496) (w : World) : Calls Tryz.prog 109 #[.float .f64 (1022 * 4503599627370496 + F), .int .i64 53] w fun r w' => r = .returned (.float .f64 (1075 * 4503599627370496 + F)) ∧ w = w' := by
  obtain ⟨x, hx⟩ : ∃ x, x = 1022 * 4503599627370496 + F := ⟨_, rfl⟩
  obtain ⟨y, hy⟩ : ∃ y, y = 1075 * 4503599627370496 + F := ⟨_, rfl⟩
  have h := fun W => ldexp_norm 1022 F 1075 53 52 x y y W hx (by omega) hF (ord_zero (by omega) (by omega)) (ord_big (by omega)) (ord_self (by omega)) (ord_norm (by omega) (by omega)) (by omega) (by omega) (by omega) (by omega) (by omega) (by omega) hy (mul_one_rung (by omega))
  rw [← hx, ← hy]
  clear hx hy hF
  go_enter Tryz.func109, Tryz.ntmps109
  go_wp2_with (go_at_call 118; go_must (refine (h _).mono ?_); rintro r w1 ⟨rfl, rfl⟩)
  go_ret
  exact ⟨rfl, rfl⟩
/-- the whole number of a float from 2^52 to 2^53 -/
theorem whole_53 (F : Nat) (hF : F < 4503599627370496) : floatToIntVal .f64 (1075 * 4503599627370496 + F) .u64 = some (((4503599627370496 + F : Nat) : Int)) := by
  have hr : FloatKind.f64.decode (1075 * 4503599627370496 + F) = .number false (4503599627370496 + F) 0 := by
    show Ieee.double.read _ = _
    unfold Ieee.Format.read
    rw [d_sign, d_binade, d_inf, d_least]
    have e1 : (1075 * 4503599627370496 + F) % 9223372036854775808 = 1075 * 4503599627370496 + F := by omega
    have e2 : (1075 * 4503599627370496 + F) / 9223372036854775808 % 2 = 0 := by omega
    simp only [e1, e2]
    rw [if_neg (by omega), if_pos (by omega)]
    congr 1 <;> omega
  unfold floatToIntVal
  rw [hr]
  generalize hm : 4503599627370496 + F = m at *
  have e : (Ieee.Datum.number false m 0).toInt .zero = some (m : Int) := by
    simp [Ieee.Datum.toInt, Ieee.Datum.integral, Ieee.Toward.cut, Ieee.signed]
  rw [e]
  show (if IntKind.u64.min ≤ (m : Int) ∧ (m : Int) ≤ IntKind.u64.max then some (m : Int) else none) = _
  rw [if_pos ⟨by show (0 : Int) ≤ _; omega, by show _ ≤ (18446744073709551615 : Int); omega⟩]
end Go.Proofs.YtbhfnigblhfikaaGreat

/- wide.Rat's SetFloat64 of finite floats. -/
namespace Go.Proofs.YtbhfnigblhfikaaGreat
open Go Go.RowKit Go.PlainAid Fil

theorem sg_sz' {S : Bool} {M : Nat} (h : S = true → M ≠ 0) : sg (sz S M) = S := by
  cases S
  · unfold sg sz; exact decide_eq_false (by simp)
  · have := h rfl; unfold sg sz; exact decide_eq_true (by simp; omega)
theorem sign_set {w : World} {b M : Nat} {S : Bool} (h : IntAt w b 0 (M : Int)) (hS : S = true → M ≠ 0) : IntAt (w.setCell ⟨b, 0, none⟩ (.bool S)) b 0 (sz S M) ∧ But w (w.setCell ⟨b, 0, none⟩ (.bool S)) b 0 := by
  obtain ⟨cs, t, A, n, c, h1, h2, h3, h4, h5⟩ := h
  have hl := (Array.getElem?_eq_some_iff.1 h3).1
  have e1 : (w.setCell ⟨b, 0, none⟩ (.bool S)).heap[b]? = some (.cells (cs.setIfInBounds 0 (.bool S)) t (0, 0)) := by simp [World.setCell, Array.getElem?_modify, h1]
  refine ⟨⟨cs.setIfInBounds 0 (.bool S), t, A, n, c, e1, h2, ?_, ?_, ?_⟩, ?_⟩
  · rw [Array.getElem?_setIfInBounds, sg_sz' hS]; simp [hl]
  · rw [Array.getElem?_setIfInBounds_ne (by omega)]; exact h4
  · rw [sz_abs]
    rw [Int.natAbs_natCast] at h5
    exact ⟨h5.1, h5.2.1, h5.2.2.setCell (p := ⟨b, 0, none⟩) h1 (fun e => h2 e.symm) _⟩
  · refine ⟨rfl, rfl, rfl, by simp, fun k _ hk => Below.heap_setCell _ _ _ _ hk, ⟨cs, _, t, h1, e1, h2, by simp, fun j hj _ => ?_⟩⟩
    rw [Array.getElem?_setIfInBounds_ne (by omega)]
/-- 2 to the power 1074 (never reckoned out) -/
def P74 : Nat := 2 ^ 1074
theorem P74_eq {K : Nat} (h : K = 1074) : P74 = 2 ^ K := by subst h; rfl
theorem P74_pos : 0 < P74 := by
  obtain ⟨K, hK⟩ : ∃ K, K = 1074 := ⟨_, rfl⟩
  rw [P74_eq hK]; exact pp _
/-- the number of the float of rung r -/
def fRat (N : Bool) (r : Nat) : Rat := Rat.divInt (sz N (mv r)) (P74 : Int)

theorem ord_lt0 {N : Bool} {r : Nat} (h : r < 9218868437227405312) : (FloatKind.f64.format.order (Ieee.double.word N r) 0 == some .lt) = (N && decide (r ≠ 0)) := by
  have hw : fr (Ieee.double.word N r) = r ∧ fs (Ieee.double.word N r) = N := by
    cases N
    · rw [d_word_f]; exact ⟨fr_lt (by omega), fs_lt (by omega)⟩
    · rw [d_word_t]; unfold fr fs; exact ⟨by omega, by rw [show (9223372036854775808 + r) / 9223372036854775808 = 1 by omega]; rfl⟩
  rw [f64_double, order_some (by rw [hw.1]; omega) (by decide)]
  have hk : fk (Ieee.double.word N r) = if N then -(r : Int) else r := by unfold fk; rw [hw.1, hw.2]
  rw [hk, show fk 0 = 0 from rfl]
  by_cases h0 : r = 0
  · subst h0; cases N <;> rfl
  · cases N
    · rw [if_neg (by decide), cmp_gt (by omega)]; rfl
    · rw [if_pos rfl, cmp_lt (by omega), decide_eq_true h0]; rfl
theorem word_lt {N : Bool} {r : Nat} (h : r < 9223372036854775808) : Ieee.double.word N r < 18446744073709551616 := by cases N; rw [d_word_f]; omega; rw [d_word_t]; omega
theorem word_mag {N : Bool} {r : Nat} (h : r < 9223372036854775808) : magB (Ieee.double.word N r) = r := by unfold magB; cases N; rw [d_word_f]; omega; rw [d_word_t]; omega
set_option maxHeartbeats 2000000 in
theorem mldexp_zero (w : World) : Calls Tryz.prog 109 #[.float .f64 0, .int .i64 53] w fun x w' => x = .returned (.float .f64 0) ∧ w = w' := by
  have h : ∀ W, Calls Tryz.prog 118 #[.float .f64 0, .int .i64 53] W fun x w' => x = .returned (.float .f64 0) ∧ W = w' := fun W => by
    have o0 : (FloatKind.f64.format.order 0 0 == some .eq) = true := by kernel_rfl
    go_enter Tryz.func118, Tryz.ntmps118
    go_wp2
    go_ret
    exact ⟨rfl, rfl⟩
  go_enter Tryz.func109, Tryz.ntmps109
  go_wp2_with (go_at_call 118; go_must (refine (h _).mono ?_); rintro r w1 ⟨rfl, rfl⟩)
  go_ret
  exact ⟨rfl, rfl⟩
theorem divInt_cross {a b c d : Int} (hb : b ≠ 0) (hd : d ≠ 0) (h : a * d = c * b) : Rat.divInt a b = Rat.divInt c d := (Rat.divInt_eq_divInt_iff hb hd).2 h
theorem sz_pow (S : Bool) (M k : Nat) : sz S M * (2 : Int) ^ k = sz S (M * 2 ^ k) := by cases S <;> simp [sz, Int.neg_mul]
end Go.Proofs.YtbhfnigblhfikaaGreat

/- bits.Up, bits.Down; ratio.against. -/
namespace Go.Proofs.YtbhfnigblhfikaaGreat
open Go Go.RowKit Go.PlainAid Fil

theorem word_parts {N : Bool} {R : Nat} (h : R < 9223372036854775808) : fr (Ieee.double.word N R) = R ∧ fs (Ieee.double.word N R) = N := by
  cases N
  · rw [d_word_f]; exact ⟨fr_lt h, fs_lt h⟩
  · rw [d_word_t]; unfold fr fs; exact ⟨by omega, by rw [show (9223372036854775808 + R) / 9223372036854775808 = 1 by omega]; rfl⟩
theorem ord_word_self {N : Bool} {R : Nat} (h : R ≤ 9218868437227405312) : (FloatKind.f64.format.order (Ieee.double.word N R) (Ieee.double.word N R) != some .eq) = false := by
  have hw := word_parts (N := N) (R := R) (by omega)
  rw [f64_double, order_some (by rw [hw.1]; exact h) (by rw [hw.1]; exact h)]
  simp [compare, compareOfLessAndEq]
theorem ord_mag_max {R : Nat} (h : R ≤ 9218868437227405312) : (FloatKind.f64.format.order R 9218868437227405311 == some .gt) = decide (R = 9218868437227405312) := by
  rw [order_pos h (by omega)]
  by_cases e : R = 9218868437227405312
  · rw [decide_eq_true e, cmp_gt (by omega)]; rfl
  · rw [decide_eq_false e]
    rcases Nat.lt_or_ge R 9218868437227405311 with h1 | h1
    · rw [cmp_lt (by omega)]; rfl
    · rw [show R = 9218868437227405311 by omega]; rfl
theorem isinf0 (N : Bool) (R : Nat) (w : World) (h : R ≤ 9218868437227405312) : Calls Tryz.prog 110 #[.float .f64 (Ieee.double.word N R), .int .i64 0] w fun r w' => r = .returned (.bool (decide (R = 9218868437227405312))) ∧ w = w' := by
  have := isinf_any (Ieee.double.word N R) w (word_lt (by omega))
  rw [word_mag (by omega), ord_mag_max h] at this
  exact this
set_option maxHeartbeats 1000000 in
theorem isinf1 (N : Bool) (R : Nat) (w : World) (h : R ≤ 9218868437227405312) (hN : N = true ∨ R < 9218868437227405312) : Calls Tryz.prog 110 #[.float .f64 (Ieee.double.word N R), .int .i64 1] w fun r w' => r = .returned (.bool false) ∧ w = w' := by
  have hw := word_parts (N := N) (R := R) (by omega)
  have ho : (FloatKind.f64.format.order (Ieee.double.word N R) 9218868437227405311 == some .gt) = false := by
    rw [f64_double, order_some (by rw [hw.1]; exact h) (by decide)]
    have hk : fk (Ieee.double.word N R) = if N then -(R : Int) else R := by unfold fk; rw [hw.1, hw.2]
    rw [hk, show fk 9218868437227405311 = 9218868437227405311 by decide]
    cases N
    · have : R < 9218868437227405312 := by rcases hN with h | h; exact absurd h (by decide); exact h
      rw [if_neg (by decide)]
      rcases Nat.lt_or_ge R 9218868437227405311 with h1 | h1
      · rw [cmp_lt (by omega)]; rfl
      · rw [show R = 9218868437227405311 by omega]; rfl
    · rw [if_pos rfl, cmp_lt (by omega)]; rfl
  generalize Ieee.double.word N R = X at *
  clear h hN hw
  go_enter Tryz.func110, Tryz.ntmps110
  go_wp2
  go_ret
  exact ⟨rfl, rfl⟩
theorem neg_word {N : Bool} {R : Nat} (h : R < 9223372036854775808) : Op.negFloat .f64 (Ieee.double.word N R) = Ieee.double.word (!N) R := by
  unfold Op.negFloat
  rw [show FloatKind.f64.format.exponentBits + FloatKind.f64.format.fractionBits = 63 from rfl]
  cases N
  · rw [d_word_f, show (!false) = true from rfl, d_word_t, xor_top2 (s := 63) h]
  · rw [d_word_t, show (!true) = false from rfl, d_word_f, show 9223372036854775808 + R = R ^^^ 2 ^ 63 by rw [xor_top2 (s := 63) h], Nat.xor_assoc, Nat.xor_self, Nat.xor_zero]
set_option maxHeartbeats 1000000 in
theorem isinfm (N : Bool) (R : Nat) (w : World) (h : R ≤ 9218868437227405312) (hN : N = false ∨ R < 9218868437227405312) : Calls Tryz.prog 110 #[.float .f64 (Ieee.double.word N R), .int .i64 (-1)] w fun r w' => r = .returned (.bool false) ∧ w = w' := by
  have hng : ∀ W, (Op.unary UnOp.neg (.float .f64 (Ieee.double.word N R))).run Tryz.prog W = .ok (.float .f64 (Ieee.double.word (!N) R)) W := fun W => by
    rw [← neg_word (by omega)]; rfl
  have hw := word_parts (N := !N) (R := R) (by omega)
  have ho : (FloatKind.f64.format.order (Ieee.double.word (!N) R) 9218868437227405311 == some .gt) = false := by
    rw [f64_double, order_some (by rw [hw.1]; exact h) (by decide)]
    have hk : fk (Ieee.double.word (!N) R) = if (!N) then -(R : Int) else R := by unfold fk; rw [hw.1, hw.2]
    rw [hk, show fk 9218868437227405311 = 9218868437227405311 by decide]
    cases N
    · rw [show (!false) = true from rfl, if_pos rfl, cmp_lt (by omega)]; rfl
    · rw [show (!true) = false from rfl]
      have : R < 9218868437227405312 := by rcases hN with h | h; exact absurd h (by decide); exact h
      rw [if_neg (by decide)]
      rcases Nat.lt_or_ge R 9218868437227405311 with h1 | h1
      · rw [cmp_lt (by omega)]; rfl
      · rw [show R = 9218868437227405311 by omega]; rfl
  generalize Ieee.double.word (!N) R = Y at *
  generalize Ieee.double.word N R = X at *
  clear h hN hw
  go_enter Tryz.func110, Tryz.ntmps110
  go_wp2
  go_ret
  exact ⟨rfl, rfl⟩
theorem sign_bits (N : Bool) {R : Nat} (h : R < 9223372036854775808) : bits BinOp.and IntKind.u64 ((Ieee.double.word N R : Nat) : Int) 9223372036854775808 = if N then 9223372036854775808 else 0 := by
  have h1 := u64_and_nat (Ieee.double.word N R) 9223372036854775808 (word_lt h) (by omega)
  rw [show ((9223372036854775808 : Nat) : Int) = 9223372036854775808 from rfl] at h1
  rw [h1]
  have e : Ieee.double.word N R &&& 9223372036854775808 = if N then 9223372036854775808 else 0 := by
    apply Nat.eq_of_testBit_eq
    intro i
    rw [Nat.testBit_and, show (9223372036854775808 : Nat) = 2 ^ 63 by rfl, Nat.testBit_two_pow]
    by_cases hi : 63 = i
    · subst hi
      rw [decide_eq_true rfl, Bool.and_true]
      cases N
      · rw [d_word_f, Nat.testBit_lt_two_pow (by omega)]; rfl
      · rw [d_word_t, if_pos rfl, show (9223372036854775808 : Nat) + R = 2 ^ 63 + R by rfl, Nat.testBit_two_pow_add_eq, Nat.testBit_lt_two_pow (by omega), Nat.testBit_two_pow, decide_eq_true rfl]; rfl
    · rw [decide_eq_false hi, Bool.and_false]
      cases N
      · rw [if_neg (by decide), Nat.zero_testBit]
      · rw [if_pos rfl, Nat.testBit_two_pow, decide_eq_false hi]
  rw [e]; cases N <;> rfl
/-- the float above -/
def upW (N : Bool) (R : Nat) : Nat := if R = 0 then 1 else if N then Ieee.double.word true (R - 1) else R + 1
/-- the float below -/
def dnW (N : Bool) (R : Nat) : Nat := if R = 0 then 9223372036854775809 else if N then Ieee.double.word true (R + 1) else R - 1
end Go.Proofs.YtbhfnigblhfikaaGreat

/- ratio.against, Below, Above. -/
namespace Go.Proofs.YtbhfnigblhfikaaGreat
open Go Go.RowKit Go.PlainAid Fil

theorem ord_gt0 {N : Bool} {r : Nat} (h : r ≤ 9218868437227405312) : (FloatKind.f64.format.order (Ieee.double.word N r) 0 == some .gt) = (!N && decide (r ≠ 0)) := by
  have hw := word_parts (N := N) (R := r) (by omega)
  rw [f64_double, order_some (by rw [hw.1]; omega) (by decide)]
  have hk : fk (Ieee.double.word N r) = if N then -(r : Int) else r := by unfold fk; rw [hw.1, hw.2]
  rw [hk, show fk 0 = 0 from rfl]
  by_cases h0 : r = 0
  · subst h0; cases N <;> rfl
  · cases N
    · rw [if_neg (by decide), cmp_gt (by omega), decide_eq_true h0]; rfl
    · rw [if_pos rfl, cmp_lt (by omega)]; rfl
/-- how a float lies against a number -/
def agI (N : Bool) (R : Nat) (x : Rat) : Int := if R = 9218868437227405312 then (if N then -1 else 1) else cmpR (fRat N R) x
theorem cmpR_rng (x y : Rat) : -1 ≤ cmpR x y ∧ cmpR x y ≤ 1 := by unfold cmpR; split <;> (try split) <;> omega
theorem agI_rng (N : Bool) (R : Nat) (x : Rat) : -1 ≤ agI N R x ∧ agI N R x ≤ 1 := by
  unfold agI
  split
  · cases N <;> simp
  · exact cmpR_rng _ _
theorem mv_bits {R K : Nat} (hK : K = 2104) (h : R < 9218868437227405312) : mv R < 2 ^ K := by
  by_cases hs : R < 4503599627370496
  · rw [mv_small hs]; exact Nat.lt_of_lt_of_le hs (Nat.le_trans (by decide : 4503599627370496 ≤ 2 ^ 52) (pmono (by omega)))
  · rw [mv_big hs]
    have h1 : 4503599627370496 + R % 4503599627370496 < 2 ^ 53 := by omega
    have h2 : 2 ^ (R / 4503599627370496 - 1) ≤ 2 ^ (K - 53) := pmono (by omega)
    calc _ < 2 ^ 53 * 2 ^ (R / 4503599627370496 - 1) := Nat.mul_lt_mul_of_pos_right h1 (pp _)
      _ ≤ 2 ^ 53 * 2 ^ (K - 53) := Nat.mul_le_mul_left _ h2
      _ = 2 ^ K := by rw [← Nat.pow_add]; congr 1; omega
theorem fRat_szd {N : Bool} {R : Nat} (h : R < 9218868437227405312) : Szd 100 (fRat N R) := by
  unfold fRat
  have hP0 : (P74 : Int) ≠ 0 := by have := P74_pos; omega
  refine Szd.div hP0 ?_ ?_
  · rw [sz_abs]
    obtain ⟨K, hK⟩ : ∃ K, K = 2104 := ⟨_, rfl⟩
    obtain ⟨L, hL⟩ : ∃ L, L = 100 := ⟨_, rfl⟩
    have : Fil.dn 32 (mv R) ≤ L := dn_le (by omega) (Nat.lt_of_lt_of_le (mv_bits hK h) (pmono (by omega)))
    omega
  · rw [Int.natAbs_natCast]
    obtain ⟨K, hK⟩ : ∃ K, K = 1074 := ⟨_, rfl⟩
    rw [P74_eq hK]
    obtain ⟨L, hL⟩ : ∃ L, L = 100 := ⟨_, rfl⟩
    have : Fil.dn 32 (2 ^ K) ≤ L := dn_le (by omega) (Nat.pow_lt_pow_right (by omega) (by omega))
    omega
end Go.Proofs.YtbhfnigblhfikaaGreat

/- wide.Int's Div; ratio.Floor, Part. -/
namespace Go.Proofs.YtbhfnigblhfikaaGreat
open Go Go.RowKit Go.PlainAid Fil

theorem ediv_sz (N : Bool) {n d : Nat} (hd : d ≠ 0) : sz N n / (d : Int) = sz N (n / d + if N = true ∧ n % d ≠ 0 then 1 else 0) := by
  cases N
  · rw [if_neg (by simp)]; show (n : Int) / d = ((n / d + 0 : Nat) : Int); simp
  · have h1 := Nat.div_add_mod n d
    have h2 := Nat.mod_lt n (Nat.pos_of_ne_zero hd)
    generalize hq : n / d = q at *
    generalize hr : n % d = r at *
    have hdp : (0 : Int) < (d : Int) := by omega
    show (-(n : Int)) / (d : Int) = -((q + _ : Nat) : Int)
    by_cases h0 : r = 0
    · rw [if_neg (by simp [h0])]
      have e : -(n : Int) = (d : Int) * (-(q : Int)) := by rw [← h1, h0, Int.mul_neg]; simp
      rw [e, Int.mul_ediv_cancel_left _ (by omega)]; simp
    · rw [if_pos ⟨rfl, h0⟩]
      have e : -(n : Int) = (d : Int) * (-((q : Int) + 1)) + ((d : Int) - r) := by
        rw [← h1, Int.mul_neg, Int.mul_add]; simp; omega
      rw [e, Int.mul_add_ediv_left _ _ (by omega), Int.ediv_eq_zero_of_lt (by omega) (by omega)]
      simp
end Go.Proofs.YtbhfnigblhfikaaGreat

/- The plain law: the reference's exponent and rung are the program's. -/
namespace Go.Proofs.YtbhfnigblhfikaaGreat
open Go Go.RowKit Go.PlainAid Fil

theorem aM_half {n d : Nat} (hd : d ≠ 0) (q : Int) : aM n d (q + 1) * 2 ≤ aM n d q := by
  obtain ⟨m, hm⟩ : ∃ m, m = aM n d (q + 1) := ⟨_, rfl⟩
  rw [← hm]
  unfold aM at *
  rw [Nat.le_div_iff_mul_le (aY_pos hd _)]
  have h : m * aY d (q + 1) ≤ aX n (q + 1) := by rw [hm]; exact Nat.div_mul_le_self _ _
  clear hm
  unfold aX aY at *
  rcases Int.lt_or_le q 0 with h0 | h0
  · rw [show (q + 1).toNat = 0 by omega, Nat.pow_zero, Nat.mul_one] at h
    rw [show (-q).toNat = (-(q + 1)).toNat + 1 by omega, show q.toNat = 0 by omega, Nat.pow_succ, ← Nat.mul_assoc n, Nat.pow_zero, Nat.mul_one, Nat.mul_right_comm]
    omega
  · rw [show (-(q + 1)).toNat = 0 by omega, show (q + 1).toNat = q.toNat + 1 by omega, Nat.pow_succ, ← Nat.mul_assoc d, Nat.pow_zero, Nat.mul_one, ← Nat.mul_assoc m] at h
    rw [show (-q).toNat = 0 by omega, Nat.pow_zero, Nat.mul_one, Nat.mul_right_comm]
    exact h
theorem aM_far {n d : Nat} (hd : d ≠ 0) (q : Int) (k : Nat) : aM n d (q + ((k + 1 : Nat) : Int)) * 2 ≤ aM n d q := by
  induction k with
  | zero => exact aM_half hd q
  | succ k ih =>
    have := aM_half (n := n) hd (q + ((k + 1 : Nat) : Int))
    rw [show q + ((k + 1 + 1 : Nat) : Int) = q + ((k + 1 : Nat) : Int) + 1 by omega]
    omega
theorem AQ.lt {n d : Nat} (hd : d ≠ 0) {q p : Int} (h1 : AQ n d q) (h2 : AQ n d p) (h : q < p) : 971 < q := by
  rcases Int.lt_or_le 971 q with h3 | h3
  · exact h3
  · have := aM_far (n := n) hd q (p - q - 1).toNat
    rw [show q + (((p - q - 1).toNat + 1 : Nat) : Int) = p by omega] at this
    have := h1.2.2 h3
    have := h2.2.1 (by have := h1.1; omega)
    omega
theorem AQ.same {n d : Nat} (hd : d ≠ 0) {q p : Int} (h1 : AQ n d q) (h2 : AQ n d p) : aL n d q = aL n d p ∧ aC n d q = aC n d p ∧ aE n d q = aE n d p := by
  rcases Int.lt_trichotomy q p with h | h | h
  · have h3 := AQ.lt hd h1 h2 h
    have h4 : 971 < p := by omega
    unfold aL aC aE
    rw [if_pos h3, if_pos h4, if_pos h3, if_pos h4, if_pos h3, if_pos h4]
    exact ⟨rfl, rfl, rfl⟩
  · subst h; exact ⟨rfl, rfl, rfl⟩
  · have h3 := AQ.lt hd h2 h1 h
    have h4 : 971 < q := by omega
    unfold aL aC aE
    rw [if_pos h3, if_pos h4, if_pos h3, if_pos h4, if_pos h3, if_pos h4]
    exact ⟨rfl, rfl, rfl⟩
/-- the two quotients, brought to one measure -/
theorem scale {n d k : Nat} {Q : Int} (hk : (k : Int) = Q + fS n d) :
    fX n d * 2 ^ (-Q).toNat = aX n Q * 2 ^ (fS n d).toNat ∧ fY n d * 2 ^ k * 2 ^ (-Q).toNat = aY d Q * 2 ^ (fS n d).toNat := by
  unfold fX fY aX aY
  generalize fS n d = S at *
  constructor
  · rw [Nat.mul_assoc, Nat.mul_assoc, Nat.mul_comm (2 ^ S.toNat)]
  · rw [Nat.mul_assoc, Nat.mul_assoc, Nat.mul_assoc, ← Nat.pow_add, ← Nat.pow_add, ← Nat.pow_add]
    congr 2; omega
theorem scale_div {a b c e s t : Nat} (hs : 0 < s) (ht : 0 < t) (h1 : a * s = c * t) (h2 : b * s = e * t) : a / b = c / e ∧ a % b * s = c % e * t := by
  constructor
  · rw [← Nat.mul_div_mul_right a b hs, h1, h2, Nat.mul_div_mul_right c e ht]
  · rw [← Nat.mul_mod_mul_right, h1, h2, Nat.mul_mod_mul_right]
theorem scale_cmp {a b c e s t : Nat} (hs : 0 < s) (ht : 0 < t) (h1 : a * s = c * t) (h2 : b * s = e * t) : (a < b ↔ c < e) ∧ (a = b ↔ c = e) := by
  constructor
  · rw [← Nat.mul_lt_mul_right hs, h1, h2, Nat.mul_lt_mul_right ht]
  · constructor
    · intro h; subst h; exact Nat.eq_of_mul_eq_mul_right ht (h1.symm.trans h2)
    · intro h; subst h; exact Nat.eq_of_mul_eq_mul_right hs (h1.trans h2.symm)
theorem fS_k {n d : Nat} (hn : n ≠ 0) (hd : d ≠ 0) : ∃ k : Nat, (k : Int) = rdQ (fV n d) (fE n d) + fS n d ∧ 1 ≤ k := by
  have hq := fQ_lo hn hd
  have h := tl_Q (q := fQ n d) (t := fT n d) (by omega) (fT_le n d) (fS n d)
  have hb : 60 ≤ bl (fQ n d) := by
    rcases Nat.lt_or_ge (bl (fQ n d)) 60 with h1 | h1
    · have h2 := lt_bl (fQ n d)
      have h3 : 2 ^ bl (fQ n d) ≤ 2 ^ 59 := pmono (by omega)
      omega
    · exact h1
  unfold fV fE
  refine ⟨(rdQ (2 * fQ n d + fT n d) (-fS n d - 1) + fS n d).toNat, ?_, ?_⟩ <;> omega
theorem rdM_a {n d : Nat} (hn : n ≠ 0) (hd : d ≠ 0) : aM n d (rdQ (fV n d) (fE n d)) = rdM (fV n d) (fE n d) := by
  obtain ⟨k, hk, _⟩ := fS_k hn hd
  have hs := scale hk
  have hv := (scale_div (pp _) (pp _) hs.1 hs.2).1
  unfold aM
  rw [← hv, ← Nat.div_div_eq_div_mul]
  unfold fV fE at *
  exact (tl_M (fT_le n d) (fS n d) hk).symm
theorem AQ_rd {n d : Nat} (hn : n ≠ 0) (hd : d ≠ 0) : AQ n d (rdQ (fV n d) (fE n d)) := by
  have hV := fV_ne hn hd
  have h1 := rdM_lt hV (fE n d)
  refine ⟨rdQ_lo _ _, fun h => ?_, fun _ => ?_⟩
  · rw [rdM_a hn hd]; exact rdM_ge hV h
  · rw [rdM_a hn hd]; omega
theorem tp_Q {x : Nat} {e : Int} : 1024 ≤ tpI x e ↔ 971 < rdQ x e := by unfold rdQ; omega
theorem ar_L {n d : Nat} (hn : n ≠ 0) (hd : d ≠ 0) {Q : Int} (h : AQ n d Q) : rgL (fV n d) (fE n d) = aL n d Q := by
  rw [(AQ.same hd h (AQ_rd hn hd)).1]
  unfold rgL aL
  by_cases hb : 1024 ≤ tpI (fV n d) (fE n d)
  · rw [if_pos hb, if_pos (tp_Q.1 hb)]
  · rw [if_neg hb, if_neg (fun h => hb (tp_Q.2 h)), rdM_a hn hd]; rfl
theorem ar_up {n d : Nat} (hn : n ≠ 0) (hd : d ≠ 0) (hq : ¬ 971 < rdQ (fV n d) (fE n d)) :
    rdUp (fV n d) (fE n d) = (decide (0 < aC n d (rdQ (fV n d) (fE n d))) || (decide (aC n d (rdQ (fV n d) (fE n d)) = 0) && !aE n d (rdQ (fV n d) (fE n d)))) := by
  obtain ⟨k, hk, hk1⟩ := fS_k hn hd
  have hs := scale hk
  have hv := scale_div (pp _) (pp _) hs.1 hs.2
  have hU := tl_U (fT_le n d) (fS n d) hk hk1
  have hM := rdM_a hn hd
  have hMM := tl_M (fT_le n d) (fS n d) hk
  have eU : rdUp (fV n d) (fE n d) = rdUp (2 * fQ n d + fT n d) (-fS n d - 1) := rfl
  have eM : rdM (fV n d) (fE n d) = rdM (2 * fQ n d + fT n d) (-fS n d - 1) := rfl
  rw [eU, hU]
  unfold aC aE
  rw [if_neg hq, if_neg hq, hM, eM, hMM]
  generalize rdQ (fV n d) (fE n d) = Q at *
  obtain ⟨j, rfl⟩ : ∃ j, k = j + 1 := ⟨k - 1, by omega⟩
  have hmod : fX n d % (fY n d * 2 ^ (j + 1)) = fR n d + fY n d * (fQ n d % 2 ^ (j + 1)) := Nat.mod_mul
  rw [hmod] at hv
  have hcm := scale_cmp (a := fY n d * 2 ^ (j + 1)) (b := 2 * (fR n d + fY n d * (fQ n d % 2 ^ (j + 1)))) (c := aY d Q) (e := 2 * (aX n Q % aY d Q)) (pp _) (pp _) hs.2 (by rw [Nat.mul_assoc, hv.2, Nat.mul_assoc])
  have hz : aX n Q % aY d Q = 0 ↔ fR n d + fY n d * (fQ n d % 2 ^ (j + 1)) = 0 := by
    have p1 := pp (-Q).toNat
    have p2 := pp (fS n d).toNat
    constructor
    · intro h; rw [h, Nat.zero_mul] at hv; rcases Nat.mul_eq_zero.1 hv.2 with h | h <;> omega
    · intro h; rw [h, Nat.zero_mul] at hv; rcases Nat.mul_eq_zero.1 hv.2.symm with h | h <;> omega
  have hYp := fY_pos (n := n) hd
  have hpp := pp j
  have hR : fT n d = if fR n d = 0 then 0 else 1 := rfl
  have hRY : fR n d < fY n d := Nat.mod_lt _ hYp
  rw [show j + 1 - 1 = j by omega]
  rw [Nat.pow_succ] at *
  generalize fQ n d / (2 ^ j * 2) = m at *
  generalize fQ n d % (2 ^ j * 2) = o at *
  generalize fR n d = r at *
  generalize fT n d = t at *
  generalize fY n d = Y at *
  generalize aX n Q % aY d Q = ρ at *
  generalize aY d Q = B at *
  generalize 2 ^ j = p at *
  clear hs hv hU hM hMM eU eM hmod
  have e1 : Y * (p * 2) = 2 * (Y * p) := by rw [← Nat.mul_assoc, Nat.mul_comm]
  rw [e1] at hcm
  by_cases h1 : p < o
  · have h2 : Y * p + Y ≤ Y * o := by rw [← Nat.mul_succ]; exact Nat.mul_le_mul_left _ h1
    have h3 : B < 2 * ρ := hcm.1.1 (by omega)
    have h4 : ¬ ρ = 0 := by omega
    rw [decide_eq_true h1, if_neg h4, cmpZ_gt h3]; rfl
  · rw [decide_eq_false h1]
    by_cases h2 : o = p
    · subst h2
      by_cases hr0 : r = 0
      · have h3 : B = 2 * ρ := hcm.2.1 (by omega)
        have h4 : ¬ ρ = 0 := by
          intro h; have := hz.1 h
          have := Nat.mul_pos hYp hpp
          omega
        rw [if_pos hr0] at hR
        subst hR
        rw [if_neg h4, ← h3, cmpZ_eq]
        rcases Nat.mod_two_eq_zero_or_one m with h | h <;> simp [h]
      · have h3 : B < 2 * ρ := hcm.1.1 (by omega)
        have h4 : ¬ ρ = 0 := by omega
        rw [if_neg hr0] at hR
        subst hR
        rw [if_neg h4, cmpZ_gt h3]; simp
    · have h2b : o + 1 ≤ p := by omega
      have h3 : Y * o + Y ≤ Y * p := by rw [← Nat.mul_succ]; exact Nat.mul_le_mul_left _ h2b
      have h4 : 2 * ρ < B := by
        rcases Nat.lt_trichotomy (2 * ρ) B with h | h | h
        · exact h
        · have := hcm.2.2 h.symm; omega
        · have := hcm.1.2 h; omega
      rw [decide_eq_false h2]
      split
      · rfl
      · rw [cmpZ_lt h4]; rfl
theorem ar_N {n d : Nat} (hn : n ≠ 0) (hd : d ≠ 0) {Q : Int} (h : AQ n d Q) :
    rgN (fV n d) (fE n d) = aL n d Q + (decide (0 < aC n d Q) || (decide (aC n d Q = 0) && !aE n d Q)).toNat := by
  have hs := AQ.same hd h (AQ_rd hn hd)
  rw [hs.1, hs.2.1, hs.2.2]
  unfold rgN
  by_cases hb : 1024 ≤ tpI (fV n d) (fE n d)
  · have h1 := tp_Q.1 hb
    rw [if_pos hb]
    unfold aL aC aE
    rw [if_pos h1, if_pos h1, if_pos h1]; rfl
  · have h1 : ¬ 971 < rdQ (fV n d) (fE n d) := fun h => hb (tp_Q.2 h)
    rw [if_neg hb, ar_up hn hd h1]
    unfold aL
    rw [if_neg h1, rdM_a hn hd]; rfl
/-- where the number lies between the rungs -/
theorem ar_pos {n d : Nat} (hd : d ≠ 0) {Q : Int} (h : AQ n d Q) :
    aL n d Q ≤ 9218868437227405311 ∧ mv (aL n d Q) * d ≤ n * P74 ∧ (aC n d Q = -2 ↔ mv (aL n d Q) * d = n * P74) ∧ (aL n d Q = 9218868437227405311 ∨ n * P74 < mv (aL n d Q + 1) * d) := by
  obtain ⟨K, hK⟩ : ∃ K, K = 1074 := ⟨_, rfl⟩
  rw [P74_eq hK]
  obtain ⟨h0, h1, h2⟩ := h
  by_cases hQ : 971 < Q
  · unfold aL aC
    rw [if_pos hQ, if_pos hQ]
    have hm := h1 (by omega)
    have hle : aM n d Q * aY d Q ≤ aX n Q := Nat.div_mul_le_self _ _
    have hb : mv 9218868437227405312 * d ≤ n * 2 ^ K := by
      have e := mv_rung (m := 9007199254740992) (q := 971) (by omega) (fun _ => by omega) (by omega)
      rw [show (971 + 1074 : Int).toNat * 4503599627370496 + 9007199254740992 = 9218868437227405312 by rfl] at e
      rw [e]
      unfold aX aY at hle
      rw [show (-Q).toNat = 0 by omega, Nat.pow_zero, Nat.mul_one] at hle
      obtain ⟨J, hJ⟩ : ∃ J, J = (971 + 1074 : Int).toNat := ⟨_, rfl⟩
      rw [← hJ]
      have hJ2 : J + 1 ≤ Q.toNat + K := by omega
      calc 9007199254740992 * 2 ^ J * d = 4503599627370496 * d * 2 ^ (J + 1) := by rw [Nat.pow_succ, show 9007199254740992 = 4503599627370496 * 2 by rfl]; ac_rfl
        _ ≤ 4503599627370496 * d * 2 ^ (Q.toNat + K) := Nat.mul_le_mul_left _ (pmono hJ2)
        _ = 4503599627370496 * (d * 2 ^ Q.toNat) * 2 ^ K := by rw [Nat.pow_add]; ac_rfl
        _ ≤ aM n d Q * (d * 2 ^ Q.toNat) * 2 ^ K := Nat.mul_le_mul_right _ (Nat.mul_le_mul_right _ hm)
        _ ≤ n * 2 ^ K := Nat.mul_le_mul_right _ hle
    have hlt : mv 9218868437227405311 * d < mv 9218868437227405312 * d := Nat.mul_lt_mul_of_pos_right (mv_lt (by omega)) (by omega)
    exact ⟨Nat.le_refl _, by omega, ⟨fun h => by omega, fun h => by omega⟩, .inl rfl⟩
  · have hM := h2 (by omega)
    unfold aL aC
    rw [if_neg hQ, if_neg hQ]
    have e1 := mv_rung (m := aM n d Q) (q := Q) h0 h1 (by omega)
    have e2 := mv_rung (m := aM n d Q + 1) (q := Q) h0 (fun h => by have := h1 h; omega) (by omega)
    have hsum : aM n d Q * aY d Q + aX n Q % aY d Q = aX n Q := by unfold aM; rw [Nat.mul_comm]; exact Nat.div_add_mod _ _
    have hlt : aX n Q % aY d Q < aY d Q := Nat.mod_lt _ (aY_pos hd Q)
    obtain ⟨J, hJ⟩ : ∃ J, J = K - (-Q).toNat := ⟨_, rfl⟩
    have f1 : n * 2 ^ K = aX n Q * 2 ^ J := by unfold aX; rw [Nat.mul_assoc, ← Nat.pow_add]; congr 2; omega
    have f2 : 2 ^ (Q + 1074).toNat * d = aY d Q * 2 ^ J := by unfold aY; rw [Nat.mul_assoc, ← Nat.pow_add, Nat.mul_comm]; congr 2; omega
    rw [← Nat.add_assoc] at e2
    rw [e1, e2, Nat.mul_assoc, f1, f2, Nat.mul_assoc, f2, ← Nat.mul_assoc, ← Nat.mul_assoc]
    have pJ := pp J
    refine ⟨by omega, Nat.mul_le_mul_right _ (by omega), ?_, .inr (Nat.mul_lt_mul_of_pos_right (by rw [Nat.add_mul, Nat.one_mul]; omega) pJ)⟩
    constructor
    · intro h
      split at h
      · rename_i h3; rw [← hsum, h3, Nat.add_zero]
      · have : -1 ≤ cmpZ (2 * (aX n Q % aY d Q)) (aY d Q) := by unfold cmpZ; split <;> (try split) <;> omega
        omega
    · intro h
      have := Nat.eq_of_mul_eq_mul_right pJ h
      rw [if_pos (by omega)]
end Go.Proofs.YtbhfnigblhfikaaGreat

/- Below, Above, Float of the program and of the reference answer alike. -/
namespace Go.Proofs.YtbhfnigblhfikaaGreat
open Go Go.RowKit Go.PlainAid Fil

theorem cmpR_div {a b : Int} (hb : 0 < b) (y : Rat) : cmpR (Rat.divInt a b) y = cmpI (a * (y.den : Int)) (y.num * b) := by
  have hz : (Rat.divInt a b).num * b = a * ((Rat.divInt a b).den : Int) := (Rat.divInt_eq_divInt_iff (by have := (Rat.divInt a b).den_nz; omega) (by omega)).1 (Rat.num_divInt_den _)
  have hd : (0 : Int) < ((Rat.divInt a b).den : Int) := by have := (Rat.divInt a b).den_nz; omega
  rw [← cmpR_eq]
  generalize (Rat.divInt a b).num = p at *
  generalize ((Rat.divInt a b).den : Int) = q at *
  have e1 : q * (a * (y.den : Int)) = b * (p * (y.den : Int)) := by
    rw [← Int.mul_assoc, Int.mul_comm q, ← hz, Int.mul_comm p, Int.mul_assoc]
  have e2 : q * (y.num * b) = b * (y.num * q) := by rw [Int.mul_comm b, Int.mul_comm q, Int.mul_right_comm]
  have k1 : p * (y.den : Int) < y.num * q ↔ a * (y.den : Int) < y.num * b := by
    rw [← Int.mul_lt_mul_left (a := b) hb, ← e1, ← e2, Int.mul_lt_mul_left hd]
  have k2 : y.num * q < p * (y.den : Int) ↔ y.num * b < a * (y.den : Int) := by
    rw [← Int.mul_lt_mul_left (a := b) hb, ← e1, ← e2, Int.mul_lt_mul_left hd]
  unfold cmpI
  simp only [k1, k2]
theorem agI_val {x : Rat} {R : Nat} (h : R < 9218868437227405312) : agI (sg x.num) R x = cmpI (sz (sg x.num) (mv R * x.den)) (sz (sg x.num) (x.num.natAbs * P74)) := by
  unfold agI fRat
  rw [if_neg (by omega), cmpR_div (by have := P74_pos; omega), sz_mul_nat]
  congr 1
  rw [← sz_mul_nat, sz_self]
theorem agI_gt {x : Rat} {R : Nat} (h : R < 9218868437227405312) : 0 < agI (sg x.num) R x ↔ if sg x.num = true then mv R * x.den < x.num.natAbs * P74 else x.num.natAbs * P74 < mv R * x.den := by
  rw [agI_val h]
  generalize mv R * x.den = A
  generalize x.num.natAbs * P74 = B
  unfold cmpI sz
  cases sg x.num <;> simp <;> split <;> (try split) <;> omega
theorem agI_lt {x : Rat} {R : Nat} (h : R < 9218868437227405312) : agI (sg x.num) R x < 0 ↔ if sg x.num = true then x.num.natAbs * P74 < mv R * x.den else mv R * x.den < x.num.natAbs * P74 := by
  rw [agI_val h]
  generalize mv R * x.den = A
  generalize x.num.natAbs * P74 = B
  unfold cmpI sz
  cases sg x.num <;> simp <;> split <;> (try split) <;> omega
theorem agI_inf {N : Bool} {x : Rat} : agI N 9218868437227405312 x = if N then -1 else 1 := if_pos rfl
theorem word0_ne {N : Bool} {R : Nat} (h : R ≤ 9218868437227405312) (h0 : R ≠ 0) : (FloatKind.f64.format.order (Ieee.double.word N R) 0 == some .eq) = false := by
  rw [ord_word0 N h]; exact beq_eq_false_iff_ne.2 h0
end Go.Proofs.YtbhfnigblhfikaaGreat

/- RatioFloors: the reference's Floor, the number zero, and the law for any input. -/
namespace Go.Proofs.YtbhfnigblhfikaaGreat
open Go Go.RowKit Go.PlainAid Fil

theorem cmpR_self (x : Rat) : cmpR x x = 0 := by
  rw [← cmpR_eq]; unfold cmpI; simp
theorem fRat_zero : fRat false 0 = 0 := by
  unfold fRat
  rw [mv_zero, show sz false 0 = 0 from rfl, Rat.zero_divInt]
/-- a number's floor -/
def flR (x : Rat) : Rat := Rat.divInt (x.num / (x.den : Int)) 1
theorem flR_bts {K : Nat} {x : Rat} (hK : 1 ≤ K) (h : Bts K x) : Bts (K + 1) (flR x) := by
  have e := ediv_sz (sg x.num) (n := x.num.natAbs) x.den_nz
  rw [sz_self] at e
  unfold flR
  have h1 : (Rat.divInt (x.num / (x.den : Int)) 1).num = x.num / (x.den : Int) ∧ (Rat.divInt (x.num / (x.den : Int)) 1).den = 1 := divInt_one (x.num / (x.den : Int))
  refine ⟨?_, ?_⟩
  · rw [h1.1, e, sz_abs]
    have hq : Fil.dn 8 (x.num.natAbs / x.den) ≤ K := Nat.le_trans (dn_mono (by omega) (Nat.div_le_self _ _)) h.1
    refine add_dn hq ?_
    split
    · exact Nat.le_trans (by decide) hK
    · exact Nat.le_trans (by decide) hK
  · rw [h1.2]; exact Nat.le_trans (by decide) (Nat.le_succ_of_le hK)
end Go.Proofs.YtbhfnigblhfikaaGreat
