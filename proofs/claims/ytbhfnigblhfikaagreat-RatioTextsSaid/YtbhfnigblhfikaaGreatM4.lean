/- Merged: R9 M1 M2 M3 M4 -/
import Derived.Test.YtbhfnigblhfikaaGreatB8
import Derived.Test.YtbhfnigblhfikaaGreatB9
import Derived.Test.YtbhfnigblhfikaaGreatBJ
import Derived.Test.YtbhfnigblhfikaaGreatJD
import Derived.Test.YtbhfnigblhfikaaGreatJZ
import Derived.Test.YtbhfnigblhfikaaGreatJH
import Derived.Test.YtbhfnigblhfikaaGreatJP
import Derived.Test.YtbhfnigblhfikaaGreatJQ
import Derived.Test.YtbhfnigblhfikaaGreatJS
import Derived.Test.YtbhfnigblhfikaaGreatJM

/- Merged: R4 R5 R6 R7 R9 -/
/- Merged: R1 R2 R3 R4 -/
/- The reference of layer 2: digits, at (turned from the texts over layer 3's reference). -/
namespace Go.Proofs.YtbhfnigblhfikaaGreat
open Go Go.RowKit Go.PlainAid Fil

set_option maxHeartbeats 2000000 in
theorem r2digits_any (x : Nat) (w : World) (hx : Fil.dn 8 x ≤ 1048576) :
    Calls Tryz.prog 58 #[.string (bstr x)] w fun r w' => ∃ v, r = .returned v ∧ Own w' w.heap.size v (Fil.dn 8 x) (fun i => (dg 8 x i : Int)) ∧ Below w.heap.size w w' := by
  have hsz := bstr_size x
  obtain ⟨n, hn⟩ : ∃ n, n = Fil.dn 8 x := ⟨_, rfl⟩
  have hbt := fun j (h : j < n) => bstr_bt x (n - 1 - j) (by omega)
  have hgb := get_bt (bstr x)
  rw [← hn] at hsz hx ⊢
  obtain ⟨i0, hi, hp⟩ := Option.map_eq_some_iff.1 Tryz.info3
  have hz0 : i0.zero = some (.int .i64 0) := congrArg Prod.fst hp
  have hz1 : i0.size = 1 := congrArg (fun q => q.2.1) hp
  have hz2 : i0.bytes = 8 := congrArg (fun q => q.2.2) hp
  have HX := Lib.hid hbt
  clear hbt
  go_enter Tryz.func58, Tryz.ntmps58
  go_wp2
  go_loopg [3, 4] n (fun g v s4 wr => ∃ j : Nat, j ≤ n ∧ g = n - j ∧ s4 = .int .i64 ((n : Int) - 1 - j) ∧ Own wr w.heap.size v j (fun i => (dg 8 x i : Int)) ∧ Below w.heap.size w wr)
  case atStart => exact ⟨0, by omega, by omega, by go_num, Own.nil _ _ _, Below.refl _ _⟩
  case round =>
    obtain ⟨j, hj, hg, rfl, hown, hbel⟩ := hrel
    by_cases hjn : j < n
    · obtain ⟨k, hk⟩ : ∃ k, k = n - 1 - j := ⟨_, rfl⟩
      have hkc : (n : Int) - 1 - j = (k : Int) := by omega
      have hbk : bt (bstr x) k = (dg 8 x j : Int) := by rw [hk, HX.out j hjn, ← hn, show n - 1 - (n - 1 - j) = j by omega]
      have hd0 : 0 ≤ (dg 8 x j : Int) := by omega
      have hd1 : (dg 8 x j : Int) < 256 := by have := dg_lt 8 x j; omega
      have hks : k < (bstr x).size := by rw [hsz]; omega
      have hkn : (k : Int) < 1048576 := by omega
      rw [hkc]
      have Hk := Lib.hid (And.intro hk (And.intro hkc (And.intro hjn (And.intro hg hbel))))
      have hx' := Lib.hid hx
      have hbs := hbel.size
      clear hk hkc hjn hg hn hx hj
      go_wp2_with (at_builtin; refine wpList_append_own _ rfl _ _ 103 rfl w.heap.size 3 i0 (.int .i64 0) 1 8 Tryz.underlying103 hi hz0 hz1 hz2 rfl (by decide) _ _ _ rfl (hown.alloc _) ⟨wr.heap.size, 0, none⟩ 1 1 [.int .i64 (dg 8 x j)] rfl rfl ?c1 ?c2 ?c3 ?c4 ?c5 ?_)
      case c1 =>
        intro j u hj
        match j, hj with
        | 0, hj => simp at hj; subst hj; simp [Addr.add]
      case c2 => intro u hu; simp at hu; subst hu; rfl
      case c3 => have := Hk.out; have := hx'.out; unfold maxLen; omega
      case c4 => have := Hk.out; have := hx'.out; omega
      case c5 => simp; omega
      · intro v' w1 hown' hgrow _
        rw [range_grow] at hown'
        have hb1 := (hbel.alloc hbs (Obj.cells #[Value.int IntKind.i64 (dg 8 x j)] 3)).grown hgrow (by simp; omega) (fun k hk => (hown.lt k hk).1)
        clear hown hgrow hbel hbk hd0 hd1 hks hgb
        go_wp2
        go_roundg (n - (j + 1))
        case measure => have := Hk.out; omega
        case rel => exact ⟨j + 1, by have := Hk.out; omega, rfl, congrArg (Value.int IntKind.i64) (by have := Hk.out; omega), hown', hb1⟩
    · have he : j = n := by omega
      rw [show (n : Int) - 1 - j = -1 by omega]
      subst he
      clear hn hj hjn hg hx hsz
      go_wp2
      go_ret
      exact ⟨_, rfl, hown, hbel⟩

set_option maxHeartbeats 400000 in
theorem r2at_any (A : Option Addr) (n c x : Nat) (z : Int) (w : World) (hn : n = Fil.dn 8 x) (h0 : 0 ≤ z) (h8 : n ≤ 4398046511104) (h : Slc w 3 A n (i8 x)) :
    Calls Tryz.prog 98 #[.slice A n c, .int .i64 z] w fun e w' => e = .returned (.int .i64 (dg 8 x z.toNat)) ∧ w = w' := by
  obtain ⟨i, rfl⟩ := Int.eq_ofNat_of_zero_le h0
  rw [Int.toNat_natCast]
  have hx := lt_dn (k := 8) (by omega) x
  rw [← hn] at hx
  by_cases hin : i < n
  · obtain ⟨b, o, rfl, _, hc⟩ := h.cell (by omega)
    have k1 := hc i hin
    simp only [i8] at k1
    clear hc h hn hx
    go_enter Tryz.func98, Tryz.ntmps98
    go_wp2
    go_ret
    exact ⟨rfl, rfl⟩
  · have hz : Hid (dg 8 x i = 0) := Lib.hid (dg_zero_of (Nat.lt_of_lt_of_le hx (pmono (by omega))))
    clear h hn hx
    go_enter Tryz.func98, Tryz.ntmps98
    go_wp2
    go_ret
    exact ⟨by rw [hz.out]; rfl, rfl⟩


set_option maxHeartbeats 4000000 in
/-- made of digits that may end with noughts -/
theorem r2made_gen (A : Option Addr) (N c x : Nat) (w : World) (hx : x < 2 ^ (8 * N)) (h8 : N ≤ 1048576) (h : Slc w 3 A N (i8 x)) :
    Calls Tryz.prog 63 #[.slice A N c] w fun r w' => r = .returned (.string (bstr x)) ∧ Below w.heap.size w w' := by
  obtain ⟨n, hn⟩ : ∃ n, n = Fil.dn 8 x := ⟨_, rfl⟩
  have hnN : n ≤ N := by rw [hn]; exact dn_le (by omega) hx
  have hmk := run_make_row' (P := Tryz.prog) 96 5 (.int .u8 0) 1 Tryz.underlying96 Tryz.info5 rfl .i64 .i64 n (by omega) (by omega)
  have hlast : 0 < n → dg 8 x (n - 1) ≠ 0 := fun hp => by
    have hx : x ≠ 0 := by rintro rfl; rw [dn_zero] at hn; omega
    have := dg_top (k := 8) (by omega) hx
    rwa [← hn] at this
  have hzero : ∀ j, n ≤ j → dg 8 x j = 0 := fun j hj => dg_zero_of (Nat.lt_of_lt_of_le (lt_dn (k := 8) (by omega) x) (pmono (by rw [← hn]; omega)))
  have Hn := Lib.hid (And.intro hn (And.intro hlast hzero))
  have HS := Lib.hid h
  clear hn hlast hzero h hx
  go_enter Tryz.func63, Tryz.ntmps63
  go_wp2_with fail
  go_loopg [3] N (fun g s3 wr => w = wr ∧ n ≤ g ∧ g ≤ N ∧ s3 = .int .i64 g)
  case atStart => exact ⟨rfl, hnN, Nat.le_refl _, rfl⟩
  case round =>
    obtain ⟨rfl, hg1, hg2, rfl⟩ := hrel
    by_cases hgn : n < gk
    · obtain ⟨b, o, rfl, hlt, hc⟩ := HS.out.cell (by omega)
      have hc9 := hc (gk - 1) (by omega)
      rw [i8, Hn.out.2.2 (gk - 1) (by omega)] at hc9
      obtain ⟨m, hm⟩ : ∃ m, m = gk - 1 := ⟨_, rfl⟩
      have hmi : (gk : Int) - 1 = (m : Int) := by omega
      have hm0 : 0 ≤ (m : Int) := by omega
      have hmN : (m : Int) < (N : Int) := by omega
      have hd0 : decide (0 < gk) = true := decide_eq_true (by omega)
      have hd1 : decide (0 < (gk : Int)) = true := decide_eq_true (by omega)
      rw [← hm] at hc9
      have HM := Lib.hid hm
      clear hc hm
      go_wp2_with fail
      go_roundg (gk - 1)
      case measure => omega
      case rel => exact ⟨rfl, by omega, by omega, congrArg (Value.int IntKind.i64) (by have := HM.out; omega)⟩
    · obtain rfl : n = gk := by omega
      by_cases hp : 0 < n
      · obtain ⟨b, o, rfl, hlt, hc⟩ := HS.out.cell (by omega)
        have hc9 := hc (n - 1) (by omega)
        have hl : ((dg 8 x (n - 1) : Int) == 0) = false := by rw [beq_eq_false_iff_ne]; have := Hn.out.2.1 hp; omega
        obtain ⟨m, hm⟩ : ∃ m, m = n - 1 := ⟨_, rfl⟩
        have hmi : (n : Int) - 1 = (m : Int) := by omega
        have hmn : m < n := by omega
        have hm0 : 0 ≤ (m : Int) := by omega
        have hmN : (m : Int) < (N : Int) := by omega
        have hd0 : decide (0 < n) = true := decide_eq_true hp
        have hd1 : decide (0 < (n : Int)) = true := decide_eq_true (by omega)
        rw [← hm] at hl hc9
        unfold i8 at hc9
        clear hc hm
        go_wp2_with fail
        clear hmk
        go_loopg [5] n (fun g s5 wr => ∃ i : Nat, i ≤ n ∧ g = n - i ∧ s5 = .int .i64 i ∧ wr.rowIs w.heap.size 5 n (fun j => if n - i ≤ j then b8 x (n - 1 - j) else .int .u8 0) ∧ Below w.heap.size w wr)
        case atStart => exact ⟨0, by omega, by omega, rfl, (World.rowIs_made w _ n 5).congr (fun j hj => by simp; omega), (Below.refl _ _).alloc (Nat.le_refl _) _⟩
        case round =>
          obtain ⟨i, hi, hg, rfl, hrow, hbel⟩ := hrel
          have Hg := Lib.hid hg
          clear hg
          clear hc9 hl
          by_cases hin : i < n
          · obtain ⟨b1, o1, hA, _, hc1⟩ := (HS.out.below hbel).cell (by omega)
            injection hA with hA
            injection hA with hA1 hA2 _
            subst hA1 hA2
            have k1 := hc1 i (by omega)
            simp only [i8] at k1
            obtain ⟨k, hk⟩ : ∃ k, k = n - 1 - i := ⟨_, rfl⟩
            have ek : (n : Int) - 1 - (i : Int) = (k : Int) := by omega
            have ek2 : (m : Int) - (i : Int) = (k : Int) := by omega
            have hkm : k < n := by omega
            have Hk : Hid (k = n - 1 - i) := Lib.hid hk
            have k2 := hrow.cell (i := k) (by omega)
            have k3 := hrow.frozen k
            have hdx := dg_lt 8 x i
            have q0 : 0 ≤ (i : Int) := by omega
            have q1 : (i : Int) < (N : Int) := by omega
            have q2 : 0 ≤ (k : Int) := by omega
            have q3 : (k : Int) < (n : Int) := by omega
            clear hc1 hk
            go_wp2
            go_roundg (n - (i + 1))
            case measure => have := Hg.out; omega
            case rel => exact ⟨i + 1, by omega, rfl, by go_num, (hrow.set k _).congr (fun j hj => by_row8 Hk.out hin hj (by rw [b8])), hbel.setCell (Nat.le_refl _) _⟩
          · obtain rfl : i = n := by omega
            have hrow' := hrow.congr (g := fun j => b8 x (i - 1 - j)) (fun j hj => by rw [if_pos (by omega)])
            rw [Hn.out.1] at hrow'
            have hrb := run_backS wr w.heap.size x hrow'
            rw [← Hn.out.1] at hrb
            clear hrow hrow'
            go_wp2
            go_ret
            exact ⟨rfl, hbel⟩
      · have hd0 : decide (0 < n) = false := decide_eq_false hp
        have hd1 : decide (0 < (n : Int)) = false := decide_eq_false (by omega)
        go_wp2_with fail
        clear hmk
        go_loopg [5] n (fun g s5 wr => ∃ i : Nat, i ≤ n ∧ g = n - i ∧ s5 = .int .i64 i ∧ wr.rowIs w.heap.size 5 n (fun j => if n - i ≤ j then b8 x (n - 1 - j) else .int .u8 0) ∧ Below w.heap.size w wr)
        case atStart => exact ⟨0, by omega, by omega, rfl, (World.rowIs_made w _ n 5).congr (fun j hj => by simp; omega), (Below.refl _ _).alloc (Nat.le_refl _) _⟩
        case round =>
          obtain ⟨i, hi, hg, rfl, hrow, hbel⟩ := hrel
          have Hg := Lib.hid hg
          clear hg
          obtain rfl : i = n := by omega
          have hrow' := hrow.congr (g := fun j => b8 x (i - 1 - j)) (fun j hj => by rw [if_pos (by omega)])
          rw [Hn.out.1] at hrow'
          have hrb := run_backS wr w.heap.size x hrow'
          rw [← Hn.out.1] at hrb
          clear hrow hrow'
          go_wp2
          go_ret
          exact ⟨rfl, hbel⟩
end Go.Proofs.YtbhfnigblhfikaaGreat

/- Plain laws for the reference of layer 2: quotients digit by digit (base 256), texts cut at the end. -/
namespace Go.Proofs.YtbhfnigblhfikaaGreat
open Go Go.RowKit Go.PlainAid Fil

/-- what is left of x's upper digits from digit k on, divided by b -/
def s8 (x b k : Nat) : Nat := x / 2 ^ (8 * k) % b
theorem s8_top {x b n : Nat} (h : x < 2 ^ (8 * n)) : s8 x b n = 0 := by unfold s8; rw [Nat.div_eq_of_lt h, Nat.zero_mod]
theorem s8_zero (x b : Nat) : s8 x b 0 = x % b := by simp [s8]
theorem s8_lt {b : Nat} (x k : Nat) (hb : 0 < b) : s8 x b k < b := Nat.mod_lt _ hb
theorem s8_step (x b k : Nat) : (s8 x b (k + 1) * 256 + dg 8 x k) % b = s8 x b k := by
  unfold s8
  have := div_step 8 x k
  rw [this, Nat.add_mod, Nat.mul_mod, Nat.mod_mod, ← Nat.mul_mod, ← Nat.add_mod]
theorem s8_dg {b : Nat} (x k : Nat) (hb : 0 < b) : (s8 x b (k + 1) * 256 + dg 8 x k) / b = dg 8 (x / b) k := by
  have h1 := div_step 8 x k
  have hd := dg_lt 8 x k
  have e1 : dg 8 (x / b) k = x / 2 ^ (8 * k) / b % 256 := by
    unfold dg
    rw [Nat.div_div_eq_div_mul, Nat.div_div_eq_div_mul, Nat.mul_comm]
  rw [e1, h1]
  unfold s8
  generalize x / 2 ^ (8 * (k + 1)) = X at *
  generalize dg 8 x k = d at *
  have h2 := Nat.div_add_mod X b
  have h3 := Nat.mod_lt X hb
  generalize X % b = r at *
  generalize X / b = Q at *
  have e2 : X * 2 ^ 8 + d = b * (Q * 256) + (r * 256 + d) := by
    rw [← h2, Nat.add_mul, Nat.mul_assoc, Nat.add_assoc]
  have h4 : (r * 256 + d) / b < 256 := by
    refine (Nat.div_lt_iff_lt_mul hb).2 ?_
    have : r * 256 + 256 ≤ b * 256 := by rw [← Nat.succ_mul]; exact Nat.mul_le_mul_right 256 h3
    rw [Nat.mul_comm 256 b]
    omega
  rw [e2, Nat.mul_add_div hb]
  clear e1 e2 h1 h2
  generalize (r * 256 + d) / b = q at *
  omega
/-- the row of a quotient: told down to digit k -/
def quo8 (x b k j : Nat) : Value := if k ≤ j then i8 (x / b) j else .int .i64 0
theorem quo8_step {x b k j : Nat} {v : Value} (hv : v = i8 (x / b) k) : (if j = k then v else quo8 x b (k + 1) j) = quo8 x b k j := by
  unfold quo8
  by_cases e : j = k
  · subst e; rw [if_pos rfl, if_pos (Nat.le_refl _), hv]
  · rw [if_neg e]
    by_cases h : k + 1 ≤ j
    · rw [if_pos h, if_pos (by omega)]
    · rw [if_neg h, if_neg (by omega)]
/-- ahead of the first digit of a quotient all are 0 -/
theorem quo8_start {x b k j : Nat} (h : x / 2 ^ (8 * k) < b) : quo8 x b k j = .int .i64 0 := by
  unfold quo8
  by_cases hj : k ≤ j
  · rw [if_pos hj]
    have : x / b < 2 ^ (8 * k) := by
      have hb : 0 < b := Nat.lt_of_le_of_lt (Nat.zero_le _) h
      rw [Nat.div_lt_iff_lt_mul hb, Nat.mul_comm]
      exact (Nat.div_lt_iff_lt_mul (pp _)).1 h
    have : dg 8 (x / b) j = 0 := dg_zero_of (Nat.lt_of_lt_of_le this (pmono (by omega)))
    rw [i8, this]; rfl
  · rw [if_neg hj]
/-- dg of the upper part -/
theorem dg_up (x k i : Nat) : dg 8 (x / 2 ^ (8 * k)) i = dg 8 x (k + i) := dg_div 8 x k i
theorem dn_up {x k : Nat} (h : k ≤ Fil.dn 8 x) : Fil.dn 8 (x / 2 ^ (8 * k)) = Fil.dn 8 x - k := by
  by_cases hx : x = 0
  · subst hx; rw [Nat.zero_div, dn_zero]; omega
  · by_cases hk : k = Fil.dn 8 x
    · rw [hk, Nat.div_eq_of_lt (lt_dn (by omega) x), dn_zero]; omega
    · have h1 := le_dn (k := 8) x hx
      have hlt := lt_dn (k := 8) (by omega) x
      have hn := dn_pos (k := 8) hx
      apply Nat.le_antisymm
      · exact dn_le (by omega) (shr_bound hlt h)
      · have h2 : 2 ^ (8 * (Fil.dn 8 x - k - 1)) ≤ x / 2 ^ (8 * k) := by
          rw [Nat.le_div_iff_mul_le (pp _), ← Nat.pow_add]
          exact Nat.le_trans (pmono (by omega)) h1
        have := dn_ge (k := 8) (by omega) h2
        omega
/-- the first bytes of a number's text -/
theorem bstr_take (x k : Nat) (h : k ≤ Fil.dn 8 x) : (bstr x).extract 0 (Fil.dn 8 x - k) = bstr (x / 2 ^ (8 * k)) := by
  have hs := bstr_size x
  have ht := bstr_size (x / 2 ^ (8 * k))
  rw [dn_up h] at ht
  apply ByteArray.ext_getElem
  · rw [ByteArray.size_extract, hs, ht]; omega
  · intro i h1 h2
    rw [ByteArray.getElem_extract]
    have e1 := bstr_bt x i (by omega)
    have e2 := bstr_bt (x / 2 ^ (8 * k)) i (by rw [dn_up h]; omega)
    rw [dn_up h, dg_up, show k + (Fil.dn 8 x - k - 1 - i) = Fil.dn 8 x - 1 - i by omega, ← e1] at e2
    have f1 : bt (bstr x) i = (((bstr x)[i]'(by omega)).toNat : Int) := bt_get (by omega)
    have f2 : bt (bstr (x / 2 ^ (8 * k))) i = (((bstr (x / 2 ^ (8 * k)))[i]'(by omega)).toNat : Int) := bt_get (by omega)
    rw [f1, f2] at e2
    have e3 : ((bstr x)[i]'(by omega)).toNat = ((bstr (x / 2 ^ (8 * k)))[i]'(by omega)).toNat := by omega
    simp only [Nat.zero_add]
    exact UInt8.toNat_inj.1 e3
end Go.Proofs.YtbhfnigblhfikaaGreat

/- The reference of layer 2: plus, Cmp, Sub. -/
namespace Go.Proofs.YtbhfnigblhfikaaGreat
open Go Go.RowKit Go.PlainAid Fil

theorem carry_out {x y i : Nat} (hx : x < 2 ^ (8 * i)) (hy : y < 2 ^ (8 * i)) (h : carry 8 x y i = 0) : x + y < 2 ^ (8 * i) := by
  rw [carry_top hx hy] at h
  exact (Nat.div_eq_zero_iff_lt (pp _)).1 h

set_option maxRecDepth 100000 in
set_option maxHeartbeats 4000000 in
theorem r2plus_any (x y : Nat) (w : World) (hx8 : Fil.dn 8 x ≤ 1048570) (hy8 : Fil.dn 8 y ≤ 1048570) :
    Calls Tryz.prog 85 #[.string (bstr x), .string (bstr y)] w fun r w' => r = .returned (.string (bstr (x + y))) ∧ Below w.heap.size w w' := by
  have hd1 := fun W => r2digits_any x W (by omega)
  have hd2 := fun W => r2digits_any y W (by omega)
  have hx := lt_dn (k := 8) (by omega) x
  have hy := lt_dn (k := 8) (by omega) y
  obtain ⟨n, hn⟩ : ∃ n, n = Fil.dn 8 x := ⟨_, rfl⟩
  obtain ⟨m, hm⟩ : ∃ m, m = Fil.dn 8 y := ⟨_, rfl⟩
  simp only [← hn] at hx hd1 hx8
  simp only [← hm] at hy hd2 hy8
  have Hn := Lib.hid hn
  have Hm := Lib.hid hm
  obtain ⟨i0, hi, hp⟩ := Option.map_eq_some_iff.1 Tryz.info3
  have hz0 : i0.zero = some (.int .i64 0) := congrArg Prod.fst hp
  have hz1 : i0.size = 1 := congrArg (fun q => q.2.1) hp
  have hz2 : i0.bytes = 8 := congrArg (fun q => q.2.2) hp
  obtain ⟨M, hM⟩ : ∃ M, M = max n m := ⟨_, rfl⟩
  have hnM : n ≤ M := by omega
  have hmM : m ≤ M := by omega
  have hM8 : M ≤ 1048570 := by omega
  have HM := Lib.hid hM
  have HX := Lib.hid (And.intro hx hy)
  have hx1 : x < 2 ^ (8 * M) := Nat.lt_of_lt_of_le hx (pmono (by omega))
  have hy1 : y < 2 ^ (8 * M) := Nat.lt_of_lt_of_le hy (pmono (by omega))
  have HL := Lib.hid (add_lt_succ (k := 8) (by omega) hx1 hy1)
  have HC : Hid (carry 8 x y (M + 1) = 0) := Lib.hid (by
    rw [carry_top (Nat.lt_of_lt_of_le hx1 (pmono (by omega))) (Nat.lt_of_lt_of_le hy1 (pmono (by omega)))]
    exact Nat.div_eq_of_lt HL.out)
  clear hn hm hp hM hx hy hx1 hy1
  go_enter Tryz.func85, Tryz.ntmps85
  go_wp2_with fail
  refine (hd1 _).mono ?_
  rintro r w1 ⟨v1, rfl, ho1, hb1⟩
  obtain ⟨A, c, rfl, hnc, ha⟩ := Own.slc ho1
  go_wp2_with fail
  refine (hd2 _).mono ?_
  rintro r w2 ⟨v2, rfl, ho2, hb2⟩
  obtain ⟨B, d, rfl, hmd, hb⟩ := Own.slc ho2
  replace ha : Slc w2 3 A n (i8 x) := ha.below hb2
  replace hb : Slc w2 3 B m (i8 y) := hb
  have HB0 := Lib.hid (hb1.trans (hb2.mono hb1.size))
  clear ho1 ho2 hb1 hb2 hd1 hd2
  go_wp2
  go_loopg [7, 8, 9] (M + 1) (fun g s7 s8 s9 wr => ∃ i : Nat, i ≤ M + 1 ∧ g = M + 1 - i ∧ s8 = .int .i64 (carry 8 x y i) ∧ s9 = .int .i64 i ∧ Own wr w2.heap.size s7 i (fun j => (dg 8 (x + y) j : Int)) ∧ Below w2.heap.size w2 wr)
  case atStart => exact ⟨0, by omega, by omega, by rw [carry_zero]; rfl, rfl, Own.nil _ _ _, Below.refl _ _⟩
  case round =>
    obtain ⟨i, hiM, hg, rfl, rfl, hown, hbel⟩ := hrel
    have hs1 := ha.below hbel
    have hs2 := hb.below hbel
    have hra := fun W => r2at_any A n c x (i : Int) W Hn.out (by omega) (by omega)
    have hrb := fun W => r2at_any B m d y (i : Int) W Hm.out (by omega) (by omega)
    rw [Int.toNat_natCast] at hra hrb
    have hcl := carry_le 8 x y i
    have h1 := carry_dg 8 x y i
    have h2 := carry_succ 8 x y i
    have hd0 := dg_lt 8 x i
    have hd1 := dg_lt 8 y i
    have hb2 := hbel.size
    have hout := fun (h1 : n ≤ i) (h2 : m ≤ i) => carry_out (i := i) (Nat.lt_of_lt_of_le HX.out.1 (pmono (by omega))) (Nat.lt_of_lt_of_le HX.out.2 (pmono (by omega)))
    have hend : i = M + 1 → carry 8 x y i = 0 := fun e => by rw [e]; exact HC.out
    have HG := Lib.hid (And.intro hg hbel)
    have HA := Lib.hid (And.intro hra hrb)
    have HB := Lib.hid (And.intro h1 h2)
    obtain ⟨ca, hca⟩ : ∃ ca, ca = carry 8 x y i := ⟨_, rfl⟩
    rw [← hca] at hcl HB hout hend ⊢
    have HO := Lib.hid hout
    have hcs : i < n ∨ (n ≤ i ∧ i < m) ∨ (n ≤ i ∧ m ≤ i ∧ 0 < ca ∧ i < M + 1) ∨ (n ≤ i ∧ m ≤ i ∧ ca = 0) := by
      rcases Nat.lt_or_ge i n with h | h
      · exact .inl h
      · rcases Nat.lt_or_ge i m with h' | h'
        · exact .inr (.inl ⟨h, h'⟩)
        · rcases Nat.eq_zero_or_pos ca with h3 | h3
          · exact .inr (.inr (.inr ⟨h, h', h3⟩))
          · refine .inr (.inr (.inl ⟨h, h', h3, ?_⟩))
            rcases Nat.lt_or_ge i (M + 1) with h4 | h4
            · exact h4
            · have := hend (by omega); omega
    clear hg hbel hra hrb h1 h2 hca hout hend
    rcases hcs with hin | ⟨hin, him⟩ | ⟨hin, him, hc0, hiM1⟩ | ⟨hin, him, hc0⟩
    case inr.inr.inr =>
      subst hc0
      have HE := Lib.hid (HO.out hin him rfl)
      clear HO HA HB hs1 hs2 hd0 hd1
      obtain ⟨A', c', rfl, hnc', hs'⟩ := Own.slc hown
      replace hs' : Slc wr 3 A' i (i8 (x + y)) := hs'
      have hmk := fun W h => r2made_gen A' i c' (x + y) W HE.out (by omega) h
      have HMK := Lib.hid hmk
      clear hown hmk
      go_wp2_with fail
      refine (HMK.out _ hs').mono ?_
      rintro r w3 ⟨rfl, hb3⟩
      go_wp2
      go_ret
      exact ⟨rfl, HB0.out.trans ((HG.out.2.trans (hb3.mono hb2)).mono HB0.out.size)⟩
    all_goals
      have hiM2 : i < M + 1 := by omega
      clear HO
      go_wp2_with fail
      refine (HA.out.1 _ (by exact hs1)).mono ?_
      rintro r w1 ⟨rfl, rfl⟩
      go_wp2_with fail
      refine (HA.out.2 _ (by exact hs2)).mono ?_
      rintro r w1 ⟨rfl, rfl⟩
      generalize dg 8 x i = d0 at *
      generalize dg 8 y i = d1 at *
      clear hs1 hs2 HA
      go_wp2_with (at_builtin; refine wpList_append_own _ rfl _ _ 103 rfl w2.heap.size 3 i0 (.int .i64 0) 1 8 Tryz.underlying103 hi hz0 hz1 hz2 rfl (by decide) _ _ _ rfl (by exact hown.alloc _) ⟨wr.heap.size, 0, none⟩ 1 1 [.int .i64 (((ca : Int) + d0 + d1) % 256)] rfl rfl ?c1 ?c2 ?c3 ?c4 ?c5 ?_)
      case c1 =>
        intro j u hj
        match j, hj with
        | 0, hj => simp at hj; subst hj; simp [Addr.add]
      case c2 => intro u hu; simp at hu; subst hu; rfl
      case c3 => unfold maxLen; omega
      case c4 => omega
      case c5 => simp; omega
      · intro v' w1 hown' hgrow _
        rw [own_grow (g := fun i => (dg 8 (x + y) i : Int)) (fun _ _ => rfl) (by have := HB.out.1; omega)] at hown'
        have hb1 := (HG.out.2.alloc hb2 (Obj.cells #[Value.int IntKind.i64 (((ca : Int) + d0 + d1) % 256)] 3)).grown hgrow (by simp; omega) (fun k hk => (hown.lt k hk).1)
        clear hown hgrow
        go_wp2
        go_roundg (M + 1 - (i + 1))
        case measure => have := HG.out.1; omega
        case rel => exact ⟨i + 1, by omega, rfl, by rw [← HB.out.2]; go_num, by go_num, hown', hb1⟩
set_option maxRecDepth 100000 in
set_option maxHeartbeats 2000000 in
theorem r2Cmp_any (x y : Nat) (w : World) (hx8 : Fil.dn 8 x ≤ 1048576) (hy8 : Fil.dn 8 y ≤ 1048576) :
    Calls Tryz.prog 87 #[.string (bstr x), .string (bstr y)] w fun e w' => e = .returned (.int .i64 (cmpZ x y)) ∧ ∃ k, w' = w.drewN k := by
  have hsx := bstr_size x
  have hsy := bstr_size y
  have hbx := fun k h => bstr_bt x k h
  have hby := fun k h => bstr_bt y k h
  have hgx := get_bt (bstr x)
  have hgy := get_bt (bstr y)
  obtain ⟨n, hn⟩ : ∃ n, n = Fil.dn 8 x := ⟨_, rfl⟩
  obtain ⟨m, hm⟩ : ∃ m, m = Fil.dn 8 y := ⟨_, rfl⟩
  simp only [← hn] at hsx hbx hx8
  simp only [← hm] at hsy hby hy8
  have Hn := Lib.hid hn
  have Hm := Lib.hid hm
  have HX := Lib.hid (And.intro hbx hby)
  clear hn hm hbx hby
  by_cases hnm : n = m
  · subst hnm
    go_enter Tryz.func87, Tryz.ntmps87
    go_wp2
    go_loopg [5] n (fun g s5 wr => ∃ k i : Nat, wr = w.drewN k ∧ i ≤ n ∧ g = n - i ∧ s5 = .int .i64 (i : Int) ∧ x / 2 ^ (8 * g) = y / 2 ^ (8 * g))
    case atStart => exact ⟨0, 0, rfl, by omega, by omega, rfl, by rw [Nat.div_eq_of_lt (by rw [Hn.out]; exact lt_dn (by omega) x), Nat.div_eq_of_lt (by rw [Hm.out]; exact lt_dn (by omega) y)]⟩
    case round =>
      obtain ⟨k, i, rfl, hi, hg, rfl, he⟩ := hrel
      have Hg := Lib.hid hg
      have He := Lib.hid he
      clear he
      by_cases hin : i < n
      · obtain ⟨g, hg2⟩ : ∃ g, g = n - 1 - i := ⟨_, rfl⟩
        have e1 := HX.out.1 i hin
        have e2 := HX.out.2 i hin
        rw [← hg2] at e1 e2
        have hgk : gk = g + 1 := by omega
        have e3 : (0 : Int) ≤ i := by omega
        have e4 : (i : Int) < n := by omega
        have e5 : i < (bstr x).size := by omega
        have e6 : i < (bstr y).size := by omega
        have h0 := dg_lt 8 x g
        have h1 := dg_lt 8 y g
        have Hgk := Lib.hid (And.intro hg2 hgk)
        rcases Nat.lt_trichotomy (dg 8 x g) (dg 8 y g) with hlt | heq | hgt
        · have hz := Lib.hid (cmpZ_lt (cmp_digit (by rw [← hgk]; exact He.out) hlt))
          clear hg hg2 hgk
          generalize dg 8 x g = d0 at *
          generalize dg 8 y g = d1 at *
          have t1 : decide (d0 < d1) = true := decide_eq_true hlt
          have t2 : decide ((d0 : Int) < (d1 : Int)) = true := decide_eq_true (by omega)
          clear hlt
          go_wp2
          go_quiet (fail)
          go_wp2
          go_ret
          exact ⟨by rw [hz.out]; rfl, _, by rw [World.drewN_drewN]⟩
        · have hz := Lib.hid (cmp_next (by rw [← hgk]; exact He.out) heq)
          clear hg hg2 hgk
          rw [heq] at e1
          generalize dg 8 y g = d1 at *
          have t1 : decide (d1 < d1) = false := decide_eq_false (by omega)
          have t2 : decide ((d1 : Int) < (d1 : Int)) = false := decide_eq_false (by omega)
          clear heq
          go_wp2
          go_quiet (fail)
          go_wp2
          go_quiet (fail)
          go_wp2
          go_roundg g
          case measure => have := Hgk.out; omega
          case rel => exact ⟨_, i + 1, rfl, by omega, by have := Hgk.out; omega, by go_num, hz.out⟩
        · have hz := Lib.hid (cmpZ_gt (cmp_digit (by rw [← hgk]; exact He.out.symm) hgt))
          clear hg hg2 hgk
          generalize dg 8 x g = d0 at *
          generalize dg 8 y g = d1 at *
          have t1 : decide (d0 < d1) = false := decide_eq_false (by omega)
          have t2 : decide ((d0 : Int) < (d1 : Int)) = false := decide_eq_false (by omega)
          have t3 : decide (d1 < d0) = true := decide_eq_true hgt
          have t4 : decide ((d1 : Int) < (d0 : Int)) = true := decide_eq_true (by omega)
          clear hgt
          go_wp2
          go_quiet (fail)
          go_wp2
          go_quiet (fail)
          go_wp2
          go_ret
          exact ⟨by rw [hz.out]; rfl, _, by rw [World.drewN_drewN, World.drewN_drewN]⟩
      · obtain rfl : i = n := by omega
        have hg0 : gk = 0 := by omega
        have hxy : x = y := by have := He.out; rw [hg0] at this; simpa using this
        subst hxy
        have hz := Lib.hid (cmpZ_eq x)
        clear hg hg0
        go_wp2
        go_ret
        exact ⟨by rw [hz.out]; rfl, k, rfl⟩
  · by_cases hlt : n < m
    · have hz := Lib.hid (cmpZ_lt (cmp_len (k := 8) (x := x) (y := y) (by omega) (by rw [← Hn.out, ← Hm.out]; exact hlt)))
      have t1 : ((n : Int) != (m : Int)) = true := by rw [bne_iff_ne]; omega
      go_enter Tryz.func87, Tryz.ntmps87
      go_wp2
      go_ret
      exact ⟨by rw [hz.out]; rfl, 0, rfl⟩
    · have hz := Lib.hid (cmpZ_gt (cmp_len (k := 8) (x := y) (y := x) (by omega) (by rw [← Hn.out, ← Hm.out]; omega)))
      have t1 : ((n : Int) != (m : Int)) = true := by rw [bne_iff_ne]; omega
      go_enter Tryz.func87, Tryz.ntmps87
      go_wp2
      go_ret
      exact ⟨by rw [hz.out]; rfl, 0, rfl⟩
end Go.Proofs.YtbhfnigblhfikaaGreat

/- The reference of layer 2: times, Sub (printed by gen_r4.py out of B9's walks). -/
namespace Go.Proofs.YtbhfnigblhfikaaGreat
open Go Go.RowKit Go.PlainAid Fil

theorem r2at_quiet (A : Option Addr) (n c x : Nat) (z : Int) (w : World) (hn : n = Fil.dn 8 x) (h0 : 0 ≤ z) (h8 : n ≤ 4398046511104) (h : Slc w 3 A n (i8 x)) :
    Calls Tryz.prog 98 #[.slice A n c, .int .i64 z] w fun e w' => e = .returned (.int .i64 (dg 8 x z.toNat)) ∧ ∃ k, w' = w.drewN k :=
  (r2at_any A n c x z w hn h0 h8 h).mono fun _ _ ⟨he, hw⟩ => ⟨he, 0, hw.symm⟩

set_option maxHeartbeats 8000000 in
set_option maxRecDepth 100000 in
theorem r2times_any (x y : Nat) (w : World) (hx8 : Fil.dn 8 x ≤ 500000) (hy8 : Fil.dn 8 y ≤ 500000) :
    Calls Tryz.prog 86 #[.string (bstr x), .string (bstr y)] w fun r w' => r = .returned (.string (bstr (x * y))) ∧ Below w.heap.size w w' := by
  have hd1 := fun W => r2digits_any x W (by omega)
  have hd2 := fun W => r2digits_any y W (by omega)
  obtain ⟨n, hn⟩ : ∃ n, n = Fil.dn 8 x := ⟨_, rfl⟩
  obtain ⟨m, hm⟩ : ∃ m, m = Fil.dn 8 y := ⟨_, rfl⟩
  simp only [← hn] at hd1 hx8
  simp only [← hm] at hd2 hy8
  have hx := lt_dn (k := 8) (by omega) x
  have hy := lt_dn (k := 8) (by omega) y
  rw [← hn] at hx
  rw [← hm] at hy
  have Hx := Lib.hid hx
  have Hy := Lib.hid hy
  have Hn := Lib.hid hn
  have Hm := Lib.hid hm
  clear hn hm hx hy
  have hmk := run_make_row' (P := Tryz.prog) 103 3 (.int .i64 0) 8 Tryz.underlying103 Tryz.info3 rfl .i64 .i64 (n + m + 1) (by omega) (by omega)
  have ec : ((n + m + 1 : Nat) : Int) = (n : Int) + m + 1 := by omega
  rw [ec] at hmk
  clear ec
  have hB00 := Below.refl w.heap.size w
  go_enter Tryz.func86, Tryz.ntmps86
  go_wp2_with fail
  refine (hd1 _).mono ?_
  rintro r w1 ⟨v1, rfl, ho1, hb1⟩
  obtain ⟨A, c, rfl, hnc, ha⟩ := Own.slc ho1
  go_wp2_with fail
  refine (hd2 _).mono ?_
  rintro r w2 ⟨v2, rfl, ho2, hb2⟩
  obtain ⟨B, d, rfl, hmd, hb⟩ := Own.slc ho2
  replace ha : Slc w2 3 A n (i8 x) := ha.below hb2
  replace hb : Slc w2 3 B m (i8 y) := hb
  have HB0 := Lib.hid (hB00.trans ((hb1.trans (hb2.mono hb1.size)).mono hB00.size))
  clear ho1 ho2 hb1 hb2 hd1 hd2 hB00
  go_wp2
  clear hmk
  go_loopg [8] n (fun g sI wr => ∃ i : Nat, i ≤ n ∧ g = n - i ∧ sI = .int .i64 i ∧ wr.rowIs w2.heap.size 3 (n + m + 1) (i8 (x % 2 ^ (8 * i) * y)) ∧ Below w2.heap.size w2 wr)
  case atStart => exact ⟨0, by omega, by omega, rfl, (World.rowIs_made w2 _ (n + m + 1) 3).congr (fun j _ => by simp only [Nat.mul_zero, Nat.pow_zero, Nat.mod_one, Nat.zero_mul, i8_zero]), (Below.refl _ _).alloc (Nat.le_refl _) _⟩
  case round =>
    obtain ⟨i, hi, hg, rfl, hrow, hbel⟩ := hrel
    have Hg := Lib.hid hg
    clear hg
    by_cases hin : i < n
    · have hdx := dg_lt 8 x i
      go_wp2
      obtain ⟨wo, rfl⟩ : ∃ wo : World, wo = wr := ⟨_, rfl⟩
      go_loopg [9, 10] (m + 1) (fun g sM sK wr => ∃ k : Nat, k ≤ m + 1 ∧ g = m + 1 - k ∧ sM = .int .i64 (mcar 8 (x % 2 ^ (8 * i) * y) (dg 8 x i) y i k) ∧ sK = .int .i64 k ∧ wr.rowIs w2.heap.size 3 (n + m + 1) (mrow8 (x % 2 ^ (8 * i) * y) (mac 8 (x % 2 ^ (8 * i) * y) (dg 8 x i) y i k) (i + k)) ∧ Below w2.heap.size w2 wr)
      case atStart => exact ⟨0, by omega, by omega, by rw [mcar_zero]; rfl, rfl, hrow.congr (fun j _ => by
        unfold mrow8; rw [mac_zero]
        by_cases h : j < i + 0
        · rw [if_pos h, i8, i8, dg_mod (by omega)]
        · rw [if_neg h]), hbel⟩
      case round =>
        clear hrow hbel
        obtain ⟨k, hk, hg2, rfl, rfl, hrow, hbel⟩ := hrel
        have Hg2 := Lib.hid hg2
        clear hg2
        have hcar : mcar 8 (x % 2 ^ (8 * i) * y) (dg 8 x i) y i k < 256 := mcar_lt 8 _ _ y i (dg_lt 8 x i) k
        by_cases hkm : k < m
        · have hcar0 := hcar
          obtain ⟨b1, o1, rfl, _, hc1⟩ := (ha.below hbel).cell (by omega)
          have k1 := hc1 i hin
          simp only [i8] at k1
          have k3 := hrow.cell (i := i + k) (by omega)
          have k4 := hrow.frozen (i + k)
          unfold mrow8 at k3
          rw [if_neg (by omega), i8] at k3
          have hs2 := hb.below hbel
          have hrb := fun W => r2at_quiet B m d y (k : Int) W Hm.out (by omega) (by omega)
          simp only [Int.toNat_natCast] at hrb
          have HA := Lib.hid hrb
          have h1 := mcar_dg 8 (x % 2 ^ (8 * i) * y) (dg 8 x i) y i k
          have h2 := mcar_succ 8 (x % 2 ^ (8 * i) * y) (dg 8 x i) y i k
          have HB := Lib.hid (And.intro h1 h2)
          have hdv := dg_lt 8 (x % 2 ^ (8 * i) * y) (i + k)
          have hdy := dg_lt 8 y k
          have HR := Lib.hid (And.intro hrow hbel)
          have hb2 := hbel.size
          clear hc1 hrb h1 h2 hrow hbel
          obtain ⟨ca, hca⟩ : ∃ ca, ca = mcar 8 (x % 2 ^ (8 * i) * y) (dg 8 x i) y i k := ⟨_, rfl⟩
          rw [← hca] at hcar hcar0 HB ⊢
          obtain ⟨d0, hd0⟩ : ∃ d0, d0 = dg 8 (x % 2 ^ (8 * i) * y) (i + k) := ⟨_, rfl⟩
          rw [← hd0] at hdv k3 HB
          obtain ⟨d1, hd1⟩ : ∃ d1, d1 = dg 8 y k := ⟨_, rfl⟩
          rw [← hd1] at hdy HB HA
          obtain ⟨a, haa⟩ : ∃ a, a = dg 8 x i := ⟨_, rfl⟩
          rw [← haa] at hdx k1 HB HR
          obtain ⟨p, hp⟩ : ∃ p, p = a * d1 := ⟨_, rfl⟩
          have hpl : p ≤ 255 * 255 := by rw [hp]; exact Nat.mul_le_mul (by omega) (by omega)
          have W0 : (a : Int) * (d1 : Int) = (p : Int) := by rw [hp]; simp
          rw [← hp] at HB
          have W1 : IntKind.i64.wrap (p : Int) = (p : Int) := IntWalk.i64_in _ (by omega)
          have W2 : IntKind.i64.wrap ((ca : Int) + d0) = (ca : Int) + d0 := IntWalk.i64_in _ (by omega)
          have W3 : IntKind.i64.wrap ((ca : Int) + d0 + p) = (ca : Int) + d0 + p := IntWalk.i64_in _ (by omega)
          have W4 : IntKind.i64.wrap ((i : Int) + k) = (i : Int) + k := IntWalk.i64_in _ (by omega)
          have W5 : ((i : Int) + (k : Int)).toNat = i + k := by omega
          have P0 : 0 ≤ (i : Int) + k := by omega
          have P1 : (i : Int) + k < (n : Int) + m + 1 := by omega
          have P2 : 0 ≤ (i : Int) := by omega
          have P3 : (i : Int) < n := by omega
          have hp0 : (ca : Int) + d0 + p ≤ 100000 := by omega
          have hq0 : 0 ≤ (ca : Int) + d0 + p := by omega
          have Hx1 := Lib.hid (And.intro hca (And.intro hd0 (And.intro hd1 (And.intro haa hp))))
          clear hca hd0 hd1 haa hp hcar0
          go_wp2_with fail
          go_quiet ((go_at_call 98; exact Calls.quiet_of (HA.out _ (hs2.drewN _))))
          clear HA hs2 W0 W1 W2 W3 W4 k1
          go_wp2
          go_roundg (m + 1 - (k + 1))
          case measure => have := Hg2.out; omega
          case rel =>
            obtain ⟨_, _, _, haa, _⟩ := Hx1.out
            subst haa
            exact ⟨k + 1, by omega, rfl, by rw [← HB.out.2]; go_num, by go_num, ((rows_drewN HR.out.1 _).set (i + k) _).congr (fun j _ => mrow8_step (by rw [i8, ← HB.out.1]; go_num)), (Below.drewN' HR.out.2 _).setCell (Nat.le_refl _) _⟩
        · by_cases hc0 : mcar 8 (x % 2 ^ (8 * i) * y) (dg 8 x i) y i k = 0
          · have He := Lib.hid (fun j => @times_end x y i m k j Hy.out (by omega) hc0)
            rw [hc0]
            clear hcar hc0
            go_wp2
            go_roundg (n - (i + 1))
            case measure => have := Hg.out; omega
            case rel => exact ⟨i + 1, by omega, rfl, by go_num, hrow.congr (fun j _ => He.out j), hbel⟩
          · have hcar0 : 0 < mcar 8 (x % 2 ^ (8 * i) * y) (dg 8 x i) y i k := by omega
            have hkm2 : k = m := by
              rcases Nat.lt_or_ge m k with h | h
              · exfalso
                have e : k = m + 1 := by omega
                rw [e, times_car0 Hy.out] at hcar0
                omega
              · omega
            subst hkm2
            clear hc0
            obtain ⟨b1, o1, rfl, _, hc1⟩ := (ha.below hbel).cell (by omega)
            have k1 := hc1 i hin
            simp only [i8] at k1
            have k3 := hrow.cell (i := i + k) (by omega)
            have k4 := hrow.frozen (i + k)
            unfold mrow8 at k3
            rw [if_neg (by omega), i8] at k3
            have hs2 := hb.below hbel
            have hrb := fun W => r2at_quiet B k d y (k : Int) W Hm.out (by omega) (by omega)
            simp only [Int.toNat_natCast] at hrb
            have HA := Lib.hid hrb
            have h1 := mcar_dg 8 (x % 2 ^ (8 * i) * y) (dg 8 x i) y i k
            have h2 := mcar_succ 8 (x % 2 ^ (8 * i) * y) (dg 8 x i) y i k
            have HB := Lib.hid (And.intro h1 h2)
            have hdv := dg_lt 8 (x % 2 ^ (8 * i) * y) (i + k)
            have hdy := dg_lt 8 y k
            have HR := Lib.hid (And.intro hrow hbel)
            have hb2 := hbel.size
            clear hc1 hrb h1 h2 hrow hbel
            obtain ⟨ca, hca⟩ : ∃ ca, ca = mcar 8 (x % 2 ^ (8 * i) * y) (dg 8 x i) y i k := ⟨_, rfl⟩
            rw [← hca] at hcar hcar0 HB ⊢
            obtain ⟨d0, hd0⟩ : ∃ d0, d0 = dg 8 (x % 2 ^ (8 * i) * y) (i + k) := ⟨_, rfl⟩
            rw [← hd0] at hdv k3 HB
            obtain ⟨d1, hd1⟩ : ∃ d1, d1 = dg 8 y k := ⟨_, rfl⟩
            rw [← hd1] at hdy HB HA
            obtain ⟨a, haa⟩ : ∃ a, a = dg 8 x i := ⟨_, rfl⟩
            rw [← haa] at hdx k1 HB HR
            obtain ⟨p, hp⟩ : ∃ p, p = a * d1 := ⟨_, rfl⟩
            have hpl : p ≤ 255 * 255 := by rw [hp]; exact Nat.mul_le_mul (by omega) (by omega)
            have W0 : (a : Int) * (d1 : Int) = (p : Int) := by rw [hp]; simp
            rw [← hp] at HB
            have W1 : IntKind.i64.wrap (p : Int) = (p : Int) := IntWalk.i64_in _ (by omega)
            have W2 : IntKind.i64.wrap ((ca : Int) + d0) = (ca : Int) + d0 := IntWalk.i64_in _ (by omega)
            have W3 : IntKind.i64.wrap ((ca : Int) + d0 + p) = (ca : Int) + d0 + p := IntWalk.i64_in _ (by omega)
            have W4 : IntKind.i64.wrap ((i : Int) + k) = (i : Int) + k := IntWalk.i64_in _ (by omega)
            have W5 : ((i : Int) + (k : Int)).toNat = i + k := by omega
            have P0 : 0 ≤ (i : Int) + k := by omega
            have P1 : (i : Int) + k < (n : Int) + k + 1 := by omega
            have P2 : 0 ≤ (i : Int) := by omega
            have P3 : (i : Int) < n := by omega
            have hp0 : (ca : Int) + d0 + p ≤ 100000 := by omega
            have hq0 : 0 ≤ (ca : Int) + d0 + p := by omega
            have Hx1 := Lib.hid (And.intro hca (And.intro hd0 (And.intro hd1 (And.intro haa hp))))
            clear hca hd0 hd1 haa hp
            go_wp2_with fail
            go_quiet ((go_at_call 98; exact Calls.quiet_of (HA.out _ (hs2.drewN _))))
            clear HA hs2 W0 W1 W2 W3 W4 k1
            go_wp2
            go_roundg (k + 1 - (k + 1))
            case measure => have := Hg2.out; omega
            case rel =>
              obtain ⟨_, _, _, haa, _⟩ := Hx1.out
              subst haa
              exact ⟨k + 1, by omega, rfl, by rw [← HB.out.2]; go_num, by go_num, ((rows_drewN HR.out.1 _).set (i + k) _).congr (fun j _ => mrow8_step (by rw [i8, ← HB.out.1]; go_num)), (Below.drewN' HR.out.2 _).setCell (Nat.le_refl _) _⟩
    · obtain rfl : i = n := by omega
      rw [Nat.mod_eq_of_lt Hx.out] at hrow
      have hlt : x * y < 2 ^ (8 * (i + m + 1)) := Nat.lt_of_lt_of_le (show x * y < 2 ^ (8 * (i + m)) by rw [padd]; exact Nat.mul_lt_mul'' Hx.out Hy.out) (pmono (by omega))
      have Hs := Lib.hid hlt
      clear hlt
      go_wp2_with fail
      refine (r2made_gen _ (i + m + 1) (i + m + 1) (x * y) _ Hs.out (by omega) (Slc.of_row hrow (by omega))).mono ?_
      rintro e w' ⟨rfl, hb3⟩
      go_wp2
      go_ret
      exact ⟨rfl, HB0.out.trans ((hbel.trans (hb3.mono hbel.size)).mono HB0.out.size)⟩

set_option maxHeartbeats 8000000 in
set_option maxRecDepth 100000 in
theorem r2Sub_any (x y : Nat) (w : World) (hxy : y ≤ x) (hx8 : Fil.dn 8 x ≤ 1048570) :
    Calls Tryz.prog 88 #[.string (bstr x), .string (bstr y)] w fun r w' => r = .returned (.tuple #[.string (bstr (x - y)), .int .i64 0]) ∧ Below w.heap.size w w' := by
  have hy8 : Fil.dn 8 y ≤ 1048570 := Nat.le_trans (dn_mono (by omega) hxy) hx8
  have hcmp := fun W => r2Cmp_any x y W (by omega) (by omega)
  have hd1 := fun W => r2digits_any x W (by omega)
  have hd2 := fun W => r2digits_any y W (by omega)
  obtain ⟨n, hn⟩ : ∃ n, n = Fil.dn 8 x := ⟨_, rfl⟩
  obtain ⟨m, hm⟩ : ∃ m, m = Fil.dn 8 y := ⟨_, rfl⟩
  simp only [← hn] at hd1 hx8
  simp only [← hm] at hd2 hy8
  have hx := lt_dn (k := 8) (by omega) x
  rw [← hn] at hx
  have hmn : m ≤ n := by rw [hn, hm]; exact dn_mono (by omega) hxy
  have Hn := Lib.hid hn
  have Hm := Lib.hid hm
  obtain ⟨i0, hi, hp⟩ := Option.map_eq_some_iff.1 Tryz.info3
  have hz0 : i0.zero = some (.int .i64 0) := congrArg Prod.fst hp
  have hz1 : i0.size = 1 := congrArg (fun q => q.2.1) hp
  have hz2 : i0.bytes = 8 := congrArg (fun q => q.2.2) hp
  have HL0 := Lib.hid (Nat.lt_of_le_of_lt (Nat.sub_le x y) hx)
  have Hxy := Lib.hid hxy
  clear hn hm hp hx hxy
  have hc0 : (cmpZ x y < 0) = False := by
    unfold cmpZ
    have : ¬ x < y := by have := Hxy.out; omega
    rw [if_neg this]
    split <;> simp
  obtain ⟨cz, hcz⟩ : ∃ cz, cz = cmpZ x y := ⟨_, rfl⟩
  simp only [← hcz] at hcmp hc0
  have t0 : decide (cz < 0) = false := decide_eq_false (by rw [hc0]; exact id)
  clear hc0 hcz
  go_enter Tryz.func88, Tryz.ntmps88
  go_wp2_with fail
  refine (hcmp _).mono ?_
  rintro r w0 ⟨rfl, k0, rfl⟩
  have hB00 : Below w.heap.size w (w.drewN k0) := Below.drewN' (Below.refl w.heap.size w) k0
  generalize w.drewN k0 = w0 at *
  clear hcmp
  go_wp2_with fail
  refine (hd1 _).mono ?_
  rintro r w1 ⟨v1, rfl, ho1, hb1⟩
  obtain ⟨A, c, rfl, hnc, ha⟩ := Own.slc ho1
  go_wp2_with fail
  refine (hd2 _).mono ?_
  rintro r w2 ⟨v2, rfl, ho2, hb2⟩
  obtain ⟨B, d, rfl, hmd, hb⟩ := Own.slc ho2
  replace ha : Slc w2 3 A n (i8 x) := ha.below hb2
  replace hb : Slc w2 3 B m (i8 y) := hb
  have HB0 := Lib.hid (hB00.trans ((hb1.trans (hb2.mono hb1.size)).mono hB00.size))
  clear ho1 ho2 hb1 hb2 hd1 hd2 hB00
  clear t0
  go_wp2
  go_loopg [8, 9, 10] n (fun g sO sL sI wr => ∃ i : Nat, i ≤ n ∧ g = n - i ∧ sL = .int .i64 (borrow 8 x y i) ∧ sI = .int .i64 i ∧ Own wr w2.heap.size sO i (fun j => (dg 8 (x - y) j : Int)) ∧ Below w2.heap.size w2 wr)
  case atStart => exact ⟨0, by omega, by omega, by rw [borrow_zero]; rfl, rfl, Own.nil _ _ _, Below.refl _ _⟩
  case round =>
    obtain ⟨i, hiM, hg, rfl, rfl, hown, hbel⟩ := hrel
    have hs1 := ha.below hbel
    have hs2 := hb.below hbel
    have hrb := fun W => r2at_quiet B m d y (i : Int) W Hm.out (by omega) (by omega)
    simp only [Int.toNat_natCast] at hrb
    have hcl := borrow_le 8 x y i
    have h1 := sub_succ (k := 8) (i := i) Hxy.out
    have h2 := borrow_succ 8 x y i
    have hd0 := dg_lt 8 x i
    have hd1 := dg_lt 8 y i
    have hb2 := hbel.size
    have HG := Lib.hid (And.intro hg hbel)
    have HA := Lib.hid hrb
    have HB := Lib.hid (And.intro h1 h2)
    clear hg hbel hrb h1 h2
    by_cases hin : i < n
    · by_cases hlt : dg 8 x i < dg 8 y i + borrow 8 x y i
      · have HL := Lib.hid hlt
        obtain ⟨b1, o1, rfl, _, hc1⟩ := hs1.cell (by omega)
        have k1 := hc1 i hin
        simp only [i8] at k1
        clear hc1 hs1
        generalize dg 8 x i = d0 at *
        generalize dg 8 y i = d1 at *
        generalize borrow 8 x y i = bo at *
        have W1 : IntKind.i64.wrap ((d0 : Int) - d1) = (d0 : Int) - d1 := IntWalk.i64_in _ (by omega)
        have W2 : IntKind.i64.wrap ((d0 : Int) - d1 - bo) = (d0 : Int) - d1 - bo := IntWalk.i64_in _ (by omega)
        have P0 : (0 : Int) ≤ (i : Int) := by omega
        have P1 : (i : Int) < (n : Int) := by omega
        go_wp2_with fail
        go_quiet ((go_at_call 98; exact Calls.quiet_of (HA.out _ (by exact hs2))))
        clear HA hs2 W1 W2 k1
        go_wp2_with (at_builtin; refine wpList_append_own _ rfl _ _ 103 rfl w2.heap.size 3 i0 (.int .i64 0) 1 8 Tryz.underlying103 hi hz0 hz1 hz2 rfl (by decide) _ _ _ rfl (by exact hown.alloc _) ⟨wr.heap.size, 0, none⟩ 1 1 [.int .i64 ((d0 : Int) - d1 - bo + 256)] rfl rfl ?c1 ?c2 ?c3 ?c4 ?c5 ?_)
        case c1 =>
          intro j u hj
          match j, hj with
          | 0, hj => simp at hj; subst hj; simp [Addr.add]; exact one_cell (wr.drewN nq) _ _
        case c2 => intro u hu; simp at hu; subst hu; rfl
        case c3 => unfold maxLen; omega
        case c4 => omega
        case c5 => simp; omega
        · intro v' w1 hown' hgrow _
          rw [own_grow (g := fun i => (dg 8 (x - y) i : Int)) (fun _ _ => rfl) (by have := HB.out.1; have := HL.out; omega)] at hown'
          have hb1 := ((Below.drewN' HG.out.2 nq).alloc hb2 (Obj.cells #[Value.int IntKind.i64 ((d0 : Int) - d1 - bo + 256)] 3)).grown hgrow (by simp; omega) (fun k hk => (hown.lt k hk).1)
          clear hown hgrow
          go_wp2
          go_roundg (n - (i + 1))
          case measure => have := HG.out.1; omega
          case rel => exact ⟨i + 1, by omega, rfl, by rw [HB.out.2, if_pos HL.out]; rfl, by go_num, hown', hb1⟩
      · have HL := Lib.hid hlt
        obtain ⟨b1, o1, rfl, _, hc1⟩ := hs1.cell (by omega)
        have k1 := hc1 i hin
        simp only [i8] at k1
        clear hc1 hs1
        generalize dg 8 x i = d0 at *
        generalize dg 8 y i = d1 at *
        generalize borrow 8 x y i = bo at *
        have W1 : IntKind.i64.wrap ((d0 : Int) - d1) = (d0 : Int) - d1 := IntWalk.i64_in _ (by omega)
        have W2 : IntKind.i64.wrap ((d0 : Int) - d1 - bo) = (d0 : Int) - d1 - bo := IntWalk.i64_in _ (by omega)
        have P0 : (0 : Int) ≤ (i : Int) := by omega
        have P1 : (i : Int) < (n : Int) := by omega
        go_wp2_with fail
        go_quiet ((go_at_call 98; exact Calls.quiet_of (HA.out _ (by exact hs2))))
        clear HA hs2 W1 W2 k1
        go_wp2_with (at_builtin; refine wpList_append_own _ rfl _ _ 103 rfl w2.heap.size 3 i0 (.int .i64 0) 1 8 Tryz.underlying103 hi hz0 hz1 hz2 rfl (by decide) _ _ _ rfl (by exact hown.alloc _) ⟨wr.heap.size, 0, none⟩ 1 1 [.int .i64 ((d0 : Int) - d1 - bo)] rfl rfl ?c1 ?c2 ?c3 ?c4 ?c5 ?_)
        case c1 =>
          intro j u hj
          match j, hj with
          | 0, hj => simp at hj; subst hj; simp [Addr.add]; exact one_cell (wr.drewN nq) _ _
        case c2 => intro u hu; simp at hu; subst hu; rfl
        case c3 => unfold maxLen; omega
        case c4 => omega
        case c5 => simp; omega
        · intro v' w1 hown' hgrow _
          rw [own_grow (g := fun i => (dg 8 (x - y) i : Int)) (fun _ _ => rfl) (by have := HB.out.1; have := HL.out; omega)] at hown'
          have hb1 := ((Below.drewN' HG.out.2 nq).alloc hb2 (Obj.cells #[Value.int IntKind.i64 ((d0 : Int) - d1 - bo)] 3)).grown hgrow (by simp; omega) (fun k hk => (hown.lt k hk).1)
          clear hown hgrow
          go_wp2
          go_roundg (n - (i + 1))
          case measure => have := HG.out.1; omega
          case rel => exact ⟨i + 1, by omega, rfl, by rw [HB.out.2, if_neg HL.out]; rfl, by go_num, hown', hb1⟩
    · obtain rfl : i = n := by omega
      obtain ⟨A', c', rfl, hnc', hs'⟩ := Own.slc hown
      have Hle := Lib.hid (dn_le (k := 8) (by omega) HL0.out)
      have hbel := HG.out.2
      clear hown HB hd0 hd1 hcl hs1 hs2 ha hb HA
      go_wp2_with fail
      refine (r2made_gen A' i c' (x - y) _ HL0.out (by omega) hs').mono ?_
      rintro r w3 ⟨rfl, hb3⟩
      go_wp2
      go_returns
      exact ⟨rfl, HB0.out.trans ((hbel.trans (hb3.mono hbel.size)).mono HB0.out.size)⟩
end Go.Proofs.YtbhfnigblhfikaaGreat

/- The reference of layer 2: Div, Gcd. -/
namespace Go.Proofs.YtbhfnigblhfikaaGreat
open Go Go.RowKit Go.PlainAid Fil

theorem row_keep {w w' : World} {b : Nat} {t : TypeId} {n : Nat} {f : Nat → Value} (h : w.rowIs b t n f) (hb : Below w.heap.size w w') : w'.rowIs b t n f := h.of_block (hb.block b h.lt)
theorem Slc.one (w : World) (d : Nat) (hd : d < 256) : Slc (w.alloc (.cells #[.int .i64 d] 3)) 3 (some ⟨w.heap.size, 0, none⟩) 1 (i8 d) := by
  refine Slc.of_row (World.rowIs_alloc w #[.int .i64 d] 3 (i8 d) ?_) (Nat.le_refl _)
  intro i hi
  match i, hi with
  | 0, _ => simp [i8, dg]; omega
theorem bstr256 : bstr 256 = { data := #[1, 0] } := by
  unfold bstr
  rw [show bs 256 = [1, 0] by decide]
/-- made of a list of one digit -/
theorem r2one_any (d : Nat) (W : World) (hd : d < 256) :
    Calls Tryz.prog 63 #[.slice (some ⟨W.heap.size, 0, none⟩) 1 1] (W.alloc (.cells #[.int .i64 d] 3)) fun r w' => r = .returned (.string (bstr d)) ∧ Below W.heap.size W w' :=
  (r2made_gen _ 1 1 d _ (by omega) (by omega) (Slc.one W d hd)).mono fun _ _ ⟨h1, h2⟩ => ⟨h1, ((Below.refl _ _).alloc (Nat.le_refl _) _).trans (h2.mono (by simp))⟩
theorem dn_byte {d : Nat} (h : d < 256) : Fil.dn 8 d ≤ 1 := dn_le (by omega) (by omega)
theorem cmpZ_le {a b : Nat} : cmpZ a b ≤ 0 ↔ a ≤ b := by
  unfold cmpZ
  by_cases h1 : a < b
  · rw [if_pos h1]; omega
  · rw [if_neg h1]
    by_cases h2 : b < a
    · rw [if_pos h2]; omega
    · rw [if_neg h2]; omega
theorem mul_dn {x y j k : Nat} (hx : Fil.dn 8 x ≤ j) (hy : Fil.dn 8 y ≤ k) : Fil.dn 8 (x * y) ≤ j + k := dn_le (by omega) (by rw [padd]; exact Nat.mul_lt_mul'' (lt_of_dn (by omega) hx) (lt_of_dn (by omega) hy))
theorem add_dn {x y k : Nat} (hx : Fil.dn 8 x ≤ k) (hy : Fil.dn 8 y ≤ k) : Fil.dn 8 (x + y) ≤ k + 1 := dn_le (by omega) (add_lt_succ (by omega) (lt_of_dn (by omega) hx) (lt_of_dn (by omega) hy))

set_option maxRecDepth 100000 in
set_option maxHeartbeats 8000000 in
theorem r2Div_any (x b : Nat) (w : World) (hb0 : b ≠ 0) (hx8 : Fil.dn 8 x ≤ 400000) (hb8 : Fil.dn 8 b ≤ 400000) :
    Calls Tryz.prog 57 #[.string (bstr x), .string (bstr b)] w fun r w' => r = .returned (.tuple #[.string (bstr (x / b)), .string (bstr (x % b)), .int .i64 0]) ∧ Below w.heap.size w w' := by
  have hbp : 0 < b := by omega
  have hsx := bstr_size x
  have hsb := bstr_size b
  have hbx := fun k h => bstr_bt x k h
  have hgx := get_bt (bstr x)
  have hbe := (bstr_ne hb0).1
  have hbe2 := (bstr_ne hb0).2
  have hbn := dn_pos (k := 8) hb0
  have hxl := lt_dn (k := 8) (by omega) x
  have hle := le_dn (k := 8) b hb0
  have htk := fun k h => bstr_take x k h
  obtain ⟨la, hla⟩ : ∃ la, la = Fil.dn 8 x := ⟨_, rfl⟩
  obtain ⟨lb, hlb⟩ : ∃ lb, lb = Fil.dn 8 b := ⟨_, rfl⟩
  simp only [← hla] at hsx hbx hxl hx8 htk
  simp only [← hlb] at hsb hb8 hbn hle
  have hmk := run_make_row' (P := Tryz.prog) 103 3 (.int .i64 0) 8 Tryz.underlying103 Tryz.info3 rfl .i64 .i64 la (by omega) (by omega)
  obtain ⟨c, hc⟩ : ∃ c, c = lb - 1 := ⟨_, rfl⟩
  obtain ⟨n0, hn0⟩ : ∃ n0, n0 = min c la := ⟨_, rfl⟩
  have hn0la : n0 ≤ la := by omega
  have hX0 : x / 2 ^ (8 * (la - n0)) < b := by
    refine Nat.lt_of_lt_of_le ?_ hle
    rw [Nat.div_lt_iff_lt_mul (pp _), ← Nat.pow_add]
    exact Nat.lt_of_lt_of_le hxl (pmono (by omega))
  have HX := Lib.hid (And.intro hbx (And.intro hX0 (And.intro hxl (And.intro hle (And.intro hlb hla)))))
  have HT := Lib.hid (htk (la - n0) (by omega))
  have HN := Lib.hid hn0
  have hlbi : (lb : Int) - 1 = (c : Int) := by omega
  have hc8 : c ≤ 400000 := by omega
  have hltx : ∀ (k : Nat), s8 x b k < b := fun k => s8_lt x k hbp
  have hsz : ∀ k : Nat, Fil.dn 8 (s8 x b k) ≤ lb := fun k => by rw [hlb]; exact dn_mono (by omega) (Nat.le_of_lt (hltx k))
  have HS := Lib.hid hsz
  have HQ := Lib.hid (And.intro hlb hla)
  clear hla hlb hc hbx hX0 hxl hle htk hltx hsz
  go_enter Tryz.func57, Tryz.ntmps57
  go_upto_if 25 with fail
  go_cut [8] (fun s8 wr => s8 = .int .i64 (n0 : Int) ∧ wr.rowIs w.heap.size 3 la (fun _ => .int .i64 0) ∧ Below w.heap.size w wr)
  case first =>
    by_cases hgt : la < c
    · have hd1 : decide ((la : Int) < (c : Int)) = true := decide_eq_true (by omega)
      have hd2 : decide (la < c) = true := decide_eq_true hgt
      have e0 : n0 = la := by have := HN.out; omega
      clear hn0 hn0la hbn hx8 hb8 hd1 hd2
      go_wp2
      go_meet
      case rel => exact ⟨by rw [e0], World.rowIs_made w _ la 3, (Below.refl _ _).alloc (Nat.le_refl _) _⟩
    · have hd1 : decide ((la : Int) < (c : Int)) = false := decide_eq_false (by omega)
      have hd2 : decide (la < c) = false := decide_eq_false hgt
      have e0 : n0 = c := by have := HN.out; omega
      clear hn0 hn0la hbn hx8 hb8 hd1 hd2
      go_wp2
      go_meet
      case rel => exact ⟨by rw [e0], World.rowIs_made w _ la 3, (Below.refl _ _).alloc (Nat.le_refl _) _⟩
  case rest =>
    clear hmk hlbi hn0 hbn
    obtain ⟨rfl, hrow, hbel⟩ := hcut
    rename_i wc
    have p0 : (0 : Int) ≤ (n0 : Int) := by omega
    have p1 : (n0 : Int) ≤ (la : Int) := by omega
    go_wp2
    go_loopg [9, 10] (la - n0) (fun g s9 s10 wr => ∃ i : Nat, n0 ≤ i ∧ i ≤ la ∧ g = la - i ∧ s9 = .string (bstr (s8 x b (la - i))) ∧ s10 = .int .i64 (i : Int) ∧ wr.rowIs w.heap.size 3 la (quo8 x b (la - i)) ∧ Below w.heap.size w wr)
    case atStart =>
      have hX0 := HX.out.2.1
      refine ⟨n0, Nat.le_refl _, hn0la, ?_, ?_, rfl, hrow.congr (fun j _ => (quo8_start hX0).symm), hbel⟩
      · rfl
      · have h := HT.out
        rw [show la - (la - n0) = n0 by omega] at h
        unfold s8
        rw [Nat.mod_eq_of_lt hX0, ← h]
    case round =>
      clear hrow hbel p0 p1
      obtain ⟨i, hi0, hi, hg, rfl, rfl, hrow, hbel⟩ := hrel
      have Hg := Lib.hid hg
      clear hg
      by_cases hin : i < la
      · obtain ⟨k, hk⟩ : ∃ k, k = la - 1 - i := ⟨_, rfl⟩
        have ek : la - i = k + 1 := by omega
        have hby := HX.out.1 i hin
        rw [← hk] at hby
        rw [ek] at hrow ⊢
        have hdl := dg_lt 8 x k
        have hsd := s8_dg x k hbp
        have hst := s8_step x b k
        have hrl := HS.out (k + 1)
        have hrb := s8_lt x (k + 1) hbp
        have hqd := dg_lt 8 (x / b) k
        have ek2 : (la : Int) - 1 - (i : Int) = (k : Int) := by omega
        obtain ⟨r, hr⟩ : ∃ r, r = s8 x b (k + 1) := ⟨_, rfl⟩
        obtain ⟨d, hd⟩ : ∃ d, d = dg 8 x k := ⟨_, rfl⟩
        obtain ⟨q, hq⟩ : ∃ q, q = dg 8 (x / b) k := ⟨_, rfl⟩
        rw [← hr] at hsd hst hrl hrb ⊢
        rw [← hd] at hdl hsd hst hby
        rw [← hq] at hsd hqd
        obtain ⟨R, hR⟩ : ∃ R, R = r * 256 + d := ⟨_, rfl⟩
        have d256 : Fil.dn 8 256 ≤ 2 := by decide
        have hR8 : Fil.dn 8 R ≤ lb + 3 := by
          rw [hR]
          exact add_dn (k := lb + 2) (mul_dn hrl d256) (Nat.le_trans (dn_byte hdl) (by omega))
        have ht := fun W => r2times_any r 256 W (by omega) (Nat.le_trans d256 (by omega))
        rw [bstr256] at ht
        have hm := fun W => r2one_any d W hdl
        have hp := fun W => r2plus_any (r * 256) d W (Nat.le_trans (mul_dn hrl d256) (by omega)) (Nat.le_trans (dn_byte hdl) (by omega))
        rw [← hR] at hsd hst hp
        have hi1 : (0 : Int) ≤ (i : Int) := by omega
        have hi2 : (i : Int) < (la : Int) := by omega
        have Wd : IntKind.i64.wrap (d : Int) = (d : Int) := IntWalk.i64_in _ (by omega)
        have HK := Lib.hid (And.intro hk (And.intro ek (And.intro hq (And.intro hsd (And.intro hst hR8)))))
        clear hk ek hr hd hq hR hsd hst hrl hR8 d256 ek2
        go_upto_region 11 with fail
        go_cut [9] (fun s9 wx => s9 = .string (bstr R) ∧ wx.rowIs w.heap.size 3 la (quo8 x b (k + 1)) ∧ Below w.heap.size w wx)
        case first =>
          refine wp_region_any (by kernel_rfl) ?_
          have hHeld : (fun _ : World => True) wr.drew := trivial
          refine wpAny_of_held (S := fun _ : World => True) _ _ _ (wr.drew) ?_
          replace hrow : wr.drew.rowIs w.heap.size 3 la (quo8 x b (k + 1)) := hrow
          replace hbel : Below w.heap.size w wr.drew := hbel.drew
          generalize wr.drew = v0 at *
          refine wpAnyH_take (i := 0) (v := _) (by first | (simp only [List.getElem?_toArray, List.getElem?_cons_zero]; rfl) | rfl) (by kernel_rfl) (by kernel_rfl) (by kernel_rfl) (by exact fun _ _ _ h => h) (Or.inl ⟨by rfl, by (intro w hSw; (try dsimp only at hSw); go_simp; try with_reducible rfl)⟩) (by assumption) ?_
          (try dsimp only [Act.put]); (try go_frame)
          refine wpAnyH_take (i := 2) (v := _) (by first | (simp only [List.getElem?_toArray, List.getElem?_cons_zero, List.getElem?_cons_succ]; rfl) | rfl) (by kernel_rfl) (by kernel_rfl) (by kernel_rfl) (by exact fun _ _ _ h => h) (Or.inl ⟨by rfl, by (intro w hSw; (try dsimp only at hSw); go_simp; try with_reducible rfl)⟩) (by assumption) ?_
          (try dsimp only [Act.put]); (try go_frame)
          refine wpAnyH_take (i := 3) (v := _) (by first | (simp only [List.getElem?_toArray, List.getElem?_cons_zero, List.getElem?_cons_succ]; rfl) | rfl) (by kernel_rfl) (by kernel_rfl) (by kernel_rfl) (by exact fun _ _ _ h => h) (Or.inl ⟨by rfl, by (intro w hSw; (try dsimp only at hSw); go_simp; try with_reducible rfl)⟩) (by assumption) ?_
          (try dsimp only [Act.put]); (try go_frame)
          refine wpAnyH_take (i := 4) (v := _) (by first | (simp only [List.getElem?_toArray, List.getElem?_cons_zero, List.getElem?_cons_succ]; rfl) | rfl) (by kernel_rfl) (by kernel_rfl) (by kernel_rfl) (by exact fun _ _ _ h => h) (Or.inl ⟨by rfl, by (intro w hSw; (try dsimp only at hSw); go_simp; try with_reducible rfl)⟩) (by assumption) ?_
          (try dsimp only [Act.put]); (try go_frame)
          refine wpAnyH_take (i := 5) (v := _) (by first | (simp only [List.getElem?_toArray, List.getElem?_cons_zero, List.getElem?_cons_succ]; rfl) | rfl) (by kernel_rfl) (by kernel_rfl) (by kernel_rfl) (by exact fun _ _ _ h => h) (Or.inl ⟨by rfl, by (intro w hSw; (try dsimp only at hSw); go_simp; try with_reducible rfl)⟩) (by assumption) ?_
          (try dsimp only [Act.put]); (try go_frame)
          refine wpAnyH_ready (rs := [1, 6]) (by kernel_rfl) (by simp) ?_
          refine AllReadyH.cons rfl (fun K hK => ?_) (AllReadyH.cons rfl (fun K hK => ?_) AllReadyH.nil)
          · go_simp
            refine (ht _).mono ?_
            rintro r1 v1 ⟨rfl, hb1⟩
            replace hrow := row_keep hrow hb1
            replace hbel := hbel.trans (hb1.mono hbel.size)
            refine hK.out _ _ ?_ (fun hHeld => ?_)
            · exact trivial
            clear hK K hb1
            (try dsimp only [Act.put]); (try go_frame)
            refine wpAnyH_ready (rs := [6]) (by kernel_rfl) (by simp) ?_
            refine AllReadyH.cons rfl (fun K hK => ?_) AllReadyH.nil
            go_simp
            refine hK.out _ _ ?_ (fun hHeld => ?_)
            · exact trivial
            clear hK K
            (try dsimp only [Act.put]); (try go_frame)
            refine wpAnyH_ready (rs := [7]) (by kernel_rfl) (by simp) ?_
            refine AllReadyH.cons rfl (fun K hK => ?_) AllReadyH.nil
            go_simp
            refine (hm _).mono ?_
            rintro r1 v2 ⟨rfl, hb1⟩
            replace hrow := row_keep hrow hb1
            replace hbel := hbel.trans (hb1.mono hbel.size)
            refine hK.out _ _ ?_ (fun hHeld => ?_)
            · exact trivial
            clear hK K hb1
            (try dsimp only [Act.put]); (try go_frame)
            refine wpAnyH_ready (rs := [8]) (by kernel_rfl) (by simp) ?_
            refine AllReadyH.cons rfl (fun K hK => ?_) AllReadyH.nil
            go_simp
            refine (hp _).mono ?_
            rintro r1 v3 ⟨rfl, hb1⟩
            replace hrow := row_keep hrow hb1
            replace hbel := hbel.trans (hb1.mono hbel.size)
            refine hK.out _ _ ?_ (fun hHeld => ?_)
            · exact trivial
            clear hK K hb1
            (try dsimp only [Act.put]); (try go_frame)
            refine wpAnyH_take (i := 9) (v := _) (by first | (simp only [List.getElem?_toArray, List.getElem?_cons_zero, List.getElem?_cons_succ]; rfl) | rfl) (by kernel_rfl) (by kernel_rfl) (by kernel_rfl) (by exact fun _ _ _ h => h) (Or.inl ⟨by rfl, by (intro w hSw; (try dsimp only at hSw); go_simp; try with_reducible rfl)⟩) (by assumption) ?_
            (try dsimp only [Act.put]); (try go_frame)
            refine wpAnyH_done (by kernel_rfl) ?_ _
            try simp only [QCut]
            go_wp2_with fail
            go_meet
            exact ⟨rfl, hrow, hbel⟩
          · go_simp
            have hs := Slc.one v0 d hdl
            replace hrow := hrow.alloc (.cells #[.int .i64 d] 3)
            replace hbel := hbel.alloc hbel.size (.cells #[.int .i64 d] 3)
            refine hK.out _ _ ?_ (fun hHeld => ?_)
            · exact trivial
            clear hK K
            (try dsimp only [Act.put]); (try go_frame)
            generalize v0.alloc (.cells #[.int .i64 d] 3) = v4 at *
            generalize v0.heap.size = B0 at *
            refine wpAnyH_ready (rs := [1]) (by kernel_rfl) (by simp) ?_
            refine AllReadyH.cons rfl (fun K hK => ?_) AllReadyH.nil
            go_simp
            refine (ht _).mono ?_
            rintro r1 v1 ⟨rfl, hb1⟩
            replace hs := hs.below hb1
            replace hrow := row_keep hrow hb1
            replace hbel := hbel.trans (hb1.mono hbel.size)
            refine hK.out _ _ ?_ (fun hHeld => ?_)
            · exact trivial
            clear hK K hb1
            (try dsimp only [Act.put]); (try go_frame)
            refine wpAnyH_ready (rs := [7]) (by kernel_rfl) (by simp) ?_
            refine AllReadyH.cons rfl (fun K hK => ?_) AllReadyH.nil
            go_simp
            refine (r2made_gen _ 1 1 d _ (by omega) (by omega) hs).mono ?_
            rintro r1 v2 ⟨rfl, hb1⟩
            clear hs
            replace hrow := row_keep hrow hb1
            replace hbel := hbel.trans (hb1.mono hbel.size)
            refine hK.out _ _ ?_ (fun hHeld => ?_)
            · exact trivial
            clear hK K hb1
            (try dsimp only [Act.put]); (try go_frame)
            refine wpAnyH_ready (rs := [8]) (by kernel_rfl) (by simp) ?_
            refine AllReadyH.cons rfl (fun K hK => ?_) AllReadyH.nil
            go_simp
            refine (hp _).mono ?_
            rintro r1 v3 ⟨rfl, hb1⟩
            replace hrow := row_keep hrow hb1
            replace hbel := hbel.trans (hb1.mono hbel.size)
            refine hK.out _ _ ?_ (fun hHeld => ?_)
            · exact trivial
            clear hK K hb1
            (try dsimp only [Act.put]); (try go_frame)
            refine wpAnyH_take (i := 9) (v := _) (by first | (simp only [List.getElem?_toArray, List.getElem?_cons_zero, List.getElem?_cons_succ]; rfl) | rfl) (by kernel_rfl) (by kernel_rfl) (by kernel_rfl) (by exact fun _ _ _ h => h) (Or.inl ⟨by rfl, by (intro w hSw; (try dsimp only at hSw); go_simp; try with_reducible rfl)⟩) (by assumption) ?_
            (try dsimp only [Act.put]); (try go_frame)
            refine wpAnyH_done (by kernel_rfl) ?_ _
            try simp only [QCut]
            go_wp2_with fail
            go_meet
            exact ⟨rfl, hrow, hbel⟩
        case rest =>
          clear hrow hbel ht hm hp
          obtain ⟨rfl, hrow, hbel⟩ := hcut
          generalize wc = v5 at *
          have hRq : R / b = q := HK.out.2.2.2.1
          have hR8 : Fil.dn 8 R ≤ lb + 3 := HK.out.2.2.2.2.2
          have HR := Lib.hid hRq
          clear hRq
          go_wp2
          go_loopg [11, 12] 255 (fun g s11 s12 wr => ∃ lo hi : Nat, lo ≤ q ∧ q ≤ hi ∧ hi ≤ 255 ∧ g = hi - lo ∧ s11 = .int .i64 (lo : Int) ∧ s12 = .int .i64 (hi : Int) ∧ wr.rowIs w.heap.size 3 la (quo8 x b (k + 1)) ∧ Below w.heap.size w wr)
          case atStart => exact ⟨0, 255, by omega, by omega, by omega, rfl, rfl, rfl, hrow, hbel⟩
          case round =>
            clear hrow hbel
            obtain ⟨lo, hi, h1, h2, h3, hg2, rfl, rfl, hrow, hbel⟩ := hrel
            have Hg2 := Lib.hid hg2
            clear hg2
            by_cases hlt : lo < hi
            · obtain ⟨mid, hmid⟩ : ∃ mid, mid = (lo + hi + 1) / 2 := ⟨_, rfl⟩
              have m1 : lo < mid := by omega
              have m2 : mid ≤ hi := by omega
              have em : ((lo : Int) + (hi : Int) + 1) / 2 = (mid : Int) := by omega
              have hm := fun W => r2one_any mid W (by omega)
              have ht := fun W => r2times_any b mid W (by have := HQ.out.1; omega) (Nat.le_trans (dn_byte (by omega)) (by omega))
              have hc := fun W => r2Cmp_any (b * mid) R W (Nat.le_trans (mul_dn (Nat.le_refl _) (dn_byte (by omega))) (by have := HQ.out.1; omega)) (by omega)
              have hcz : cmpZ (b * mid) R ≤ 0 ↔ mid ≤ q := by
                rw [cmpZ_le, ← HR.out, Nat.le_div_iff_mul_le hbp, Nat.mul_comm]
              obtain ⟨cz, hcd⟩ : ∃ cz, cz = cmpZ (b * mid) R := ⟨_, rfl⟩
              simp only [← hcd] at hc hcz
              clear hmid hcd
              by_cases hmq : mid ≤ q
              · have hz := hcz.2 hmq
                clear hcz
                go_wp2_with fail
                refine (hm _).mono ?_
                rintro r1 v1 ⟨rfl, hb1⟩
                replace hrow := row_keep hrow hb1
                replace hbel := hbel.trans (hb1.mono hbel.size)
                clear hb1
                go_wp2_with fail
                refine (ht _).mono ?_
                rintro r1 v2 ⟨rfl, hb1⟩
                replace hrow := row_keep hrow hb1
                replace hbel := hbel.trans (hb1.mono hbel.size)
                clear hb1
                go_wp2_with fail
                refine (hc _).mono ?_
                rintro r1 v3 ⟨rfl, kk, rfl⟩
                replace hrow := rows_drewN hrow kk
                replace hbel := Below.drewN' hbel kk
                generalize v2.drewN kk = v4 at *
                go_wp2
                go_roundg (hi - mid)
                case measure => have := Hg2.out; omega
                case rel => exact ⟨mid, hi, hmq, h2, h3, rfl, rfl, rfl, hrow, hbel⟩
              · have hz : ¬ cz ≤ 0 := fun h => hmq (hcz.1 h)
                have emi : (mid : Int) - 1 = ((mid - 1 : Nat) : Int) := by omega
                have Hm := Lib.hid emi
                clear hcz emi
                go_wp2_with fail
                refine (hm _).mono ?_
                rintro r1 v1 ⟨rfl, hb1⟩
                replace hrow := row_keep hrow hb1
                replace hbel := hbel.trans (hb1.mono hbel.size)
                clear hb1
                go_wp2_with fail
                refine (ht _).mono ?_
                rintro r1 v2 ⟨rfl, hb1⟩
                replace hrow := row_keep hrow hb1
                replace hbel := hbel.trans (hb1.mono hbel.size)
                clear hb1
                go_wp2_with fail
                refine (hc _).mono ?_
                rintro r1 v3 ⟨rfl, kk, rfl⟩
                replace hrow := rows_drewN hrow kk
                replace hbel := Below.drewN' hbel kk
                generalize v2.drewN kk = v4 at *
                go_wp2
                go_roundg (mid - 1 - lo)
                case measure => have := Hg2.out; omega
                case rel => exact ⟨lo, mid - 1, h1, by omega, by omega, rfl, rfl, congrArg (Value.int IntKind.i64) Hm.out, hrow, hbel⟩
            · obtain rfl : lo = q := by omega
              obtain rfl : hi = lo := by omega
              obtain ⟨hk, -, hq, hRq, hRs, -⟩ := HK.out
              have ek2 : (la : Int) - 1 - (i : Int) = (k : Int) := by omega
              have k2 := hrow.cell (i := k) (by omega)
              have k3 := hrow.frozen k
              have hkl : k < la := by omega
              have hk0 : (0 : Int) ≤ (k : Int) := by omega
              have hk1 : (k : Int) < (la : Int) := by omega
              have hrow2 := (hrow.set k (.int .i64 (hi : Int))).congr (fun j _ => quo8_step (x := x) (b := b) (k := k) (j := j) (by rw [i8, ← hq]))
              have hbel2 := hbel.setCell (p := ⟨w.heap.size, k, none⟩) (Nat.le_refl _) (.int .i64 (hi : Int))
              have HV := Lib.hid (And.intro hrow2 (And.intro hbel2 (And.intro hk (And.intro hq (And.intro hRq hRs)))))
              clear hrow2 hbel2 hk hq hRq hRs h1 h2 hlt
              go_upto_region 19 with fail
              obtain ⟨hrow2, hbel2, hk, hq, hRq, hRs⟩ := HV.out
              clear k2 k3 hrow hbel HV
              generalize wr.setCell ⟨w.heap.size, k, none⟩ (.int .i64 (hi : Int)) = v6 at *
              have hrow := hrow2
              have hbel := hbel2
              clear hrow2 hbel2
              have hm := fun W => r2one_any hi W hqd
              have ht := fun W => r2times_any b hi W (by have := HQ.out.1; omega) (Nat.le_trans (dn_byte hqd) (by omega))
              have hsub : b * hi ≤ R := by rw [Nat.mul_comm]; exact (Nat.le_div_iff_mul_le hbp).1 (by omega)
              have hs := fun W => r2Sub_any R (b * hi) W hsub (by omega)
              have hRm : R - b * hi = s8 x b k := by rw [← hRs, Nat.mod_def, hRq]
              rw [hRm] at hs
              have HZ := Lib.hid (And.intro hk hq)
              clear hk hq hRq hRs hsub hRm
              go_wp2_with fail
              refine (hm _).mono ?_
              rintro r1 v1 ⟨rfl, hb1⟩
              replace hrow := row_keep hrow hb1
              replace hbel := hbel.trans (hb1.mono hbel.size)
              clear hb1
              go_wp2_with fail
              refine (ht _).mono ?_
              rintro r1 v2 ⟨rfl, hb1⟩
              replace hrow := row_keep hrow hb1
              replace hbel := hbel.trans (hb1.mono hbel.size)
              clear hb1
              go_wp2_with fail
              refine (hs _).mono ?_
              rintro r1 v3 ⟨rfl, hb1⟩
              replace hrow := row_keep hrow hb1
              replace hbel := hbel.trans (hb1.mono hbel.size)
              clear hb1
              go_wp2
              go_roundg (la - (i + 1))
              case measure => have := Hg.out; omega
              case rel =>
                have e : la - (i + 1) = k := by have := HZ.out.1; omega
                exact ⟨i + 1, by omega, by omega, rfl, by rw [e], by go_num, by rw [e]; exact hrow, hbel⟩
      · obtain rfl : i = la := by omega
        rw [Nat.sub_self] at hrow ⊢
        rw [s8_zero]
        have hqb : x / b < 2 ^ (8 * i) := Nat.lt_of_le_of_lt (Nat.div_le_self _ _) HX.out.2.2.1
        have hs := Slc.of_row (hrow.congr (g := i8 (x / b)) (fun j _ => if_pos (Nat.zero_le j))) (Nat.le_refl _)
        have Hq := Lib.hid hqb
        clear hqb
        go_wp2_with fail
        refine (r2made_gen _ i i (x / b) _ Hq.out (by omega) hs).mono ?_
        rintro r1 v3 ⟨rfl, hb1⟩
        go_wp2
        go_ret3
        exact ⟨rfl, hbel.trans (hb1.mono hbel.size)⟩

set_option maxRecDepth 100000 in
set_option maxHeartbeats 4000000 in
theorem r2Gcd_any (x y : Nat) (w : World) (hx8 : Fil.dn 8 x ≤ 400000) (hy8 : Fil.dn 8 y ≤ 400000) :
    Calls Tryz.prog 22 #[.string (bstr x), .string (bstr y)] w fun r w' => r = .returned (.string (bstr (Nat.gcd x y))) ∧ Below w.heap.size w w' := by
  have hb := Below.refl w.heap.size w
  go_enter Tryz.func22, Tryz.ntmps22
  go_wp2
  go_loopg [0, 1] y (fun g s0 s1 wr => ∃ a : Nat, s0 = .string (bstr a) ∧ s1 = .string (bstr g) ∧ Fil.dn 8 a ≤ 400000 ∧ Fil.dn 8 g ≤ 400000 ∧ Nat.gcd a g = Nat.gcd x y ∧ Below w.heap.size w wr)
  case atStart => exact ⟨x, rfl, rfl, hx8, hy8, rfl, hb⟩
  case round =>
    clear hb
    obtain ⟨a, rfl, rfl, ha, hg, he, hbel⟩ := hrel
    by_cases h0 : gk = 0
    · subst h0
      have e1 : (bstr 0).toList = [] := bstr_nil
      rw [Nat.gcd_zero_right] at he
      subst he
      go_wp2
      go_ret
      exact ⟨rfl, hbel⟩
    · have e1 := (bstr_ne h0).1
      have e2 := (bstr_ne h0).2
      have hd := fun W => r2Div_any a gk W h0 ha hg
      have hlt := Nat.mod_lt a (Nat.pos_of_ne_zero h0)
      have hm : Fil.dn 8 (a % gk) ≤ 400000 := Nat.le_trans (dn_mono (by omega) (Nat.le_of_lt hlt)) hg
      go_wp2_with fail
      refine (hd _).mono ?_
      rintro r w1 ⟨rfl, hb1⟩
      have hB := hbel.trans (hb1.mono hbel.size)
      have HE := Lib.hid he
      clear hd hbel hb1 e1 e2 he
      go_wp2
      go_roundg (a % gk)
      case measure => exact hlt
      case rel => exact ⟨gk, rfl, rfl, hg, hm, by rw [← HE.out, Nat.gcd_comm gk, ← Nat.gcd_rec, Nat.gcd_comm], hB⟩
end Go.Proofs.YtbhfnigblhfikaaGreat

/- The reference of layer 2: ended, Mul, Add, May; the reference of layer 4: times, May. -/
namespace Go.Proofs.YtbhfnigblhfikaaGreat
open Go Go.RowKit Go.PlainAid Fil

/-- a number that may be too long -/
def endV (x : Nat) : Value := if Fil.dn 8 x ≤ 16384 then .tuple #[.string (bstr x), .int .i64 0] else .tuple #[.string { data := #[] }, .int .i64 4]
set_option maxHeartbeats 1000000 in
theorem r2ended_any (x : Nat) (w : World) (hx : Fil.dn 8 x ≤ 1099511627776) :
    Calls Tryz.prog 62 #[.string (bstr x)] w fun r w' => r = .returned (endV x) ∧ w = w' := by
  have hs := bstr_size x
  by_cases h : Fil.dn 8 x ≤ 16384
  · have e : endV x = .tuple #[.string (bstr x), .int .i64 0] := if_pos h
    rw [e]
    obtain ⟨n, hn⟩ : ∃ n, n = Fil.dn 8 x := ⟨_, rfl⟩
    rw [← hn] at hs h hx
    clear e hn
    go_enter Tryz.func62, Tryz.ntmps62
    go_wp2
    go_returns
    exact ⟨rfl, rfl⟩
  · have e : endV x = .tuple #[.string { data := #[] }, .int .i64 4] := if_neg h
    rw [e]
    obtain ⟨n, hn⟩ : ∃ n, n = Fil.dn 8 x := ⟨_, rfl⟩
    rw [← hn] at hs h hx
    clear e hn
    go_enter Tryz.func62, Tryz.ntmps62
    go_wp2
    go_returns
    exact ⟨rfl, rfl⟩
theorem endV_parts (x : Nat) : ∃ (S : ByteArray) (e : Int), endV x = .tuple #[.string S, .int .i64 e] := by
  unfold endV
  split
  · exact ⟨_, _, rfl⟩
  · exact ⟨_, _, rfl⟩
theorem endV_fit {x : Nat} (h : Fil.dn 8 x ≤ 16384) : endV x = .tuple #[.string (bstr x), .int .i64 0] := if_pos h
theorem endV_long {x : Nat} (h : ¬ Fil.dn 8 x ≤ 16384) : endV x = .tuple #[.string { data := #[] }, .int .i64 4] := if_neg h
theorem dn_mul_ge {x y : Nat} (hx : x ≠ 0) (hy : y ≠ 0) : Fil.dn 8 x + Fil.dn 8 y ≤ Fil.dn 8 (x * y) + 1 := by
  have h1 := le_dn (k := 8) x hx
  have h2 := le_dn (k := 8) y hy
  have h3 := Nat.mul_le_mul h1 h2
  rw [← Nat.pow_add, ← Nat.mul_add] at h3
  have h4 := dn_ge (k := 8) (by omega) h3
  have h5 := dn_pos (k := 8) hx
  have h6 := dn_pos (k := 8) hy
  omega
set_option maxHeartbeats 2000000 in
theorem r2Mul_any (x y : Nat) (w : World) (hx : Fil.dn 8 x ≤ 400000) (hy : Fil.dn 8 y ≤ 400000) (h : x ≠ 0 ∧ y ≠ 0 ∨ Fil.dn 8 x + Fil.dn 8 y ≤ 16385) :
    Calls Tryz.prog 77 #[.string (bstr x), .string (bstr y)] w fun r w' => r = .returned (endV (x * y)) ∧ Below w.heap.size w w' := by
  have hsx := bstr_size x
  have hsy := bstr_size y
  have ht := fun W => r2times_any x y W (by omega) (by omega)
  have he := fun W => r2ended_any (x * y) W (Nat.le_trans (mul_dn hx hy) (by omega))
  have hlong : 16385 < Fil.dn 8 x + Fil.dn 8 y → endV (x * y) = .tuple #[.string { data := #[] }, .int .i64 4] := fun hl => by
    refine endV_long ?_
    rcases h with ⟨h1, h2⟩ | h
    · have := dn_mul_ge h1 h2; omega
    · omega
  obtain ⟨S, E, hE⟩ := endV_parts (x * y)
  rw [hE] at hlong he ⊢
  obtain ⟨n, hn⟩ : ∃ n, n = Fil.dn 8 x := ⟨_, rfl⟩
  obtain ⟨m, hm⟩ : ∃ m, m = Fil.dn 8 y := ⟨_, rfl⟩
  rw [← hn] at hsx hx hlong
  rw [← hm] at hsy hy hlong
  have HL := Lib.hid hlong
  have hb := Below.refl w.heap.size w
  clear hn hm h hE hlong
  by_cases hl : 16385 < n + m
  · have e := Lib.hid (HL.out hl)
    clear ht he HL
    go_enter Tryz.func77, Tryz.ntmps77
    go_wp2
    go_returns
    exact ⟨by rw [e.out]; rfl, hb⟩
  · clear HL
    go_enter Tryz.func77, Tryz.ntmps77
    go_wp2_with fail
    refine (ht _).mono ?_
    rintro r w1 ⟨rfl, hb1⟩
    clear ht
    go_wp2_with fail
    refine (he _).mono ?_
    rintro r w1 ⟨rfl, rfl⟩
    clear he
    go_wp2
    go_returns
    exact ⟨rfl, hb1⟩
set_option maxHeartbeats 2000000 in
theorem r2May_any (s : ByteArray) (w : World) (hs : s.size ≤ 9223372036854775807) :
    Calls Tryz.prog 21 #[.string s] w fun r w' => r = .returned (.bool (natB s)) ∧ w = w' := by
  by_cases h1 : s.size ≤ 16384
  · by_cases h0 : s.size = 0
    · have e : natB s = true := by unfold natB; rw [h0]; rfl
      have h2 := str_nil h0
      have HE := Lib.hid e
      have t1 : (s.size : Int) ≤ 16384 := by omega
      clear e h0
      go_enter Tryz.func21, Tryz.ntmps21
      go_wp2
      go_ret
      exact ⟨by rw [HE.out]; rfl, rfl⟩
    · have h3 := str_cons (s := s) (by omega)
      have h4 : s.toList ≠ [] := by intro h; rw [h] at h3; cases h3
      have h5 : 0 < s.size := by omega
      have hb := get_bt s
      have hz : natB s = !(bt s 0 == 0) := by unfold natB; rw [decide_eq_true h1, decide_eq_false h0]; rfl
      have HE := Lib.hid hz
      have h6 : (s.size : Int) ≤ 16384 := by omega
      have h7 : (0 : Int) < (s.size : Int) := by omega
      clear hz
      go_enter Tryz.func21, Tryz.ntmps21
      go_wp2
      go_ret
      exact ⟨by rw [HE.out]; rfl, rfl⟩
  · have HE := Lib.hid (natB_len h1)
    have h2 : ¬ (s.size : Int) ≤ 16384 := by omega
    go_enter Tryz.func21, Tryz.ntmps21
    go_wp2
    go_ret
    exact ⟨by rw [HE.out]; rfl, rfl⟩
set_option maxHeartbeats 1000000 in
theorem p4times_any (x y : Nat) (w : World) (h : Fil.dn 8 x + Fil.dn 8 y ≤ 16384) :
    Calls Tryz.prog 44 #[.string (bstr x), .string (bstr y)] w fun r w' => r = .returned (.string (bstr (x * y))) ∧ Below w.heap.size w w' := by
  have hm := fun W => r2Mul_any x y W (by omega) (by omega) (.inr (by omega))
  rw [endV_fit (Nat.le_trans (mul_dn (Nat.le_refl _) (Nat.le_refl _)) h)] at hm
  go_enter Tryz.func44, Tryz.ntmps44
  go_wp2_with fail
  refine (hm _).mono ?_
  rintro r w1 ⟨rfl, hb1⟩
  clear hm
  go_wp2
  go_ret
  exact ⟨rfl, hb1⟩
end Go.Proofs.YtbhfnigblhfikaaGreat

/- The reference of layer 4: Lowest, Neg, Add, Mul, Quo, Compare, by letters. -/
namespace Go.Proofs.YtbhfnigblhfikaaGreat
open Go Go.RowKit Go.PlainAid Fil

set_option maxRecDepth 100000 in
set_option maxHeartbeats 8000000 in
theorem p4lowest_w (N : Bool) (P Q G U V E1 E2 : ByteArray) (w : World) (hP : P.toList.isEmpty = false) (_hP2 : P.toList ≠ []) (h1 : ∀ W, Calls Tryz.prog 22 #[.string P, .string Q] W fun r w' => r = .returned (.string G) ∧ Below W.heap.size W w') (h2 : ∀ W, Calls Tryz.prog 57 #[.string P, .string G] W fun r w' => r = .returned (.tuple #[.string U, .string E1, .int .i64 0]) ∧ Below W.heap.size W w') (h3 : ∀ W, Calls Tryz.prog 57 #[.string Q, .string G] W fun r w' => r = .returned (.tuple #[.string V, .string E2, .int .i64 0]) ∧ Below W.heap.size W w') :
    Calls Tryz.prog 43 #[.bool N, .string P, .string Q] w fun r w' => r = .returned (.agg #[.bool N, .string U, .string V]) ∧ Below w.heap.size w w' := by
  go_enter Tryz.func43, Tryz.ntmps43
  have B0 := Below.refl w.heap.size w
  have q_w_F6 : Hid (w.heap.size ≤ w.heap.size) := Lib.hid (by omega)
  have F6 := Blk.put (w) #[.bool false, .string { data := #[] }, .string { data := #[] }] 24
  replace B0 := B0.alloc B0.size (.cells #[.bool false, .string { data := #[] }, .string { data := #[] }] 24)
  go_wp2_with fail
  (with_reducible refine (h1 _).mono ?_)
  rintro r w1 ⟨rfl, hb1⟩
  replace F6 := F6.keep hb1
  replace B0 := B0.trans (hb1.mono B0.size)
  clear hb1
  go_wp2_with fail
  (with_reducible refine (h2 _).mono ?_)
  rintro r w2 ⟨rfl, hb2⟩
  replace F6 := F6.keep hb2
  replace B0 := B0.trans (hb2.mono B0.size)
  clear hb2
  go_wp2_with fail
  (with_reducible refine (h3 _).mono ?_)
  rintro r w3 ⟨rfl, hb3⟩
  replace F6 := F6.keep hb3
  replace B0 := B0.trans (hb3.mono B0.size)
  clear hb3
  obtain ⟨xF63_0, xF63_1, xF63_2⟩ := F6.ce3
  obtain ⟨xF63_0f, xF63_1f, xF63_2f⟩ := F6.fr3
  replace F6 : Blk ((((w3).setCell ⟨w.heap.size, 0, none⟩ (.bool N)).setCell ⟨w.heap.size, 1, none⟩ (.string U)).setCell ⟨w.heap.size, 2, none⟩ (.string V)) (w.heap.size) #[.bool N, .string U, .string V] 24 := (((F6.setAt 0 (.bool N)).setAt 1 (.string U)).setAt 2 (.string V))
  replace B0 := (((B0.setCell (p := ⟨w.heap.size, 0, none⟩) q_w_F6.out (.bool N)).setCell (p := ⟨w.heap.size, 1, none⟩) q_w_F6.out (.string U)).setCell (p := ⟨w.heap.size, 2, none⟩) q_w_F6.out (.string V))
  obtain ⟨xF64_0, xF64_1, xF64_2⟩ := F6.ce3
  go_wp2
  exact bodyPost_ret (v := .agg #[.bool N, .string U, .string V]) (by simp [results, Tryz.results43, go_sem, xF64_0, xF64_1, xF64_2]) rfl ⟨rfl, B0⟩
set_option maxRecDepth 100000 in
set_option maxHeartbeats 8000000 in
theorem p4lowest_0 (N : Bool) (P Q : ByteArray) (w : World) (hP : P.toList = []) :
    Calls Tryz.prog 43 #[.bool N, .string P, .string Q] w fun r w' => r = .returned (.agg #[.bool false, .string { data := #[] }, .string { data := #[1] }]) ∧ Below w.heap.size w w' := by
  have F := Blk.put w #[.bool false, .string { data := #[] }, .string { data := #[1] }] 24
  have B0 := (Below.refl w.heap.size w).alloc (Nat.le_refl _) (.cells #[.bool false, .string { data := #[] }, .string { data := #[1] }] 24)
  obtain ⟨c0, c1, c2⟩ := F.ce3
  clear F
  go_enter Tryz.func43, Tryz.ntmps43
  go_wp2
  exact bodyPost_ret (v := .agg #[.bool false, .string { data := #[] }, .string { data := #[1] }]) (by simp [results, Tryz.results43, go_sem, c0, c1, c2]) rfl ⟨rfl, B0⟩
end Go.Proofs.YtbhfnigblhfikaaGreat

/- Merged: R8 R9 -/
/- The reference of layer 4: May, Lowest, Add, Mul, Quo, Compare, Neg of ratios. -/
namespace Go.Proofs.YtbhfnigblhfikaaGreat
open Go Go.RowKit Go.PlainAid Fil

set_option maxRecDepth 100000 in
set_option maxHeartbeats 4000000 in
theorem p4may_any (N : Bool) (S T : ByteArray) (w : World) (fS : S.size ≤ 9223372036854775807) (fT : T.size ≤ 9223372036854775807) :
    Calls Tryz.prog 7 #[.agg #[.bool N, .string S, .string T]] w fun r w' => r = .returned (.bool (kMayB N S T)) ∧ Below w.heap.size w w' := by
  have hm1 := fun W => r2May_any S W fS
  have hm2 := fun W => r2May_any T W fT
  have F := Blk.put w #[.bool N, .string S, .string T] 24
  have hb := (Below.refl w.heap.size w).alloc (Nat.le_refl _) (.cells #[.bool N, .string S, .string T] 24)
  obtain ⟨c0, c1, c2⟩ := F.ce3
  clear F
  cases hS : natB S
  · have HE : Hid (kMayB N S T = false) := Lib.hid (by unfold kMayB; rw [hS]; rfl)
    rw [hS] at hm1
    clear hm2 hS fS fT
    go_enter Tryz.func7, Tryz.ntmps7
    go_wp2_with fail
    go_quiet (fail)
    go_wp2_with fail
    refine (hm1 _).mono ?_
    rintro r w1 ⟨rfl, rfl⟩
    clear hm1
    go_wp2
    go_ret
    exact ⟨by rw [HE.out]; rfl, Below.drewN' hb _⟩
  · rw [hS] at hm1
    cases hT : natB T
    · have HE : Hid (kMayB N S T = false) := Lib.hid (by unfold kMayB; rw [hS, hT]; rfl)
      rw [hT] at hm2
      clear hS hT fS fT
      go_enter Tryz.func7, Tryz.ntmps7
      go_wp2_with fail
      go_quiet (fail)
      go_wp2_with fail
      refine (hm1 _).mono ?_
      rintro r w1 ⟨rfl, rfl⟩
      go_wp2_with fail
      refine (hm2 _).mono ?_
      rintro r w1 ⟨rfl, rfl⟩
      clear hm1 hm2
      go_wp2
      go_ret
      exact ⟨by rw [HE.out]; rfl, Below.drewN' hb _⟩
    · rw [hT] at hm2
      by_cases h0 : T.size = 0
      · have HE : Hid (kMayB N S T = false) := Lib.hid (by unfold kMayB; rw [hS, hT, decide_eq_true h0]; rfl)
        have h1 := str_nil h0
        clear hS hT fS fT h0
        go_enter Tryz.func7, Tryz.ntmps7
        go_wp2_with fail
        go_quiet (fail)
        go_wp2_with fail
        refine (hm1 _).mono ?_
        rintro r w1 ⟨rfl, rfl⟩
        go_wp2_with fail
        refine (hm2 _).mono ?_
        rintro r w1 ⟨rfl, rfl⟩
        clear hm1 hm2
        go_wp2
        go_ret
        exact ⟨by rw [HE.out]; rfl, Below.drewN' hb _⟩
      · have t1 := str_cons (s := T) (by omega)
        have t2 : T.toList ≠ [] := by intro h; rw [h] at t1; cases t1
        by_cases s0 : S.size = 0
        · have u1 := str_nil s0
          cases hone : (T.toList == [1])
          · have HE : Hid (kMayB N S T = false) := Lib.hid (by
              unfold kMayB; rw [hS, hT, decide_eq_false h0, if_pos s0, decide_eq_false (beq_eq_false_iff_ne.1 hone)]; simp)
            clear hS hT fS fT h0 s0
            go_enter Tryz.func7, Tryz.ntmps7
            go_wp2_with fail
            go_quiet (fail)
            go_wp2_with fail
            refine (hm1 _).mono ?_
            rintro r w1 ⟨rfl, rfl⟩
            go_wp2_with fail
            refine (hm2 _).mono ?_
            rintro r w1 ⟨rfl, rfl⟩
            clear hm1 hm2
            go_wp2
            go_ret
            exact ⟨by rw [HE.out]; rfl, Below.drewN' hb _⟩
          · have HE : Hid (kMayB N S T = !N) := Lib.hid (by
              unfold kMayB; rw [hS, hT, decide_eq_false h0, if_pos s0, decide_eq_true (beq_iff_eq.1 hone)]; simp)
            clear hS hT fS fT h0 s0
            go_enter Tryz.func7, Tryz.ntmps7
            go_wp2_with fail
            go_quiet (fail)
            go_wp2_with fail
            refine (hm1 _).mono ?_
            rintro r w1 ⟨rfl, rfl⟩
            go_wp2_with fail
            refine (hm2 _).mono ?_
            rintro r w1 ⟨rfl, rfl⟩
            clear hm1 hm2
            go_wp2
            go_ret
            exact ⟨by rw [HE.out]; rfl, Below.drewN' hb _⟩
        · have u1 := str_cons (s := S) (by omega)
          have u2 : S.toList ≠ [] := by intro h; rw [h] at u1; cases u1
          obtain ⟨n, rfl, hn⟩ := nat_of_natB hS
          obtain ⟨d, rfl, hd⟩ := nat_of_natB hT
          have hg := fun W => r2Gcd_any n d W (by omega) (by omega)
          have HE : Hid (kMayB N (bstr n) (bstr d) = (Nat.gcd n d == 1)) := Lib.hid (by
            unfold kMayB; rw [hS, hT, decide_eq_false h0, if_neg s0, nb_bstr, nb_bstr]; simp)
          have HG : Hid (((bstr (Nat.gcd n d)).toList == [1]) = (Nat.gcd n d == 1)) := Lib.hid (by
            by_cases h : Nat.gcd n d = 1
            · rw [h]; rw [bstr_eq_one.2 rfl]; rfl
            · rw [beq_eq_false_iff_ne.2 h, beq_eq_false_iff_ne]; exact fun e => h (bstr_eq_one.1 e))
          generalize bstr (Nat.gcd n d) = G at *
          generalize bstr n = S at *
          generalize bstr d = T at *
          generalize Nat.gcd n d = g at *
          obtain ⟨X, hX⟩ : ∃ X, X = (g == 1) := ⟨_, rfl⟩
          rw [← hX] at HE HG
          have e1 := HG.out
          clear hS hT fS fT h0 s0 hX HG
          go_enter Tryz.func7, Tryz.ntmps7
          go_wp2_with fail
          go_quiet (fail)
          go_wp2_with fail
          refine (hm1 _).mono ?_
          rintro r w1 ⟨rfl, rfl⟩
          go_wp2_with fail
          refine (hm2 _).mono ?_
          rintro r w1 ⟨rfl, rfl⟩
          clear hm1 hm2
          go_wp2_with fail
          refine (hg _).mono ?_
          rintro r w1 ⟨rfl, hb1⟩
          have hb2 := (Below.drewN' hb _).trans (hb1.mono (Below.drewN' hb _).size)
          clear hg hb1 hb
          go_wp2
          go_ret
          exact ⟨by rw [HE.out]; rfl, hb2⟩
end Go.Proofs.YtbhfnigblhfikaaGreat

/- The reference of layer 4 over ratios: Lowest, Neg, Add, Mul, Quo, Compare. -/
namespace Go.Proofs.YtbhfnigblhfikaaGreat
open Go Go.RowKit Go.PlainAid Fil

theorem kA_zero : kA 0 = .agg #[.bool false, .string { data := #[] }, .string { data := #[1] }] := by
  unfold kA
  rw [show (0 : Rat).num = 0 from rfl, show (0 : Rat).den = 1 from rfl, bstr_one, show (0 : Int).natAbs = 0 from rfl, bstr_zero]
  rfl
theorem p4lowest_any (N : Bool) (n d : Nat) (w : World) (hd : d ≠ 0) (hn8 : Fil.dn 8 n ≤ 300000) (hd8 : Fil.dn 8 d ≤ 300000) :
    Calls Tryz.prog 43 #[.bool N, .string (bstr n), .string (bstr d)] w fun r w' => r = .returned (kA (Rat.divInt (sz N n) (d : Int))) ∧ Below w.heap.size w w' := by
  by_cases h0 : n = 0
  · subst h0
    rw [sz_zero, Rat.zero_divInt, kA_zero]
    exact p4lowest_0 N _ _ w bstr_nil
  · have hg0 : Nat.gcd n d ≠ 0 := fun h => hd (Nat.eq_zero_of_gcd_eq_zero_right h)
    have hgn : Fil.dn 8 (Nat.gcd n d) ≤ 300000 := Nat.le_trans (dn_mono (by omega) (Nat.gcd_le_right n (Nat.pos_of_ne_zero hd))) hd8
    have h := p4lowest_w N (bstr n) (bstr d) (bstr (Nat.gcd n d)) (bstr (n / Nat.gcd n d)) (bstr (d / Nat.gcd n d)) _ _ w (bstr_ne h0).1 (bstr_ne h0).2 (fun W => r2Gcd_any n d W (by omega) (by omega)) (fun W => r2Div_any n (Nat.gcd n d) W hg0 (by omega) (by omega)) (fun W => r2Div_any d (Nat.gcd n d) W hg0 (by omega) (by omega))
    have hdi : (d : Int) ≠ 0 := by omega
    have e1 := norm_num (sz N n) (d : Int) hdi
    have e2 := norm_den (sz N n) (d : Int) hdi
    rw [sz_abs, Int.natAbs_natCast] at e1 e2
    have e3 : sg (d : Int) = false := by unfold sg; exact decide_eq_false (by omega)
    rw [sg_sz h0, e3, show (!(N == false)) = N by cases N <;> rfl] at e1
    have hq : n / Nat.gcd n d ≠ 0 := by
      have h1 := Nat.gcd_le_left d (Nat.pos_of_ne_zero h0)
      have := Nat.div_pos h1 (Nat.pos_of_ne_zero hg0)
      omega
    unfold kA
    rw [← e1, ← e2, sz_abs, sg_sz hq]
    exact h
theorem num_sz (x : Rat) : x.num = sz (sg x.num) x.num.natAbs := (sz_self _).symm
theorem sz_mul_nat (N : Bool) (a d : Nat) : sz N a * (d : Int) = sz N (a * d) := by cases N <;> simp [sz, Int.neg_mul]
theorem sz_mul_sz (a b : Bool) (x y : Nat) : sz a x * sz b y = sz (!(a == b)) (x * y) := by cases a <;> cases b <;> simp [sz, Int.neg_mul, Int.mul_neg]
end Go.Proofs.YtbhfnigblhfikaaGreat

/- The reference of layer 2: Text. -/
namespace Go.Proofs.YtbhfnigblhfikaaGreat
open Go Go.RowKit Go.PlainAid Fil

theorem Own.row {w : World} {B : Nat} {v : Value} {n : Nat} {f : Nat → Int} (h : Own w B v n f) (h0 : 0 < n) : ∃ (g cap : Nat) (F : Nat → Value), v = .slice (some ⟨g, 0, none⟩) n cap ∧ B ≤ g ∧ g < w.heap.size ∧ n ≤ cap ∧ w.rowIs g 3 cap F ∧ ∀ (j : Nat), j < n → F j = .int .i64 (f j) := by
  rcases h.2 with ⟨rfl, rfl⟩ | ⟨g, cap, cur, rfl, hB, hh, hc, _, hs, ht⟩
  · omega
  · refine ⟨g, cap, fun j => cur.getD j undef, rfl, hB, lt_of_heap hh, hc, ⟨cur, hh, by simpa using hs, fun i hi => ?_⟩, fun j hj => ?_⟩
    · have : i < cur.size := by rw [show cur.size = cap by simpa using hs]; exact hi
      simp [this]
    · have h1 : (cur.toList.take (n * 1))[j]? = ((List.range n).map fun i => Value.int .i64 (f i))[j]? := by rw [ht]
      rw [List.getElem?_take_of_lt (by omega), List.getElem?_map, List.getElem?_range hj] at h1
      have h2 : cur[j]? = some (.int .i64 (f j)) := by simpa using h1
      show cur.getD j undef = _
      rw [Array.getD_eq_getD_getElem?, h2]; rfl
theorem OwnB.out {w : World} {B : Nat} {v : Value} {l : List UInt8} (h : OwnB w B v l) {g o : Nat} (hg : g < B) (u : Value) : OwnB (w.setCell ⟨g, o, none⟩ u) B v l := by
  refine ⟨?_, ?_⟩
  · exact h.1
  rcases h.2 with h2 | ⟨k, cap, cur, hv, hk, hh, hr⟩
  · exact .inl h2
  · exact .inr ⟨k, cap, cur, hv, hk, (Below.heap_setCell _ _ _ _ (by show k ≠ g; omega)).trans hh, hr⟩
/-- the row of digits: from digit k on those of a tenth -/
def ten8 (y k j : Nat) : Value := if k ≤ j then i8 (y / 10) j else i8 y j
theorem ten8_at (y k : Nat) : ten8 y (k + 1) k = i8 y k := if_neg (by omega)
theorem ten8_zero (y j : Nat) : ten8 y 0 j = i8 (y / 10) j := if_pos (by omega)
theorem ten8_step {y k j : Nat} {v : Value} (hv : v = i8 (y / 10) k) : (if j = k then v else ten8 y (k + 1) j) = ten8 y k j := by
  unfold ten8
  by_cases e : j = k
  · subst e; rw [if_pos rfl, if_pos (Nat.le_refl _), hv]
  · rw [if_neg e]
    by_cases h : k + 1 ≤ j
    · rw [if_pos h, if_pos (by omega)]
    · rw [if_neg h, if_neg (by omega)]
set_option maxRecDepth 1000000 in
set_option maxHeartbeats 8000000 in
theorem r2text_any (x : Nat) (w : World) (hz : Fil.dn 8 x ≤ 1048576) :
    Calls Tryz.prog 23 #[.string (bstr x)] w fun e w' => e = .returned (.string ⟨(dtx x).toArray⟩) ∧ Below w.heap.size w w' := by
  by_cases hx : x = 0
  · subst hx
    rw [bstr_zero]
    have hb := Below.refl w.heap.size w
    go_enter Tryz.func23, Tryz.ntmps23
    go_wp2
    go_ret
    exact ⟨rfl, hb⟩
  have hd1 := fun W => r2digits_any x W hz
  obtain ⟨n, hn⟩ : ∃ n, n = Fil.dn 8 x := ⟨_, rfl⟩
  have hn0 : 0 < n := by rw [hn]; exact dn_pos hx
  have e1 := (bstr_ne hx).1
  have e2 := (bstr_ne hx).2
  have hlen : (decs x).length ≤ 4 * n := by
    refine decs_length_le _ _ (Nat.lt_of_lt_of_le (lt_of_dn (k := 8) (n := n) (by omega) (by omega)) ?_)
    rw [Nat.pow_mul, Nat.pow_mul]
    exact Nat.pow_le_pow_left (by decide) _
  have hne : decs x ≠ [] := by rw [decs_pos hx]; simp
  have hdt : dtx x = (decs x).reverse := by unfold dtx; rw [if_neg hx]
  rw [hdt]
  simp only [← hn] at hd1 hz
  obtain ⟨X, hX⟩ : ∃ X, X = decs x := ⟨_, rfl⟩
  rw [← hX] at hlen hne ⊢
  obtain ⟨i0, hi, hp⟩ := Option.map_eq_some_iff.1 Tryz.info5
  have hz0 : i0.zero = some (.int .u8 0) := congrArg Prod.fst hp
  have hz1 : i0.size = 1 := congrArg (fun q => q.2.1) hp
  have hz2 : i0.bytes = 1 := congrArg (fun q => q.2.2) hp
  have HX := Lib.hid (And.intro hX (And.intro hne (And.intro hlen hn)))
  have B0 := Below.refl w.heap.size w
  clear hX hne hlen hn hx hdt hp
  go_enter Tryz.func23, Tryz.ntmps23
  go_wp2_with fail
  refine (hd1 _).mono ?_
  rintro r w1 ⟨v1, rfl, ho1, hb1⟩
  obtain ⟨g, cap, F0, rfl, hg0, hg1, hnc, hrow, hF⟩ := ho1.row hn0
  replace B0 := B0.trans (hb1.mono B0.size)
  clear ho1 hb1 hd1 hn0
  have HB := Lib.hid (And.intro hg0 hg1)
  clear hg0 hg1
  go_wp2
  go_loopg [4, 5, 6, 7] x (fun y s4 s5 s6 s7 wr => ∃ (l : List UInt8) (v : Value) (m : Nat) (F : Nat → Value), m = Fil.dn 8 y ∧ m ≤ n ∧ v = s4 ∧ s5 = .int .i64 m ∧ OwnB wr w1.heap.size v l ∧ l ++ decs y = X ∧ wr.rowIs g 3 cap F ∧ (∀ j, j < m → F j = i8 y j) ∧ w1.heap.size ≤ wr.heap.size ∧ Below w.heap.size w wr)
  case atStart => exact ⟨[], _, n, F0, HX.out.2.2.2, Nat.le_refl _, rfl, rfl, OwnB.nil _ _, HX.out.1.symm, hrow, hF, Nat.le_refl _, B0⟩
  case round =>
    clear hrow hF B0
    obtain ⟨l, v, m, F, hm, hmn, rfl, rfl, hown, hl, hrow, hF, hws, hbel⟩ := hrel
    by_cases hy : gk = 0
    · subst hy
      rw [dn_zero] at hm
      subst hm
      rw [decs_zero, List.append_nil] at hl
      subst hl
      obtain ⟨b, cb, f, rfl, hB, hc, hrw, hf⟩ := hown.row HX.out.2.1
      obtain ⟨L, hL⟩ : ∃ L, L = l.length := ⟨_, rfl⟩
      have hLb : L ≤ 4 * n := by rw [hL]; exact HX.out.2.2.1
      have hu : ∀ j, j < L → ∃ x : Nat, f j = .int .u8 x := fun j hj => ⟨_, hf j (by omega)⟩
      rw [← hL] at hc ⊢
      have HF := Lib.hid (And.intro hf (And.intro hL (And.intro hmn hF)))
      have hwb : w.heap.size ≤ b := Nat.le_trans HB.out.1 (Nat.le_trans (Nat.le_of_lt HB.out.2) hB)
      clear hf hL hown hrow hF hmn
      go_wp2
      go_loopg [8, 9, 10] L (fun gg s8 s9 s10 wi => ∃ i : Nat, i ≤ L ∧ gg = L - i ∧ s8 = .int .i64 i ∧ s9 = .int .i64 ((L : Int) - 1 - i) ∧ wi.rowIs b 5 cb (rvs f L i) ∧ Below w.heap.size w wi)
      case atStart => exact ⟨0, by omega, by omega, rfl, by go_num, hrw.congr (fun j _ => (rvs_zero _ _ _).symm), hbel⟩
      case round =>
        clear hrw hbel
        obtain ⟨i, hi2, hgg, rfl, rfl, hrw, hbel⟩ := hrel
        by_cases hlt : i + i + 1 < L
        · obtain ⟨k, hk⟩ : ∃ k, k = L - 1 - i := ⟨_, rfl⟩
          have hkc : (L : Int) - 1 - i = (k : Int) := by omega
          have c1 := hrw.cell (i := i) (by omega)
          have c2 := hrw.cell (i := L - 1 - i) (by omega)
          have f1 := hrw.frozen i
          have f2 := hrw.frozen (L - 1 - i)
          rw [rvs_lo hlt] at c1
          rw [rvs_hi hlt, ← hk] at c2
          rw [← hk] at f2
          obtain ⟨p, hp⟩ := hu i (by omega)
          obtain ⟨q, hq⟩ := hu k (by omega)
          rw [hp] at c1
          rw [hq] at c2
          rw [hkc]
          have hik : i < k := by omega
          have hkn : k < L := by omega
          have hne : ¬ i = k := by omega
          have hin : i < L := by omega
          have Hk := Lib.hid (And.intro hk (And.intro hlt (And.intro hgg (And.intro hp hq))))
          clear hk hkc hlt hgg hp hq hu
          go_wp2
          go_roundg (L - (i + 1))
          case measure => have := Hk.out; omega
          case rel =>
            refine ⟨i + 1, by omega, rfl, by go_num, congrArg (Value.int IntKind.i64) (by have := Hk.out; omega), ((hrw.set i _).set k _).congr (fun j _ => ?_), ((hbel.setCell hwb _).setCell hwb _)⟩
            rw [← rvs_step Hk.out.2.1, ← Hk.out.1, Hk.out.2.2.2.1, Hk.out.2.2.2.2]
        · have hlt' : ¬ (i : Int) < (L : Int) - 1 - i := by omega
          have Hl := Lib.hid hlt
          have hcv := fun C => run_text wr b C cb l.reverse (rvs f L i) hrw (by rw [List.length_reverse]; have := HF.out.2.1; omega) (fun j hj => by
            have hj' : j < l.length := by simpa using hj
            have hL := HF.out.2.1
            rw [rvs_all (by have := Hl.out; omega), if_pos (by omega), HF.out.1 _ (by omega), List.getElem_reverse]
            simp only [hL])
          rw [List.length_reverse, ← HF.out.2.1] at hcv
          clear hlt hgg hu hrw
          go_wp2
          go_ret
          exact ⟨rfl, hbel⟩
    · obtain ⟨y, rfl⟩ : ∃ y, y = gk := ⟨_, rfl⟩
      have hm0 : 0 < m := by rw [hm]; exact dn_pos hy
      have hy1 : y / 10 < y := Nat.div_lt_self (by omega) (by decide)
      have hym : y < 2 ^ (8 * m) := by rw [hm]; exact lt_dn (by omega) y
      rw [decs_pos hy] at hl
      have HL := Lib.hid (And.intro hl (And.intro hm (And.intro hy hy1)))
      have HY := Lib.hid hym
      clear hl hm hy hy1 hym
      go_wp2
      obtain ⟨wo, rfl⟩ : ∃ wo : World, wo = wr := ⟨_, rfl⟩
      go_loopg [6, 7] (m + 1) (fun gg s6 s7 wi => ∃ k : Nat, k ≤ m ∧ gg = k + 1 ∧ s6 = .int .i64 (s8 y 10 k) ∧ s7 = .int .i64 ((k : Int) - 1) ∧ wi.rowIs g 3 cap (fun j => if j < m then ten8 y k j else F j) ∧ OwnB wi w1.heap.size v l ∧ w1.heap.size ≤ wi.heap.size ∧ Below w.heap.size w wi)
      case atStart => exact ⟨m, Nat.le_refl _, rfl, by rw [s8_top HY.out]; rfl, by go_num, hrow.congr (fun j _ => by
        by_cases h : j < m
        · rw [if_pos h, hF j h]; exact (if_neg (by omega)).symm
        · rw [if_neg h]), hown, hws, hbel⟩
      case round =>
        clear hrow hown hbel hws
        obtain ⟨k, hkm, hgg, rfl, rfl, hrow, hown, hws, hbel⟩ := hrel
        rcases Nat.eq_zero_or_pos k with rfl | hk0
        · -- the round's last step: a digit is told
          obtain ⟨d, hd⟩ : ∃ d, d = s8 y 10 0 := ⟨_, rfl⟩
          have hdy : d = y % 10 := by rw [hd, s8_zero]
          have hd10 : d < 10 := by omega
          rw [← hd]
          have hch : ((UInt8.ofNat (48 + y % 10)).toNat : Int) = 48 + (d : Int) := by rw [dig_char, hdy]; omega
          have hll : l.length < 4 * n := by
            have h1 := HX.out.2.2.1
            rw [← HL.out.1, List.length_append, List.length_cons] at h1
            omega
          have hl2 := HL.out.1
          generalize UInt8.ofNat (48 + y % 10) = C at *
          obtain ⟨q, hq⟩ : ∃ q, q = 48 + d := ⟨_, rfl⟩
          have eq4 : (48 : Int) + (d : Int) = (q : Int) := by omega
          have hqb : q < 256 := by omega
          have hch2 : (C.toNat : Int) = (q : Int) := by rw [hch, eq4]
          have hbs := hbel.size
          have hrow0 : wr.rowIs g 3 cap (fun j => if j < m then i8 (y / 10) j else F j) := hrow.congr (fun j _ => by
            by_cases h : j < m
            · rw [if_pos h, if_pos h, ten8_zero]
            · rw [if_neg h, if_neg h])
          have Hk := Lib.hid (And.intro hl2 (And.intro hch2 (And.intro hgg hll)))
          have HQ := Lib.hid (And.intro hd (And.intro hdy hd10))
          have e1 : ((0 : Nat) : Int) - 1 = -1 := rfl
          rw [e1]
          clear hl2 hch2 hgg hll hd hdy hd10 hq hch hrow HY e1
          go_wp2_with (at_builtin; refine wpList_append_own _ rfl _ _ 96 rfl w1.heap.size 5 i0 (.int .u8 0) 1 1 Tryz.underlying96 hi hz0 hz1 hz2 rfl (by decide) _ _ _ rfl (by exact hown.alloc _) ⟨wr.heap.size, 0, none⟩ 1 1 [.int .u8 (q : Int)] rfl rfl ?c1 ?c2 ?c3 ?c4 ?c5 ?_)
          case c1 =>
            intro j u hj
            match j, hj with
            | 0, hj => simp at hj; subst hj; simp [Addr.add]
          case c2 => intro u hu; simp at hu; subst hu; rfl
          case c3 => have := Hk.out.2.2.2; unfold maxLen; omega
          case c4 => have := Hk.out.2.2.2; omega
          case c5 => simp; omega
          · intro v' w2 hown' hgrow _
            have hb2 := (hbel.alloc hbs (.cells #[.int .u8 (q : Int)] 5)).grown hgrow (by simp; omega) (fun k hk => by have := (hown.lt k hk).1; have := HB.out; omega)
            have hrow2 : w2.rowIs g 3 cap (fun j => if j < m then i8 (y / 10) j else F j) := hrow0.of_block ((hgrow.block g (by have := hrow0.lt; simp; omega) (fun e => by have h1 := (hown.lt g e.symm).1; have h2 := HB.out.2; omega)).trans (Below.heap_alloc _ _ _ hrow0.lt))
            have hown2 : OwnB w2 w1.heap.size v' (l ++ [C]) := by
              have e : (l ++ [C]).length = l.length + 1 := by simp
              rw [← Hk.out.2.1, map_snoc] at hown'
              unfold OwnB
              rw [e]; exact hown'
            have hws2 : w1.heap.size ≤ w2.heap.size := by have := hgrow.size; simp at this; omega
            clear hown hown' hgrow hbel hrow0 hws
            go_wp2
            obtain ⟨z, hz⟩ : ∃ z, z = y / 10 := ⟨_, rfl⟩
            rw [← hz] at hrow2
            have HZ := Lib.hid hz
            have hz10 : Fil.dn 8 z ≤ m := by rw [hz, HL.out.2.1]; exact dn_mono (by omega) (Nat.div_le_self _ _)
            clear hz
            go_loopg [5] (m + 1) (fun gg s5 wl => ∃ p : Nat, gg = p + 1 ∧ Fil.dn 8 z ≤ p ∧ p ≤ m ∧ s5 = .int .i64 p ∧ wl = w2)
            case atStart => exact ⟨m, rfl, hz10, Nat.le_refl _, rfl, rfl⟩
            case round =>
              obtain ⟨p, hpg, hp1, hp2, rfl, rfl⟩ := hrel
              rcases Nat.eq_zero_or_pos p with rfl | hp0
              · have HE := Lib.hid (And.intro hp1 hpg)
                clear hp1 hp2 hpg hz10
                go_wp2
                go_roundg z
                case measure => have := HZ.out; have := HL.out.2.2.2; omega
                case rel => exact ⟨l ++ [C], _, 0, _, by have := HE.out.1; omega, Nat.zero_le _, rfl, rfl, hown2, by rw [List.append_assoc, HZ.out]; exact Hk.out.1, hrow2, fun j hj => by omega, hws2, hb2⟩
              · obtain ⟨k, hk⟩ : ∃ k, p = k + 1 := ⟨p - 1, by omega⟩
                subst hk
                have c1 := hrow2.cell (i := k) (by omega)
                rw [if_pos (by omega), i8] at c1
                have ek : ((k + 1 : Nat) : Int) - 1 = (k : Int) := by omega
                have hkn : k < n := by omega
                by_cases hdk : Fil.dn 8 z ≤ k
                · have hd0 : dg 8 z k = 0 := dg_zero_of (lt_of_dn (by omega) hdk)
                  rw [hd0] at c1
                  have HE := Lib.hid (And.intro hdk hpg)
                  clear hp1 hpg hz10 hdk hd0
                  go_wp2
                  go_roundg (k + 1)
                  case measure => have := HE.out.2; omega
                  case rel => exact ⟨k, rfl, HE.out.1, by omega, by go_num, rfl⟩
                · have hdn : Fil.dn 8 z = k + 1 := by omega
                  have hz0 : z ≠ 0 := fun h => by rw [h, dn_zero] at hdn; omega
                  have ht := dg_top (k := 8) (by omega) hz0
                  rw [hdn, Nat.add_sub_cancel] at ht
                  obtain ⟨t, htt⟩ : ∃ t, t = dg 8 z k := ⟨_, rfl⟩
                  rw [← htt] at ht c1
                  have ht0 : ((t : Int) == 0) = false := by simp; omega
                  have HE := Lib.hid (And.intro hdn hpg)
                  clear hp1 hpg hz10 hdk hdn ht htt hz0
                  go_wp2
                  go_roundg z
                  case measure => have := HZ.out; have := HL.out.2.2.2; omega
                  case rel => exact ⟨l ++ [C], _, k + 1, _, HE.out.1.symm, by omega, rfl, by go_num, hown2, by rw [List.append_assoc, HZ.out]; exact Hk.out.1, hrow2, fun j hj => by rw [if_pos (by omega)], hws2, hb2⟩
        · obtain ⟨j, hj⟩ : ∃ j, k = j + 1 := ⟨k - 1, by omega⟩
          subst hj
          have c1 := hrow.cell (i := j) (by omega)
          have f1 := hrow.frozen j
          rw [if_pos (by omega), ten8_at, i8] at c1
          have h1 := s8_step y 10 j
          have h2 := s8_dg (b := 10) y j (by omega)
          have h3 := s8_lt (b := 10) y (j + 1) (by omega)
          have hdg := dg_lt 8 y j
          have HS := Lib.hid (And.intro h1 h2)
          obtain ⟨r, hr⟩ : ∃ r, r = s8 y 10 (j + 1) := ⟨_, rfl⟩
          obtain ⟨d, hd⟩ : ∃ d, d = dg 8 y j := ⟨_, rfl⟩
          rw [← hr, ← hd] at HS
          rw [← hr] at h3 ⊢
          rw [← hd] at hdg c1
          obtain ⟨D, hD⟩ : ∃ D, D = r * 256 + d := ⟨_, rfl⟩
          rw [← hD] at HS
          have W1 : IntKind.i64.wrap ((256 : Int) * (r : Int)) = 256 * (r : Int) := IntWalk.i64_in _ (by omega)
          have W2 : IntKind.i64.wrap ((256 : Int) * (r : Int) + (d : Int)) = (D : Int) := by rw [IntWalk.i64_in _ (by omega)]; omega
          have E1 : (256 : Int) * (r : Int) + (d : Int) = (D : Int) := by omega
          have hDb : D < 100000 := by omega
          obtain ⟨q, hq⟩ : ∃ q, q = D / 10 := ⟨_, rfl⟩
          obtain ⟨t, ht⟩ : ∃ t, t = D % 10 := ⟨_, rfl⟩
          have E2 : (D : Int) / 10 = (q : Int) := by omega
          have E3 : (D : Int) % 10 = (t : Int) := by omega
          have E4 : (D : Int).tdiv 10 = (q : Int) := by rw [Int.tdiv_eq_ediv_of_nonneg (by omega)]; exact E2
          have E5 : (D : Int).tmod 10 = (t : Int) := by rw [Int.tmod_eq_emod_of_nonneg (by omega)]; exact E3
          rw [← hq, ← ht] at HS
          have ej : ((j + 1 : Nat) : Int) - 1 = (j : Int) := by omega
          rw [ej]
          have hjn : j < n := by omega
          have hgw : w.heap.size ≤ g := HB.out.1
          have HK := Lib.hid (And.intro hgg hrow)
          have HO := Lib.hid (And.intro hown (And.intro hbel hws))
          clear h1 h2 hr hd hD hq ht hgg hrow hown hbel hws HY ej
          go_wp2
          go_roundg (j + 1)
          case measure => have := HK.out.1; omega
          case rel => exact ⟨j, by omega, rfl, by rw [← HS.out.1], by go_num, (HK.out.2.set j _).congr (fun i _ => by
            by_cases e : i = j
            · subst e; rw [if_pos rfl, if_pos (by omega), ten8, if_pos (Nat.le_refl _), i8, ← HS.out.2]
            · rw [if_neg e]
              by_cases h : i < m
              · rw [if_pos h, if_pos h, ← ten8_step (v := i8 (y / 10) j) rfl, if_neg e]
              · rw [if_neg h, if_neg h]), HO.out.1.out HB.out.2 _, by simpa using HO.out.2.2, HO.out.2.1.setCell hgw _⟩
end Go.Proofs.YtbhfnigblhfikaaGreat

/- The reference of layer 2: Read. -/
namespace Fil
/-- what is carried after i digits of X times t, n0 more -/
def me (X t n0 i : Nat) : Nat := (X % 2 ^ (8 * i) * t + n0) / 2 ^ (8 * i)
theorem me_zero (X t n0 : Nat) : me X t n0 0 = n0 := by simp [me, Nat.mod_one]
theorem me_sum (X t n0 i : Nat) : me X t n0 i + dg 8 X i * t = (X % 2 ^ (8 * (i + 1)) * t + n0) / 2 ^ (8 * i) := by
  unfold me dg
  rw [show 8 * (i + 1) = 8 * i + 8 by omega, Nat.pow_add, Nat.mod_mul, Nat.add_mul]
  have hp := Nat.two_pow_pos (8 * i)
  rw [show X % 2 ^ (8 * i) * t + 2 ^ (8 * i) * (X / 2 ^ (8 * i) % 2 ^ 8) * t + n0 = (X % 2 ^ (8 * i) * t + n0) + 2 ^ (8 * i) * (X / 2 ^ (8 * i) % 2 ^ 8 * t) by rw [Nat.mul_assoc]; omega, Nat.add_mul_div_left _ _ hp]
theorem me_dg (X t n0 i : Nat) : (me X t n0 i + dg 8 X i * t) % 2 ^ 8 = dg 8 (X * t + n0) i := by
  rw [me_sum]
  unfold dg
  have hp := Nat.two_pow_pos (8 * i)
  conv => rhs; rw [← Nat.mod_add_div X (2 ^ (8 * (i + 1)))]
  rw [Nat.add_mul, show X % 2 ^ (8 * (i + 1)) * t + 2 ^ (8 * (i + 1)) * (X / 2 ^ (8 * (i + 1))) * t + n0 = (X % 2 ^ (8 * (i + 1)) * t + n0) + 2 ^ (8 * i) * (2 ^ 8 * (X / 2 ^ (8 * (i + 1)) * t)) by
    rw [show 8 * (i + 1) = 8 * i + 8 by omega, Nat.pow_add, Nat.mul_assoc, Nat.mul_assoc]; omega, Nat.add_mul_div_left _ _ hp, Nat.add_mul_mod_self_left]
theorem me_succ (X t n0 i : Nat) : (me X t n0 i + dg 8 X i * t) / 2 ^ 8 = me X t n0 (i + 1) := by
  rw [me_sum, Nat.div_div_eq_div_mul, ← Nat.pow_add]
  rfl
theorem me_lt {X t n0 : Nat} (h : n0 < t) (i : Nat) : me X t n0 i < t := by
  unfold me
  have hp := Nat.two_pow_pos (8 * i)
  have h1 := Nat.mod_lt X hp
  rw [Nat.div_lt_iff_lt_mul hp]
  calc X % 2 ^ (8 * i) * t + n0 < X % 2 ^ (8 * i) * t + t := by omega
    _ = (X % 2 ^ (8 * i) + 1) * t := by rw [Nat.add_mul, Nat.one_mul]
    _ ≤ 2 ^ (8 * i) * t := Nat.mul_le_mul_right _ h1
    _ = t * 2 ^ (8 * i) := Nat.mul_comm _ _
theorem me_top {X t n0 m : Nat} (hX : X < 2 ^ (8 * m)) : me X t n0 m = (X * t + n0) / 2 ^ (8 * m) := by unfold me; rw [Nat.mod_eq_of_lt hX]
theorem me_more {X t n0 m : Nat} (hX : X < 2 ^ (8 * m)) (h : me X t n0 m < 256) : X * t + n0 < 2 ^ (8 * (m + 1)) ∧ dg 8 (X * t + n0) m = me X t n0 m := by
  have hp := Nat.two_pow_pos (8 * m)
  rw [me_top hX] at h ⊢
  refine ⟨?_, ?_⟩
  · rw [Nat.div_lt_iff_lt_mul hp] at h
    rw [show 8 * (m + 1) = 8 + 8 * m by omega, Nat.pow_add]; exact h
  · unfold dg; exact Nat.mod_eq_of_lt h
theorem me_done {X t n0 m : Nat} (hX : X < 2 ^ (8 * m)) (h : me X t n0 m = 0) : X * t + n0 < 2 ^ (8 * m) := by
  have hp := Nat.two_pow_pos (8 * m)
  rw [me_top hX] at h
  rcases Nat.div_eq_zero_iff.1 h with h | h
  · omega
  · exact h
end Fil
namespace Go.Proofs.YtbhfnigblhfikaaGreat
open Go Go.RowKit Go.PlainAid Fil

theorem Own.cap {w : World} {B : Nat} {v : Value} {n : Nat} {f : Nat → Int} (h : Own w B v n f) (h0 : 0 < n) : ∃ (g cap : Nat) (F : Nat → Value), v = .slice (some ⟨g, 0, none⟩) n cap ∧ B ≤ g ∧ g < w.heap.size ∧ n ≤ cap ∧ cap ≤ maxLen ∧ w.rowIs g 3 cap F ∧ ∀ (j : Nat), j < n → F j = .int .i64 (f j) := by
  rcases h.2 with ⟨rfl, rfl⟩ | ⟨g, cap, cur, rfl, hB, hh, hc, hx, hs, ht⟩
  · omega
  · refine ⟨g, cap, fun j => cur.getD j undef, rfl, hB, lt_of_heap hh, hc, hx, ⟨cur, hh, by simpa using hs, fun i hi => ?_⟩, fun j hj => ?_⟩
    · have : i < cur.size := by rw [show cur.size = cap by simpa using hs]; exact hi
      simp [this]
    · have h1 : (cur.toList.take (n * 1))[j]? = ((List.range n).map fun i => Value.int .i64 (f i))[j]? := by rw [ht]
      rw [List.getElem?_take_of_lt (by omega), List.getElem?_map, List.getElem?_range hj] at h1
      have h2 : cur[j]? = some (.int .i64 (f j)) := by simpa using h1
      show cur.getD j undef = _
      rw [Array.getD_eq_getD_getElem?, h2]; rfl
theorem Own.of_row {w : World} {B g n cap : Nat} {F : Nat → Value} {f : Nat → Int} (hg : B ≤ g) (hn : n ≤ cap) (hc : cap ≤ maxLen) (h : w.rowIs g 3 cap F) (hf : ∀ j, j < n → F j = .int .i64 (f j)) : Own w B (.slice (some ⟨g, 0, none⟩) n cap) n f := by
  obtain ⟨cur, hh, hs, hcell⟩ := h
  refine ⟨by simp, .inr ⟨g, cap, cur, rfl, hg, hh, hn, hc, by simpa using hs, ?_⟩⟩
  apply List.ext_getElem?
  intro j
  by_cases hj : j < n
  · rw [List.getElem?_take_of_lt (by omega), List.getElem?_map, List.getElem?_range hj]
    have := hcell j (by omega)
    rw [hf j hj] at this
    simpa using this
  · rw [List.getElem?_eq_none (by simp; omega), List.getElem?_eq_none (by simp; omega)]
/-- what Read tells of a text -/
def readV (s : ByteArray) : Value := if goodB s.data.toList then (if 49152 < s.size then .tuple #[.string { data := #[] }, .int .i64 4] else endV (dval 0 s.data.toList)) else .tuple #[.string { data := #[] }, .int .i64 22]
set_option maxRecDepth 1000000 in
set_option maxHeartbeats 8000000 in
/-- digits, but too many -/
theorem r2read_long (s : ByteArray) (w : World) (h0 : 0 < s.size) (hh : s.size = 1 ∨ (s[0]'h0).toNat ≠ 48) (hd : ∀ (i : Nat) (h : i < s.size), 48 ≤ (s[i]'h).toNat ∧ (s[i]'h).toNat ≤ 57) (hs : 49152 < s.size) (hs2 : s.size ≤ 9223372036854775807) :
    Calls Tryz.prog 29 #[.string s] w fun e w' => e = .returned (.tuple #[.string { data := #[] }, .int .i64 4]) ∧ Below w.heap.size w w' := by
  have e0 := str_cons h0
  have B0 := Below.refl w.heap.size w
  go_enter Tryz.func29, Tryz.ntmps29
  go_upto_region 1 with fail
  go_cut [20] (fun s20 wx => s20 = .bool false ∧ Below w.heap.size w wx)
  case first =>
    rcases hh with h | h
    · obtain ⟨c, hc⟩ : ∃ c, (s[0]'h0).toNat = c := ⟨_, rfl⟩
      have h1 : ¬ (1 : Int) < (s.size : Int) := by omega
      by_cases h48 : c = 48
      · have t1 : ((c : Int) == 48) = true := by simp; omega
        go_wp2_with fail
        go_meet
        exact ⟨by first | rfl | simp, B0⟩
      · have t1 : ((c : Int) == 48) = false := by simp; omega
        go_wp2_with fail
        go_meet
        exact ⟨by first | rfl | simp, B0⟩
    · obtain ⟨c, hc⟩ : ∃ c, (s[0]'h0).toNat = c := ⟨_, rfl⟩
      rw [hc] at h
      have t1 : ((c : Int) == 48) = false := by simp; omega
      go_wp2_with fail
      go_meet
      exact ⟨by first | rfl | simp, B0⟩
  case rest =>
    clear B0
    obtain ⟨rfl, B0⟩ := hcut
    generalize wc = v1 at *
    go_wp2_with fail
    go_loopg [4] s.size (fun g s4 wr => ∃ i : Nat, i ≤ s.size ∧ g = s.size - i ∧ s4 = .int .i64 i ∧ wr = v1)
    case atStart => exact ⟨0, by omega, by omega, rfl, rfl⟩
    case round =>
      obtain ⟨i, hi, hg, rfl, rfl⟩ := hrel
      by_cases hlt : i < s.size
      · obtain ⟨ha, hz⟩ := hd i hlt
        obtain ⟨c, hc⟩ : ∃ c, (s[i]'hlt).toNat = c := ⟨_, rfl⟩
        rw [hc] at ha hz
        have t1 : decide ((c : Int) < 48) = false := decide_eq_false (by omega)
        have t2 : decide ((57 : Int) < c) = false := decide_eq_false (by omega)
        go_wp2
        go_roundg (s.size - (i + 1))
        case measure => omega
        case rel => exact ⟨i + 1, by omega, rfl, by go_num, rfl⟩
      · obtain rfl : i = s.size := by omega
        go_wp2
        go_ret2
        exact ⟨rfl, B0⟩
set_option maxRecDepth 1000000 in
set_option maxHeartbeats 8000000 in
theorem r2read_nil (w : World) :
    Calls Tryz.prog 29 #[.string ⟨#[]⟩] w fun e w' => e = .returned (.tuple #[.string { data := #[] }, .int .i64 22]) ∧ Below w.heap.size w w' := by
  have B0 := Below.refl w.heap.size w
  go_enter Tryz.func29, Tryz.ntmps29
  go_wp2
  go_ret2
  exact ⟨rfl, B0⟩
set_option maxRecDepth 1000000 in
set_option maxHeartbeats 8000000 in
theorem r2read_nought (s : ByteArray) (w : World) (h0 : 0 < s.size) (h : (s[0]'h0).toNat = 48) (h1 : 1 < s.size) :
    Calls Tryz.prog 29 #[.string s] w fun e w' => e = .returned (.tuple #[.string { data := #[] }, .int .i64 22]) ∧ Below w.heap.size w w' := by
  have e0 := str_cons h0
  have B0 := Below.refl w.heap.size w
  obtain ⟨c, hc⟩ : ∃ c, (s[0]'h0).toNat = c := ⟨_, rfl⟩
  have t1 : ((c : Int) == 48) = true := by simp; omega
  have t2 : (1 : Int) < (s.size : Int) := by omega
  clear h
  go_enter Tryz.func29, Tryz.ntmps29
  go_wp2
  go_ret2
  exact ⟨rfl, B0⟩
set_option maxRecDepth 1000000 in
set_option maxHeartbeats 8000000 in
/-- a byte that is no digit -/
theorem r2read_sign (s : ByteArray) (w : World) (h0 : 0 < s.size) (hh : s.size = 1 ∨ (s[0]'h0).toNat ≠ 48) (k : Nat) (hk : k < s.size) (hkd : (s[k]'hk).toNat < 48 ∨ 57 < (s[k]'hk).toNat) (hd : ∀ (i : Nat) (h : i < k), 48 ≤ (s[i]'(by omega)).toNat ∧ (s[i]'(by omega)).toNat ≤ 57) (hs2 : s.size ≤ 9223372036854775807) :
    Calls Tryz.prog 29 #[.string s] w fun e w' => e = .returned (.tuple #[.string { data := #[] }, .int .i64 22]) ∧ Below w.heap.size w w' := by
  have e0 := str_cons h0
  have B0 := Below.refl w.heap.size w
  go_enter Tryz.func29, Tryz.ntmps29
  go_upto_region 1 with fail
  go_cut [20] (fun s20 wx => s20 = .bool false ∧ Below w.heap.size w wx)
  case first =>
    rcases hh with h | h
    · obtain ⟨c, hc⟩ : ∃ c, (s[0]'h0).toNat = c := ⟨_, rfl⟩
      have h1 : ¬ (1 : Int) < (s.size : Int) := by omega
      by_cases h48 : c = 48
      · have t1 : ((c : Int) == 48) = true := by simp; omega
        go_wp2_with fail
        go_meet
        exact ⟨by first | rfl | simp, B0⟩
      · have t1 : ((c : Int) == 48) = false := by simp; omega
        go_wp2_with fail
        go_meet
        exact ⟨by first | rfl | simp, B0⟩
    · obtain ⟨c, hc⟩ : ∃ c, (s[0]'h0).toNat = c := ⟨_, rfl⟩
      rw [hc] at h
      have t1 : ((c : Int) == 48) = false := by simp; omega
      go_wp2_with fail
      go_meet
      exact ⟨by first | rfl | simp, B0⟩
  case rest =>
    clear B0
    obtain ⟨rfl, B0⟩ := hcut
    generalize wc = v1 at *
    go_wp2_with fail
    go_loopg [4] (k + 1) (fun g s4 wr => ∃ i : Nat, i ≤ k ∧ g = k + 1 - i ∧ s4 = .int .i64 i ∧ wr = v1)
    case atStart => exact ⟨0, by omega, by omega, rfl, rfl⟩
    case round =>
      obtain ⟨i, hi, hg, rfl, rfl⟩ := hrel
      have hlt : i < s.size := by omega
      by_cases hik : i < k
      · obtain ⟨ha, hz⟩ := hd i hik
        obtain ⟨c, hc⟩ : ∃ c, (s[i]'hlt).toNat = c := ⟨_, rfl⟩
        rw [hc] at ha hz
        have t1 : decide ((c : Int) < 48) = false := decide_eq_false (by omega)
        have t2 : decide ((57 : Int) < c) = false := decide_eq_false (by omega)
        clear hkd
        go_wp2
        go_roundg (k + 1 - (i + 1))
        case measure => omega
        case rel => exact ⟨i + 1, by omega, by omega, by go_num, rfl⟩
      · obtain rfl : i = k := by omega
        obtain ⟨c, hc⟩ : ∃ c, (s[i]'hk).toNat = c := ⟨_, rfl⟩
        rw [hc] at hkd
        by_cases h48 : c < 48
        · have t1 : decide ((c : Int) < 48) = true := decide_eq_true (by omega)
          clear hkd
          go_wp2
          go_ret2
          exact ⟨rfl, B0⟩
        · have t1 : decide ((c : Int) < 48) = false := decide_eq_false (by omega)
          have t2 : decide ((57 : Int) < c) = true := decide_eq_true (by omega)
          clear hkd
          go_wp2
          go_ret2
          exact ⟨rfl, B0⟩
/-- the row of digits while ten times it and a digit more is reckoned -/
def tenR (X d k j : Nat) : Int := if j < k then (dg 8 (X * 10 + d) j : Nat) else (dg 8 X j : Nat)
set_option maxRecDepth 1000000 in
set_option maxHeartbeats 8000000 in
theorem r2read_good (s : ByteArray) (w : World) (h0 : 0 < s.size) (hh : s.size = 1 ∨ (s[0]'h0).toNat ≠ 48) (hd : ∀ (i : Nat) (h : i < s.size), 48 ≤ (s[i]'h).toNat ∧ (s[i]'h).toNat ≤ 57) (hs : s.size ≤ 49152) (S : ByteArray) (E : Int) (hV : endV (dvt s s.size) = .tuple #[.string S, .int .i64 E]) :
    Calls Tryz.prog 29 #[.string s] w fun e w' => e = .returned (.tuple #[.string S, .int .i64 E]) ∧ Below w.heap.size w w' := by
  have HV := Lib.hid hV
  clear hV
  obtain ⟨i0, hi, hp⟩ := Option.map_eq_some_iff.1 Tryz.info3
  have hz0 : i0.zero = some (.int .i64 0) := congrArg Prod.fst hp
  have hz1 : i0.size = 1 := congrArg (fun q => q.2.1) hp
  have hz2 : i0.bytes = 8 := congrArg (fun q => q.2.2) hp
  clear hp
  have e0 := str_cons h0
  have B0 := Below.refl w.heap.size w
  go_enter Tryz.func29, Tryz.ntmps29
  go_upto_region 1 with fail
  go_cut [20] (fun s20 wx => s20 = .bool false ∧ Below w.heap.size w wx)
  case first =>
    rcases hh with h | h
    · obtain ⟨c, hc⟩ : ∃ c, (s[0]'h0).toNat = c := ⟨_, rfl⟩
      have h1 : ¬ (1 : Int) < (s.size : Int) := by omega
      by_cases h48 : c = 48
      · have t1 : ((c : Int) == 48) = true := by simp; omega
        go_wp2_with fail
        go_meet
        exact ⟨by first | rfl | simp, B0⟩
      · have t1 : ((c : Int) == 48) = false := by simp; omega
        go_wp2_with fail
        go_meet
        exact ⟨by first | rfl | simp, B0⟩
    · obtain ⟨c, hc⟩ : ∃ c, (s[0]'h0).toNat = c := ⟨_, rfl⟩
      rw [hc] at h
      have t1 : ((c : Int) == 48) = false := by simp; omega
      go_wp2_with fail
      go_meet
      exact ⟨by first | rfl | simp, B0⟩
  case rest =>
    clear B0
    obtain ⟨rfl, B0⟩ := hcut
    generalize wc = v1 at *
    have HD := Lib.hid hd
    go_wp2_with fail
    go_loopg [4] s.size (fun g s4 wr => ∃ i : Nat, i ≤ s.size ∧ g = s.size - i ∧ s4 = .int .i64 i ∧ wr = v1)
    case atStart => exact ⟨0, by omega, by omega, rfl, rfl⟩
    case round =>
      obtain ⟨i, hi9, hg, rfl, rfl⟩ := hrel
      by_cases hlt : i < s.size
      · obtain ⟨ha, hz⟩ := hd i hlt
        obtain ⟨c, hc⟩ : ∃ c, (s[i]'hlt).toNat = c := ⟨_, rfl⟩
        rw [hc] at ha hz
        have t1 : decide ((c : Int) < 48) = false := decide_eq_false (by omega)
        have t2 : decide ((57 : Int) < c) = false := decide_eq_false (by omega)
        go_wp2
        go_roundg (s.size - (i + 1))
        case measure => omega
        case rel => exact ⟨i + 1, by omega, rfl, by go_num, rfl⟩
      · obtain rfl : i = s.size := by omega
        clear hd hlt hg hi9
        go_wp2_with fail
        go_loopg [5, 6, 7, 8] s.size (fun g s5 s6 s7 s8 wr => ∃ (i n : Nat) (v : Value), v = s5 ∧ i ≤ s.size ∧ n ≤ i ∧ g = s.size - i ∧ s6 = .int .i64 i ∧ Own wr w.heap.size v n (fun j => (dg 8 (dvt s i) j : Int)) ∧ dvt s i < 2 ^ (8 * n) ∧ Below w.heap.size w wr)
        case atStart => exact ⟨0, 0, _, rfl, by omega, by omega, rfl, rfl, Own.nil _ _ _, by rw [dvt_zero]; decide, B0⟩
        case round =>
          clear B0
          obtain ⟨i, n, v, rfl, hi9, hni, hgk, rfl, hown, hX, hbel⟩ := hrel
          have Hg := Lib.hid hgk
          clear hgk
          by_cases hlt : i < s.size
          · obtain ⟨ha, hz⟩ := HD.out i hlt
            have HS := Lib.hid (dvt_succ hlt)
            obtain ⟨c, hc⟩ : ∃ c, (s[i]'hlt).toNat = c := ⟨_, rfl⟩
            rw [hc] at ha hz HS
            obtain ⟨d, hdd⟩ : ∃ d, d = c - 48 := ⟨_, rfl⟩
            have ed : (c : Int) - 48 = (d : Int) := by omega
            have hd9 : d < 10 := by omega
            have HC := Lib.hid (And.intro hdd hX)
            have t1 : decide ((i : Int) < s.size) = true := decide_eq_true (by omega)
            obtain ⟨X, hXe⟩ : ∃ X, X = dvt s i := ⟨_, rfl⟩
            rw [← hXe] at HC hown HS
            have HX := Lib.hid hXe
            clear hdd hX hXe
            go_wp2_with fail
            go_loopg [5, 7, 8] (n + 2) (fun g2 s5 s7 s8 w2 => ∃ (k m t : Nat) (v : Value), v = s5 ∧ s7 = .int .i64 t ∧ s8 = .int .i64 k ∧ g2 = n + 2 - k ∧ (k ≤ n ∧ m = n ∧ t = me X 10 d k ∨ k = n + 1 ∧ m = n + 1 ∧ t = 0 ∧ X * 10 + d < 2 ^ (8 * (n + 1))) ∧ Own w2 w.heap.size v m (tenR X d k) ∧ Below w.heap.size w w2)
            case atStart => exact ⟨0, n, d, _, rfl, by go_num, rfl, by omega, .inl ⟨by omega, rfl, (me_zero _ _ _).symm⟩, hown.congr (fun j _ => (if_neg (by omega)).symm), hbel⟩
            case round =>
              clear hown hbel
              obtain ⟨k, m, t, v, rfl, rfl, rfl, hg2, hway, hown, hbel⟩ := hrel
              have Hg2 := Lib.hid hg2
              clear hg2
              by_cases hkn : k < n
              · obtain ⟨hk1, rfl, ht⟩ : k ≤ n ∧ m = n ∧ t = me X 10 d k := by
                  rcases hway with h | h
                  · exact h
                  · omega
                clear hway
                obtain ⟨g, cap, F, rfl, hB, _, hmc, hcx, hrow, hF⟩ := hown.cap (by omega)
                have q1 := me_dg X 10 d k
                have q2 := me_succ X 10 d k
                have q3 := me_lt hd9 (X := X) k
                have q4 := dg_lt 8 X k
                rw [← ht] at q1 q2 q3
                have cell := hrow.cell (i := k) (by omega)
                have frz := hrow.frozen k
                rw [hF k hkn, tenR, if_neg (Nat.lt_irrefl k)] at cell
                have HF := Lib.hid (And.intro hF (And.intro hcx hB))
                obtain ⟨D, hD⟩ : ∃ D, D = dg 8 X k := ⟨_, rfl⟩
                rw [← hD] at q1 q2 q4 cell
                obtain ⟨N, hN⟩ : ∃ N, N = t + D * 10 := ⟨_, rfl⟩
                rw [← hN] at q1 q2
                have HQ := Lib.hid (And.intro q1 q2)
                have W1 : IntKind.i64.wrap ((10 : Int) * (D : Int)) = 10 * (D : Int) := IntWalk.i64_in _ (by omega)
                have W2 : IntKind.i64.wrap ((t : Int) + 10 * (D : Int)) = (N : Int) := by rw [IntWalk.i64_in _ (by omega)]; omega
                have E1 : (t : Int) + 10 * (D : Int) = (N : Int) := by omega
                have hNb : N < 100000 := by omega
                obtain ⟨a, ha2⟩ : ∃ a, a = N % 256 := ⟨_, rfl⟩
                obtain ⟨b, hb2⟩ : ∃ b, b = N / 256 := ⟨_, rfl⟩
                have E2 : (N : Int) % 256 = (a : Int) := by omega
                have E3 : (N : Int) / 256 = (b : Int) := by omega
                have E4 : (N : Int).tmod 256 = (a : Int) := by rw [Int.tmod_eq_emod_of_nonneg (by omega)]; exact E2
                have E5 : (N : Int).tdiv 256 = (b : Int) := by rw [Int.tdiv_eq_ediv_of_nonneg (by omega)]; exact E3
                have HA := Lib.hid (And.intro ha2 hb2)
                have hgw : w.heap.size ≤ g := hB
                have HB2 := Lib.hid (And.intro hrow hbel)
                have hnk : ¬ k = m := by omega
                have t3 : decide ((k : Int) < m) = true := decide_eq_true (by omega)
                clear q1 q2 ht hF hown hB hD hN ha2 hb2 hrow hbel
                go_wp2
                go_roundg (m + 2 - (k + 1))
                case measure => have := Hg2.out; omega
                case rel =>
                  refine ⟨k + 1, m, b, _, rfl, by go_num, by go_num, rfl, .inl ⟨by omega, rfl, by rw [← HQ.out.2]; exact HA.out.2⟩, Own.of_row HF.out.2.2 hmc HF.out.2.1 (HB2.out.1.set k _) (fun q hq => ?_), HB2.out.2.setCell HF.out.2.2 _⟩
                  by_cases hqk : q = k
                  · subst hqk
                    rw [if_pos rfl, tenR, if_pos (Nat.lt_succ_self q), ← HQ.out.1, HA.out.1]
                  · rw [if_neg hqk, HF.out.1 q hq]
                    unfold tenR
                    by_cases hq2 : q < k
                    · rw [if_pos hq2, if_pos (by omega)]
                    · rw [if_neg hq2, if_neg (by omega)]
              · have hend : k = m ∧ t = 0 ∧ X * 10 + d < 2 ^ (8 * m) ∧ m ≤ n + 1 ∨ n = k ∧ n = m ∧ 0 < t ∧ t < 10 ∧ X * 10 + d < 2 ^ (8 * (n + 1)) ∧ dg 8 (X * 10 + d) n = t := by
                  rcases hway with ⟨h1, rfl, h3⟩ | ⟨h1, h2, h3, h4⟩
                  · obtain rfl : k = m := by omega
                    have hlt3 := me_lt hd9 (X := X) k
                    rcases Nat.eq_zero_or_pos t with h | h
                    · exact .inl ⟨rfl, h, me_done HC.out.2 (by omega), by omega⟩
                    · have := me_more HC.out.2 (n0 := d) (t := 10) (by omega)
                      exact .inr ⟨rfl, rfl, h, by omega, this.1, by rw [this.2, h3]⟩
                  · exact .inl ⟨by omega, h3, by rw [h2]; exact h4, by omega⟩
                clear hway
                obtain ⟨A', c', rfl, hnc', _⟩ := Own.slc hown
                rcases hend with ⟨rfl, rfl, hlow, hm1⟩ | ⟨rfl, rfl, ht0, ht10, hY, hdg⟩
                · have HL := Lib.hid (And.intro hlow hm1)
                  have hown2 := hown.congr (g := fun j => (dg 8 (X * 10 + d) j : Int)) (fun j hj => if_pos hj)
                  have t3 : decide ((k : Int) < k) = false := decide_eq_false (by omega)
                  clear hlow hm1 hown
                  go_wp2
                  go_roundg (s.size - (i + 1))
                  case measure => have := Hg.out; omega
                  case rel =>
                    have e : dvt s (i + 1) = X * 10 + d := by rw [HS.out, ← HC.out.1, Nat.mul_comm]
                    exact ⟨i + 1, k, _, rfl, by omega, by have := HL.out; omega, rfl, by go_num, by rw [e]; exact hown2, by rw [e]; exact HL.out.1, hbel⟩
                · have HY := Lib.hid (And.intro hY hdg)
                  have hbs := hbel.size
                  have t3 : decide ((n : Int) < n) = false := decide_eq_false (by omega)
                  have t4 : decide ((0 : Int) < t) = true := decide_eq_true (by omega)
                  have hkb : n ≤ 49152 := by omega
                  clear hY hdg
                  go_wp2_with (at_builtin; refine wpList_append_own _ rfl _ _ 103 rfl w.heap.size 3 i0 (.int .i64 0) 1 8 Tryz.underlying103 hi hz0 hz1 hz2 rfl (by decide) _ _ _ rfl (by exact hown.alloc _) ⟨wr.heap.size, 0, none⟩ 1 1 [.int .i64 0] rfl rfl ?c1 ?c2 ?c3 ?c4 ?c5 ?_)
                  case c1 =>
                    intro j u hj
                    match j, hj with
                    | 0, hj => simp at hj; subst hj; simp [Addr.add]
                  case c2 => intro u hu; simp at hu; subst hu; rfl
                  case c3 => unfold maxLen; omega
                  case c4 => omega
                  case c5 => simp; omega
                  · intro v' w3 hown' hgrow _
                    have hb3 := (hbel.alloc hbs (.cells #[.int .i64 0] 3)).grown hgrow (by simp; omega) (fun k hk => (hown.lt k hk).1)
                    have hown3 : Own w3 w.heap.size v' (n + 1) (fun j => if j = n then 0 else tenR X d n j) := by
                      rw [own_grow (g := fun j => if j = n then 0 else tenR X d n j) (fun i hi => by rw [if_neg (by omega)]) (by rw [if_pos rfl])] at hown'
                      exact hown'
                    clear hown hown' hgrow hbel
                    obtain ⟨g, cap, F, rfl, hB, _, hmc, hcx, hrow, hF⟩ := hown3.cap (by omega)
                    have cell := hrow.cell (i := n) (by omega)
                    have frz := hrow.frozen n
                    rw [hF n (by omega), if_pos rfl] at cell
                    have HF := Lib.hid (And.intro hF (And.intro hcx hB))
                    have E2 : (t : Int) % 256 = (t : Int) := by omega
                    have E3 : (t : Int) / 256 = 0 := by omega
                    have E4 : (t : Int).tmod 256 = (t : Int) := by rw [Int.tmod_eq_emod_of_nonneg (by omega)]; exact E2
                    have E5 : (t : Int).tdiv 256 = 0 := by rw [Int.tdiv_eq_ediv_of_nonneg (by omega)]; exact E3
                    have hgw : w.heap.size ≤ g := hB
                    have HB2 := Lib.hid (And.intro hrow hb3)
                    clear hF hown3 hB hrow hb3
                    go_wp2
                    go_roundg (n + 2 - (n + 1))
                    case measure => have := Hg2.out; omega
                    case rel =>
                      refine ⟨n + 1, n + 1, 0, _, rfl, by go_num, by go_num, rfl, .inr ⟨rfl, rfl, rfl, HY.out.1⟩, Own.of_row HF.out.2.2 hmc HF.out.2.1 (HB2.out.1.set n _) (fun q hq => ?_), HB2.out.2.setCell HF.out.2.2 _⟩
                      by_cases hqk : q = n
                      · subst hqk
                        rw [if_pos rfl, tenR, if_pos (Nat.lt_succ_self q), HY.out.2]
                      · rw [if_neg hqk, HF.out.1 q hq, if_neg hqk]
                        unfold tenR
                        rw [if_pos (by omega), if_pos (by omega)]
          · obtain rfl : i = s.size := by omega
            obtain ⟨A, c, rfl, hnc, hsl⟩ := Own.slc hown
            have hmk := fun W h => r2made_gen A n c (dvt s s.size) W hX (by omega) h
            have hen := fun W => r2ended_any (dvt s s.size) W (Nat.le_trans (dn_le (by omega) hX) (by omega))
            rw [HV.out] at hen
            have HM := Lib.hid hmk
            clear hown hmk
            go_wp2_with fail
            refine (HM.out _ hsl).mono ?_
            rintro r w3 ⟨rfl, hb3⟩
            go_wp2_with fail
            refine (hen _).mono ?_
            rintro r w4 ⟨rfl, rfl⟩
            go_wp2
            go_ret2
            exact ⟨rfl, hbel.trans (hb3.mono hbel.size)⟩
theorem nil_of_size {s : ByteArray} (h : s.size = 0) : s = ⟨#[]⟩ := by
  have h2 : s.data.size = 0 := h
  have h3 : s.data = #[] := Array.eq_empty_of_size_eq_zero h2
  obtain ⟨d⟩ := s
  simp only at h3
  rw [h3]
theorem r2read_any (s : ByteArray) (w : World) (hs : s.size ≤ 9223372036854775807) :
    Calls Tryz.prog 29 #[.string s] w fun e w' => e = .returned (readV s) ∧ Below w.heap.size w w' := by
  unfold readV
  by_cases hg : goodL s.data.toList
  · have hgb : goodB s.data.toList = true := decide_eq_true hg
    rw [if_pos hgb]
    have h0 := good_pos hg
    have hh : s.size = 1 ∨ (s[0]'h0).toNat ≠ 48 := by
      by_cases h : (s[0]'h0).toNat = 48
      · exact .inl (good_head hg h)
      · exact .inr h
    by_cases hl : 49152 < s.size
    · rw [if_pos hl]
      exact r2read_long s w h0 hh (good_all hg) hl hs
    · rw [if_neg hl]
      obtain ⟨S, E, hV⟩ := endV_parts (dval 0 s.data.toList)
      rw [hV]
      exact r2read_good s w h0 hh (good_all hg) (by omega) S E (by rw [dvt_size]; exact hV)
  · have hgb : ¬ goodB s.data.toList = true := fun h => hg (of_decide_eq_true h)
    rw [if_neg hgb]
    rcases Nat.eq_zero_or_pos s.size with h0 | h0
    · rw [nil_of_size h0]; exact r2read_nil w
    · by_cases h48 : (s[0]'h0).toNat = 48 ∧ 1 < s.size
      · exact r2read_nought s w h0 h48.1 h48.2
      · have hh : s.size = 1 ∨ (s[0]'h0).toNat ≠ 48 := by omega
        by_cases hd : ∀ (i : Nat) (h : i < s.size), 48 ≤ (s[i]'h).toNat ∧ (s[i]'h).toNat ≤ 57
        · exact absurd (good_of h0 hd fun h => by omega) hg
        · obtain ⟨k, hk, ha, hb⟩ := first_bad hd
          exact r2read_sign s w h0 hh k hk (by omega) ha hs
end Go.Proofs.YtbhfnigblhfikaaGreat

/- The reference of layer 4: digits, bare. -/
namespace Go.Proofs.YtbhfnigblhfikaaGreat
open Go Go.RowKit Go.PlainAid Fil

/-- the first place from i on that holds no digit -/
def dend (s : ByteArray) (i : Nat) : Nat := if dgt s i then dend s (i + 1) else i
termination_by s.size - i
decreasing_by have := dgt_lt ‹_›; omega
theorem dend_dig {s : ByteArray} {i : Nat} (h : dgt s i) : dend s i = dend s (i + 1) := by rw [dend, if_pos h]
theorem dend_end {s : ByteArray} {i : Nat} (h : ¬ dgt s i) : dend s i = i := by rw [dend, if_neg h]
theorem dend_spec {s : ByteArray} : ∀ n i, n = s.size - i → i ≤ s.size → i ≤ dend s i ∧ dend s i ≤ s.size ∧ ¬ dgt s (dend s i) ∧ ∀ k, i ≤ k → k < dend s i → dgt s k := by
  intro n
  induction n with
  | zero =>
    intro i hn hi
    have h : ¬ dgt s i := fun h => by have := dgt_lt h; omega
    rw [dend_end h]
    exact ⟨Nat.le_refl _, hi, h, fun k h1 h2 => by omega⟩
  | succ n ih =>
    intro i hn hi
    by_cases h : dgt s i
    · rw [dend_dig h]
      obtain ⟨h1, h2, h3, h4⟩ := ih (i + 1) (by omega) (by have := dgt_lt h; omega)
      refine ⟨by omega, h2, h3, fun k hk1 hk2 => ?_⟩
      rcases Nat.lt_or_ge i k with h5 | h5
      · exact h4 k h5 hk2
      · obtain rfl : k = i := by omega
        exact h
    · rw [dend_end h]
      exact ⟨Nat.le_refl _, hi, h, fun k h1 h2 => by omega⟩
theorem byt_extract {s : ByteArray} {a i : Nat} (ha : a ≤ s.size) : byt (s.extract a s.size) i = byt s (a + i) := by
  have hz : (s.extract a s.size).size = s.size - a := by rw [ByteArray.size_extract]; omega
  by_cases h : a + i < s.size
  · rw [byt_in h, byt_in (by omega)]
    rw [ByteArray.getElem_extract]
  · rw [byt_out h, byt_out (by omega)]
theorem dgt_extract {s : ByteArray} {a i : Nat} (ha : a ≤ s.size) : dgt (s.extract a s.size) i ↔ dgt s (a + i) := by
  unfold dgt; rw [byt_extract ha]
theorem dend_extract {s : ByteArray} {a : Nat} (ha : a ≤ s.size) : ∀ n i, n = s.size - (a + i) → a + dend (s.extract a s.size) i = dend s (a + i) := by
  intro n
  induction n with
  | zero =>
    intro i hn
    have h : ¬ dgt s (a + i) := fun h => by have := dgt_lt h; omega
    rw [dend_end h, dend_end (fun h2 => h ((dgt_extract ha).1 h2))]
  | succ n ih =>
    intro i hn
    by_cases h : dgt s (a + i)
    · rw [dend_dig h, dend_dig ((dgt_extract ha).2 h)]
      exact ih (i + 1) (by omega)
    · rw [dend_end h, dend_end (fun h2 => h ((dgt_extract ha).1 h2))]
set_option maxRecDepth 100000 in
set_option maxHeartbeats 2000000 in
theorem p4digits_any (s : ByteArray) (w : World) (hs : s.size ≤ 9223372036854775807) :
    Calls Tryz.prog 75 #[.string s] w fun r w' => r = .returned (.int .i64 (dend s 0 : Nat)) ∧ w = w' := by
  go_enter Tryz.func75, Tryz.ntmps75
  go_wp2_with fail
  go_loopg [3] (s.size + 1) (fun g s3 wr => ∃ i : Nat, i ≤ s.size ∧ g = s.size + 1 - i ∧ dend s i = dend s 0 ∧ s3 = .int .i64 i ∧ wr = w)
  case atStart => exact ⟨0, by omega, by omega, rfl, rfl, rfl⟩
  case round =>
    obtain ⟨i, hi, hg, he, rfl, rfl⟩ := hrel
    have HE := Lib.hid he
    clear he
    by_cases hlt : i < s.size
    · obtain ⟨c, hc⟩ : ∃ c, (s[i]'hlt).toNat = c := ⟨_, rfl⟩
      have hb : byt s i = c := by rw [byt_in hlt, hc]
      by_cases h1 : 48 ≤ c
      · have t1 : decide ((48 : Int) ≤ c) = true := decide_eq_true (by omega)
        by_cases h2 : c ≤ 57
        · have t2 : decide ((c : Int) ≤ 57) = true := decide_eq_true (by omega)
          have HD := Lib.hid (dend_dig (s := s) (i := i) (by unfold dgt; omega))
          clear hb
          go_wp2
          go_roundg (s.size + 1 - (i + 1))
          case measure => omega
          case rel => exact ⟨i + 1, by omega, rfl, by rw [← HD.out]; exact HE.out, by go_num, rfl⟩
        · have t2 : decide ((c : Int) ≤ 57) = false := decide_eq_false (by omega)
          have HD := Lib.hid (dend_end (s := s) (i := i) (by unfold dgt; omega))
          clear hb
          go_wp2
          go_ret
          exact ⟨by rw [← HE.out, HD.out]; rfl, rfl⟩
      · have t1 : decide ((48 : Int) ≤ c) = false := decide_eq_false (by omega)
        have HD := Lib.hid (dend_end (s := s) (i := i) (by unfold dgt; omega))
        clear hb
        go_wp2
        go_ret
        exact ⟨by rw [← HE.out, HD.out]; rfl, rfl⟩
    · have HD := Lib.hid (dend_end (s := s) (i := i) (fun h => hlt (dgt_lt h)))
      go_wp2
      go_ret
      exact ⟨by rw [← HE.out, HD.out]; rfl, rfl⟩
theorem good_iff {s : ByteArray} (h0 : 0 < s.size) : goodB s.data.toList = (decide (dend s 0 = s.size) && (decide (s.size = 1) || decide (byt s 0 ≠ 48))) := by
  have hsp := dend_spec (s := s) _ 0 rfl (by omega)
  have h1 : goodL s.data.toList ↔ dend s 0 = s.size ∧ (s.size = 1 ∨ byt s 0 ≠ 48) := by
    constructor
    · intro hg
      refine ⟨?_, ?_⟩
      · rcases Nat.lt_or_ge (dend s 0) s.size with h | h
        · exfalso
          have := good_all hg _ h
          exact hsp.2.2.1 (by unfold dgt; rw [byt_in h]; exact this)
        · omega
      · by_cases h : byt s 0 = 48
        · left; exact good_head hg (by rw [← byt_in h0]; exact h)
        · exact .inr h
    · rintro ⟨h1, h2⟩
      refine good_of h0 (fun i hi => ?_) (fun h => ?_)
      · have := hsp.2.2.2 i (by omega) (by omega)
        unfold dgt at this
        rwa [byt_in hi] at this
      · rcases h2 with h2 | h2
        · exact h2
        · exact absurd (by rw [byt_in h0]; exact h) h2
  unfold goodB
  rw [Bool.eq_iff_iff, decide_eq_true_iff, h1]
  simp
set_option maxRecDepth 100000 in
set_option maxHeartbeats 2000000 in
theorem p4bare_any (s : ByteArray) (w : World) (hs : s.size ≤ 9223372036854775807) :
    Calls Tryz.prog 76 #[.string s] w fun r w' => r = .returned (.bool (goodB s.data.toList)) ∧ w = w' := by
  rcases Nat.eq_zero_or_pos s.size with h0 | h0
  · rw [nil_of_size h0]
    go_enter Tryz.func76, Tryz.ntmps76
    go_wp2
    go_ret
    exact ⟨rfl, rfl⟩
  · have hd := fun W => p4digits_any s W hs
    have hi := good_iff h0
    obtain ⟨g, hg⟩ : ∃ g, g = goodB s.data.toList := ⟨_, rfl⟩
    rw [← hg] at hi ⊢
    have hle := (dend_spec (s := s) _ 0 rfl (by omega)).2.1
    obtain ⟨c, hc⟩ : ∃ c, (s[0]'h0).toNat = c := ⟨_, rfl⟩
    rw [byt_in h0, hc] at hi
    obtain ⟨e, he⟩ : ∃ e, e = dend s 0 := ⟨_, rfl⟩
    rw [← he] at hd hi hle
    have t0 : decide ((0 : Int) < s.size) = true := decide_eq_true (by omega)
    clear hg he
    by_cases h1 : e = s.size
    · have t1 : ((e : Int) == (s.size : Int)) = true := by simp; omega
      by_cases h2 : s.size = 1
      · have t2 : ((s.size : Int) == 1) = true := by simp; omega
        have hG : g = true := by rw [hi]; simp [h1, h2]
        have HG := Lib.hid hG
        clear hi hG h2 h1
        go_enter Tryz.func76, Tryz.ntmps76
        go_wp2_with fail
        refine (hd _).mono ?_
        rintro r w1 ⟨rfl, rfl⟩
        go_wp2
        go_ret
        exact ⟨by rw [HG.out]; rfl, rfl⟩
      · have t2 : ((s.size : Int) == 1) = false := by simp; omega
        by_cases h3 : c = 48
        · have t3 : ((c : Int) != 48) = false := by simp; omega
          have hG : g = false := by rw [hi]; simp [h2, h3]
          have HG := Lib.hid hG
          clear hi hG h2 h1 h3
          go_enter Tryz.func76, Tryz.ntmps76
          go_wp2_with fail
          refine (hd _).mono ?_
          rintro r w1 ⟨rfl, rfl⟩
          go_wp2
          go_ret
          exact ⟨by rw [HG.out]; rfl, rfl⟩
        · have t3 : ((c : Int) != 48) = true := by simp; omega
          have hG : g = true := by rw [hi]; simp [h1, h3]
          have HG := Lib.hid hG
          clear hi hG h2 h1 h3
          go_enter Tryz.func76, Tryz.ntmps76
          go_wp2_with fail
          refine (hd _).mono ?_
          rintro r w1 ⟨rfl, rfl⟩
          go_wp2
          go_ret
          exact ⟨by rw [HG.out]; rfl, rfl⟩
    · have t1 : ((e : Int) == (s.size : Int)) = false := by simp; omega
      have hG : g = false := by rw [hi]; simp [h1]
      have HG := Lib.hid hG
      clear hi hG h1
      go_enter Tryz.func76, Tryz.ntmps76
      go_wp2_with fail
      refine (hd _).mono ?_
      rintro r w1 ⟨rfl, rfl⟩
      go_wp2
      go_ret
      exact ⟨by rw [HG.out]; rfl, rfl⟩
end Go.Proofs.YtbhfnigblhfikaaGreat

/- The reference of layer 4: Text. -/
namespace Go.Proofs.YtbhfnigblhfikaaGreat
open Go Go.RowKit Go.PlainAid Fil

set_option maxRecDepth 100000 in
set_option maxHeartbeats 4000000 in
theorem p4text_ok (x : Rat) (w : World) (hx : Fits x) :
    Calls Tryz.prog 8 #[kA x] w fun e w' => e = .returned (.string ⟨(ktx x).toArray⟩) ∧ Below w.heap.size w w' := by
  have hs1 := fun W => r2text_any x.num.natAbs W (Nat.le_trans hx.1 (by omega))
  have hs2 := fun W => r2text_any x.den W (Nat.le_trans hx.2 (by omega))
  have z1 : (⟨(dtx x.num.natAbs).toArray⟩ : ByteArray).size ≤ 100000 := by
    have := dtx_len (dn32_8 hx.1)
    show (dtx x.num.natAbs).toArray.size ≤ 100000
    rw [List.size_toArray]; omega
  have z2 : (⟨(dtx x.den).toArray⟩ : ByteArray).size ≤ 100000 := by
    have := dtx_len (dn32_8 hx.2)
    show (dtx x.den).toArray.size ≤ 100000
    rw [List.size_toArray]; omega
  have e1 := one_str x.den
  have eT : x.den = 1 → bstr x.den = { data := #[1] } := fun h => by rw [h]; exact bstr_one
  clear hx
  unfold kA ktx
  generalize sg x.num = N at *
  generalize bstr x.num.natAbs = S at *
  generalize bstr x.den = T at *
  generalize x.num.natAbs = n at *
  generalize x.den = d at *
  obtain ⟨X1, hX1⟩ : ∃ X1 : ByteArray, X1 = ⟨(dtx n).toArray⟩ := ⟨_, rfl⟩
  obtain ⟨X2, hX2⟩ : ∃ X2 : ByteArray, X2 = ⟨(dtx d).toArray⟩ := ⟨_, rfl⟩
  rw [← hX1] at hs1 z1
  rw [← hX2] at hs2 z2
  have HX := Lib.hid (And.intro hX1 hX2)
  clear hX1 hX2
  have hb := Below.refl w.heap.size w
  by_cases hd : d = 1
  · have hT := eT hd
    rw [if_pos hd]
    clear e1 eT hd hs2
    subst hT
    cases N
    · go_enter Tryz.func8, Tryz.ntmps8
      have F := Blk.put (w) #[.bool false, .string S, .string { data := #[1] }] 24
      replace hb := hb.alloc hb.size (.cells #[.bool false, .string S, .string { data := #[1] }] 24)
      obtain ⟨x0, x1, x2⟩ := F.ce3
      go_wp2_with fail
      refine (hs1 _).mono ?_
      rintro r w1 ⟨rfl, hB⟩
      replace F := F.keep hB
      replace hb := hb.trans (hB.mono hb.size)
      clear x0 x1 x2 hB hs1
      obtain ⟨x0, x1, x2⟩ := F.ce3
      go_wp2
      go_ret
      exact ⟨by rw [HX.out.1]; rfl, hb⟩
    · go_enter Tryz.func8, Tryz.ntmps8
      have F := Blk.put (w) #[.bool true, .string S, .string { data := #[1] }] 24
      replace hb := hb.alloc hb.size (.cells #[.bool true, .string S, .string { data := #[1] }] 24)
      obtain ⟨x0, x1, x2⟩ := F.ce3
      go_wp2_with fail
      refine (hs1 _).mono ?_
      rintro r w1 ⟨rfl, hB⟩
      replace F := F.keep hB
      replace hb := hb.trans (hB.mono hb.size)
      clear x0 x1 x2 hB hs1
      obtain ⟨x0, x1, x2⟩ := F.ce3
      go_wp2
      go_ret
      exact ⟨by rw [HX.out.1]; simp [ba_append], hb⟩
  · have hT : ¬ T.toList = [1] := by rw [e1]; exact hd
    have hT2 : (T.toList == [1]) = false := beq_eq_false_iff_ne.2 hT
    have hT3 : (T.toList != [1]) = true := by rw [bne, hT2]; rfl
    rw [if_neg hd]
    clear e1 eT hd
    cases N
    · go_enter Tryz.func8, Tryz.ntmps8
      have F := Blk.put (w) #[.bool false, .string S, .string T] 24
      replace hb := hb.alloc hb.size (.cells #[.bool false, .string S, .string T] 24)
      obtain ⟨x0, x1, x2⟩ := F.ce3
      go_wp2_with fail
      refine (hs1 _).mono ?_
      rintro r w1 ⟨rfl, hB⟩
      replace F := F.keep hB
      replace hb := hb.trans (hB.mono hb.size)
      clear x0 x1 x2 hB hs1
      obtain ⟨x0, x1, x2⟩ := F.ce3
      go_wp2_with fail
      refine (hs2 _).mono ?_
      rintro r w1 ⟨rfl, hB⟩
      replace F := F.keep hB
      replace hb := hb.trans (hB.mono hb.size)
      clear x0 x1 x2 hB hs2
      obtain ⟨x0, x1, x2⟩ := F.ce3
      go_wp2
      go_ret
      exact ⟨by rw [HX.out.1, HX.out.2]; simp [ba_append], hb⟩
    · go_enter Tryz.func8, Tryz.ntmps8
      have F := Blk.put (w) #[.bool true, .string S, .string T] 24
      replace hb := hb.alloc hb.size (.cells #[.bool true, .string S, .string T] 24)
      obtain ⟨x0, x1, x2⟩ := F.ce3
      go_wp2_with fail
      refine (hs1 _).mono ?_
      rintro r w1 ⟨rfl, hB⟩
      replace F := F.keep hB
      replace hb := hb.trans (hB.mono hb.size)
      clear x0 x1 x2 hB hs1
      obtain ⟨x0, x1, x2⟩ := F.ce3
      go_wp2_with fail
      refine (hs2 _).mono ?_
      rintro r w1 ⟨rfl, hB⟩
      replace F := F.keep hB
      replace hb := hb.trans (hB.mono hb.size)
      clear x0 x1 x2 hB hs2
      obtain ⟨x0, x1, x2⟩ := F.ce3
      go_wp2
      go_ret
      exact ⟨by rw [HX.out.1, HX.out.2]; simp [ba_append], hb⟩
end Go.Proofs.YtbhfnigblhfikaaGreat
