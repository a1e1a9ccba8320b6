/- Merged: R1 R2 R3 R4 -/
import Derived.Test.YtbfnafcpjbdbpaaGreatB8
import Derived.Test.YtbfnafcpjbdbpaaGreatB9
import Derived.Test.YtbfnafcpjbdbpaaGreatBJ

/- The reference of layer 2: digits, at (turned from the texts over layer 3's reference). -/
namespace Go.Proofs.YtbfnafcpjbdbpaaGreat
open Go Go.RowKit Go.PlainAid Fil

set_option maxHeartbeats 2000000 in
theorem r2digits_any (x : Nat) (w : World) (hx : Fil.dn 8 x ≤ 1048576) :
    Calls Tryz.prog 98 #[.string (bstr x)] w fun r w' => ∃ v, r = .returned v ∧ Own w' w.heap.size v (Fil.dn 8 x) (fun i => (dg 8 x i : Int)) ∧ Below w.heap.size w w' := by
  have hsz := bstr_size x
  obtain ⟨n, hn⟩ : ∃ n, n = Fil.dn 8 x := ⟨_, rfl⟩
  have hbt := fun j (h : j < n) => bstr_bt x (n - 1 - j) (by omega)
  have hgb := get_bt (bstr x)
  rw [← hn] at hsz hx ⊢
  obtain ⟨i0, hi, hp⟩ := Option.map_eq_some_iff.1 Tryz.info3
  have hz0 : i0.zero = some (.int .i64 0) := congrArg Prod.fst hp
  have hz1 : i0.size = 1 := congrArg (fun q => q.2.1) hp
  have hz2 : i0.bytes = 8 := congrArg (fun q => q.2.2) hp
  have HX := Lib.hid hbt
  clear hbt
  go_enter Tryz.func98, Tryz.ntmps98
  go_wp2
  go_loopg [3, 4] n (fun g v s4 wr => ∃ j : Nat, j ≤ n ∧ g = n - j ∧ s4 = .int .i64 ((n : Int) - 1 - j) ∧ Own wr w.heap.size v j (fun i => (dg 8 x i : Int)) ∧ Below w.heap.size w wr)
  case atStart => exact ⟨0, by omega, by omega, by go_num, Own.nil _ _ _, Below.refl _ _⟩
  case round =>
    obtain ⟨j, hj, hg, rfl, hown, hbel⟩ := hrel
    by_cases hjn : j < n
    · obtain ⟨k, hk⟩ : ∃ k, k = n - 1 - j := ⟨_, rfl⟩
      have hkc : (n : Int) - 1 - j = (k : Int) := by omega
      have hbk : bt (bstr x) k = (dg 8 x j : Int) := by rw [hk, HX.out j hjn, ← hn, show n - 1 - (n - 1 - j) = j by omega]
      have hd0 : 0 ≤ (dg 8 x j : Int) := by omega
      have hd1 : (dg 8 x j : Int) < 256 := by have := dg_lt 8 x j; omega
      have hks : k < (bstr x).size := by rw [hsz]; omega
      have hkn : (k : Int) < 1048576 := by omega
      rw [hkc]
      have Hk := Lib.hid (And.intro hk (And.intro hkc (And.intro hjn (And.intro hg hbel))))
      have hx' := Lib.hid hx
      have hbs := hbel.size
      clear hk hkc hjn hg hn hx hj
      go_wp2_with (at_builtin; refine wpList_append_own _ rfl _ _ 119 rfl w.heap.size 3 i0 (.int .i64 0) 1 8 Tryz.underlying119 hi hz0 hz1 hz2 rfl (by decide) _ _ _ rfl (hown.alloc _) ⟨wr.heap.size, 0, none⟩ 1 1 [.int .i64 (dg 8 x j)] rfl rfl ?c1 ?c2 ?c3 ?c4 ?c5 ?_)
      case c1 =>
        intro j u hj
        match j, hj with
        | 0, hj => simp at hj; subst hj; simp [Addr.add]
      case c2 => intro u hu; simp at hu; subst hu; rfl
      case c3 => have := Hk.out; have := hx'.out; unfold maxLen; omega
      case c4 => have := Hk.out; have := hx'.out; omega
      case c5 => simp; omega
      · intro v' w1 hown' hgrow _
        rw [range_grow] at hown'
        have hb1 := (hbel.alloc hbs (Obj.cells #[Value.int IntKind.i64 (dg 8 x j)] 3)).grown hgrow (by simp; omega) (fun k hk => (hown.lt k hk).1)
        clear hown hgrow hbel hbk hd0 hd1 hks hgb
        go_wp2
        go_roundg (n - (j + 1))
        case measure => have := Hk.out; omega
        case rel => exact ⟨j + 1, by have := Hk.out; omega, rfl, congrArg (Value.int IntKind.i64) (by have := Hk.out; omega), hown', hb1⟩
    · have he : j = n := by omega
      rw [show (n : Int) - 1 - j = -1 by omega]
      subst he
      clear hn hj hjn hg hx hsz
      go_wp2
      go_ret
      exact ⟨_, rfl, hown, hbel⟩

set_option maxHeartbeats 400000 in
theorem r2at_any (A : Option Addr) (n c x : Nat) (z : Int) (w : World) (hn : n = Fil.dn 8 x) (h0 : 0 ≤ z) (h8 : n ≤ 4398046511104) (h : Slc w 3 A n (i8 x)) :
    Calls Tryz.prog 99 #[.slice A n c, .int .i64 z] w fun e w' => e = .returned (.int .i64 (dg 8 x z.toNat)) ∧ w = w' := by
  obtain ⟨i, rfl⟩ := Int.eq_ofNat_of_zero_le h0
  rw [Int.toNat_natCast]
  have hx := lt_dn (k := 8) (by omega) x
  rw [← hn] at hx
  by_cases hin : i < n
  · obtain ⟨b, o, rfl, _, hc⟩ := h.cell (by omega)
    have k1 := hc i hin
    simp only [i8] at k1
    clear hc h hn hx
    go_enter Tryz.func99, Tryz.ntmps99
    go_wp2
    go_ret
    exact ⟨rfl, rfl⟩
  · have hz : Hid (dg 8 x i = 0) := Lib.hid (dg_zero_of (Nat.lt_of_lt_of_le hx (pmono (by omega))))
    clear h hn hx
    go_enter Tryz.func99, Tryz.ntmps99
    go_wp2
    go_ret
    exact ⟨by rw [hz.out]; rfl, rfl⟩


set_option maxHeartbeats 4000000 in
/-- made of digits that may end with noughts -/
theorem r2made_gen (A : Option Addr) (N c x : Nat) (w : World) (hx : x < 2 ^ (8 * N)) (h8 : N ≤ 1048576) (h : Slc w 3 A N (i8 x)) :
    Calls Tryz.prog 100 #[.slice A N c] w fun r w' => r = .returned (.string (bstr x)) ∧ Below w.heap.size w w' := by
  obtain ⟨n, hn⟩ : ∃ n, n = Fil.dn 8 x := ⟨_, rfl⟩
  have hnN : n ≤ N := by rw [hn]; exact dn_le (by omega) hx
  have hmk := run_make_row' (P := Tryz.prog) 124 5 (.int .u8 0) 1 Tryz.underlying124 Tryz.info5 rfl .i64 .i64 n (by omega) (by omega)
  have hlast : 0 < n → dg 8 x (n - 1) ≠ 0 := fun hp => by
    have hx : x ≠ 0 := by rintro rfl; rw [dn_zero] at hn; omega
    have := dg_top (k := 8) (by omega) hx
    rwa [← hn] at this
  have hzero : ∀ j, n ≤ j → dg 8 x j = 0 := fun j hj => dg_zero_of (Nat.lt_of_lt_of_le (lt_dn (k := 8) (by omega) x) (pmono (by rw [← hn]; omega)))
  have Hn := Lib.hid (And.intro hn (And.intro hlast hzero))
  have HS := Lib.hid h
  clear hn hlast hzero h hx
  go_enter Tryz.func100, Tryz.ntmps100
  go_wp2_with fail
  go_loopg [3] N (fun g s3 wr => w = wr ∧ n ≤ g ∧ g ≤ N ∧ s3 = .int .i64 g)
  case atStart => exact ⟨rfl, hnN, Nat.le_refl _, rfl⟩
  case round =>
    obtain ⟨rfl, hg1, hg2, rfl⟩ := hrel
    by_cases hgn : n < gk
    · obtain ⟨b, o, rfl, hlt, hc⟩ := HS.out.cell (by omega)
      have hc9 := hc (gk - 1) (by omega)
      rw [i8, Hn.out.2.2 (gk - 1) (by omega)] at hc9
      obtain ⟨m, hm⟩ : ∃ m, m = gk - 1 := ⟨_, rfl⟩
      have hmi : (gk : Int) - 1 = (m : Int) := by omega
      have hm0 : 0 ≤ (m : Int) := by omega
      have hmN : (m : Int) < (N : Int) := by omega
      have hd0 : decide (0 < gk) = true := decide_eq_true (by omega)
      have hd1 : decide (0 < (gk : Int)) = true := decide_eq_true (by omega)
      rw [← hm] at hc9
      have HM := Lib.hid hm
      clear hc hm
      go_wp2_with fail
      go_roundg (gk - 1)
      case measure => omega
      case rel => exact ⟨rfl, by omega, by omega, congrArg (Value.int IntKind.i64) (by have := HM.out; omega)⟩
    · obtain rfl : n = gk := by omega
      by_cases hp : 0 < n
      · obtain ⟨b, o, rfl, hlt, hc⟩ := HS.out.cell (by omega)
        have hc9 := hc (n - 1) (by omega)
        have hl : ((dg 8 x (n - 1) : Int) == 0) = false := by rw [beq_eq_false_iff_ne]; have := Hn.out.2.1 hp; omega
        obtain ⟨m, hm⟩ : ∃ m, m = n - 1 := ⟨_, rfl⟩
        have hmi : (n : Int) - 1 = (m : Int) := by omega
        have hmn : m < n := by omega
        have hm0 : 0 ≤ (m : Int) := by omega
        have hmN : (m : Int) < (N : Int) := by omega
        have hd0 : decide (0 < n) = true := decide_eq_true hp
        have hd1 : decide (0 < (n : Int)) = true := decide_eq_true (by omega)
        rw [← hm] at hl hc9
        unfold i8 at hc9
        clear hc hm
        go_wp2_with fail
        clear hmk
        go_loopg [5] n (fun g s5 wr => ∃ i : Nat, i ≤ n ∧ g = n - i ∧ s5 = .int .i64 i ∧ wr.rowIs w.heap.size 5 n (fun j => if n - i ≤ j then b8 x (n - 1 - j) else .int .u8 0) ∧ Below w.heap.size w wr)
        case atStart => exact ⟨0, by omega, by omega, rfl, (World.rowIs_made w _ n 5).congr (fun j hj => by simp; omega), (Below.refl _ _).alloc (Nat.le_refl _) _⟩
        case round =>
          obtain ⟨i, hi, hg, rfl, hrow, hbel⟩ := hrel
          have Hg := Lib.hid hg
          clear hg
          clear hc9 hl
          by_cases hin : i < n
          · obtain ⟨b1, o1, hA, _, hc1⟩ := (HS.out.below hbel).cell (by omega)
            injection hA with hA
            injection hA with hA1 hA2 _
            subst hA1 hA2
            have k1 := hc1 i (by omega)
            simp only [i8] at k1
            obtain ⟨k, hk⟩ : ∃ k, k = n - 1 - i := ⟨_, rfl⟩
            have ek : (n : Int) - 1 - (i : Int) = (k : Int) := by omega
            have ek2 : (m : Int) - (i : Int) = (k : Int) := by omega
            have hkm : k < n := by omega
            have Hk : Hid (k = n - 1 - i) := Lib.hid hk
            have k2 := hrow.cell (i := k) (by omega)
            have k3 := hrow.frozen k
            have hdx := dg_lt 8 x i
            have q0 : 0 ≤ (i : Int) := by omega
            have q1 : (i : Int) < (N : Int) := by omega
            have q2 : 0 ≤ (k : Int) := by omega
            have q3 : (k : Int) < (n : Int) := by omega
            clear hc1 hk
            go_wp2
            go_roundg (n - (i + 1))
            case measure => have := Hg.out; omega
            case rel => exact ⟨i + 1, by omega, rfl, by go_num, (hrow.set k _).congr (fun j hj => by_row8 Hk.out hin hj (by rw [b8])), hbel.setCell (Nat.le_refl _) _⟩
          · obtain rfl : i = n := by omega
            have hrow' := hrow.congr (g := fun j => b8 x (i - 1 - j)) (fun j hj => by rw [if_pos (by omega)])
            rw [Hn.out.1] at hrow'
            have hrb := run_backS wr w.heap.size x hrow'
            rw [← Hn.out.1] at hrb
            clear hrow hrow'
            go_wp2
            go_ret
            exact ⟨rfl, hbel⟩
      · have hd0 : decide (0 < n) = false := decide_eq_false hp
        have hd1 : decide (0 < (n : Int)) = false := decide_eq_false (by omega)
        go_wp2_with fail
        clear hmk
        go_loopg [5] n (fun g s5 wr => ∃ i : Nat, i ≤ n ∧ g = n - i ∧ s5 = .int .i64 i ∧ wr.rowIs w.heap.size 5 n (fun j => if n - i ≤ j then b8 x (n - 1 - j) else .int .u8 0) ∧ Below w.heap.size w wr)
        case atStart => exact ⟨0, by omega, by omega, rfl, (World.rowIs_made w _ n 5).congr (fun j hj => by simp; omega), (Below.refl _ _).alloc (Nat.le_refl _) _⟩
        case round =>
          obtain ⟨i, hi, hg, rfl, hrow, hbel⟩ := hrel
          have Hg := Lib.hid hg
          clear hg
          obtain rfl : i = n := by omega
          have hrow' := hrow.congr (g := fun j => b8 x (i - 1 - j)) (fun j hj => by rw [if_pos (by omega)])
          rw [Hn.out.1] at hrow'
          have hrb := run_backS wr w.heap.size x hrow'
          rw [← Hn.out.1] at hrb
          clear hrow hrow'
          go_wp2
          go_ret
          exact ⟨rfl, hbel⟩
end Go.Proofs.YtbfnafcpjbdbpaaGreat

/- Plain laws for the reference of layer 2: quotients digit by digit (base 256), texts cut at the end. -/
namespace Go.Proofs.YtbfnafcpjbdbpaaGreat
open Go Go.RowKit Go.PlainAid Fil

/-- what is left of x's upper digits from digit k on, divided by b -/
def s8 (x b k : Nat) : Nat := x / 2 ^ (8 * k) % b
theorem s8_top {x b n : Nat} (h : x < 2 ^ (8 * n)) : s8 x b n = 0 := by unfold s8; rw [Nat.div_eq_of_lt h, Nat.zero_mod]
theorem s8_zero (x b : Nat) : s8 x b 0 = x % b := by simp [s8]
theorem s8_lt {b : Nat} (x k : Nat) (hb : 0 < b) : s8 x b k < b := Nat.mod_lt _ hb
theorem s8_step (x b k : Nat) : (s8 x b (k + 1) * 256 + dg 8 x k) % b = s8 x b k := by
  unfold s8
  have := div_step 8 x k
  rw [this, Nat.add_mod, Nat.mul_mod, Nat.mod_mod, ← Nat.mul_mod, ← Nat.add_mod]
theorem s8_dg {b : Nat} (x k : Nat) (hb : 0 < b) : (s8 x b (k + 1) * 256 + dg 8 x k) / b = dg 8 (x / b) k := by
  have h1 := div_step 8 x k
  have hd := dg_lt 8 x k
  have e1 : dg 8 (x / b) k = x / 2 ^ (8 * k) / b % 256 := by
    unfold dg
    rw [Nat.div_div_eq_div_mul, Nat.div_div_eq_div_mul, Nat.mul_comm]
  rw [e1, h1]
  unfold s8
  generalize x / 2 ^ (8 * (k + 1)) = X at *
  generalize dg 8 x k = d at *
  have h2 := Nat.div_add_mod X b
  have h3 := Nat.mod_lt X hb
  generalize X % b = r at *
  generalize X / b = Q at *
  have e2 : X * 2 ^ 8 + d = b * (Q * 256) + (r * 256 + d) := by
    rw [← h2, Nat.add_mul, Nat.mul_assoc, Nat.add_assoc]
  have h4 : (r * 256 + d) / b < 256 := by
    refine (Nat.div_lt_iff_lt_mul hb).2 ?_
    have : r * 256 + 256 ≤ b * 256 := by rw [← Nat.succ_mul]; exact Nat.mul_le_mul_right 256 h3
    rw [Nat.mul_comm 256 b]
    omega
  rw [e2, Nat.mul_add_div hb]
  clear e1 e2 h1 h2
  generalize (r * 256 + d) / b = q at *
  omega
/-- the row of a quotient: told down to digit k -/
def quo8 (x b k j : Nat) : Value := if k ≤ j then i8 (x / b) j else .int .i64 0
theorem quo8_step {x b k j : Nat} {v : Value} (hv : v = i8 (x / b) k) : (if j = k then v else quo8 x b (k + 1) j) = quo8 x b k j := by
  unfold quo8
  by_cases e : j = k
  · subst e; rw [if_pos rfl, if_pos (Nat.le_refl _), hv]
  · rw [if_neg e]
    by_cases h : k + 1 ≤ j
    · rw [if_pos h, if_pos (by omega)]
    · rw [if_neg h, if_neg (by omega)]
/-- ahead of the first digit of a quotient all are 0 -/
theorem quo8_start {x b k j : Nat} (h : x / 2 ^ (8 * k) < b) : quo8 x b k j = .int .i64 0 := by
  unfold quo8
  by_cases hj : k ≤ j
  · rw [if_pos hj]
    have : x / b < 2 ^ (8 * k) := by
      have hb : 0 < b := Nat.lt_of_le_of_lt (Nat.zero_le _) h
      rw [Nat.div_lt_iff_lt_mul hb, Nat.mul_comm]
      exact (Nat.div_lt_iff_lt_mul (pp _)).1 h
    have : dg 8 (x / b) j = 0 := dg_zero_of (Nat.lt_of_lt_of_le this (pmono (by omega)))
    rw [i8, this]; rfl
  · rw [if_neg hj]
/-- dg of the upper part -/
theorem dg_up (x k i : Nat) : dg 8 (x / 2 ^ (8 * k)) i = dg 8 x (k + i) := dg_div 8 x k i
theorem dn_up {x k : Nat} (h : k ≤ Fil.dn 8 x) : Fil.dn 8 (x / 2 ^ (8 * k)) = Fil.dn 8 x - k := by
  by_cases hx : x = 0
  · subst hx; rw [Nat.zero_div, dn_zero]; omega
  · by_cases hk : k = Fil.dn 8 x
    · rw [hk, Nat.div_eq_of_lt (lt_dn (by omega) x), dn_zero]; omega
    · have h1 := le_dn (k := 8) x hx
      have hlt := lt_dn (k := 8) (by omega) x
      have hn := dn_pos (k := 8) hx
      apply Nat.le_antisymm
      · exact dn_le (by omega) (shr_bound hlt h)
      · have h2 : 2 ^ (8 * (Fil.dn 8 x - k - 1)) ≤ x / 2 ^ (8 * k) := by
          rw [Nat.le_div_iff_mul_le (pp _), ← Nat.pow_add]
          exact Nat.le_trans (pmono (by omega)) h1
        have := dn_ge (k := 8) (by omega) h2
        omega
/-- the first bytes of a number's text -/
theorem bstr_take (x k : Nat) (h : k ≤ Fil.dn 8 x) : (bstr x).extract 0 (Fil.dn 8 x - k) = bstr (x / 2 ^ (8 * k)) := by
  have hs := bstr_size x
  have ht := bstr_size (x / 2 ^ (8 * k))
  rw [dn_up h] at ht
  apply ByteArray.ext_getElem
  · rw [ByteArray.size_extract, hs, ht]; omega
  · intro i h1 h2
    rw [ByteArray.getElem_extract]
    have e1 := bstr_bt x i (by omega)
    have e2 := bstr_bt (x / 2 ^ (8 * k)) i (by rw [dn_up h]; omega)
    rw [dn_up h, dg_up, show k + (Fil.dn 8 x - k - 1 - i) = Fil.dn 8 x - 1 - i by omega, ← e1] at e2
    have f1 : bt (bstr x) i = (((bstr x)[i]'(by omega)).toNat : Int) := bt_get (by omega)
    have f2 : bt (bstr (x / 2 ^ (8 * k))) i = (((bstr (x / 2 ^ (8 * k)))[i]'(by omega)).toNat : Int) := bt_get (by omega)
    rw [f1, f2] at e2
    have e3 : ((bstr x)[i]'(by omega)).toNat = ((bstr (x / 2 ^ (8 * k)))[i]'(by omega)).toNat := by omega
    simp only [Nat.zero_add]
    exact UInt8.toNat_inj.1 e3
end Go.Proofs.YtbfnafcpjbdbpaaGreat

/- The reference of layer 2: plus, Cmp, Sub. -/
namespace Go.Proofs.YtbfnafcpjbdbpaaGreat
open Go Go.RowKit Go.PlainAid Fil

theorem carry_out {x y i : Nat} (hx : x < 2 ^ (8 * i)) (hy : y < 2 ^ (8 * i)) (h : carry 8 x y i = 0) : x + y < 2 ^ (8 * i) := by
  rw [carry_top hx hy] at h
  exact (Nat.div_eq_zero_iff_lt (pp _)).1 h

set_option maxRecDepth 100000 in
set_option maxHeartbeats 4000000 in
theorem r2plus_any (x y : Nat) (w : World) (hx8 : Fil.dn 8 x ≤ 1048570) (hy8 : Fil.dn 8 y ≤ 1048570) :
    Calls Tryz.prog 97 #[.string (bstr x), .string (bstr y)] w fun r w' => r = .returned (.string (bstr (x + y))) ∧ Below w.heap.size w w' := by
  have hd1 := fun W => r2digits_any x W (by omega)
  have hd2 := fun W => r2digits_any y W (by omega)
  have hx := lt_dn (k := 8) (by omega) x
  have hy := lt_dn (k := 8) (by omega) y
  obtain ⟨n, hn⟩ : ∃ n, n = Fil.dn 8 x := ⟨_, rfl⟩
  obtain ⟨m, hm⟩ : ∃ m, m = Fil.dn 8 y := ⟨_, rfl⟩
  simp only [← hn] at hx hd1 hx8
  simp only [← hm] at hy hd2 hy8
  have Hn := Lib.hid hn
  have Hm := Lib.hid hm
  obtain ⟨i0, hi, hp⟩ := Option.map_eq_some_iff.1 Tryz.info3
  have hz0 : i0.zero = some (.int .i64 0) := congrArg Prod.fst hp
  have hz1 : i0.size = 1 := congrArg (fun q => q.2.1) hp
  have hz2 : i0.bytes = 8 := congrArg (fun q => q.2.2) hp
  obtain ⟨M, hM⟩ : ∃ M, M = max n m := ⟨_, rfl⟩
  have hnM : n ≤ M := by omega
  have hmM : m ≤ M := by omega
  have hM8 : M ≤ 1048570 := by omega
  have HM := Lib.hid hM
  have HX := Lib.hid (And.intro hx hy)
  have hx1 : x < 2 ^ (8 * M) := Nat.lt_of_lt_of_le hx (pmono (by omega))
  have hy1 : y < 2 ^ (8 * M) := Nat.lt_of_lt_of_le hy (pmono (by omega))
  have HL := Lib.hid (add_lt_succ (k := 8) (by omega) hx1 hy1)
  have HC : Hid (carry 8 x y (M + 1) = 0) := Lib.hid (by
    rw [carry_top (Nat.lt_of_lt_of_le hx1 (pmono (by omega))) (Nat.lt_of_lt_of_le hy1 (pmono (by omega)))]
    exact Nat.div_eq_of_lt HL.out)
  clear hn hm hp hM hx hy hx1 hy1
  go_enter Tryz.func97, Tryz.ntmps97
  go_wp2_with fail
  refine (hd1 _).mono ?_
  rintro r w1 ⟨v1, rfl, ho1, hb1⟩
  obtain ⟨A, c, rfl, hnc, ha⟩ := Own.slc ho1
  go_wp2_with fail
  refine (hd2 _).mono ?_
  rintro r w2 ⟨v2, rfl, ho2, hb2⟩
  obtain ⟨B, d, rfl, hmd, hb⟩ := Own.slc ho2
  replace ha : Slc w2 3 A n (i8 x) := ha.below hb2
  replace hb : Slc w2 3 B m (i8 y) := hb
  have HB0 := Lib.hid (hb1.trans (hb2.mono hb1.size))
  clear ho1 ho2 hb1 hb2 hd1 hd2
  go_wp2
  go_loopg [7, 8, 9] (M + 1) (fun g s7 s8 s9 wr => ∃ i : Nat, i ≤ M + 1 ∧ g = M + 1 - i ∧ s8 = .int .i64 (carry 8 x y i) ∧ s9 = .int .i64 i ∧ Own wr w2.heap.size s7 i (fun j => (dg 8 (x + y) j : Int)) ∧ Below w2.heap.size w2 wr)
  case atStart => exact ⟨0, by omega, by omega, by rw [carry_zero]; rfl, rfl, Own.nil _ _ _, Below.refl _ _⟩
  case round =>
    obtain ⟨i, hiM, hg, rfl, rfl, hown, hbel⟩ := hrel
    have hs1 := ha.below hbel
    have hs2 := hb.below hbel
    have hra := fun W => r2at_any A n c x (i : Int) W Hn.out (by omega) (by omega)
    have hrb := fun W => r2at_any B m d y (i : Int) W Hm.out (by omega) (by omega)
    rw [Int.toNat_natCast] at hra hrb
    have hcl := carry_le 8 x y i
    have h1 := carry_dg 8 x y i
    have h2 := carry_succ 8 x y i
    have hd0 := dg_lt 8 x i
    have hd1 := dg_lt 8 y i
    have hb2 := hbel.size
    have hout := fun (h1 : n ≤ i) (h2 : m ≤ i) => carry_out (i := i) (Nat.lt_of_lt_of_le HX.out.1 (pmono (by omega))) (Nat.lt_of_lt_of_le HX.out.2 (pmono (by omega)))
    have hend : i = M + 1 → carry 8 x y i = 0 := fun e => by rw [e]; exact HC.out
    have HG := Lib.hid (And.intro hg hbel)
    have HA := Lib.hid (And.intro hra hrb)
    have HB := Lib.hid (And.intro h1 h2)
    obtain ⟨ca, hca⟩ : ∃ ca, ca = carry 8 x y i := ⟨_, rfl⟩
    rw [← hca] at hcl HB hout hend ⊢
    have HO := Lib.hid hout
    have hcs : i < n ∨ (n ≤ i ∧ i < m) ∨ (n ≤ i ∧ m ≤ i ∧ 0 < ca ∧ i < M + 1) ∨ (n ≤ i ∧ m ≤ i ∧ ca = 0) := by
      rcases Nat.lt_or_ge i n with h | h
      · exact .inl h
      · rcases Nat.lt_or_ge i m with h' | h'
        · exact .inr (.inl ⟨h, h'⟩)
        · rcases Nat.eq_zero_or_pos ca with h3 | h3
          · exact .inr (.inr (.inr ⟨h, h', h3⟩))
          · refine .inr (.inr (.inl ⟨h, h', h3, ?_⟩))
            rcases Nat.lt_or_ge i (M + 1) with h4 | h4
            · exact h4
            · have := hend (by omega); omega
    clear hg hbel hra hrb h1 h2 hca hout hend
    rcases hcs with hin | ⟨hin, him⟩ | ⟨hin, him, hc0, hiM1⟩ | ⟨hin, him, hc0⟩
    case inr.inr.inr =>
      subst hc0
      have HE := Lib.hid (HO.out hin him rfl)
      clear HO HA HB hs1 hs2 hd0 hd1
      obtain ⟨A', c', rfl, hnc', hs'⟩ := Own.slc hown
      replace hs' : Slc wr 3 A' i (i8 (x + y)) := hs'
      have hmk := fun W h => r2made_gen A' i c' (x + y) W HE.out (by omega) h
      have HMK := Lib.hid hmk
      clear hown hmk
      go_wp2_with fail
      refine (HMK.out _ hs').mono ?_
      rintro r w3 ⟨rfl, hb3⟩
      go_wp2
      go_ret
      exact ⟨rfl, HB0.out.trans ((HG.out.2.trans (hb3.mono hb2)).mono HB0.out.size)⟩
    all_goals
      have hiM2 : i < M + 1 := by omega
      clear HO
      go_wp2_with fail
      refine (HA.out.1 _ (by exact hs1)).mono ?_
      rintro r w1 ⟨rfl, rfl⟩
      go_wp2_with fail
      refine (HA.out.2 _ (by exact hs2)).mono ?_
      rintro r w1 ⟨rfl, rfl⟩
      generalize dg 8 x i = d0 at *
      generalize dg 8 y i = d1 at *
      clear hs1 hs2 HA
      go_wp2_with (at_builtin; refine wpList_append_own _ rfl _ _ 119 rfl w2.heap.size 3 i0 (.int .i64 0) 1 8 Tryz.underlying119 hi hz0 hz1 hz2 rfl (by decide) _ _ _ rfl (by exact hown.alloc _) ⟨wr.heap.size, 0, none⟩ 1 1 [.int .i64 (((ca : Int) + d0 + d1) % 256)] rfl rfl ?c1 ?c2 ?c3 ?c4 ?c5 ?_)
      case c1 =>
        intro j u hj
        match j, hj with
        | 0, hj => simp at hj; subst hj; simp [Addr.add]
      case c2 => intro u hu; simp at hu; subst hu; rfl
      case c3 => unfold maxLen; omega
      case c4 => omega
      case c5 => simp; omega
      · intro v' w1 hown' hgrow _
        rw [own_grow (g := fun i => (dg 8 (x + y) i : Int)) (fun _ _ => rfl) (by have := HB.out.1; omega)] at hown'
        have hb1 := (HG.out.2.alloc hb2 (Obj.cells #[Value.int IntKind.i64 (((ca : Int) + d0 + d1) % 256)] 3)).grown hgrow (by simp; omega) (fun k hk => (hown.lt k hk).1)
        clear hown hgrow
        go_wp2
        go_roundg (M + 1 - (i + 1))
        case measure => have := HG.out.1; omega
        case rel => exact ⟨i + 1, by omega, rfl, by rw [← HB.out.2]; go_num, by go_num, hown', hb1⟩
set_option maxRecDepth 100000 in
set_option maxHeartbeats 2000000 in
theorem r2Cmp_any (x y : Nat) (w : World) (hx8 : Fil.dn 8 x ≤ 1048576) (hy8 : Fil.dn 8 y ≤ 1048576) :
    Calls Tryz.prog 53 #[.string (bstr x), .string (bstr y)] w fun e w' => e = .returned (.int .i64 (cmpZ x y)) ∧ ∃ k, w' = w.drewN k := by
  have hsx := bstr_size x
  have hsy := bstr_size y
  have hbx := fun k h => bstr_bt x k h
  have hby := fun k h => bstr_bt y k h
  have hgx := get_bt (bstr x)
  have hgy := get_bt (bstr y)
  obtain ⟨n, hn⟩ : ∃ n, n = Fil.dn 8 x := ⟨_, rfl⟩
  obtain ⟨m, hm⟩ : ∃ m, m = Fil.dn 8 y := ⟨_, rfl⟩
  simp only [← hn] at hsx hbx hx8
  simp only [← hm] at hsy hby hy8
  have Hn := Lib.hid hn
  have Hm := Lib.hid hm
  have HX := Lib.hid (And.intro hbx hby)
  clear hn hm hbx hby
  by_cases hnm : n = m
  · subst hnm
    go_enter Tryz.func53, Tryz.ntmps53
    go_wp2
    go_loopg [5] n (fun g s5 wr => ∃ k i : Nat, wr = w.drewN k ∧ i ≤ n ∧ g = n - i ∧ s5 = .int .i64 (i : Int) ∧ x / 2 ^ (8 * g) = y / 2 ^ (8 * g))
    case atStart => exact ⟨0, 0, rfl, by omega, by omega, rfl, by rw [Nat.div_eq_of_lt (by rw [Hn.out]; exact lt_dn (by omega) x), Nat.div_eq_of_lt (by rw [Hm.out]; exact lt_dn (by omega) y)]⟩
    case round =>
      obtain ⟨k, i, rfl, hi, hg, rfl, he⟩ := hrel
      have Hg := Lib.hid hg
      have He := Lib.hid he
      clear he
      by_cases hin : i < n
      · obtain ⟨g, hg2⟩ : ∃ g, g = n - 1 - i := ⟨_, rfl⟩
        have e1 := HX.out.1 i hin
        have e2 := HX.out.2 i hin
        rw [← hg2] at e1 e2
        have hgk : gk = g + 1 := by omega
        have e3 : (0 : Int) ≤ i := by omega
        have e4 : (i : Int) < n := by omega
        have e5 : i < (bstr x).size := by omega
        have e6 : i < (bstr y).size := by omega
        have h0 := dg_lt 8 x g
        have h1 := dg_lt 8 y g
        have Hgk := Lib.hid (And.intro hg2 hgk)
        rcases Nat.lt_trichotomy (dg 8 x g) (dg 8 y g) with hlt | heq | hgt
        · have hz := Lib.hid (cmpZ_lt (cmp_digit (by rw [← hgk]; exact He.out) hlt))
          clear hg hg2 hgk
          generalize dg 8 x g = d0 at *
          generalize dg 8 y g = d1 at *
          have t1 : decide (d0 < d1) = true := decide_eq_true hlt
          have t2 : decide ((d0 : Int) < (d1 : Int)) = true := decide_eq_true (by omega)
          clear hlt
          go_wp2
          go_quiet (fail)
          go_wp2
          go_ret
          exact ⟨by rw [hz.out]; rfl, _, by rw [World.drewN_drewN]⟩
        · have hz := Lib.hid (cmp_next (by rw [← hgk]; exact He.out) heq)
          clear hg hg2 hgk
          rw [heq] at e1
          generalize dg 8 y g = d1 at *
          have t1 : decide (d1 < d1) = false := decide_eq_false (by omega)
          have t2 : decide ((d1 : Int) < (d1 : Int)) = false := decide_eq_false (by omega)
          clear heq
          go_wp2
          go_quiet (fail)
          go_wp2
          go_quiet (fail)
          go_wp2
          go_roundg g
          case measure => have := Hgk.out; omega
          case rel => exact ⟨_, i + 1, rfl, by omega, by have := Hgk.out; omega, by go_num, hz.out⟩
        · have hz := Lib.hid (cmpZ_gt (cmp_digit (by rw [← hgk]; exact He.out.symm) hgt))
          clear hg hg2 hgk
          generalize dg 8 x g = d0 at *
          generalize dg 8 y g = d1 at *
          have t1 : decide (d0 < d1) = false := decide_eq_false (by omega)
          have t2 : decide ((d0 : Int) < (d1 : Int)) = false := decide_eq_false (by omega)
          have t3 : decide (d1 < d0) = true := decide_eq_true hgt
          have t4 : decide ((d1 : Int) < (d0 : Int)) = true := decide_eq_true (by omega)
          clear hgt
          go_wp2
          go_quiet (fail)
          go_wp2
          go_quiet (fail)
          go_wp2
          go_ret
          exact ⟨by rw [hz.out]; rfl, _, by rw [World.drewN_drewN, World.drewN_drewN]⟩
      · obtain rfl : i = n := by omega
        have hg0 : gk = 0 := by omega
        have hxy : x = y := by have := He.out; rw [hg0] at this; simpa using this
        subst hxy
        have hz := Lib.hid (cmpZ_eq x)
        clear hg hg0
        go_wp2
        go_ret
        exact ⟨by rw [hz.out]; rfl, k, rfl⟩
  · by_cases hlt : n < m
    · have hz := Lib.hid (cmpZ_lt (cmp_len (k := 8) (x := x) (y := y) (by omega) (by rw [← Hn.out, ← Hm.out]; exact hlt)))
      have t1 : ((n : Int) != (m : Int)) = true := by rw [bne_iff_ne]; omega
      go_enter Tryz.func53, Tryz.ntmps53
      go_wp2
      go_ret
      exact ⟨by rw [hz.out]; rfl, 0, rfl⟩
    · have hz := Lib.hid (cmpZ_gt (cmp_len (k := 8) (x := y) (y := x) (by omega) (by rw [← Hn.out, ← Hm.out]; omega)))
      have t1 : ((n : Int) != (m : Int)) = true := by rw [bne_iff_ne]; omega
      go_enter Tryz.func53, Tryz.ntmps53
      go_wp2
      go_ret
      exact ⟨by rw [hz.out]; rfl, 0, rfl⟩
end Go.Proofs.YtbfnafcpjbdbpaaGreat

/- The reference of layer 2: times, Sub (printed by gen_r4.py out of B9's walks). -/
namespace Go.Proofs.YtbfnafcpjbdbpaaGreat
open Go Go.RowKit Go.PlainAid Fil

theorem r2at_quiet (A : Option Addr) (n c x : Nat) (z : Int) (w : World) (hn : n = Fil.dn 8 x) (h0 : 0 ≤ z) (h8 : n ≤ 4398046511104) (h : Slc w 3 A n (i8 x)) :
    Calls Tryz.prog 99 #[.slice A n c, .int .i64 z] w fun e w' => e = .returned (.int .i64 (dg 8 x z.toNat)) ∧ ∃ k, w' = w.drewN k :=
  (r2at_any A n c x z w hn h0 h8 h).mono fun _ _ ⟨he, hw⟩ => ⟨he, 0, hw.symm⟩

set_option maxHeartbeats 8000000 in
set_option maxRecDepth 100000 in
theorem r2times_any (x y : Nat) (w : World) (hx8 : Fil.dn 8 x ≤ 500000) (hy8 : Fil.dn 8 y ≤ 500000) :
    Calls Tryz.prog 124 #[.string (bstr x), .string (bstr y)] w fun r w' => r = .returned (.string (bstr (x * y))) ∧ Below w.heap.size w w' := by
  have hd1 := fun W => r2digits_any x W (by omega)
  have hd2 := fun W => r2digits_any y W (by omega)
  obtain ⟨n, hn⟩ : ∃ n, n = Fil.dn 8 x := ⟨_, rfl⟩
  obtain ⟨m, hm⟩ : ∃ m, m = Fil.dn 8 y := ⟨_, rfl⟩
  simp only [← hn] at hd1 hx8
  simp only [← hm] at hd2 hy8
  have hx := lt_dn (k := 8) (by omega) x
  have hy := lt_dn (k := 8) (by omega) y
  rw [← hn] at hx
  rw [← hm] at hy
  have Hx := Lib.hid hx
  have Hy := Lib.hid hy
  have Hn := Lib.hid hn
  have Hm := Lib.hid hm
  clear hn hm hx hy
  have hmk := run_make_row' (P := Tryz.prog) 119 3 (.int .i64 0) 8 Tryz.underlying119 Tryz.info3 rfl .i64 .i64 (n + m + 1) (by omega) (by omega)
  have ec : ((n + m + 1 : Nat) : Int) = (n : Int) + m + 1 := by omega
  rw [ec] at hmk
  clear ec
  have hB00 := Below.refl w.heap.size w
  go_enter Tryz.func124, Tryz.ntmps124
  go_wp2_with fail
  refine (hd1 _).mono ?_
  rintro r w1 ⟨v1, rfl, ho1, hb1⟩
  obtain ⟨A, c, rfl, hnc, ha⟩ := Own.slc ho1
  go_wp2_with fail
  refine (hd2 _).mono ?_
  rintro r w2 ⟨v2, rfl, ho2, hb2⟩
  obtain ⟨B, d, rfl, hmd, hb⟩ := Own.slc ho2
  replace ha : Slc w2 3 A n (i8 x) := ha.below hb2
  replace hb : Slc w2 3 B m (i8 y) := hb
  have HB0 := Lib.hid (hB00.trans ((hb1.trans (hb2.mono hb1.size)).mono hB00.size))
  clear ho1 ho2 hb1 hb2 hd1 hd2 hB00
  go_wp2
  clear hmk
  go_loopg [8] n (fun g sI wr => ∃ i : Nat, i ≤ n ∧ g = n - i ∧ sI = .int .i64 i ∧ wr.rowIs w2.heap.size 3 (n + m + 1) (i8 (x % 2 ^ (8 * i) * y)) ∧ Below w2.heap.size w2 wr)
  case atStart => exact ⟨0, by omega, by omega, rfl, (World.rowIs_made w2 _ (n + m + 1) 3).congr (fun j _ => by simp only [Nat.mul_zero, Nat.pow_zero, Nat.mod_one, Nat.zero_mul, i8_zero]), (Below.refl _ _).alloc (Nat.le_refl _) _⟩
  case round =>
    obtain ⟨i, hi, hg, rfl, hrow, hbel⟩ := hrel
    have Hg := Lib.hid hg
    clear hg
    by_cases hin : i < n
    · have hdx := dg_lt 8 x i
      go_wp2
      obtain ⟨wo, rfl⟩ : ∃ wo : World, wo = wr := ⟨_, rfl⟩
      go_loopg [9, 10] (m + 1) (fun g sM sK wr => ∃ k : Nat, k ≤ m + 1 ∧ g = m + 1 - k ∧ sM = .int .i64 (mcar 8 (x % 2 ^ (8 * i) * y) (dg 8 x i) y i k) ∧ sK = .int .i64 k ∧ wr.rowIs w2.heap.size 3 (n + m + 1) (mrow8 (x % 2 ^ (8 * i) * y) (mac 8 (x % 2 ^ (8 * i) * y) (dg 8 x i) y i k) (i + k)) ∧ Below w2.heap.size w2 wr)
      case atStart => exact ⟨0, by omega, by omega, by rw [mcar_zero]; rfl, rfl, hrow.congr (fun j _ => by
        unfold mrow8; rw [mac_zero]
        by_cases h : j < i + 0
        · rw [if_pos h, i8, i8, dg_mod (by omega)]
        · rw [if_neg h]), hbel⟩
      case round =>
        clear hrow hbel
        obtain ⟨k, hk, hg2, rfl, rfl, hrow, hbel⟩ := hrel
        have Hg2 := Lib.hid hg2
        clear hg2
        have hcar : mcar 8 (x % 2 ^ (8 * i) * y) (dg 8 x i) y i k < 256 := mcar_lt 8 _ _ y i (dg_lt 8 x i) k
        by_cases hkm : k < m
        · have hcar0 := hcar
          obtain ⟨b1, o1, rfl, _, hc1⟩ := (ha.below hbel).cell (by omega)
          have k1 := hc1 i hin
          simp only [i8] at k1
          have k3 := hrow.cell (i := i + k) (by omega)
          have k4 := hrow.frozen (i + k)
          unfold mrow8 at k3
          rw [if_neg (by omega), i8] at k3
          have hs2 := hb.below hbel
          have hrb := fun W => r2at_quiet B m d y (k : Int) W Hm.out (by omega) (by omega)
          simp only [Int.toNat_natCast] at hrb
          have HA := Lib.hid hrb
          have h1 := mcar_dg 8 (x % 2 ^ (8 * i) * y) (dg 8 x i) y i k
          have h2 := mcar_succ 8 (x % 2 ^ (8 * i) * y) (dg 8 x i) y i k
          have HB := Lib.hid (And.intro h1 h2)
          have hdv := dg_lt 8 (x % 2 ^ (8 * i) * y) (i + k)
          have hdy := dg_lt 8 y k
          have HR := Lib.hid (And.intro hrow hbel)
          have hb2 := hbel.size
          clear hc1 hrb h1 h2 hrow hbel
          obtain ⟨ca, hca⟩ : ∃ ca, ca = mcar 8 (x % 2 ^ (8 * i) * y) (dg 8 x i) y i k := ⟨_, rfl⟩
          rw [← hca] at hcar hcar0 HB ⊢
          obtain ⟨d0, hd0⟩ : ∃ d0, d0 = dg 8 (x % 2 ^ (8 * i) * y) (i + k) := ⟨_, rfl⟩
          rw [← hd0] at hdv k3 HB
          obtain ⟨d1, hd1⟩ : ∃ d1, d1 = dg 8 y k := ⟨_, rfl⟩
          rw [← hd1] at hdy HB HA
          obtain ⟨a, haa⟩ : ∃ a, a = dg 8 x i := ⟨_, rfl⟩
          rw [← haa] at hdx k1 HB HR
          obtain ⟨p, hp⟩ : ∃ p, p = a * d1 := ⟨_, rfl⟩
          have hpl : p ≤ 255 * 255 := by rw [hp]; exact Nat.mul_le_mul (by omega) (by omega)
          have W0 : (a : Int) * (d1 : Int) = (p : Int) := by rw [hp]; simp
          rw [← hp] at HB
          have W1 : IntKind.i64.wrap (p : Int) = (p : Int) := IntWalk.i64_in _ (by omega)
          have W2 : IntKind.i64.wrap ((ca : Int) + d0) = (ca : Int) + d0 := IntWalk.i64_in _ (by omega)
          have W3 : IntKind.i64.wrap ((ca : Int) + d0 + p) = (ca : Int) + d0 + p := IntWalk.i64_in _ (by omega)
          have W4 : IntKind.i64.wrap ((i : Int) + k) = (i : Int) + k := IntWalk.i64_in _ (by omega)
          have W5 : ((i : Int) + (k : Int)).toNat = i + k := by omega
          have P0 : 0 ≤ (i : Int) + k := by omega
          have P1 : (i : Int) + k < (n : Int) + m + 1 := by omega
          have P2 : 0 ≤ (i : Int) := by omega
          have P3 : (i : Int) < n := by omega
          have hp0 : (ca : Int) + d0 + p ≤ 100000 := by omega
          have hq0 : 0 ≤ (ca : Int) + d0 + p := by omega
          have Hx1 := Lib.hid (And.intro hca (And.intro hd0 (And.intro hd1 (And.intro haa hp))))
          clear hca hd0 hd1 haa hp hcar0
          go_wp2_with fail
          go_quiet ((go_at_call 99; exact Calls.quiet_of (HA.out _ (hs2.drewN _))))
          clear HA hs2 W0 W1 W2 W3 W4 k1
          go_wp2
          go_roundg (m + 1 - (k + 1))
          case measure => have := Hg2.out; omega
          case rel =>
            obtain ⟨_, _, _, haa, _⟩ := Hx1.out
            subst haa
            exact ⟨k + 1, by omega, rfl, by rw [← HB.out.2]; go_num, by go_num, ((rows_drewN HR.out.1 _).set (i + k) _).congr (fun j _ => mrow8_step (by rw [i8, ← HB.out.1]; go_num)), (Below.drewN' HR.out.2 _).setCell (Nat.le_refl _) _⟩
        · by_cases hc0 : mcar 8 (x % 2 ^ (8 * i) * y) (dg 8 x i) y i k = 0
          · have He := Lib.hid (fun j => @times_end x y i m k j Hy.out (by omega) hc0)
            rw [hc0]
            clear hcar hc0
            go_wp2
            go_roundg (n - (i + 1))
            case measure => have := Hg.out; omega
            case rel => exact ⟨i + 1, by omega, rfl, by go_num, hrow.congr (fun j _ => He.out j), hbel⟩
          · have hcar0 : 0 < mcar 8 (x % 2 ^ (8 * i) * y) (dg 8 x i) y i k := by omega
            have hkm2 : k = m := by
              rcases Nat.lt_or_ge m k with h | h
              · exfalso
                have e : k = m + 1 := by omega
                rw [e, times_car0 Hy.out] at hcar0
                omega
              · omega
            subst hkm2
            clear hc0
            obtain ⟨b1, o1, rfl, _, hc1⟩ := (ha.below hbel).cell (by omega)
            have k1 := hc1 i hin
            simp only [i8] at k1
            have k3 := hrow.cell (i := i + k) (by omega)
            have k4 := hrow.frozen (i + k)
            unfold mrow8 at k3
            rw [if_neg (by omega), i8] at k3
            have hs2 := hb.below hbel
            have hrb := fun W => r2at_quiet B k d y (k : Int) W Hm.out (by omega) (by omega)
            simp only [Int.toNat_natCast] at hrb
            have HA := Lib.hid hrb
            have h1 := mcar_dg 8 (x % 2 ^ (8 * i) * y) (dg 8 x i) y i k
            have h2 := mcar_succ 8 (x % 2 ^ (8 * i) * y) (dg 8 x i) y i k
            have HB := Lib.hid (And.intro h1 h2)
            have hdv := dg_lt 8 (x % 2 ^ (8 * i) * y) (i + k)
            have hdy := dg_lt 8 y k
            have HR := Lib.hid (And.intro hrow hbel)
            have hb2 := hbel.size
            clear hc1 hrb h1 h2 hrow hbel
            obtain ⟨ca, hca⟩ : ∃ ca, ca = mcar 8 (x % 2 ^ (8 * i) * y) (dg 8 x i) y i k := ⟨_, rfl⟩
            rw [← hca] at hcar hcar0 HB ⊢
            obtain ⟨d0, hd0⟩ : ∃ d0, d0 = dg 8 (x % 2 ^ (8 * i) * y) (i + k) := ⟨_, rfl⟩
            rw [← hd0] at hdv k3 HB
            obtain ⟨d1, hd1⟩ : ∃ d1, d1 = dg 8 y k := ⟨_, rfl⟩
            rw [← hd1] at hdy HB HA
            obtain ⟨a, haa⟩ : ∃ a, a = dg 8 x i := ⟨_, rfl⟩
            rw [← haa] at hdx k1 HB HR
            obtain ⟨p, hp⟩ : ∃ p, p = a * d1 := ⟨_, rfl⟩
            have hpl : p ≤ 255 * 255 := by rw [hp]; exact Nat.mul_le_mul (by omega) (by omega)
            have W0 : (a : Int) * (d1 : Int) = (p : Int) := by rw [hp]; simp
            rw [← hp] at HB
            have W1 : IntKind.i64.wrap (p : Int) = (p : Int) := IntWalk.i64_in _ (by omega)
            have W2 : IntKind.i64.wrap ((ca : Int) + d0) = (ca : Int) + d0 := IntWalk.i64_in _ (by omega)
            have W3 : IntKind.i64.wrap ((ca : Int) + d0 + p) = (ca : Int) + d0 + p := IntWalk.i64_in _ (by omega)
            have W4 : IntKind.i64.wrap ((i : Int) + k) = (i : Int) + k := IntWalk.i64_in _ (by omega)
            have W5 : ((i : Int) + (k : Int)).toNat = i + k := by omega
            have P0 : 0 ≤ (i : Int) + k := by omega
            have P1 : (i : Int) + k < (n : Int) + k + 1 := by omega
            have P2 : 0 ≤ (i : Int) := by omega
            have P3 : (i : Int) < n := by omega
            have hp0 : (ca : Int) + d0 + p ≤ 100000 := by omega
            have hq0 : 0 ≤ (ca : Int) + d0 + p := by omega
            have Hx1 := Lib.hid (And.intro hca (And.intro hd0 (And.intro hd1 (And.intro haa hp))))
            clear hca hd0 hd1 haa hp
            go_wp2_with fail
            go_quiet ((go_at_call 99; exact Calls.quiet_of (HA.out _ (hs2.drewN _))))
            clear HA hs2 W0 W1 W2 W3 W4 k1
            go_wp2
            go_roundg (k + 1 - (k + 1))
            case measure => have := Hg2.out; omega
            case rel =>
              obtain ⟨_, _, _, haa, _⟩ := Hx1.out
              subst haa
              exact ⟨k + 1, by omega, rfl, by rw [← HB.out.2]; go_num, by go_num, ((rows_drewN HR.out.1 _).set (i + k) _).congr (fun j _ => mrow8_step (by rw [i8, ← HB.out.1]; go_num)), (Below.drewN' HR.out.2 _).setCell (Nat.le_refl _) _⟩
    · obtain rfl : i = n := by omega
      rw [Nat.mod_eq_of_lt Hx.out] at hrow
      have hlt : x * y < 2 ^ (8 * (i + m + 1)) := Nat.lt_of_lt_of_le (show x * y < 2 ^ (8 * (i + m)) by rw [padd]; exact Nat.mul_lt_mul'' Hx.out Hy.out) (pmono (by omega))
      have Hs := Lib.hid hlt
      clear hlt
      go_wp2_with fail
      refine (r2made_gen _ (i + m + 1) (i + m + 1) (x * y) _ Hs.out (by omega) (Slc.of_row hrow (by omega))).mono ?_
      rintro e w' ⟨rfl, hb3⟩
      go_wp2
      go_ret
      exact ⟨rfl, HB0.out.trans ((hbel.trans (hb3.mono hbel.size)).mono HB0.out.size)⟩

set_option maxHeartbeats 8000000 in
set_option maxRecDepth 100000 in
theorem r2Sub_any (x y : Nat) (w : World) (hxy : y ≤ x) (hx8 : Fil.dn 8 x ≤ 1048570) :
    Calls Tryz.prog 54 #[.string (bstr x), .string (bstr y)] w fun r w' => r = .returned (.tuple #[.string (bstr (x - y)), .int .i64 0]) ∧ Below w.heap.size w w' := by
  have hy8 : Fil.dn 8 y ≤ 1048570 := Nat.le_trans (dn_mono (by omega) hxy) hx8
  have hcmp := fun W => r2Cmp_any x y W (by omega) (by omega)
  have hd1 := fun W => r2digits_any x W (by omega)
  have hd2 := fun W => r2digits_any y W (by omega)
  obtain ⟨n, hn⟩ : ∃ n, n = Fil.dn 8 x := ⟨_, rfl⟩
  obtain ⟨m, hm⟩ : ∃ m, m = Fil.dn 8 y := ⟨_, rfl⟩
  simp only [← hn] at hd1 hx8
  simp only [← hm] at hd2 hy8
  have hx := lt_dn (k := 8) (by omega) x
  rw [← hn] at hx
  have hmn : m ≤ n := by rw [hn, hm]; exact dn_mono (by omega) hxy
  have Hn := Lib.hid hn
  have Hm := Lib.hid hm
  obtain ⟨i0, hi, hp⟩ := Option.map_eq_some_iff.1 Tryz.info3
  have hz0 : i0.zero = some (.int .i64 0) := congrArg Prod.fst hp
  have hz1 : i0.size = 1 := congrArg (fun q => q.2.1) hp
  have hz2 : i0.bytes = 8 := congrArg (fun q => q.2.2) hp
  have HL0 := Lib.hid (Nat.lt_of_le_of_lt (Nat.sub_le x y) hx)
  have Hxy := Lib.hid hxy
  clear hn hm hp hx hxy
  have hc0 : (cmpZ x y < 0) = False := by
    unfold cmpZ
    have : ¬ x < y := by have := Hxy.out; omega
    rw [if_neg this]
    split <;> simp
  obtain ⟨cz, hcz⟩ : ∃ cz, cz = cmpZ x y := ⟨_, rfl⟩
  simp only [← hcz] at hcmp hc0
  have t0 : decide (cz < 0) = false := decide_eq_false (by rw [hc0]; exact id)
  clear hc0 hcz
  go_enter Tryz.func54, Tryz.ntmps54
  go_wp2_with fail
  refine (hcmp _).mono ?_
  rintro r w0 ⟨rfl, k0, rfl⟩
  have hB00 : Below w.heap.size w (w.drewN k0) := Below.drewN' (Below.refl w.heap.size w) k0
  generalize w.drewN k0 = w0 at *
  clear hcmp
  go_wp2_with fail
  refine (hd1 _).mono ?_
  rintro r w1 ⟨v1, rfl, ho1, hb1⟩
  obtain ⟨A, c, rfl, hnc, ha⟩ := Own.slc ho1
  go_wp2_with fail
  refine (hd2 _).mono ?_
  rintro r w2 ⟨v2, rfl, ho2, hb2⟩
  obtain ⟨B, d, rfl, hmd, hb⟩ := Own.slc ho2
  replace ha : Slc w2 3 A n (i8 x) := ha.below hb2
  replace hb : Slc w2 3 B m (i8 y) := hb
  have HB0 := Lib.hid (hB00.trans ((hb1.trans (hb2.mono hb1.size)).mono hB00.size))
  clear ho1 ho2 hb1 hb2 hd1 hd2 hB00
  clear t0
  go_wp2
  go_loopg [8, 9, 10] n (fun g sO sL sI wr => ∃ i : Nat, i ≤ n ∧ g = n - i ∧ sL = .int .i64 (borrow 8 x y i) ∧ sI = .int .i64 i ∧ Own wr w2.heap.size sO i (fun j => (dg 8 (x - y) j : Int)) ∧ Below w2.heap.size w2 wr)
  case atStart => exact ⟨0, by omega, by omega, by rw [borrow_zero]; rfl, rfl, Own.nil _ _ _, Below.refl _ _⟩
  case round =>
    obtain ⟨i, hiM, hg, rfl, rfl, hown, hbel⟩ := hrel
    have hs1 := ha.below hbel
    have hs2 := hb.below hbel
    have hrb := fun W => r2at_quiet B m d y (i : Int) W Hm.out (by omega) (by omega)
    simp only [Int.toNat_natCast] at hrb
    have hcl := borrow_le 8 x y i
    have h1 := sub_succ (k := 8) (i := i) Hxy.out
    have h2 := borrow_succ 8 x y i
    have hd0 := dg_lt 8 x i
    have hd1 := dg_lt 8 y i
    have hb2 := hbel.size
    have HG := Lib.hid (And.intro hg hbel)
    have HA := Lib.hid hrb
    have HB := Lib.hid (And.intro h1 h2)
    clear hg hbel hrb h1 h2
    by_cases hin : i < n
    · by_cases hlt : dg 8 x i < dg 8 y i + borrow 8 x y i
      · have HL := Lib.hid hlt
        obtain ⟨b1, o1, rfl, _, hc1⟩ := hs1.cell (by omega)
        have k1 := hc1 i hin
        simp only [i8] at k1
        clear hc1 hs1
        generalize dg 8 x i = d0 at *
        generalize dg 8 y i = d1 at *
        generalize borrow 8 x y i = bo at *
        have W1 : IntKind.i64.wrap ((d0 : Int) - d1) = (d0 : Int) - d1 := IntWalk.i64_in _ (by omega)
        have W2 : IntKind.i64.wrap ((d0 : Int) - d1 - bo) = (d0 : Int) - d1 - bo := IntWalk.i64_in _ (by omega)
        have P0 : (0 : Int) ≤ (i : Int) := by omega
        have P1 : (i : Int) < (n : Int) := by omega
        go_wp2_with fail
        go_quiet ((go_at_call 99; exact Calls.quiet_of (HA.out _ (by exact hs2))))
        clear HA hs2 W1 W2 k1
        go_wp2_with (at_builtin; refine wpList_append_own _ rfl _ _ 119 rfl w2.heap.size 3 i0 (.int .i64 0) 1 8 Tryz.underlying119 hi hz0 hz1 hz2 rfl (by decide) _ _ _ rfl (by exact hown.alloc _) ⟨wr.heap.size, 0, none⟩ 1 1 [.int .i64 ((d0 : Int) - d1 - bo + 256)] rfl rfl ?c1 ?c2 ?c3 ?c4 ?c5 ?_)
        case c1 =>
          intro j u hj
          match j, hj with
          | 0, hj => simp at hj; subst hj; simp [Addr.add]; exact one_cell (wr.drewN nq) _ _
        case c2 => intro u hu; simp at hu; subst hu; rfl
        case c3 => unfold maxLen; omega
        case c4 => omega
        case c5 => simp; omega
        · intro v' w1 hown' hgrow _
          rw [own_grow (g := fun i => (dg 8 (x - y) i : Int)) (fun _ _ => rfl) (by have := HB.out.1; have := HL.out; omega)] at hown'
          have hb1 := ((Below.drewN' HG.out.2 nq).alloc hb2 (Obj.cells #[Value.int IntKind.i64 ((d0 : Int) - d1 - bo + 256)] 3)).grown hgrow (by simp; omega) (fun k hk => (hown.lt k hk).1)
          clear hown hgrow
          go_wp2
          go_roundg (n - (i + 1))
          case measure => have := HG.out.1; omega
          case rel => exact ⟨i + 1, by omega, rfl, by rw [HB.out.2, if_pos HL.out]; rfl, by go_num, hown', hb1⟩
      · have HL := Lib.hid hlt
        obtain ⟨b1, o1, rfl, _, hc1⟩ := hs1.cell (by omega)
        have k1 := hc1 i hin
        simp only [i8] at k1
        clear hc1 hs1
        generalize dg 8 x i = d0 at *
        generalize dg 8 y i = d1 at *
        generalize borrow 8 x y i = bo at *
        have W1 : IntKind.i64.wrap ((d0 : Int) - d1) = (d0 : Int) - d1 := IntWalk.i64_in _ (by omega)
        have W2 : IntKind.i64.wrap ((d0 : Int) - d1 - bo) = (d0 : Int) - d1 - bo := IntWalk.i64_in _ (by omega)
        have P0 : (0 : Int) ≤ (i : Int) := by omega
        have P1 : (i : Int) < (n : Int) := by omega
        go_wp2_with fail
        go_quiet ((go_at_call 99; exact Calls.quiet_of (HA.out _ (by exact hs2))))
        clear HA hs2 W1 W2 k1
        go_wp2_with (at_builtin; refine wpList_append_own _ rfl _ _ 119 rfl w2.heap.size 3 i0 (.int .i64 0) 1 8 Tryz.underlying119 hi hz0 hz1 hz2 rfl (by decide) _ _ _ rfl (by exact hown.alloc _) ⟨wr.heap.size, 0, none⟩ 1 1 [.int .i64 ((d0 : Int) - d1 - bo)] rfl rfl ?c1 ?c2 ?c3 ?c4 ?c5 ?_)
        case c1 =>
          intro j u hj
          match j, hj with
          | 0, hj => simp at hj; subst hj; simp [Addr.add]; exact one_cell (wr.drewN nq) _ _
        case c2 => intro u hu; simp at hu; subst hu; rfl
        case c3 => unfold maxLen; omega
        case c4 => omega
        case c5 => simp; omega
        · intro v' w1 hown' hgrow _
          rw [own_grow (g := fun i => (dg 8 (x - y) i : Int)) (fun _ _ => rfl) (by have := HB.out.1; have := HL.out; omega)] at hown'
          have hb1 := ((Below.drewN' HG.out.2 nq).alloc hb2 (Obj.cells #[Value.int IntKind.i64 ((d0 : Int) - d1 - bo)] 3)).grown hgrow (by simp; omega) (fun k hk => (hown.lt k hk).1)
          clear hown hgrow
          go_wp2
          go_roundg (n - (i + 1))
          case measure => have := HG.out.1; omega
          case rel => exact ⟨i + 1, by omega, rfl, by rw [HB.out.2, if_neg HL.out]; rfl, by go_num, hown', hb1⟩
    · obtain rfl : i = n := by omega
      obtain ⟨A', c', rfl, hnc', hs'⟩ := Own.slc hown
      have Hle := Lib.hid (dn_le (k := 8) (by omega) HL0.out)
      have hbel := HG.out.2
      clear hown HB hd0 hd1 hcl hs1 hs2 ha hb HA
      go_wp2_with fail
      refine (r2made_gen A' i c' (x - y) _ HL0.out (by omega) hs').mono ?_
      rintro r w3 ⟨rfl, hb3⟩
      go_wp2
      go_returns
      exact ⟨rfl, HB0.out.trans ((hbel.trans (hb3.mono hbel.size)).mono HB0.out.size)⟩
end Go.Proofs.YtbfnafcpjbdbpaaGreat
