/- Merged: R4 R5 R6 R7 R9 -/
import Derived.Test.YtjldfclncipbgaaGreatDoorB8
import Derived.Test.YtjldfclncipbgaaGreatDoorB9
import Derived.Test.YtjldfclncipbgaaGreatDoorBJ
import Derived.Test.YtjldfclncipbgaaGreatDoorJG
import Derived.Test.YtjldfclncipbgaaGreatDoorJZ

/- Merged: R1 R2 R3 R4 -/
/- The reference of layer 2: digits, at (turned from the texts over layer 3's reference). -/
namespace Go.Proofs.YtjldfclncipbgaaGreatDoor
open Go Go.RowKit Go.PlainAid Fil

set_option maxHeartbeats 2000000 in
theorem r2digits_any (x : Nat) (w : World) (hx : Fil.dn 8 x ≤ 1048576) :
    Calls Tryz.prog 62 #[.string (bstr x)] w fun r w' => ∃ v, r = .returned v ∧ Own w' w.heap.size v (Fil.dn 8 x) (fun i => (dg 8 x i : Int)) ∧ Below w.heap.size w w' := by
  have hsz := bstr_size x
  obtain ⟨n, hn⟩ : ∃ n, n = Fil.dn 8 x := ⟨_, rfl⟩
  have hbt := fun j (h : j < n) => bstr_bt x (n - 1 - j) (by omega)
  have hgb := get_bt (bstr x)
  rw [← hn] at hsz hx ⊢
  obtain ⟨i0, hi, hp⟩ := Option.map_eq_some_iff.1 Tryz.info3
  have hz0 : i0.zero = some (.int .i64 0) := congrArg Prod.fst hp
  have hz1 : i0.size = 1 := congrArg (fun q => q.2.1) hp
  have hz2 : i0.bytes = 8 := congrArg (fun q => q.2.2) hp
  have HX := Lib.hid hbt
  clear hbt
  go_enter Tryz.func62, Tryz.ntmps62
  go_wp2
  go_loopg [3, 4] n (fun g v s4 wr => ∃ j : Nat, j ≤ n ∧ g = n - j ∧ s4 = .int .i64 ((n : Int) - 1 - j) ∧ Own wr w.heap.size v j (fun i => (dg 8 x i : Int)) ∧ Below w.heap.size w wr)
  case atStart => exact ⟨0, by omega, by omega, by go_num, Own.nil _ _ _, Below.refl _ _⟩
  case round =>
    obtain ⟨j, hj, hg, rfl, hown, hbel⟩ := hrel
    by_cases hjn : j < n
    · obtain ⟨k, hk⟩ : ∃ k, k = n - 1 - j := ⟨_, rfl⟩
      have hkc : (n : Int) - 1 - j = (k : Int) := by omega
      have hbk : bt (bstr x) k = (dg 8 x j : Int) := by rw [hk, HX.out j hjn, ← hn, show n - 1 - (n - 1 - j) = j by omega]
      have hd0 : 0 ≤ (dg 8 x j : Int) := by omega
      have hd1 : (dg 8 x j : Int) < 256 := by have := dg_lt 8 x j; omega
      have hks : k < (bstr x).size := by rw [hsz]; omega
      have hkn : (k : Int) < 1048576 := by omega
      rw [hkc]
      have Hk := Lib.hid (And.intro hk (And.intro hkc (And.intro hjn (And.intro hg hbel))))
      have hx' := Lib.hid hx
      have hbs := hbel.size
      clear hk hkc hjn hg hn hx hj
      go_wp2_with (at_builtin; refine wpList_append_own _ rfl _ _ 97 rfl w.heap.size 3 i0 (.int .i64 0) 1 8 Tryz.underlying97 hi hz0 hz1 hz2 rfl (by decide) _ _ _ rfl (hown.alloc _) ⟨wr.heap.size, 0, none⟩ 1 1 [.int .i64 (dg 8 x j)] rfl rfl ?c1 ?c2 ?c3 ?c4 ?c5 ?_)
      case c1 =>
        intro j u hj
        match j, hj with
        | 0, hj => simp at hj; subst hj; simp [Addr.add]
      case c2 => intro u hu; simp at hu; subst hu; rfl
      case c3 => have := Hk.out; have := hx'.out; unfold maxLen; omega
      case c4 => have := Hk.out; have := hx'.out; omega
      case c5 => simp; omega
      · intro v' w1 hown' hgrow _
        rw [range_grow] at hown'
        have hb1 := (hbel.alloc hbs (Obj.cells #[Value.int IntKind.i64 (dg 8 x j)] 3)).grown hgrow (by simp; omega) (fun k hk => (hown.lt k hk).1)
        clear hown hgrow hbel hbk hd0 hd1 hks hgb
        go_wp2
        go_roundg (n - (j + 1))
        case measure => have := Hk.out; omega
        case rel => exact ⟨j + 1, by have := Hk.out; omega, rfl, congrArg (Value.int IntKind.i64) (by have := Hk.out; omega), hown', hb1⟩
    · have he : j = n := by omega
      rw [show (n : Int) - 1 - j = -1 by omega]
      subst he
      clear hn hj hjn hg hx hsz
      go_wp2
      go_ret
      exact ⟨_, rfl, hown, hbel⟩

set_option maxHeartbeats 4000000 in
/-- made of digits that may end with noughts -/
theorem r2made_gen (A : Option Addr) (N c x : Nat) (w : World) (hx : x < 2 ^ (8 * N)) (h8 : N ≤ 1048576) (h : Slc w 3 A N (i8 x)) :
    Calls Tryz.prog 53 #[.slice A N c] w fun r w' => r = .returned (.string (bstr x)) ∧ Below w.heap.size w w' := by
  obtain ⟨n, hn⟩ : ∃ n, n = Fil.dn 8 x := ⟨_, rfl⟩
  have hnN : n ≤ N := by rw [hn]; exact dn_le (by omega) hx
  have hmk := run_make_row' (P := Tryz.prog) 87 5 (.int .u8 0) 1 Tryz.underlying87 Tryz.info5 rfl .i64 .i64 n (by omega) (by omega)
  have hlast : 0 < n → dg 8 x (n - 1) ≠ 0 := fun hp => by
    have hx : x ≠ 0 := by rintro rfl; rw [dn_zero] at hn; omega
    have := dg_top (k := 8) (by omega) hx
    rwa [← hn] at this
  have hzero : ∀ j, n ≤ j → dg 8 x j = 0 := fun j hj => dg_zero_of (Nat.lt_of_lt_of_le (lt_dn (k := 8) (by omega) x) (pmono (by rw [← hn]; omega)))
  have Hn := Lib.hid (And.intro hn (And.intro hlast hzero))
  have HS := Lib.hid h
  clear hn hlast hzero h hx
  go_enter Tryz.func53, Tryz.ntmps53
  go_wp2_with fail
  go_loopg [3] N (fun g s3 wr => w = wr ∧ n ≤ g ∧ g ≤ N ∧ s3 = .int .i64 g)
  case atStart => exact ⟨rfl, hnN, Nat.le_refl _, rfl⟩
  case round =>
    obtain ⟨rfl, hg1, hg2, rfl⟩ := hrel
    by_cases hgn : n < gk
    · obtain ⟨b, o, rfl, hlt, hc⟩ := HS.out.cell (by omega)
      have hc9 := hc (gk - 1) (by omega)
      rw [i8, Hn.out.2.2 (gk - 1) (by omega)] at hc9
      obtain ⟨m, hm⟩ : ∃ m, m = gk - 1 := ⟨_, rfl⟩
      have hmi : (gk : Int) - 1 = (m : Int) := by omega
      have hm0 : 0 ≤ (m : Int) := by omega
      have hmN : (m : Int) < (N : Int) := by omega
      have hd0 : decide (0 < gk) = true := decide_eq_true (by omega)
      have hd1 : decide (0 < (gk : Int)) = true := decide_eq_true (by omega)
      rw [← hm] at hc9
      have HM := Lib.hid hm
      clear hc hm
      go_wp2_with fail
      go_roundg (gk - 1)
      case measure => omega
      case rel => exact ⟨rfl, by omega, by omega, congrArg (Value.int IntKind.i64) (by have := HM.out; omega)⟩
    · obtain rfl : n = gk := by omega
      by_cases hp : 0 < n
      · obtain ⟨b, o, rfl, hlt, hc⟩ := HS.out.cell (by omega)
        have hc9 := hc (n - 1) (by omega)
        have hl : ((dg 8 x (n - 1) : Int) == 0) = false := by rw [beq_eq_false_iff_ne]; have := Hn.out.2.1 hp; omega
        obtain ⟨m, hm⟩ : ∃ m, m = n - 1 := ⟨_, rfl⟩
        have hmi : (n : Int) - 1 = (m : Int) := by omega
        have hmn : m < n := by omega
        have hm0 : 0 ≤ (m : Int) := by omega
        have hmN : (m : Int) < (N : Int) := by omega
        have hd0 : decide (0 < n) = true := decide_eq_true hp
        have hd1 : decide (0 < (n : Int)) = true := decide_eq_true (by omega)
        rw [← hm] at hl hc9
        unfold i8 at hc9
        clear hc hm
        go_wp2_with fail
        clear hmk
        go_loopg [5] n (fun g s5 wr => ∃ i : Nat, i ≤ n ∧ g = n - i ∧ s5 = .int .i64 i ∧ wr.rowIs w.heap.size 5 n (fun j => if n - i ≤ j then b8 x (n - 1 - j) else .int .u8 0) ∧ Below w.heap.size w wr)
        case atStart => exact ⟨0, by omega, by omega, rfl, (World.rowIs_made w _ n 5).congr (fun j hj => by simp; omega), (Below.refl _ _).alloc (Nat.le_refl _) _⟩
        case round =>
          obtain ⟨i, hi, hg, rfl, hrow, hbel⟩ := hrel
          have Hg := Lib.hid hg
          clear hg
          clear hc9 hl
          by_cases hin : i < n
          · obtain ⟨b1, o1, hA, _, hc1⟩ := (HS.out.below hbel).cell (by omega)
            injection hA with hA
            injection hA with hA1 hA2 _
            subst hA1 hA2
            have k1 := hc1 i (by omega)
            simp only [i8] at k1
            obtain ⟨k, hk⟩ : ∃ k, k = n - 1 - i := ⟨_, rfl⟩
            have ek : (n : Int) - 1 - (i : Int) = (k : Int) := by omega
            have ek2 : (m : Int) - (i : Int) = (k : Int) := by omega
            have hkm : k < n := by omega
            have Hk : Hid (k = n - 1 - i) := Lib.hid hk
            have k2 := hrow.cell (i := k) (by omega)
            have k3 := hrow.frozen k
            have hdx := dg_lt 8 x i
            have q0 : 0 ≤ (i : Int) := by omega
            have q1 : (i : Int) < (N : Int) := by omega
            have q2 : 0 ≤ (k : Int) := by omega
            have q3 : (k : Int) < (n : Int) := by omega
            clear hc1 hk
            go_wp2
            go_roundg (n - (i + 1))
            case measure => have := Hg.out; omega
            case rel => exact ⟨i + 1, by omega, rfl, by go_num, (hrow.set k _).congr (fun j hj => by_row8 Hk.out hin hj (by rw [b8])), hbel.setCell (Nat.le_refl _) _⟩
          · obtain rfl : i = n := by omega
            have hrow' := hrow.congr (g := fun j => b8 x (i - 1 - j)) (fun j hj => by rw [if_pos (by omega)])
            rw [Hn.out.1] at hrow'
            have hrb := run_backS wr w.heap.size x hrow'
            rw [← Hn.out.1] at hrb
            clear hrow hrow'
            go_wp2
            go_ret
            exact ⟨rfl, hbel⟩
      · have hd0 : decide (0 < n) = false := decide_eq_false hp
        have hd1 : decide (0 < (n : Int)) = false := decide_eq_false (by omega)
        go_wp2_with fail
        clear hmk
        go_loopg [5] n (fun g s5 wr => ∃ i : Nat, i ≤ n ∧ g = n - i ∧ s5 = .int .i64 i ∧ wr.rowIs w.heap.size 5 n (fun j => if n - i ≤ j then b8 x (n - 1 - j) else .int .u8 0) ∧ Below w.heap.size w wr)
        case atStart => exact ⟨0, by omega, by omega, rfl, (World.rowIs_made w _ n 5).congr (fun j hj => by simp; omega), (Below.refl _ _).alloc (Nat.le_refl _) _⟩
        case round =>
          obtain ⟨i, hi, hg, rfl, hrow, hbel⟩ := hrel
          have Hg := Lib.hid hg
          clear hg
          obtain rfl : i = n := by omega
          have hrow' := hrow.congr (g := fun j => b8 x (i - 1 - j)) (fun j hj => by rw [if_pos (by omega)])
          rw [Hn.out.1] at hrow'
          have hrb := run_backS wr w.heap.size x hrow'
          rw [← Hn.out.1] at hrb
          clear hrow hrow'
          go_wp2
          go_ret
          exact ⟨rfl, hbel⟩
end Go.Proofs.YtjldfclncipbgaaGreatDoor

/- Plain laws for the reference of layer 2: quotients digit by digit (base 256), texts cut at the end. -/
namespace Go.Proofs.YtjldfclncipbgaaGreatDoor
open Go Go.RowKit Go.PlainAid Fil

/-- what is left of x's upper digits from digit k on, divided by b -/
def s8 (x b k : Nat) : Nat := x / 2 ^ (8 * k) % b
theorem s8_top {x b n : Nat} (h : x < 2 ^ (8 * n)) : s8 x b n = 0 := by unfold s8; rw [Nat.div_eq_of_lt h, Nat.zero_mod]
theorem s8_zero (x b : Nat) : s8 x b 0 = x % b := by simp [s8]
theorem s8_lt {b : Nat} (x k : Nat) (hb : 0 < b) : s8 x b k < b := Nat.mod_lt _ hb
theorem s8_step (x b k : Nat) : (s8 x b (k + 1) * 256 + dg 8 x k) % b = s8 x b k := by
  unfold s8
  have := div_step 8 x k
  rw [this, Nat.add_mod, Nat.mul_mod, Nat.mod_mod, ← Nat.mul_mod, ← Nat.add_mod]
theorem s8_dg {b : Nat} (x k : Nat) (hb : 0 < b) : (s8 x b (k + 1) * 256 + dg 8 x k) / b = dg 8 (x / b) k := by
  have h1 := div_step 8 x k
  have hd := dg_lt 8 x k
  have e1 : dg 8 (x / b) k = x / 2 ^ (8 * k) / b % 256 := by
    unfold dg
    rw [Nat.div_div_eq_div_mul, Nat.div_div_eq_div_mul, Nat.mul_comm]
  rw [e1, h1]
  unfold s8
  generalize x / 2 ^ (8 * (k + 1)) = X at *
  generalize dg 8 x k = d at *
  have h2 := Nat.div_add_mod X b
  have h3 := Nat.mod_lt X hb
  generalize X % b = r at *
  generalize X / b = Q at *
  have e2 : X * 2 ^ 8 + d = b * (Q * 256) + (r * 256 + d) := by
    rw [← h2, Nat.add_mul, Nat.mul_assoc, Nat.add_assoc]
  have h4 : (r * 256 + d) / b < 256 := by
    refine (Nat.div_lt_iff_lt_mul hb).2 ?_
    have : r * 256 + 256 ≤ b * 256 := by rw [← Nat.succ_mul]; exact Nat.mul_le_mul_right 256 h3
    rw [Nat.mul_comm 256 b]
    omega
  rw [e2, Nat.mul_add_div hb]
  clear e1 e2 h1 h2
  generalize (r * 256 + d) / b = q at *
  omega
end Go.Proofs.YtjldfclncipbgaaGreatDoor

/- The reference of layer 2: plus, Cmp, Sub. -/
namespace Go.Proofs.YtjldfclncipbgaaGreatDoor
open Go Go.RowKit Go.PlainAid Fil

end Go.Proofs.YtjldfclncipbgaaGreatDoor

/- The reference of layer 2: times, Sub (printed by gen_r4.py out of B9's walks). -/
namespace Go.Proofs.YtjldfclncipbgaaGreatDoor
open Go Go.RowKit Go.PlainAid Fil

end Go.Proofs.YtjldfclncipbgaaGreatDoor

/- The reference of layer 2: Div, Gcd. -/
namespace Go.Proofs.YtjldfclncipbgaaGreatDoor
open Go Go.RowKit Go.PlainAid Fil

theorem Slc.one (w : World) (d : Nat) (hd : d < 256) : Slc (w.alloc (.cells #[.int .i64 d] 3)) 3 (some ⟨w.heap.size, 0, none⟩) 1 (i8 d) := by
  refine Slc.of_row (World.rowIs_alloc w #[.int .i64 d] 3 (i8 d) ?_) (Nat.le_refl _)
  intro i hi
  match i, hi with
  | 0, _ => simp [i8, dg]; omega
end Go.Proofs.YtjldfclncipbgaaGreatDoor

/- The reference of layer 2: ended, Mul, Add, May; the reference of layer 4: times, May. -/
namespace Go.Proofs.YtjldfclncipbgaaGreatDoor
open Go Go.RowKit Go.PlainAid Fil

/-- a number that may be too long -/
def endV (x : Nat) : Value := if Fil.dn 8 x ≤ 16384 then .tuple #[.string (bstr x), .int .i64 0] else .tuple #[.string { data := #[] }, .int .i64 4]
set_option maxHeartbeats 1000000 in
theorem r2ended_any (x : Nat) (w : World) (hx : Fil.dn 8 x ≤ 1099511627776) :
    Calls Tryz.prog 52 #[.string (bstr x)] w fun r w' => r = .returned (endV x) ∧ w = w' := by
  have hs := bstr_size x
  by_cases h : Fil.dn 8 x ≤ 16384
  · have e : endV x = .tuple #[.string (bstr x), .int .i64 0] := if_pos h
    rw [e]
    obtain ⟨n, hn⟩ : ∃ n, n = Fil.dn 8 x := ⟨_, rfl⟩
    rw [← hn] at hs h hx
    clear e hn
    go_enter Tryz.func52, Tryz.ntmps52
    go_wp2
    go_returns
    exact ⟨rfl, rfl⟩
  · have e : endV x = .tuple #[.string { data := #[] }, .int .i64 4] := if_neg h
    rw [e]
    obtain ⟨n, hn⟩ : ∃ n, n = Fil.dn 8 x := ⟨_, rfl⟩
    rw [← hn] at hs h hx
    clear e hn
    go_enter Tryz.func52, Tryz.ntmps52
    go_wp2
    go_returns
    exact ⟨rfl, rfl⟩
theorem endV_parts (x : Nat) : ∃ (S : ByteArray) (e : Int), endV x = .tuple #[.string S, .int .i64 e] := by
  unfold endV
  split
  · exact ⟨_, _, rfl⟩
  · exact ⟨_, _, rfl⟩
theorem endV_fit {x : Nat} (h : Fil.dn 8 x ≤ 16384) : endV x = .tuple #[.string (bstr x), .int .i64 0] := if_pos h
theorem endV_long {x : Nat} (h : ¬ Fil.dn 8 x ≤ 16384) : endV x = .tuple #[.string { data := #[] }, .int .i64 4] := if_neg h
set_option maxHeartbeats 2000000 in
theorem r2May_any (s : ByteArray) (w : World) (hs : s.size ≤ 9223372036854775807) :
    Calls Tryz.prog 54 #[.string s] w fun r w' => r = .returned (.bool (natB s)) ∧ w = w' := by
  by_cases h1 : s.size ≤ 16384
  · by_cases h0 : s.size = 0
    · have e : natB s = true := by unfold natB; rw [h0]; rfl
      have h2 := str_nil h0
      have HE := Lib.hid e
      have t1 : (s.size : Int) ≤ 16384 := by omega
      clear e h0
      go_enter Tryz.func54, Tryz.ntmps54
      go_wp2
      go_ret
      exact ⟨by rw [HE.out]; rfl, rfl⟩
    · have h3 := str_cons (s := s) (by omega)
      have h4 : s.toList ≠ [] := by intro h; rw [h] at h3; cases h3
      have h5 : 0 < s.size := by omega
      have hb := get_bt s
      have hz : natB s = !(bt s 0 == 0) := by unfold natB; rw [decide_eq_true h1, decide_eq_false h0]; rfl
      have HE := Lib.hid hz
      have h6 : (s.size : Int) ≤ 16384 := by omega
      have h7 : (0 : Int) < (s.size : Int) := by omega
      clear hz
      go_enter Tryz.func54, Tryz.ntmps54
      go_wp2
      go_ret
      exact ⟨by rw [HE.out]; rfl, rfl⟩
  · have HE := Lib.hid (natB_len h1)
    have h2 : ¬ (s.size : Int) ≤ 16384 := by omega
    go_enter Tryz.func54, Tryz.ntmps54
    go_wp2
    go_ret
    exact ⟨by rw [HE.out]; rfl, rfl⟩
end Go.Proofs.YtjldfclncipbgaaGreatDoor

/- The reference of layer 4: Lowest, Neg, Add, Mul, Quo, Compare, by letters. -/
namespace Go.Proofs.YtjldfclncipbgaaGreatDoor
open Go Go.RowKit Go.PlainAid Fil

end Go.Proofs.YtjldfclncipbgaaGreatDoor

/- Merged: R8 R9 -/
/- The reference of layer 4: May, Lowest, Add, Mul, Quo, Compare, Neg of ratios. -/
namespace Go.Proofs.YtjldfclncipbgaaGreatDoor
open Go Go.RowKit Go.PlainAid Fil

end Go.Proofs.YtjldfclncipbgaaGreatDoor

/- The reference of layer 4 over ratios: Lowest, Neg, Add, Mul, Quo, Compare. -/
namespace Go.Proofs.YtjldfclncipbgaaGreatDoor
open Go Go.RowKit Go.PlainAid Fil

end Go.Proofs.YtjldfclncipbgaaGreatDoor
