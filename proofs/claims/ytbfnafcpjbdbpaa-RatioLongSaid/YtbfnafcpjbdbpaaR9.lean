/- Merged: R4 R5 R6 R7 R9 -/
import Derived.Test.YtbfnafcpjbdbpaaB8
import Derived.Test.YtbfnafcpjbdbpaaB9
import Derived.Test.YtbfnafcpjbdbpaaBJ
import Derived.Test.YtbfnafcpjbdbpaaJD
import Derived.Test.YtbfnafcpjbdbpaaJZ

/- Merged: R1 R2 R3 R4 -/
/- The reference of layer 2: digits, at (turned from the texts over layer 3's reference). -/
namespace Go.Proofs.Ytbfnafcpjbdbpaa
open Go Go.RowKit Go.PlainAid Fil

set_option maxHeartbeats 2000000 in
theorem r2digits_any (x : Nat) (w : World) (hx : Fil.dn 8 x ≤ 1048576) :
    Calls Try.prog 88 #[.string (bstr x)] w fun r w' => ∃ v, r = .returned v ∧ Own w' w.heap.size v (Fil.dn 8 x) (fun i => (dg 8 x i : Int)) ∧ Below w.heap.size w w' := by
  have hsz := bstr_size x
  obtain ⟨n, hn⟩ : ∃ n, n = Fil.dn 8 x := ⟨_, rfl⟩
  have hbt := fun j (h : j < n) => bstr_bt x (n - 1 - j) (by omega)
  have hgb := get_bt (bstr x)
  rw [← hn] at hsz hx ⊢
  obtain ⟨i0, hi, hp⟩ := Option.map_eq_some_iff.1 Try.info3
  have hz0 : i0.zero = some (.int .i64 0) := congrArg Prod.fst hp
  have hz1 : i0.size = 1 := congrArg (fun q => q.2.1) hp
  have hz2 : i0.bytes = 8 := congrArg (fun q => q.2.2) hp
  have HX := Lib.hid hbt
  clear hbt
  go_enter Try.func88, Try.ntmps88
  go_wp2
  go_loopg [3, 4] n (fun g v s4 wr => ∃ j : Nat, j ≤ n ∧ g = n - j ∧ s4 = .int .i64 ((n : Int) - 1 - j) ∧ Own wr w.heap.size v j (fun i => (dg 8 x i : Int)) ∧ Below w.heap.size w wr)
  case atStart => exact ⟨0, by omega, by omega, by go_num, Own.nil _ _ _, Below.refl _ _⟩
  case round =>
    obtain ⟨j, hj, hg, rfl, hown, hbel⟩ := hrel
    by_cases hjn : j < n
    · obtain ⟨k, hk⟩ : ∃ k, k = n - 1 - j := ⟨_, rfl⟩
      have hkc : (n : Int) - 1 - j = (k : Int) := by omega
      have hbk : bt (bstr x) k = (dg 8 x j : Int) := by rw [hk, HX.out j hjn, ← hn, show n - 1 - (n - 1 - j) = j by omega]
      have hd0 : 0 ≤ (dg 8 x j : Int) := by omega
      have hd1 : (dg 8 x j : Int) < 256 := by have := dg_lt 8 x j; omega
      have hks : k < (bstr x).size := by rw [hsz]; omega
      have hkn : (k : Int) < 1048576 := by omega
      rw [hkc]
      have Hk := Lib.hid (And.intro hk (And.intro hkc (And.intro hjn (And.intro hg hbel))))
      have hx' := Lib.hid hx
      have hbs := hbel.size
      clear hk hkc hjn hg hn hx hj
      go_wp2_with (at_builtin; refine wpList_append_own _ rfl _ _ 123 rfl w.heap.size 3 i0 (.int .i64 0) 1 8 Try.underlying123 hi hz0 hz1 hz2 rfl (by decide) _ _ _ rfl (hown.alloc _) ⟨wr.heap.size, 0, none⟩ 1 1 [.int .i64 (dg 8 x j)] rfl rfl ?c1 ?c2 ?c3 ?c4 ?c5 ?_)
      case c1 =>
        intro j u hj
        match j, hj with
        | 0, hj => simp at hj; subst hj; simp [Addr.add]
      case c2 => intro u hu; simp at hu; subst hu; rfl
      case c3 => have := Hk.out; have := hx'.out; unfold maxLen; omega
      case c4 => have := Hk.out; have := hx'.out; omega
      case c5 => simp; omega
      · intro v' w1 hown' hgrow _
        rw [range_grow] at hown'
        have hb1 := (hbel.alloc hbs (Obj.cells #[Value.int IntKind.i64 (dg 8 x j)] 3)).grown hgrow (by simp; omega) (fun k hk => (hown.lt k hk).1)
        clear hown hgrow hbel hbk hd0 hd1 hks hgb
        go_wp2
        go_roundg (n - (j + 1))
        case measure => have := Hk.out; omega
        case rel => exact ⟨j + 1, by have := Hk.out; omega, rfl, congrArg (Value.int IntKind.i64) (by have := Hk.out; omega), hown', hb1⟩
    · have he : j = n := by omega
      rw [show (n : Int) - 1 - j = -1 by omega]
      subst he
      clear hn hj hjn hg hx hsz
      go_wp2
      go_ret
      exact ⟨_, rfl, hown, hbel⟩

set_option maxHeartbeats 400000 in
theorem r2at_any (A : Option Addr) (n c x : Nat) (z : Int) (w : World) (hn : n = Fil.dn 8 x) (h0 : 0 ≤ z) (h8 : n ≤ 4398046511104) (h : Slc w 3 A n (i8 x)) :
    Calls Try.prog 89 #[.slice A n c, .int .i64 z] w fun e w' => e = .returned (.int .i64 (dg 8 x z.toNat)) ∧ w = w' := by
  obtain ⟨i, rfl⟩ := Int.eq_ofNat_of_zero_le h0
  rw [Int.toNat_natCast]
  have hx := lt_dn (k := 8) (by omega) x
  rw [← hn] at hx
  by_cases hin : i < n
  · obtain ⟨b, o, rfl, _, hc⟩ := h.cell (by omega)
    have k1 := hc i hin
    simp only [i8] at k1
    clear hc h hn hx
    go_enter Try.func89, Try.ntmps89
    go_wp2
    go_ret
    exact ⟨rfl, rfl⟩
  · have hz : Hid (dg 8 x i = 0) := Lib.hid (dg_zero_of (Nat.lt_of_lt_of_le hx (pmono (by omega))))
    clear h hn hx
    go_enter Try.func89, Try.ntmps89
    go_wp2
    go_ret
    exact ⟨by rw [hz.out]; rfl, rfl⟩


set_option maxHeartbeats 4000000 in
/-- made of digits that may end with noughts -/
theorem r2made_gen (A : Option Addr) (N c x : Nat) (w : World) (hx : x < 2 ^ (8 * N)) (h8 : N ≤ 1048576) (h : Slc w 3 A N (i8 x)) :
    Calls Try.prog 90 #[.slice A N c] w fun r w' => r = .returned (.string (bstr x)) ∧ Below w.heap.size w w' := by
  obtain ⟨n, hn⟩ : ∃ n, n = Fil.dn 8 x := ⟨_, rfl⟩
  have hnN : n ≤ N := by rw [hn]; exact dn_le (by omega) hx
  have hmk := run_make_row' (P := Try.prog) 47 5 (.int .u8 0) 1 Try.underlying47 Try.info5 rfl .i64 .i64 n (by omega) (by omega)
  have hlast : 0 < n → dg 8 x (n - 1) ≠ 0 := fun hp => by
    have hx : x ≠ 0 := by rintro rfl; rw [dn_zero] at hn; omega
    have := dg_top (k := 8) (by omega) hx
    rwa [← hn] at this
  have hzero : ∀ j, n ≤ j → dg 8 x j = 0 := fun j hj => dg_zero_of (Nat.lt_of_lt_of_le (lt_dn (k := 8) (by omega) x) (pmono (by rw [← hn]; omega)))
  have Hn := Lib.hid (And.intro hn (And.intro hlast hzero))
  have HS := Lib.hid h
  clear hn hlast hzero h hx
  go_enter Try.func90, Try.ntmps90
  go_wp2_with fail
  go_loopg [3] N (fun g s3 wr => w = wr ∧ n ≤ g ∧ g ≤ N ∧ s3 = .int .i64 g)
  case atStart => exact ⟨rfl, hnN, Nat.le_refl _, rfl⟩
  case round =>
    obtain ⟨rfl, hg1, hg2, rfl⟩ := hrel
    by_cases hgn : n < gk
    · obtain ⟨b, o, rfl, hlt, hc⟩ := HS.out.cell (by omega)
      have hc9 := hc (gk - 1) (by omega)
      rw [i8, Hn.out.2.2 (gk - 1) (by omega)] at hc9
      obtain ⟨m, hm⟩ : ∃ m, m = gk - 1 := ⟨_, rfl⟩
      have hmi : (gk : Int) - 1 = (m : Int) := by omega
      have hm0 : 0 ≤ (m : Int) := by omega
      have hmN : (m : Int) < (N : Int) := by omega
      have hd0 : decide (0 < gk) = true := decide_eq_true (by omega)
      have hd1 : decide (0 < (gk : Int)) = true := decide_eq_true (by omega)
      rw [← hm] at hc9
      have HM := Lib.hid hm
      clear hc hm
      go_wp2_with fail
      go_roundg (gk - 1)
      case measure => omega
      case rel => exact ⟨rfl, by omega, by omega, congrArg (Value.int IntKind.i64) (by have := HM.out; omega)⟩
    · obtain rfl : n = gk := by omega
      by_cases hp : 0 < n
      · obtain ⟨b, o, rfl, hlt, hc⟩ := HS.out.cell (by omega)
        have hc9 := hc (n - 1) (by omega)
        have hl : ((dg 8 x (n - 1) : Int) == 0) = false := by rw [beq_eq_false_iff_ne]; have := Hn.out.2.1 hp; omega
        obtain ⟨m, hm⟩ : ∃ m, m = n - 1 := ⟨_, rfl⟩
        have hmi : (n : Int) - 1 = (m : Int) := by omega
        have hmn : m < n := by omega
        have hm0 : 0 ≤ (m : Int) := by omega
        have hmN : (m : Int) < (N : Int) := by omega
        have hd0 : decide (0 < n) = true := decide_eq_true hp
        have hd1 : decide (0 < (n : Int)) = true := decide_eq_true (by omega)
        rw [← hm] at hl hc9
        unfold i8 at hc9
        clear hc hm
        go_wp2_with fail
        clear hmk
        go_loopg [5] n (fun g s5 wr => ∃ i : Nat, i ≤ n ∧ g = n - i ∧ s5 = .int .i64 i ∧ wr.rowIs w.heap.size 5 n (fun j => if n - i ≤ j then b8 x (n - 1 - j) else .int .u8 0) ∧ Below w.heap.size w wr)
        case atStart => exact ⟨0, by omega, by omega, rfl, (World.rowIs_made w _ n 5).congr (fun j hj => by simp; omega), (Below.refl _ _).alloc (Nat.le_refl _) _⟩
        case round =>
          obtain ⟨i, hi, hg, rfl, hrow, hbel⟩ := hrel
          have Hg := Lib.hid hg
          clear hg
          clear hc9 hl
          by_cases hin : i < n
          · obtain ⟨b1, o1, hA, _, hc1⟩ := (HS.out.below hbel).cell (by omega)
            injection hA with hA
            injection hA with hA1 hA2 _
            subst hA1 hA2
            have k1 := hc1 i (by omega)
            simp only [i8] at k1
            obtain ⟨k, hk⟩ : ∃ k, k = n - 1 - i := ⟨_, rfl⟩
            have ek : (n : Int) - 1 - (i : Int) = (k : Int) := by omega
            have ek2 : (m : Int) - (i : Int) = (k : Int) := by omega
            have hkm : k < n := by omega
            have Hk : Hid (k = n - 1 - i) := Lib.hid hk
            have k2 := hrow.cell (i := k) (by omega)
            have k3 := hrow.frozen k
            have hdx := dg_lt 8 x i
            have q0 : 0 ≤ (i : Int) := by omega
            have q1 : (i : Int) < (N : Int) := by omega
            have q2 : 0 ≤ (k : Int) := by omega
            have q3 : (k : Int) < (n : Int) := by omega
            clear hc1 hk
            go_wp2
            go_roundg (n - (i + 1))
            case measure => have := Hg.out; omega
            case rel => exact ⟨i + 1, by omega, rfl, by go_num, (hrow.set k _).congr (fun j hj => by_row8 Hk.out hin hj (by rw [b8])), hbel.setCell (Nat.le_refl _) _⟩
          · obtain rfl : i = n := by omega
            have hrow' := hrow.congr (g := fun j => b8 x (i - 1 - j)) (fun j hj => by rw [if_pos (by omega)])
            rw [Hn.out.1] at hrow'
            have hrb := run_backS wr w.heap.size x hrow'
            rw [← Hn.out.1] at hrb
            clear hrow hrow'
            go_wp2
            go_ret
            exact ⟨rfl, hbel⟩
      · have hd0 : decide (0 < n) = false := decide_eq_false hp
        have hd1 : decide (0 < (n : Int)) = false := decide_eq_false (by omega)
        go_wp2_with fail
        clear hmk
        go_loopg [5] n (fun g s5 wr => ∃ i : Nat, i ≤ n ∧ g = n - i ∧ s5 = .int .i64 i ∧ wr.rowIs w.heap.size 5 n (fun j => if n - i ≤ j then b8 x (n - 1 - j) else .int .u8 0) ∧ Below w.heap.size w wr)
        case atStart => exact ⟨0, by omega, by omega, rfl, (World.rowIs_made w _ n 5).congr (fun j hj => by simp; omega), (Below.refl _ _).alloc (Nat.le_refl _) _⟩
        case round =>
          obtain ⟨i, hi, hg, rfl, hrow, hbel⟩ := hrel
          have Hg := Lib.hid hg
          clear hg
          obtain rfl : i = n := by omega
          have hrow' := hrow.congr (g := fun j => b8 x (i - 1 - j)) (fun j hj => by rw [if_pos (by omega)])
          rw [Hn.out.1] at hrow'
          have hrb := run_backS wr w.heap.size x hrow'
          rw [← Hn.out.1] at hrb
          clear hrow hrow'
          go_wp2
          go_ret
          exact ⟨rfl, hbel⟩
end Go.Proofs.Ytbfnafcpjbdbpaa

/- Plain laws for the reference of layer 2: quotients digit by digit (base 256), texts cut at the end. -/
namespace Go.Proofs.Ytbfnafcpjbdbpaa
open Go Go.RowKit Go.PlainAid Fil

end Go.Proofs.Ytbfnafcpjbdbpaa

/- The reference of layer 2: plus, Cmp, Sub. -/
namespace Go.Proofs.Ytbfnafcpjbdbpaa
open Go Go.RowKit Go.PlainAid Fil

end Go.Proofs.Ytbfnafcpjbdbpaa

/- The reference of layer 2: times, Sub (printed by gen_r4.py out of B9's walks). -/
namespace Go.Proofs.Ytbfnafcpjbdbpaa
open Go Go.RowKit Go.PlainAid Fil

theorem r2at_quiet (A : Option Addr) (n c x : Nat) (z : Int) (w : World) (hn : n = Fil.dn 8 x) (h0 : 0 ≤ z) (h8 : n ≤ 4398046511104) (h : Slc w 3 A n (i8 x)) :
    Calls Try.prog 89 #[.slice A n c, .int .i64 z] w fun e w' => e = .returned (.int .i64 (dg 8 x z.toNat)) ∧ ∃ k, w' = w.drewN k :=
  (r2at_any A n c x z w hn h0 h8 h).mono fun _ _ ⟨he, hw⟩ => ⟨he, 0, hw.symm⟩

set_option maxHeartbeats 8000000 in
set_option maxRecDepth 100000 in
theorem r2times_any (x y : Nat) (w : World) (hx8 : Fil.dn 8 x ≤ 500000) (hy8 : Fil.dn 8 y ≤ 500000) :
    Calls Try.prog 98 #[.string (bstr x), .string (bstr y)] w fun r w' => r = .returned (.string (bstr (x * y))) ∧ Below w.heap.size w w' := by
  have hd1 := fun W => r2digits_any x W (by omega)
  have hd2 := fun W => r2digits_any y W (by omega)
  obtain ⟨n, hn⟩ : ∃ n, n = Fil.dn 8 x := ⟨_, rfl⟩
  obtain ⟨m, hm⟩ : ∃ m, m = Fil.dn 8 y := ⟨_, rfl⟩
  simp only [← hn] at hd1 hx8
  simp only [← hm] at hd2 hy8
  have hx := lt_dn (k := 8) (by omega) x
  have hy := lt_dn (k := 8) (by omega) y
  rw [← hn] at hx
  rw [← hm] at hy
  have Hx := Lib.hid hx
  have Hy := Lib.hid hy
  have Hn := Lib.hid hn
  have Hm := Lib.hid hm
  clear hn hm hx hy
  have hmk := run_make_row' (P := Try.prog) 123 3 (.int .i64 0) 8 Try.underlying123 Try.info3 rfl .i64 .i64 (n + m + 1) (by omega) (by omega)
  have ec : ((n + m + 1 : Nat) : Int) = (n : Int) + m + 1 := by omega
  rw [ec] at hmk
  clear ec
  have hB00 := Below.refl w.heap.size w
  go_enter Try.func98, Try.ntmps98
  go_wp2_with fail
  refine (hd1 _).mono ?_
  rintro r w1 ⟨v1, rfl, ho1, hb1⟩
  obtain ⟨A, c, rfl, hnc, ha⟩ := Own.slc ho1
  go_wp2_with fail
  refine (hd2 _).mono ?_
  rintro r w2 ⟨v2, rfl, ho2, hb2⟩
  obtain ⟨B, d, rfl, hmd, hb⟩ := Own.slc ho2
  replace ha : Slc w2 3 A n (i8 x) := ha.below hb2
  replace hb : Slc w2 3 B m (i8 y) := hb
  have HB0 := Lib.hid (hB00.trans ((hb1.trans (hb2.mono hb1.size)).mono hB00.size))
  clear ho1 ho2 hb1 hb2 hd1 hd2 hB00
  go_wp2
  clear hmk
  go_loopg [8] n (fun g sI wr => ∃ i : Nat, i ≤ n ∧ g = n - i ∧ sI = .int .i64 i ∧ wr.rowIs w2.heap.size 3 (n + m + 1) (i8 (x % 2 ^ (8 * i) * y)) ∧ Below w2.heap.size w2 wr)
  case atStart => exact ⟨0, by omega, by omega, rfl, (World.rowIs_made w2 _ (n + m + 1) 3).congr (fun j _ => by simp only [Nat.mul_zero, Nat.pow_zero, Nat.mod_one, Nat.zero_mul, i8_zero]), (Below.refl _ _).alloc (Nat.le_refl _) _⟩
  case round =>
    obtain ⟨i, hi, hg, rfl, hrow, hbel⟩ := hrel
    have Hg := Lib.hid hg
    clear hg
    by_cases hin : i < n
    · have hdx := dg_lt 8 x i
      go_wp2
      obtain ⟨wo, rfl⟩ : ∃ wo : World, wo = wr := ⟨_, rfl⟩
      go_loopg [9, 10] (m + 1) (fun g sM sK wr => ∃ k : Nat, k ≤ m + 1 ∧ g = m + 1 - k ∧ sM = .int .i64 (mcar 8 (x % 2 ^ (8 * i) * y) (dg 8 x i) y i k) ∧ sK = .int .i64 k ∧ wr.rowIs w2.heap.size 3 (n + m + 1) (mrow8 (x % 2 ^ (8 * i) * y) (mac 8 (x % 2 ^ (8 * i) * y) (dg 8 x i) y i k) (i + k)) ∧ Below w2.heap.size w2 wr)
      case atStart => exact ⟨0, by omega, by omega, by rw [mcar_zero]; rfl, rfl, hrow.congr (fun j _ => by
        unfold mrow8; rw [mac_zero]
        by_cases h : j < i + 0
        · rw [if_pos h, i8, i8, dg_mod (by omega)]
        · rw [if_neg h]), hbel⟩
      case round =>
        clear hrow hbel
        obtain ⟨k, hk, hg2, rfl, rfl, hrow, hbel⟩ := hrel
        have Hg2 := Lib.hid hg2
        clear hg2
        have hcar : mcar 8 (x % 2 ^ (8 * i) * y) (dg 8 x i) y i k < 256 := mcar_lt 8 _ _ y i (dg_lt 8 x i) k
        by_cases hkm : k < m
        · have hcar0 := hcar
          obtain ⟨b1, o1, rfl, _, hc1⟩ := (ha.below hbel).cell (by omega)
          have k1 := hc1 i hin
          simp only [i8] at k1
          have k3 := hrow.cell (i := i + k) (by omega)
          have k4 := hrow.frozen (i + k)
          unfold mrow8 at k3
          rw [if_neg (by omega), i8] at k3
          have hs2 := hb.below hbel
          have hrb := fun W => r2at_quiet B m d y (k : Int) W Hm.out (by omega) (by omega)
          simp only [Int.toNat_natCast] at hrb
          have HA := Lib.hid hrb
          have h1 := mcar_dg 8 (x % 2 ^ (8 * i) * y) (dg 8 x i) y i k
          have h2 := mcar_succ 8 (x % 2 ^ (8 * i) * y) (dg 8 x i) y i k
          have HB := Lib.hid (And.intro h1 h2)
          have hdv := dg_lt 8 (x % 2 ^ (8 * i) * y) (i + k)
          have hdy := dg_lt 8 y k
          have HR := Lib.hid (And.intro hrow hbel)
          have hb2 := hbel.size
          clear hc1 hrb h1 h2 hrow hbel
          obtain ⟨ca, hca⟩ : ∃ ca, ca = mcar 8 (x % 2 ^ (8 * i) * y) (dg 8 x i) y i k := ⟨_, rfl⟩
          rw [← hca] at hcar hcar0 HB ⊢
          obtain ⟨d0, hd0⟩ : ∃ d0, d0 = dg 8 (x % 2 ^ (8 * i) * y) (i + k) := ⟨_, rfl⟩
          rw [← hd0] at hdv k3 HB
          obtain ⟨d1, hd1⟩ : ∃ d1, d1 = dg 8 y k := ⟨_, rfl⟩
          rw [← hd1] at hdy HB HA
          obtain ⟨a, haa⟩ : ∃ a, a = dg 8 x i := ⟨_, rfl⟩
          rw [← haa] at hdx k1 HB HR
          obtain ⟨p, hp⟩ : ∃ p, p = a * d1 := ⟨_, rfl⟩
          have hpl : p ≤ 255 * 255 := by rw [hp]; exact Nat.mul_le_mul (by omega) (by omega)
          have W0 : (a : Int) * (d1 : Int) = (p : Int) := by rw [hp]; simp
          rw [← hp] at HB
          have W1 : IntKind.i64.wrap (p : Int) = (p : Int) := IntWalk.i64_in _ (by omega)
          have W2 : IntKind.i64.wrap ((ca : Int) + d0) = (ca : Int) + d0 := IntWalk.i64_in _ (by omega)
          have W3 : IntKind.i64.wrap ((ca : Int) + d0 + p) = (ca : Int) + d0 + p := IntWalk.i64_in _ (by omega)
          have W4 : IntKind.i64.wrap ((i : Int) + k) = (i : Int) + k := IntWalk.i64_in _ (by omega)
          have W5 : ((i : Int) + (k : Int)).toNat = i + k := by omega
          have P0 : 0 ≤ (i : Int) + k := by omega
          have P1 : (i : Int) + k < (n : Int) + m + 1 := by omega
          have P2 : 0 ≤ (i : Int) := by omega
          have P3 : (i : Int) < n := by omega
          have hp0 : (ca : Int) + d0 + p ≤ 100000 := by omega
          have hq0 : 0 ≤ (ca : Int) + d0 + p := by omega
          have Hx1 := Lib.hid (And.intro hca (And.intro hd0 (And.intro hd1 (And.intro haa hp))))
          clear hca hd0 hd1 haa hp hcar0
          go_wp2_with fail
          go_quiet ((go_at_call 89; exact Calls.quiet_of (HA.out _ (hs2.drewN _))))
          clear HA hs2 W0 W1 W2 W3 W4 k1
          go_wp2
          go_roundg (m + 1 - (k + 1))
          case measure => have := Hg2.out; omega
          case rel =>
            obtain ⟨_, _, _, haa, _⟩ := Hx1.out
            subst haa
            exact ⟨k + 1, by omega, rfl, by rw [← HB.out.2]; go_num, by go_num, ((rows_drewN HR.out.1 _).set (i + k) _).congr (fun j _ => mrow8_step (by rw [i8, ← HB.out.1]; go_num)), (Below.drewN' HR.out.2 _).setCell (Nat.le_refl _) _⟩
        · by_cases hc0 : mcar 8 (x % 2 ^ (8 * i) * y) (dg 8 x i) y i k = 0
          · have He := Lib.hid (fun j => @times_end x y i m k j Hy.out (by omega) hc0)
            rw [hc0]
            clear hcar hc0
            go_wp2
            go_roundg (n - (i + 1))
            case measure => have := Hg.out; omega
            case rel => exact ⟨i + 1, by omega, rfl, by go_num, hrow.congr (fun j _ => He.out j), hbel⟩
          · have hcar0 : 0 < mcar 8 (x % 2 ^ (8 * i) * y) (dg 8 x i) y i k := by omega
            have hkm2 : k = m := by
              rcases Nat.lt_or_ge m k with h | h
              · exfalso
                have e : k = m + 1 := by omega
                rw [e, times_car0 Hy.out] at hcar0
                omega
              · omega
            subst hkm2
            clear hc0
            obtain ⟨b1, o1, rfl, _, hc1⟩ := (ha.below hbel).cell (by omega)
            have k1 := hc1 i hin
            simp only [i8] at k1
            have k3 := hrow.cell (i := i + k) (by omega)
            have k4 := hrow.frozen (i + k)
            unfold mrow8 at k3
            rw [if_neg (by omega), i8] at k3
            have hs2 := hb.below hbel
            have hrb := fun W => r2at_quiet B k d y (k : Int) W Hm.out (by omega) (by omega)
            simp only [Int.toNat_natCast] at hrb
            have HA := Lib.hid hrb
            have h1 := mcar_dg 8 (x % 2 ^ (8 * i) * y) (dg 8 x i) y i k
            have h2 := mcar_succ 8 (x % 2 ^ (8 * i) * y) (dg 8 x i) y i k
            have HB := Lib.hid (And.intro h1 h2)
            have hdv := dg_lt 8 (x % 2 ^ (8 * i) * y) (i + k)
            have hdy := dg_lt 8 y k
            have HR := Lib.hid (And.intro hrow hbel)
            have hb2 := hbel.size
            clear hc1 hrb h1 h2 hrow hbel
            obtain ⟨ca, hca⟩ : ∃ ca, ca = mcar 8 (x % 2 ^ (8 * i) * y) (dg 8 x i) y i k := ⟨_, rfl⟩
            rw [← hca] at hcar hcar0 HB ⊢
            obtain ⟨d0, hd0⟩ : ∃ d0, d0 = dg 8 (x % 2 ^ (8 * i) * y) (i + k) := ⟨_, rfl⟩
            rw [← hd0] at hdv k3 HB
            obtain ⟨d1, hd1⟩ : ∃ d1, d1 = dg 8 y k := ⟨_, rfl⟩
            rw [← hd1] at hdy HB HA
            obtain ⟨a, haa⟩ : ∃ a, a = dg 8 x i := ⟨_, rfl⟩
            rw [← haa] at hdx k1 HB HR
            obtain ⟨p, hp⟩ : ∃ p, p = a * d1 := ⟨_, rfl⟩
            have hpl : p ≤ 255 * 255 := by rw [hp]; exact Nat.mul_le_mul (by omega) (by omega)
            have W0 : (a : Int) * (d1 : Int) = (p : Int) := by rw [hp]; simp
            rw [← hp] at HB
            have W1 : IntKind.i64.wrap (p : Int) = (p : Int) := IntWalk.i64_in _ (by omega)
            have W2 : IntKind.i64.wrap ((ca : Int) + d0) = (ca : Int) + d0 := IntWalk.i64_in _ (by omega)
            have W3 : IntKind.i64.wrap ((ca : Int) + d0 + p) = (ca : Int) + d0 + p := IntWalk.i64_in _ (by omega)
            have W4 : IntKind.i64.wrap ((i : Int) + k) = (i : Int) + k := IntWalk.i64_in _ (by omega)
            have W5 : ((i : Int) + (k : Int)).toNat = i + k := by omega
            have P0 : 0 ≤ (i : Int) + k := by omega
            have P1 : (i : Int) + k < (n : Int) + k + 1 := by omega
            have P2 : 0 ≤ (i : Int) := by omega
            have P3 : (i : Int) < n := by omega
            have hp0 : (ca : Int) + d0 + p ≤ 100000 := by omega
            have hq0 : 0 ≤ (ca : Int) + d0 + p := by omega
            have Hx1 := Lib.hid (And.intro hca (And.intro hd0 (And.intro hd1 (And.intro haa hp))))
            clear hca hd0 hd1 haa hp
            go_wp2_with fail
            go_quiet ((go_at_call 89; exact Calls.quiet_of (HA.out _ (hs2.drewN _))))
            clear HA hs2 W0 W1 W2 W3 W4 k1
            go_wp2
            go_roundg (k + 1 - (k + 1))
            case measure => have := Hg2.out; omega
            case rel =>
              obtain ⟨_, _, _, haa, _⟩ := Hx1.out
              subst haa
              exact ⟨k + 1, by omega, rfl, by rw [← HB.out.2]; go_num, by go_num, ((rows_drewN HR.out.1 _).set (i + k) _).congr (fun j _ => mrow8_step (by rw [i8, ← HB.out.1]; go_num)), (Below.drewN' HR.out.2 _).setCell (Nat.le_refl _) _⟩
    · obtain rfl : i = n := by omega
      rw [Nat.mod_eq_of_lt Hx.out] at hrow
      have hlt : x * y < 2 ^ (8 * (i + m + 1)) := Nat.lt_of_lt_of_le (show x * y < 2 ^ (8 * (i + m)) by rw [padd]; exact Nat.mul_lt_mul'' Hx.out Hy.out) (pmono (by omega))
      have Hs := Lib.hid hlt
      clear hlt
      go_wp2_with fail
      refine (r2made_gen _ (i + m + 1) (i + m + 1) (x * y) _ Hs.out (by omega) (Slc.of_row hrow (by omega))).mono ?_
      rintro e w' ⟨rfl, hb3⟩
      go_wp2
      go_ret
      exact ⟨rfl, HB0.out.trans ((hbel.trans (hb3.mono hbel.size)).mono HB0.out.size)⟩

end Go.Proofs.Ytbfnafcpjbdbpaa

/- The reference of layer 2: Div, Gcd. -/
namespace Go.Proofs.Ytbfnafcpjbdbpaa
open Go Go.RowKit Go.PlainAid Fil

theorem row_keep {w w' : World} {b : Nat} {t : TypeId} {n : Nat} {f : Nat → Value} (h : w.rowIs b t n f) (hb : Below w.heap.size w w') : w'.rowIs b t n f := h.of_block (hb.block b h.lt)
theorem Slc.one (w : World) (d : Nat) (hd : d < 256) : Slc (w.alloc (.cells #[.int .i64 d] 3)) 3 (some ⟨w.heap.size, 0, none⟩) 1 (i8 d) := by
  refine Slc.of_row (World.rowIs_alloc w #[.int .i64 d] 3 (i8 d) ?_) (Nat.le_refl _)
  intro i hi
  match i, hi with
  | 0, _ => simp [i8, dg]; omega
theorem mul_dn {x y j k : Nat} (hx : Fil.dn 8 x ≤ j) (hy : Fil.dn 8 y ≤ k) : Fil.dn 8 (x * y) ≤ j + k := dn_le (by omega) (by rw [padd]; exact Nat.mul_lt_mul'' (lt_of_dn (by omega) hx) (lt_of_dn (by omega) hy))
end Go.Proofs.Ytbfnafcpjbdbpaa

/- The reference of layer 2: ended, Mul, Add, May; the reference of layer 4: times, May. -/
namespace Go.Proofs.Ytbfnafcpjbdbpaa
open Go Go.RowKit Go.PlainAid Fil

/-- a number that may be too long -/
def endV (x : Nat) : Value := if Fil.dn 8 x ≤ 16384 then .tuple #[.string (bstr x), .int .i64 0] else .tuple #[.string { data := #[] }, .int .i64 4]
set_option maxHeartbeats 1000000 in
theorem r2ended_any (x : Nat) (w : World) (hx : Fil.dn 8 x ≤ 1099511627776) :
    Calls Try.prog 97 #[.string (bstr x)] w fun r w' => r = .returned (endV x) ∧ w = w' := by
  have hs := bstr_size x
  by_cases h : Fil.dn 8 x ≤ 16384
  · have e : endV x = .tuple #[.string (bstr x), .int .i64 0] := if_pos h
    rw [e]
    obtain ⟨n, hn⟩ : ∃ n, n = Fil.dn 8 x := ⟨_, rfl⟩
    rw [← hn] at hs h hx
    clear e hn
    go_enter Try.func97, Try.ntmps97
    go_wp2
    go_returns
    exact ⟨rfl, rfl⟩
  · have e : endV x = .tuple #[.string { data := #[] }, .int .i64 4] := if_neg h
    rw [e]
    obtain ⟨n, hn⟩ : ∃ n, n = Fil.dn 8 x := ⟨_, rfl⟩
    rw [← hn] at hs h hx
    clear e hn
    go_enter Try.func97, Try.ntmps97
    go_wp2
    go_returns
    exact ⟨rfl, rfl⟩
theorem endV_parts (x : Nat) : ∃ (S : ByteArray) (e : Int), endV x = .tuple #[.string S, .int .i64 e] := by
  unfold endV
  split
  · exact ⟨_, _, rfl⟩
  · exact ⟨_, _, rfl⟩
theorem endV_fit {x : Nat} (h : Fil.dn 8 x ≤ 16384) : endV x = .tuple #[.string (bstr x), .int .i64 0] := if_pos h
theorem endV_long {x : Nat} (h : ¬ Fil.dn 8 x ≤ 16384) : endV x = .tuple #[.string { data := #[] }, .int .i64 4] := if_neg h
theorem dn_mul_ge {x y : Nat} (hx : x ≠ 0) (hy : y ≠ 0) : Fil.dn 8 x + Fil.dn 8 y ≤ Fil.dn 8 (x * y) + 1 := by
  have h1 := le_dn (k := 8) x hx
  have h2 := le_dn (k := 8) y hy
  have h3 := Nat.mul_le_mul h1 h2
  rw [← Nat.pow_add, ← Nat.mul_add] at h3
  have h4 := dn_ge (k := 8) (by omega) h3
  have h5 := dn_pos (k := 8) hx
  have h6 := dn_pos (k := 8) hy
  omega
set_option maxHeartbeats 2000000 in
theorem r2Mul_any (x y : Nat) (w : World) (hx : Fil.dn 8 x ≤ 400000) (hy : Fil.dn 8 y ≤ 400000) (h : x ≠ 0 ∧ y ≠ 0 ∨ Fil.dn 8 x + Fil.dn 8 y ≤ 16385) :
    Calls Try.prog 86 #[.string (bstr x), .string (bstr y)] w fun r w' => r = .returned (endV (x * y)) ∧ Below w.heap.size w w' := by
  have hsx := bstr_size x
  have hsy := bstr_size y
  have ht := fun W => r2times_any x y W (by omega) (by omega)
  have he := fun W => r2ended_any (x * y) W (Nat.le_trans (mul_dn hx hy) (by omega))
  have hlong : 16385 < Fil.dn 8 x + Fil.dn 8 y → endV (x * y) = .tuple #[.string { data := #[] }, .int .i64 4] := fun hl => by
    refine endV_long ?_
    rcases h with ⟨h1, h2⟩ | h
    · have := dn_mul_ge h1 h2; omega
    · omega
  obtain ⟨S, E, hE⟩ := endV_parts (x * y)
  rw [hE] at hlong he ⊢
  obtain ⟨n, hn⟩ : ∃ n, n = Fil.dn 8 x := ⟨_, rfl⟩
  obtain ⟨m, hm⟩ : ∃ m, m = Fil.dn 8 y := ⟨_, rfl⟩
  rw [← hn] at hsx hx hlong
  rw [← hm] at hsy hy hlong
  have HL := Lib.hid hlong
  have hb := Below.refl w.heap.size w
  clear hn hm h hE hlong
  by_cases hl : 16385 < n + m
  · have e := Lib.hid (HL.out hl)
    clear ht he HL
    go_enter Try.func86, Try.ntmps86
    go_wp2
    go_returns
    exact ⟨by rw [e.out]; rfl, hb⟩
  · clear HL
    go_enter Try.func86, Try.ntmps86
    go_wp2_with fail
    refine (ht _).mono ?_
    rintro r w1 ⟨rfl, hb1⟩
    clear ht
    go_wp2_with fail
    refine (he _).mono ?_
    rintro r w1 ⟨rfl, rfl⟩
    clear he
    go_wp2
    go_returns
    exact ⟨rfl, hb1⟩
end Go.Proofs.Ytbfnafcpjbdbpaa

/- The reference of layer 4: Lowest, Neg, Add, Mul, Quo, Compare, by letters. -/
namespace Go.Proofs.Ytbfnafcpjbdbpaa
open Go Go.RowKit Go.PlainAid Fil

end Go.Proofs.Ytbfnafcpjbdbpaa

/- Merged: R8 R9 -/
/- The reference of layer 4: May, Lowest, Add, Mul, Quo, Compare, Neg of ratios. -/
namespace Go.Proofs.Ytbfnafcpjbdbpaa
open Go Go.RowKit Go.PlainAid Fil

end Go.Proofs.Ytbfnafcpjbdbpaa

/- The reference of layer 4 over ratios: Lowest, Neg, Add, Mul, Quo, Compare. -/
namespace Go.Proofs.Ytbfnafcpjbdbpaa
open Go Go.RowKit Go.PlainAid Fil

theorem kA_zero : kA 0 = .agg #[.bool false, .string { data := #[] }, .string { data := #[1] }] := by
  unfold kA
  rw [show (0 : Rat).num = 0 from rfl, show (0 : Rat).den = 1 from rfl, bstr_one, show (0 : Int).natAbs = 0 from rfl, bstr_zero]
  rfl
end Go.Proofs.Ytbfnafcpjbdbpaa
