/- The walks over wide's digits: cmp, less. -/
import Derived.Test.YtgcifpjhhoalmaaDoorWa
namespace Go.Proofs.YtgcifpjhhoalmaaDoor
open Go Go.RowKit Fil

theorem cmpZ_lt {x y : Nat} (h : x < y) : cmpZ x y = -1 := by unfold cmpZ; rw [if_pos h]
theorem cmpZ_gt {x y : Nat} (h : y < x) : cmpZ x y = 1 := by unfold cmpZ; rw [if_neg (by omega), if_pos h]
theorem cmpZ_eq (x : Nat) : cmpZ x x = 0 := by simp [cmpZ]

set_option maxHeartbeats 1000000 in
theorem cmp_any (A B : Option Addr) (n c x m d y : Nat) (w : World) (hn : n = dn 32 x) (hm : m = dn 32 y) (hc : n ≤ 4398046511104) (hd : m ≤ 4398046511104)
    (ha : Slc w 169 A n (d32 x)) (hb : Slc w 169 B m (d32 y)) :
    Calls Tryd.prog 164 #[.slice A n c, .slice B m d] w fun e w' => e = .returned (.int .i64 (cmpZ x y)) ∧ ∃ k, w' = w.drewN k := by
  have Hn := Lib.hid hn
  have Hm := Lib.hid hm
  clear hn hm
  by_cases hnm : n = m
  · subst hnm
    go_enter Tryd.func164, Tryd.ntmps164
    go_wp2
    go_loopg [5] n (fun g s5 wr => ∃ k, wr = w.drewN k ∧ g ≤ n ∧ s5 = .int .i64 ((g : Int) - 1) ∧ x / 2 ^ (32 * g) = y / 2 ^ (32 * g))
    case atStart => exact ⟨0, rfl, Nat.le_refl _, rfl, by rw [Nat.div_eq_of_lt (by rw [Hn.out]; exact lt_dn (by omega) x), Nat.div_eq_of_lt (by rw [Hm.out]; exact lt_dn (by omega) y)]⟩
    case round =>
      obtain ⟨k, rfl, hg, rfl, he⟩ := hrel
      have He := Lib.hid he
      clear he
      cases gk with
      | zero =>
        have hxy : x = y := by simpa using He.out
        subst hxy
        have hz := Lib.hid (cmpZ_eq x)
        go_wp2
        go_ret
        exact ⟨by rw [hz.out]; rfl, k, rfl⟩
      | succ g =>
        obtain ⟨b1, o1, rfl, _, hc1⟩ := ha.cell (by omega)
        obtain ⟨b2, o2, rfl, _, hc2⟩ := hb.cell (by omega)
        have k1 := hc1 g (by omega)
        have k2 := hc2 g (by omega)
        simp only [d32] at k1 k2
        have e1 : ((g + 1 : Nat) : Int) - 1 = g := by omega
        have e2 : (0 : Int) ≤ g := by omega
        have e3 : (g : Int) < n := by omega
        rw [e1]
        clear hc1 hc2 e1
        rcases Nat.lt_trichotomy (dg 32 x g) (dg 32 y g) with hlt | heq | hgt
        · have t1 : ((dg 32 x g : Int) != (dg 32 y g : Int)) = true := by rw [bne_iff_ne]; omega
          have t2 : decide (dg 32 x g < dg 32 y g) = true := by simp; omega
          have hz := Lib.hid (cmpZ_lt (cmp_digit He.out hlt))
          clear hlt
          go_wp2
          go_quiet (fail)
          go_wp2
          go_quiet (fail)
          go_wp2
          go_ret
          exact ⟨by rw [hz.out]; rfl, _, by rw [World.drewN_drewN, World.drewN_drewN]⟩
        · have t1 : ((dg 32 x g : Int) != (dg 32 y g : Int)) = false := by simp; omega
          have hz := Lib.hid (cmp_next He.out heq)
          clear heq
          go_wp2
          go_quiet (fail)
          go_wp2
          go_roundg g
          case measure => omega
          case rel => exact ⟨_, rfl, by omega, by go_num, hz.out⟩
        · have t1 : ((dg 32 x g : Int) != (dg 32 y g : Int)) = true := by rw [bne_iff_ne]; omega
          have t2 : decide (dg 32 x g < dg 32 y g) = false := by simp; omega
          have hz := Lib.hid (cmpZ_gt (cmp_digit He.out.symm hgt))
          clear hgt
          go_wp2
          go_quiet (fail)
          go_wp2
          go_quiet (fail)
          go_wp2
          go_ret
          exact ⟨by rw [hz.out]; rfl, _, by rw [World.drewN_drewN, World.drewN_drewN]⟩
  · by_cases hlt : n < m
    · have hz := Lib.hid (cmpZ_lt (cmp_len (k := 32) (x := x) (y := y) (by omega) (by rw [← Hn.out, ← Hm.out]; exact hlt)))
      go_enter Tryd.func164, Tryd.ntmps164
      go_wp2
      go_ret
      exact ⟨by rw [hz.out]; rfl, 0, rfl⟩
    · have hz := Lib.hid (cmpZ_gt (cmp_len (k := 32) (x := y) (y := x) (by omega) (by rw [← Hn.out, ← Hm.out]; omega)))
      go_enter Tryd.func164, Tryd.ntmps164
      go_wp2
      go_ret
      exact ⟨by rw [hz.out]; rfl, 0, rfl⟩

theorem less_c2 {a b c : Nat} (ha : a < 4294967296) (hb : b < 4294967296) (hc : c ≤ 1) : IntKind.u64.wrap (IntKind.u64.wrap ((a : Int) - c) - b) / 9223372036854775808 = ((if a < b + c then 1 else 0 : Nat) : Int) := by
  simp only [IntKind.wrap_u64]; split <;> omega
theorem less_v2 {a b c : Nat} (ha : a < 4294967296) (hb : b < 4294967296) (hc : c ≤ 1) : IntKind.u64.wrap (IntKind.u64.wrap ((a : Int) - c) - b) % 4294967296 = (((2 ^ 32 + a - b - c) % 2 ^ 32 : Nat) : Int) := by
  simp only [IntKind.wrap_u64]; omega
theorem less_c1 {a c : Nat} (ha : a < 4294967296) (hc : c ≤ 1) : IntKind.u64.wrap ((a : Int) - c) / 9223372036854775808 = ((if a < 0 + c then 1 else 0 : Nat) : Int) := by
  simp only [IntKind.wrap_u64]; split <;> omega
theorem less_v1 {a c : Nat} (ha : a < 4294967296) (hc : c ≤ 1) : IntKind.u64.wrap ((a : Int) - c) % 4294967296 = (((2 ^ 32 + a - 0 - c) % 2 ^ 32 : Nat) : Int) := by
  simp only [IntKind.wrap_u64]; omega

set_option maxHeartbeats 1000000 in
theorem less_any (A B : Option Addr) (n c x m d y : Nat) (w : World) (hn : n = dn 32 x) (hm : m = dn 32 y) (hxy : y ≤ x) (_hnc : n ≤ c) (hc : n ≤ 1099511627776)
    (ha : Slc w 169 A n (d32 x)) (hb : Slc w 169 B m (d32 y)) :
    Calls Tryd.prog 165 #[.slice A n c, .slice B m d] w fun e w' => ∃ A' c', e = .returned (.slice A' (dn 32 (x - y)) c') ∧ dn 32 (x - y) ≤ c' ∧ Slc w' 169 A' (dn 32 (x - y)) (d32 (x - y)) ∧ Below w.heap.size w w' := by
  have hmn : m ≤ n := by rw [hn, hm]; exact dn_mono (by omega) hxy
  have hx := lt_dn (k := 32) (by omega) x
  have hy := lt_dn (k := 32) (by omega) y
  rw [← hn] at hx
  rw [← hm] at hy
  have Hx := Lib.hid hx
  have Hy := Lib.hid hy
  have Hxy := Lib.hid hxy
  clear hn hm hx hy hxy
  have hmk := run_make_row' (P := Tryd.prog) 144 169 (.int .u32 0) 4 Tryd.underlying144 Tryd.info169 rfl .i64 .i64 n (by omega) (by omega)
  go_enter Tryd.func165, Tryd.ntmps165
  go_wp2
  clear hmk
  go_loopg [6, 14] n (fun g s6 s14 wr => ∃ i : Nat, i ≤ n ∧ g = n - i ∧ s6 = .int .u64 (borrow 32 x y i) ∧ s14 = .int .i64 i ∧ wr.rowIs w.heap.size 169 n (upto (x - y) i) ∧ Below w.heap.size w wr)
  case atStart => exact ⟨0, by omega, by omega, by rw [borrow_zero]; rfl, rfl, (World.rowIs_made w _ n 169).congr (fun j _ => by simp [upto]), (Below.refl _ _).alloc (Nat.le_refl _) _⟩
  case round =>
    obtain ⟨i, hi, hg, rfl, rfl, hrow, hbel⟩ := hrel
    have Hg := Lib.hid hg
    clear hg
    have hbl := borrow_le 32 x y i
    have hdx : dg 32 x i < 4294967296 := dg_lt 32 x i
    have hdy : dg 32 y i < 4294967296 := dg_lt 32 y i
    by_cases hin : i < n
    · obtain ⟨b1, o1, rfl, _, hc1⟩ := (ha.below hbel).cell (by omega)
      have k1 := hc1 i hin
      have k2 := hrow.cell (i := i) (by omega)
      have k3 := hrow.frozen i
      simp only [d32] at k1
      clear hc1
      by_cases him : i < m
      · obtain ⟨b2, o2, rfl, _, hc2⟩ := (hb.below hbel).cell (by omega)
        have k4 := hc2 i him
        simp only [d32] at k4
        clear hc2
        go_wp2
        go_roundg (n - (i + 1))
        case measure => have := Hg.out; omega
        case rel =>
          have h1 := sub_succ (k := 32) (i := i) Hxy.out
          have h2 := borrow_succ 32 x y i
          refine ⟨i + 1, by omega, rfl, ?_, by go_num, (hrow.set i _).congr (fun j _ => upto_step ?_), hbel.setCell (Nat.le_refl _) _⟩
          · rw [h2, less_c2 hdx hdy hbl]
          · rw [d32, h1, less_v2 hdx hdy hbl]
      · have hd0 : dg 32 y i = 0 := dg_zero_of (Nat.lt_of_lt_of_le Hy.out (pmono (by omega)))
        have Hd0 := Lib.hid hd0
        clear hd0
        go_wp2
        go_roundg (n - (i + 1))
        case measure => have := Hg.out; omega
        case rel =>
          have h1 := sub_succ (k := 32) (i := i) Hxy.out
          have h2 := borrow_succ 32 x y i
          refine ⟨i + 1, by omega, rfl, ?_, by go_num, (hrow.set i _).congr (fun j _ => upto_step ?_), hbel.setCell (Nat.le_refl _) _⟩
          · rw [h2, Hd0.out, less_c1 hdx hbl]
          · rw [d32, h1, Hd0.out, less_v1 hdx hbl]
    · obtain rfl : i = n := by omega
      have hxlt : x - y < 2 ^ (32 * i) := Nat.lt_of_le_of_lt (Nat.sub_le _ _) Hx.out
      have hrow' := hrow.congr (g := d32 (x - y)) (fun j hj => by unfold upto; rw [if_pos (by omega)])
      have Hs := Lib.hid hxlt
      clear hxlt hrow
      go_wp2_with (go_at_call 168; go_must (refine (cut_any _ i i (x - y) _ Hs.out (by omega) (by omega) (Slc.of_row hrow' (by omega))).mono ?_); rintro e w' ⟨rfl, rfl⟩)
      go_ret
      have hle := dn_le (k := 32) (by omega) Hs.out
      exact ⟨_, _, rfl, hle, Slc.of_row hrow' hle, hbel⟩
end Go.Proofs.YtgcifpjhhoalmaaDoor
