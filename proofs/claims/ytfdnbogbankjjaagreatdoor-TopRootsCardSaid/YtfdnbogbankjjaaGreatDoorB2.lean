/- The walks of wide's digits. -/
import Derived.Test.YtfdnbogbankjjaaGreatDoorProg
import Derived.Test.YtfdnbogbankjjaaGreatDoorB1
import Derived.Deep.DeepCutAuto
import Derived.Deep.CutRange
import Derived.Laws.BitsAllLaws
import Derived.Shelf.Small.Bits

/- The walks over wide's digits, first part: cut, plus. -/
namespace Go.Proofs.YtfdnbogbankjjaaGreatDoor
open Go Go.RowKit Fil

/-- a digit of x as a value -/
def d32 (x : Nat) (j : Nat) : Value := .int .u32 (dg 32 x j)

set_option maxHeartbeats 400000 in
theorem cut_any (A : Option Addr) (n c x : Nat) (w : World) (hx : x < 2 ^ (32 * n)) (hnc : n ≤ c) (hc : n ≤ 4398046511104) (h : Slc w 155 A n (d32 x)) :
    Calls Tryz.prog 120 #[.slice A n c] w fun e w' => e = .returned (.slice A (dn 32 x) c) ∧ w = w' := by
  go_enter Tryz.func120, Tryz.ntmps120
  go_wp2
  go_loopg [0] n (fun g a wr => w = wr ∧ g ≤ n ∧ a = .slice A g c ∧ x < 2 ^ (32 * g))
  case atStart => exact ⟨rfl, Nat.le_refl _, rfl, hx⟩
  case round =>
    obtain ⟨rfl, hg, rfl, hxg⟩ := hrel
    cases gk with
    | zero =>
      have hz : dn 32 x = 0 := by have : x = 0 := by simpa using hxg
                                  subst this; exact dn_zero 32
      clear h hx hxg
      go_wp2
      go_ret
      exact ⟨by rw [hz]; rfl, rfl⟩
    | succ k =>
      obtain ⟨b, o, rfl, hb, hcell⟩ := h.cell (by omega)
      have hk := hcell k (by omega)
      simp only [d32] at hk
      have hxx := Lib.hid hxg
      clear h hx hxg hcell
      by_cases hd : dg 32 x k = 0
      · have hd' : ((dg 32 x k : Int) == 0) = true := by simp [hd]
        have hd2 := Lib.hid hd
        clear hd
        go_wp2
        go_roundg k
        case measure => omega
        case rel => exact ⟨rfl, by omega, by go_num, cut_step hxx.out hd2.out⟩
      · have hd' : ((dg 32 x k : Int) == 0) = false := by simpa using hd
        have hd2 := Lib.hid hd
        clear hd
        go_wp2
        go_ret
        exact ⟨by rw [cut_stop (by omega) hxx.out hd2.out]; rfl, rfl⟩

theorem Tryz.info155 : (Tryz.prog.info? 155).map (fun i => (i.zero, i.size, i.bytes)) = some (some (.int .u32 0), 1, 4) := by kernel_rfl

/-- what a row of digits reads when i of them are laid -/
def upto (x i j : Nat) : Value := if j < i then d32 x j else .int .u32 0
theorem upto_step {x i j : Nat} {v : Value} (hv : v = d32 x i) : (if j = i then v else upto x i j) = upto x (i + 1) j := by
  unfold upto
  by_cases e : j = i
  · subst e; rw [if_pos rfl, if_pos (by omega), hv]
  · rw [if_neg e]
    by_cases h : j < i
    · rw [if_pos h, if_pos (by omega)]
    · rw [if_neg h, if_neg (by omega)]

set_option maxHeartbeats 1000000 in
theorem plus_any (A B : Option Addr) (n c x m d y : Nat) (w : World) (hn : n = dn 32 x) (hm : m = dn 32 y) (hnc : n ≤ c) (hmd : m ≤ d) (hc : n ≤ 1099511627776) (hd : m ≤ 1099511627776)
    (ha : Slc w 155 A n (d32 x)) (hb : Slc w 155 B m (d32 y)) :
    Calls Tryz.prog 123 #[.slice A n c, .slice B m d] w fun e w' => ∃ A' c', e = .returned (.slice A' (dn 32 (x + y)) c') ∧ dn 32 (x + y) ≤ c' ∧ Slc w' 155 A' (dn 32 (x + y)) (d32 (x + y)) ∧ Below w.heap.size w w' := by
  have Hn := Lib.hid hn
  have Hm := Lib.hid hm
  clear hn hm
  go_enter Tryz.func123, Tryz.ntmps123
  go_upto_if 12 with (fail)
  go_cut [0, 1] (fun a b wr => w = wr ∧ ∃ A n c x' B m d y', a = .slice A n c ∧ b = .slice B m d ∧ m ≤ n ∧ n = dn 32 x' ∧ m = dn 32 y' ∧ x' + y' = x + y ∧ n ≤ c ∧ m ≤ d ∧ n ≤ 1099511627776 ∧ Slc w 155 A n (d32 x') ∧ Slc w 155 B m (d32 y'))
  case first =>
    by_cases hlt : n < m
    · go_wp2
      go_meet
      case rel => exact ⟨rfl, B, m, d, y, A, n, c, x, rfl, rfl, by omega, Hm.out, Hn.out, Nat.add_comm _ _, hmd, hnc, hd, hb, ha⟩
    · go_wp2
      go_meet
      case rel => exact ⟨rfl, A, n, c, x, B, m, d, y, rfl, rfl, by omega, Hn.out, Hm.out, rfl, hnc, hmd, hc, ha, hb⟩
  case rest =>
    clear ha hb hnc hmd hc hd Hn Hm A B n m c d
    obtain ⟨rfl, A, n, c, x', B, m, d, y', rfl, rfl, hmn, hn, hm, hxy, hnc, hmd, hc, ha, hb⟩ := hcut
    have hx := lt_dn (k := 32) (by omega) x'
    have hy := lt_dn (k := 32) (by omega) y'
    rw [← hn] at hx
    rw [← hm] at hy
    have hyn : y' < 2 ^ (32 * n) := Nat.lt_of_lt_of_le hy (pmono (by omega))
    have Hx := Lib.hid hx
    have Hy := Lib.hid hy
    have Hyn := Lib.hid hyn
    have Hxy := Lib.hid hxy
    clear hn hm hx hy hyn hxy
    have hmk := run_make_row' (P := Tryz.prog) 132 155 (.int .u32 0) 4 Tryz.underlying132 Tryz.info155 rfl .i64 .i64 (n + 1) (by omega) (by omega)
    have ec : ((n + 1 : Nat) : Int) = (n : Int) + 1 := by omega
    rw [ec] at hmk
    clear ec
    go_wp2
    clear hmk
    go_loopg [6, 21] n (fun g s6 s21 wr => ∃ i : Nat, i ≤ n ∧ g = n - i ∧ s6 = .int .u64 (carry 32 x' y' i) ∧ s21 = .int .i64 i ∧ wr.rowIs w.heap.size 155 (n + 1) (upto (x' + y') i) ∧ Below w.heap.size w wr)
    case atStart => exact ⟨0, by omega, by omega, by rw [carry_zero]; rfl, rfl, (World.rowIs_made w _ (n + 1) 155).congr (fun j _ => by simp [upto]), (Below.refl _ _).alloc (Nat.le_refl _) _⟩
    case round =>
      obtain ⟨i, hi, hg, rfl, rfl, hrow, hbel⟩ := hrel
      have Hg := Lib.hid hg
      clear hg
      have hcl := carry_le 32 x' y' i
      have hdx : dg 32 x' i < 4294967296 := dg_lt 32 x' i
      have hdy : dg 32 y' i < 4294967296 := dg_lt 32 y' i
      by_cases hin : i < n
      · obtain ⟨b1, o1, rfl, _, hc1⟩ := (ha.below hbel).cell (by omega)
        have k1 := hc1 i hin
        have k2 := hrow.cell (i := i) (by omega)
        have k3 := hrow.frozen i
        simp only [d32] at k1
        clear hc1
        by_cases him : i < m
        · obtain ⟨b2, o2, rfl, _, hc2⟩ := (hb.below hbel).cell (by omega)
          have k4 := hc2 i him
          simp only [d32] at k4
          clear hc2
          go_wp2
          go_roundg (n - (i + 1))
          case measure => have := Hg.out; omega
          case rel =>
            have h1 := carry_dg 32 x' y' i
            have h2 := carry_succ 32 x' y' i
            exact ⟨i + 1, by omega, rfl, by rw [← h2]; go_num, by go_num, (hrow.set i _).congr (fun j _ => upto_step (by rw [d32, ← h1]; go_num)), hbel.setCell (Nat.le_refl _) _⟩
        · have hd0 : dg 32 y' i = 0 := dg_zero_of (Nat.lt_of_lt_of_le Hy.out (pmono (by omega)))
          have Hd0 := Lib.hid hd0
          clear hd0
          go_wp2
          go_roundg (n - (i + 1))
          case measure => have := Hg.out; omega
          case rel =>
            have h1 := carry_dg 32 x' y' i
            have h2 := carry_succ 32 x' y' i
            rw [Hd0.out, Nat.add_zero] at h1 h2
            exact ⟨i + 1, by omega, rfl, by rw [← h2]; go_num, by go_num, (hrow.set i _).congr (fun j _ => upto_step (by rw [d32, ← h1]; go_num)), hbel.setCell (Nat.le_refl _) _⟩
      · obtain rfl : i = n := by omega
        have k2 := hrow.cell (i := i) (by omega)
        have k3 := hrow.frozen i
        have hs := add_lt_succ (k := 32) (by omega) Hx.out Hyn.out
        have hct := carry_top_dg (k := 32) (by omega) Hx.out Hyn.out
        have hv : (Value.int .u32 (carry 32 x' y' i : Int)) = d32 (x' + y') i := by rw [d32, ← hct]
        have hrow' := (hrow.set i (.int .u32 (carry 32 x' y' i : Int))).congr (g := d32 (x' + y')) (fun j hj => (upto_step hv).trans (by unfold upto; rw [if_pos (by omega)]))
        have hb2 := hbel.setCell (p := ⟨w.heap.size, i, none⟩) (Nat.le_refl _) (.int .u32 (carry 32 x' y' i : Int))
        have Hs := Lib.hid hs
        clear hs hct hrow hv
        go_wp2_with (go_at_call 120; go_must (refine (cut_any _ (i + 1) (i + 1) (x' + y') _ Hs.out (by omega) (by omega) (Slc.of_row hrow' (by omega))).mono ?_); rintro e w' ⟨rfl, rfl⟩)
        go_ret
        have hle := dn_le (k := 32) (by omega) Hs.out
        rw [← Hxy.out]
        exact ⟨_, _, rfl, hle, Slc.of_row hrow' hle, hb2⟩
end Go.Proofs.YtfdnbogbankjjaaGreatDoor

/- The walks over wide's digits: cmp, less. -/
namespace Go.Proofs.YtfdnbogbankjjaaGreatDoor
open Go Go.RowKit Fil

theorem cmpZ_lt {x y : Nat} (h : x < y) : cmpZ x y = -1 := by unfold cmpZ; rw [if_pos h]
theorem cmpZ_gt {x y : Nat} (h : y < x) : cmpZ x y = 1 := by unfold cmpZ; rw [if_neg (by omega), if_pos h]
theorem cmpZ_eq (x : Nat) : cmpZ x x = 0 := by simp [cmpZ]

set_option maxHeartbeats 1000000 in
theorem cmp_any (A B : Option Addr) (n c x m d y : Nat) (w : World) (hn : n = dn 32 x) (hm : m = dn 32 y) (hc : n ≤ 4398046511104) (hd : m ≤ 4398046511104)
    (ha : Slc w 155 A n (d32 x)) (hb : Slc w 155 B m (d32 y)) :
    Calls Tryz.prog 122 #[.slice A n c, .slice B m d] w fun e w' => e = .returned (.int .i64 (cmpZ x y)) ∧ ∃ k, w' = w.drewN k := by
  have Hn := Lib.hid hn
  have Hm := Lib.hid hm
  clear hn hm
  by_cases hnm : n = m
  · subst hnm
    go_enter Tryz.func122, Tryz.ntmps122
    go_wp2
    go_loopg [5] n (fun g s5 wr => ∃ k, wr = w.drewN k ∧ g ≤ n ∧ s5 = .int .i64 ((g : Int) - 1) ∧ x / 2 ^ (32 * g) = y / 2 ^ (32 * g))
    case atStart => exact ⟨0, rfl, Nat.le_refl _, rfl, by rw [Nat.div_eq_of_lt (by rw [Hn.out]; exact lt_dn (by omega) x), Nat.div_eq_of_lt (by rw [Hm.out]; exact lt_dn (by omega) y)]⟩
    case round =>
      obtain ⟨k, rfl, hg, rfl, he⟩ := hrel
      have He := Lib.hid he
      clear he
      cases gk with
      | zero =>
        have hxy : x = y := by simpa using He.out
        subst hxy
        have hz := Lib.hid (cmpZ_eq x)
        go_wp2
        go_ret
        exact ⟨by rw [hz.out]; rfl, k, rfl⟩
      | succ g =>
        obtain ⟨b1, o1, rfl, _, hc1⟩ := ha.cell (by omega)
        obtain ⟨b2, o2, rfl, _, hc2⟩ := hb.cell (by omega)
        have k1 := hc1 g (by omega)
        have k2 := hc2 g (by omega)
        simp only [d32] at k1 k2
        have e1 : ((g + 1 : Nat) : Int) - 1 = g := by omega
        have e2 : (0 : Int) ≤ g := by omega
        have e3 : (g : Int) < n := by omega
        rw [e1]
        clear hc1 hc2 e1
        rcases Nat.lt_trichotomy (dg 32 x g) (dg 32 y g) with hlt | heq | hgt
        · have t1 : ((dg 32 x g : Int) != (dg 32 y g : Int)) = true := by rw [bne_iff_ne]; omega
          have t2 : decide (dg 32 x g < dg 32 y g) = true := by simp; omega
          have hz := Lib.hid (cmpZ_lt (cmp_digit He.out hlt))
          clear hlt
          go_wp2
          go_quiet (fail)
          go_wp2
          go_quiet (fail)
          go_wp2
          go_ret
          exact ⟨by rw [hz.out]; rfl, _, by rw [World.drewN_drewN, World.drewN_drewN]⟩
        · have t1 : ((dg 32 x g : Int) != (dg 32 y g : Int)) = false := by simp; omega
          have hz := Lib.hid (cmp_next He.out heq)
          clear heq
          go_wp2
          go_quiet (fail)
          go_wp2
          go_roundg g
          case measure => omega
          case rel => exact ⟨_, rfl, by omega, by go_num, hz.out⟩
        · have t1 : ((dg 32 x g : Int) != (dg 32 y g : Int)) = true := by rw [bne_iff_ne]; omega
          have t2 : decide (dg 32 x g < dg 32 y g) = false := by simp; omega
          have hz := Lib.hid (cmpZ_gt (cmp_digit He.out.symm hgt))
          clear hgt
          go_wp2
          go_quiet (fail)
          go_wp2
          go_quiet (fail)
          go_wp2
          go_ret
          exact ⟨by rw [hz.out]; rfl, _, by rw [World.drewN_drewN, World.drewN_drewN]⟩
  · by_cases hlt : n < m
    · have hz := Lib.hid (cmpZ_lt (cmp_len (k := 32) (x := x) (y := y) (by omega) (by rw [← Hn.out, ← Hm.out]; exact hlt)))
      go_enter Tryz.func122, Tryz.ntmps122
      go_wp2
      go_ret
      exact ⟨by rw [hz.out]; rfl, 0, rfl⟩
    · have hz := Lib.hid (cmpZ_gt (cmp_len (k := 32) (x := y) (y := x) (by omega) (by rw [← Hn.out, ← Hm.out]; omega)))
      go_enter Tryz.func122, Tryz.ntmps122
      go_wp2
      go_ret
      exact ⟨by rw [hz.out]; rfl, 0, rfl⟩

theorem less_c2 {a b c : Nat} (ha : a < 4294967296) (hb : b < 4294967296) (hc : c ≤ 1) : IntKind.u64.wrap (IntKind.u64.wrap ((a : Int) - c) - b) / 9223372036854775808 = ((if a < b + c then 1 else 0 : Nat) : Int) := by
  simp only [IntKind.wrap_u64]; split <;> omega
theorem less_v2 {a b c : Nat} (ha : a < 4294967296) (hb : b < 4294967296) (hc : c ≤ 1) : IntKind.u64.wrap (IntKind.u64.wrap ((a : Int) - c) - b) % 4294967296 = (((2 ^ 32 + a - b - c) % 2 ^ 32 : Nat) : Int) := by
  simp only [IntKind.wrap_u64]; omega
theorem less_c1 {a c : Nat} (ha : a < 4294967296) (hc : c ≤ 1) : IntKind.u64.wrap ((a : Int) - c) / 9223372036854775808 = ((if a < 0 + c then 1 else 0 : Nat) : Int) := by
  simp only [IntKind.wrap_u64]; split <;> omega
theorem less_v1 {a c : Nat} (ha : a < 4294967296) (hc : c ≤ 1) : IntKind.u64.wrap ((a : Int) - c) % 4294967296 = (((2 ^ 32 + a - 0 - c) % 2 ^ 32 : Nat) : Int) := by
  simp only [IntKind.wrap_u64]; omega

set_option maxHeartbeats 1000000 in
theorem less_any (A B : Option Addr) (n c x m d y : Nat) (w : World) (hn : n = dn 32 x) (hm : m = dn 32 y) (hxy : y ≤ x) (_hnc : n ≤ c) (hc : n ≤ 1099511627776)
    (ha : Slc w 155 A n (d32 x)) (hb : Slc w 155 B m (d32 y)) :
    Calls Tryz.prog 124 #[.slice A n c, .slice B m d] w fun e w' => ∃ A' c', e = .returned (.slice A' (dn 32 (x - y)) c') ∧ dn 32 (x - y) ≤ c' ∧ Slc w' 155 A' (dn 32 (x - y)) (d32 (x - y)) ∧ Below w.heap.size w w' := by
  have hmn : m ≤ n := by rw [hn, hm]; exact dn_mono (by omega) hxy
  have hx := lt_dn (k := 32) (by omega) x
  have hy := lt_dn (k := 32) (by omega) y
  rw [← hn] at hx
  rw [← hm] at hy
  have Hx := Lib.hid hx
  have Hy := Lib.hid hy
  have Hxy := Lib.hid hxy
  clear hn hm hx hy hxy
  have hmk := run_make_row' (P := Tryz.prog) 132 155 (.int .u32 0) 4 Tryz.underlying132 Tryz.info155 rfl .i64 .i64 n (by omega) (by omega)
  go_enter Tryz.func124, Tryz.ntmps124
  go_wp2
  clear hmk
  go_loopg [6, 14] n (fun g s6 s14 wr => ∃ i : Nat, i ≤ n ∧ g = n - i ∧ s6 = .int .u64 (borrow 32 x y i) ∧ s14 = .int .i64 i ∧ wr.rowIs w.heap.size 155 n (upto (x - y) i) ∧ Below w.heap.size w wr)
  case atStart => exact ⟨0, by omega, by omega, by rw [borrow_zero]; rfl, rfl, (World.rowIs_made w _ n 155).congr (fun j _ => by simp [upto]), (Below.refl _ _).alloc (Nat.le_refl _) _⟩
  case round =>
    obtain ⟨i, hi, hg, rfl, rfl, hrow, hbel⟩ := hrel
    have Hg := Lib.hid hg
    clear hg
    have hbl := borrow_le 32 x y i
    have hdx : dg 32 x i < 4294967296 := dg_lt 32 x i
    have hdy : dg 32 y i < 4294967296 := dg_lt 32 y i
    by_cases hin : i < n
    · obtain ⟨b1, o1, rfl, _, hc1⟩ := (ha.below hbel).cell (by omega)
      have k1 := hc1 i hin
      have k2 := hrow.cell (i := i) (by omega)
      have k3 := hrow.frozen i
      simp only [d32] at k1
      clear hc1
      by_cases him : i < m
      · obtain ⟨b2, o2, rfl, _, hc2⟩ := (hb.below hbel).cell (by omega)
        have k4 := hc2 i him
        simp only [d32] at k4
        clear hc2
        go_wp2
        go_roundg (n - (i + 1))
        case measure => have := Hg.out; omega
        case rel =>
          have h1 := sub_succ (k := 32) (i := i) Hxy.out
          have h2 := borrow_succ 32 x y i
          refine ⟨i + 1, by omega, rfl, ?_, by go_num, (hrow.set i _).congr (fun j _ => upto_step ?_), hbel.setCell (Nat.le_refl _) _⟩
          · rw [h2, less_c2 hdx hdy hbl]
          · rw [d32, h1, less_v2 hdx hdy hbl]
      · have hd0 : dg 32 y i = 0 := dg_zero_of (Nat.lt_of_lt_of_le Hy.out (pmono (by omega)))
        have Hd0 := Lib.hid hd0
        clear hd0
        go_wp2
        go_roundg (n - (i + 1))
        case measure => have := Hg.out; omega
        case rel =>
          have h1 := sub_succ (k := 32) (i := i) Hxy.out
          have h2 := borrow_succ 32 x y i
          refine ⟨i + 1, by omega, rfl, ?_, by go_num, (hrow.set i _).congr (fun j _ => upto_step ?_), hbel.setCell (Nat.le_refl _) _⟩
          · rw [h2, Hd0.out, less_c1 hdx hbl]
          · rw [d32, h1, Hd0.out, less_v1 hdx hbl]
    · obtain rfl : i = n := by omega
      have hxlt : x - y < 2 ^ (32 * i) := Nat.lt_of_le_of_lt (Nat.sub_le _ _) Hx.out
      have hrow' := hrow.congr (g := d32 (x - y)) (fun j hj => by unfold upto; rw [if_pos (by omega)])
      have Hs := Lib.hid hxlt
      clear hxlt hrow
      go_wp2_with (go_at_call 120; go_must (refine (cut_any _ i i (x - y) _ Hs.out (by omega) (by omega) (Slc.of_row hrow' (by omega))).mono ?_); rintro e w' ⟨rfl, rfl⟩)
      go_ret
      have hle := dn_le (k := 32) (by omega) Hs.out
      exact ⟨_, _, rfl, hle, Slc.of_row hrow' hle, hbel⟩
end Go.Proofs.YtfdnbogbankjjaaGreatDoor

/- The walks over wide's digits: times. -/
namespace Go.Proofs.YtfdnbogbankjjaaGreatDoor
open Go Go.RowKit Fil

/-- a row that reads T below place p, V from there on -/
def mrow (V T p j : Nat) : Value := if j < p then d32 T j else d32 V j
theorem mrow_step {V a y i m j : Nat} {v : Value} (hv : v = d32 (mac 32 V a y i (m + 1)) (i + m)) :
    (if j = i + m then v else mrow V (mac 32 V a y i m) (i + m) j) = mrow V (mac 32 V a y i (m + 1)) (i + (m + 1)) j := by
  unfold mrow
  by_cases e : j = i + m
  · subst e; rw [if_pos rfl, if_pos (by omega), hv]
  · rw [if_neg e]
    by_cases h : j < i + m
    · rw [if_pos h, if_pos (by omega), d32, d32, mac_low 32 V a y i m h]
    · rw [if_neg h, if_neg (by omega)]
theorem d32_zero (j : Nat) : d32 0 j = .int .u32 0 := by simp [d32, dg]
theorem mul_cap {p q : Nat} (hp : p < 4294967296) (hq : q < 4294967296) : 0 ≤ (p : Int) * (q : Int) ∧ (p : Int) * (q : Int) ≤ 18446744065119617025 := by
  have h : p * q ≤ 4294967295 * 4294967295 := Nat.mul_le_mul (by omega) (by omega)
  have e : ((p * q : Nat) : Int) = (p : Int) * (q : Int) := by simp
  rw [← e]; omega
theorem row_end {x y i m j : Nat} {v : Value} (hy : y < 2 ^ (32 * m))
    (hv : v = d32 (x % 2 ^ (32 * (i + 1)) * y) (i + m)) :
    (if j = i + m then v else mrow (x % 2 ^ (32 * i) * y) (mac 32 (x % 2 ^ (32 * i) * y) (dg 32 x i) y i m) (i + m) j) = d32 (x % 2 ^ (32 * (i + 1)) * y) j := by
  have hV : x % 2 ^ (32 * i) * y < 2 ^ (32 * (i + m)) := mul_row_lt hy
  have hT : mac 32 (x % 2 ^ (32 * i) * y) (dg 32 x i) y i m = x % 2 ^ (32 * (i + 1)) * y := by rw [mac_end hV hy, mul_row]
  have hV2 : x % 2 ^ (32 * (i + 1)) * y < 2 ^ (32 * (i + 1 + m)) := mul_row_lt hy
  unfold mrow
  rw [hT]
  by_cases e : j = i + m
  · subst e; rw [if_pos rfl, hv]
  · rw [if_neg e]
    by_cases h : j < i + m
    · rw [if_pos h]
    · rw [if_neg h, d32, d32, dg_zero_of (Nat.lt_of_lt_of_le hV (pmono (Nat.mul_le_mul_left 32 (by omega)))), dg_zero_of (Nat.lt_of_lt_of_le hV2 (pmono (Nat.mul_le_mul_left 32 (by omega))))]
theorem mcar_end {x y i m : Nat} (hy : y < 2 ^ (32 * m)) : mcar 32 (x % 2 ^ (32 * i) * y) (dg 32 x i) y i m = dg 32 (x % 2 ^ (32 * (i + 1)) * y) (i + m) := by
  have hV : x % 2 ^ (32 * i) * y < 2 ^ (32 * (i + m)) := mul_row_lt hy
  have hV2 : x % 2 ^ (32 * (i + 1)) * y < 2 ^ (32 * (i + 1 + m)) := mul_row_lt hy
  unfold mcar
  rw [mac_end hV hy, mul_row, dg_div_eq (by rw [show i + m + 1 = i + 1 + m by omega]; exact hV2)]

set_option maxHeartbeats 2000000 in
set_option maxRecDepth 100000 in
theorem times_any (A B : Option Addr) (n c x m d y : Nat) (w : World) (hn : n = dn 32 x) (hm : m = dn 32 y) (_hnc : n ≤ c) (_hmd : m ≤ d) (hc : n ≤ 1099511627776) (hd : m ≤ 1099511627776)
    (ha : Slc w 155 A n (d32 x)) (hb : Slc w 155 B m (d32 y)) :
    Calls Tryz.prog 128 #[.slice A n c, .slice B m d] w fun e w' => ∃ A' c', e = .returned (.slice A' (dn 32 (x * y)) c') ∧ dn 32 (x * y) ≤ c' ∧ Slc w' 155 A' (dn 32 (x * y)) (d32 (x * y)) ∧ Below w.heap.size w w' := by
  have hx := lt_dn (k := 32) (by omega) x
  have hy := lt_dn (k := 32) (by omega) y
  rw [← hn] at hx
  rw [← hm] at hy
  have Hx := Lib.hid hx
  have Hy := Lib.hid hy
  clear hn hm hx hy
  have hmk := run_make_row' (P := Tryz.prog) 132 155 (.int .u32 0) 4 Tryz.underlying132 Tryz.info155 rfl .i64 .i64 (n + m) (by omega) (by omega)
  have ec : ((n + m : Nat) : Int) = (n : Int) + m := by omega
  rw [ec] at hmk
  clear ec
  go_enter Tryz.func128, Tryz.ntmps128
  go_wp2
  clear hmk
  go_loopg [19] n (fun g s19 wr => ∃ i : Nat, i ≤ n ∧ g = n - i ∧ s19 = .int .i64 i ∧ wr.rowIs w.heap.size 155 (n + m) (d32 (x % 2 ^ (32 * i) * y)) ∧ Below w.heap.size w wr)
  case atStart => exact ⟨0, by omega, by omega, rfl, (World.rowIs_made w _ (n + m) 155).congr (fun j _ => by simp only [Nat.mul_zero, Nat.pow_zero, Nat.mod_one, Nat.zero_mul, d32_zero]), (Below.refl _ _).alloc (Nat.le_refl _) _⟩
  case round =>
    obtain ⟨i, hi, hg, rfl, hrow, hbel⟩ := hrel
    have Hg := Lib.hid hg
    clear hg
    by_cases hin : i < n
    · obtain ⟨b1, o1, rfl, _, hc1⟩ := (ha.below hbel).cell (by omega)
      have k1 := hc1 i hin
      simp only [d32] at k1
      have hdx : dg 32 x i < 4294967296 := dg_lt 32 x i
      clear hc1
      go_wp2
      obtain ⟨wo, rfl⟩ : ∃ wo : World, wo = wr := ⟨_, rfl⟩
      go_loopg [8, 26] m (fun g s8 s26 wr => ∃ k : Nat, k ≤ m ∧ g = m - k ∧ s8 = .int .u64 (mcar 32 (x % 2 ^ (32 * i) * y) (dg 32 x i) y i k) ∧ s26 = .int .i64 k ∧ wr.rowIs w.heap.size 155 (n + m) (mrow (x % 2 ^ (32 * i) * y) (mac 32 (x % 2 ^ (32 * i) * y) (dg 32 x i) y i k) (i + k)) ∧ Below w.heap.size w wr)
      case atStart => exact ⟨0, by omega, by omega, by rw [mcar_zero]; rfl, rfl, hrow.congr (fun j _ => by
        unfold mrow; rw [mac_zero]
        by_cases h : j < i + 0
        · rw [if_pos h, d32, d32, dg_mod (by omega)]
        · rw [if_neg h]), hbel⟩
      case round =>
        clear hrow hbel k1
        obtain ⟨k, hk, hg2, rfl, rfl, hrow, hbel⟩ := hrel
        have Hg2 := Lib.hid hg2
        clear hg2
        have hcar : mcar 32 (x % 2 ^ (32 * i) * y) (dg 32 x i) y i k < 4294967296 := mcar_lt 32 _ _ y i (dg_lt 32 x i) k
        by_cases hkm : k < m
        · obtain ⟨b2, o2, rfl, _, hc2⟩ := (hb.below hbel).cell (by omega)
          have k2 := hc2 k hkm
          simp only [d32] at k2
          have hdy : dg 32 y k < 4294967296 := dg_lt 32 y k
          have k3 := hrow.cell (i := i + k) (by omega)
          have k4 := hrow.frozen (i + k)
          unfold mrow at k3
          rw [if_neg (by omega), d32] at k3
          have hdv : dg 32 (x % 2 ^ (32 * i) * y) (i + k) < 4294967296 := dg_lt 32 _ _
          obtain ⟨hmul0, hmul⟩ := mul_cap hdx hdy
          clear hc2
          go_wp2
          go_roundg (m - (k + 1))
          case measure => have := Hg2.out; omega
          case rel =>
            have h1 := mcar_dg 32 (x % 2 ^ (32 * i) * y) (dg 32 x i) y i k
            have h2 := mcar_succ 32 (x % 2 ^ (32 * i) * y) (dg 32 x i) y i k
            have e1 : mcar 32 (x % 2 ^ (32 * i) * y) (dg 32 x i) y i k + dg 32 (x % 2 ^ (32 * i) * y) (i + k) + dg 32 x i * dg 32 y k = mcar 32 (x % 2 ^ (32 * i) * y) (dg 32 x i) y i k + (dg 32 x i * dg 32 y k + dg 32 (x % 2 ^ (32 * i) * y) (i + k)) := by omega
            rw [e1] at h1 h2
            exact ⟨k + 1, by omega, rfl, by rw [← h2]; go_num, by go_num, (hrow.set (i + k) _).congr (fun j _ => mrow_step (by rw [d32, ← h1]; go_num)), hbel.setCell (Nat.le_refl _) _⟩
        · obtain rfl : k = m := by omega
          have k3 := hrow.cell (i := i + k) (by omega)
          have k4 := hrow.frozen (i + k)
          go_wp2
          go_roundg (n - (i + 1))
          case measure => have := Hg.out; omega
          case rel =>
            exact ⟨i + 1, by omega, rfl, by go_num, (hrow.set (i + k) _).congr (fun j _ => row_end Hy.out (by rw [d32, ← mcar_end Hy.out])), hbel.setCell (Nat.le_refl _) _⟩
    · obtain rfl : i = n := by omega
      rw [Nat.mod_eq_of_lt Hx.out] at hrow
      have hlt : x * y < 2 ^ (32 * (i + m)) := by rw [padd]; exact Nat.mul_lt_mul'' Hx.out Hy.out
      have Hs := Lib.hid hlt
      clear hlt
      go_wp2_with (go_at_call 120; go_must (refine (cut_any _ (i + m) (i + m) (x * y) _ Hs.out (by omega) (by omega) (Slc.of_row hrow (by omega))).mono ?_); rintro e w' ⟨rfl, rfl⟩)
      go_ret
      have hle := dn_le (k := 32) (by omega) Hs.out
      exact ⟨_, _, rfl, hle, Slc.of_row hrow hle, hbel⟩
end Go.Proofs.YtfdnbogbankjjaaGreatDoor

/- The walks over wide's digits: left, right. -/
namespace Go.Proofs.YtfdnbogbankjjaaGreatDoor
open Go Go.RowKit Fil

theorem pow_cast (a s : Nat) : (a : Int) * 2 ^ s = ((a * 2 ^ s : Nat) : Int) := by simp
theorem sh_lt {a s : Nat} (ha : a < 4294967296) (hs : s < 32) : a * 2 ^ s < 18446744073709551616 := by
  have h1 : (2 : Nat) ^ s ≤ 2 ^ 31 := pmono (by omega)
  have h2 : a * 2 ^ s ≤ 4294967295 * 2 ^ 31 := Nat.mul_le_mul (by omega) h1
  omega
theorem left_hi {x k i : Nat} : IntKind.u64.wrap ((dg 32 x i : Int) * 2 ^ (k % 32)) / 4294967296 % 4294967296 = ((dg 32 (shl 32 x k (i + 1)) (i + k / 32 + 1) : Nat) : Int) := by
  have hk : k = 32 * (k / 32) + k % 32 := by omega
  have h1 := shl_dg1 32 x (k / 32) (k % 32) i (by omega)
  rw [← hk] at h1
  have h2 := sh_lt (s := k % 32) (dg_lt 32 x i) (by omega)
  have h3 := dg_lt 32 (shl 32 x k (i + 1)) (i + k / 32 + 1)
  rw [pow_cast, IntKind.wrap_u64]
  rw [h1] at h3 ⊢
  generalize dg 32 x i * 2 ^ (k % 32) = t at *
  omega
theorem left_lo {x k i : Nat} : bits BinOp.or IntKind.u32 (dg 32 (shl 32 x k i) (i + k / 32) : Int) (IntKind.u64.wrap ((dg 32 x i : Int) * 2 ^ (k % 32)) % 4294967296) = ((dg 32 (shl 32 x k (i + 1)) (i + k / 32) : Nat) : Int) := by
  have hk : k = 32 * (k / 32) + k % 32 := by omega
  have h1 := shl_dg0 32 x (k / 32) (k % 32) i (by omega)
  rw [← hk] at h1
  have h2 := sh_lt (s := k % 32) (dg_lt 32 x i) (by omega)
  rw [pow_cast, IntKind.wrap_u64, h1]
  have e : ((dg 32 x i * 2 ^ (k % 32) : Nat) : Int) % 18446744073709551616 % 4294967296 = ((dg 32 x i * 2 ^ (k % 32) % 2 ^ 32 : Nat) : Int) := by
    generalize dg 32 x i * 2 ^ (k % 32) = t at *
    omega
  rw [e, u32_or_nat _ _ (dg_lt 32 _ _) (Nat.mod_lt _ (by omega))]
theorem left_row {x k i j : Nat} : (if j = i + k / 32 + 1 then Value.int IntKind.u32 (IntKind.u64.wrap ((dg 32 x i : Int) * 2 ^ (k % 32)) / 4294967296 % 4294967296) else
    if j = i + k / 32 then Value.int IntKind.u32 (bits BinOp.or IntKind.u32 (dg 32 (shl 32 x k i) (i + k / 32) : Int) (IntKind.u64.wrap ((dg 32 x i : Int) * 2 ^ (k % 32)) % 4294967296)) else d32 (shl 32 x k i) j) = d32 (shl 32 x k (i + 1)) j := by
  have hk : k = 32 * (k / 32) + k % 32 := by omega
  rw [left_hi, left_lo]
  by_cases e1 : j = i + k / 32 + 1
  · subst e1; rw [if_pos rfl, d32]
  · rw [if_neg e1]
    by_cases e2 : j = i + k / 32
    · subst e2; rw [if_pos rfl, d32]
    · rw [if_neg e2, d32, d32]
      by_cases h : j < i + k / 32
      · have h1 := shl_dg_low 32 x (k / 32) (k % 32) i h
        rw [← hk] at h1
        rw [h1]
      · have h1 := shl_dg_high 32 x (k / 32) (k % 32) i (by omega) (j := j) (by omega)
        have h2 := shl_dg_high 32 x (k / 32) (k % 32) (i + 1) (by omega) (j := j) (by omega)
        rw [← hk] at h1 h2
        rw [h1, h2]

set_option maxHeartbeats 2000000 in
set_option maxRecDepth 100000 in
theorem left_any (A : Option Addr) (n c x k : Nat) (w : World) (hn : n = dn 32 x) (_hnc : n ≤ c) (hc : n ≤ 1099511627776) (hk : k ≤ 1099511627776)
    (ha : Slc w 155 A n (d32 x)) :
    Calls Tryz.prog 121 #[.slice A n c, .int .u64 k] w fun e w' => ∃ A' c', e = .returned (.slice A' (dn 32 (x * 2 ^ k)) c') ∧ dn 32 (x * 2 ^ k) ≤ c' ∧ Slc w' 155 A' (dn 32 (x * 2 ^ k)) (d32 (x * 2 ^ k)) ∧ Below w.heap.size w w' := by
  have hx := lt_dn (k := 32) (by omega) x
  rw [← hn] at hx
  have Hx := Lib.hid hx
  have Hn := Lib.hid hn
  clear hn hx
  have hkd : 0 ≤ (k : Int) / 32 := by omega
  have hke : (k : Int) / 32 ≤ 34359738368 := by omega
  have hmk := run_make_row' (P := Tryz.prog) 132 155 (.int .u32 0) 4 Tryz.underlying132 Tryz.info155 rfl .i64 .i64 (n + k / 32 + 1) (by omega) (by omega)
  have ec : ((n + k / 32 + 1 : Nat) : Int) = (n : Int) + (k : Int) / 32 + 1 := by omega
  rw [ec] at hmk
  clear ec
  by_cases h0 : n = 0
  · have hx0 : x = 0 := by have := Hn.out; rw [h0] at this; exact dn_eq_zero.1 this.symm
    have h0' : ((n : Int) == 0) = true := by simpa using h0
    subst hx0
    clear h0 hmk
    go_enter Tryz.func121, Tryz.ntmps121
    go_wp2
    go_ret
    exact ⟨none, 0, by rw [Nat.zero_mul, dn_zero]; rfl, by rw [Nat.zero_mul, dn_zero]; omega, by rw [Nat.zero_mul, dn_zero]; exact Slc.nil _ _ _ _, Below.refl _ _⟩
  · have h0' : ((n : Int) == 0) = false := by simpa using h0
    clear h0
    go_enter Tryz.func121, Tryz.ntmps121
    go_wp2
    clear hmk
    go_loopg [22] n (fun g s22 wr => ∃ i : Nat, i ≤ n ∧ g = n - i ∧ s22 = .int .i64 i ∧ wr.rowIs w.heap.size 155 (n + k / 32 + 1) (d32 (shl 32 x k i)) ∧ Below w.heap.size w wr)
    case atStart => exact ⟨0, by omega, by omega, rfl, (World.rowIs_made w _ (n + k / 32 + 1) 155).congr (fun j _ => by rw [shl_zero, d32_zero]), (Below.refl _ _).alloc (Nat.le_refl _) _⟩
    case round =>
      obtain ⟨i, hi, hg, rfl, hrow, hbel⟩ := hrel
      have Hg := Lib.hid hg
      clear hg
      by_cases hin : i < n
      · obtain ⟨b1, o1, rfl, _, hc1⟩ := (ha.below hbel).cell (by omega)
        have k1 := hc1 i hin
        simp only [d32] at k1
        have hdx : dg 32 x i < 4294967296 := dg_lt 32 x i
        clear hc1
        have k2 := hrow.cell (i := i + k / 32) (by omega)
        have k3 := hrow.frozen (i + k / 32)
        have k4 := hrow.cell (i := i + k / 32 + 1) (by omega)
        have k5 := hrow.frozen (i + k / 32 + 1)
        simp only [d32] at k2 k4
        go_wp2
        go_roundg (n - (i + 1))
        case measure => have := Hg.out; omega
        case rel =>
          refine ⟨i + 1, by omega, rfl, by go_num, ((hrow.set (i + k / 32) _).set (i + k / 32 + 1) _).congr (fun j hj => ?_), (hbel.setCell (Nat.le_refl _) _).setCell (Nat.le_refl _) _⟩
          exact left_row
      · obtain rfl : i = n := by omega
        rw [shl_end Hx.out] at hrow
        have hlt : x * 2 ^ k < 2 ^ (32 * (i + k / 32 + 1)) := by
          have := shl_bound (k := 32) (q := k / 32) (s := k % 32) Hx.out (by omega)
          rwa [show 32 * (k / 32) + k % 32 = k by omega] at this
        have Hs := Lib.hid hlt
        clear hlt
        go_wp2_with (go_at_call 120; go_must (refine (cut_any _ (i + k / 32 + 1) (i + k / 32 + 1) (x * 2 ^ k) _ Hs.out (by omega) (by omega) (Slc.of_row hrow (by omega))).mono ?_); rintro e w' ⟨rfl, rfl⟩)
        go_ret
        have hle := dn_le (k := 32) (by omega) Hs.out
        exact ⟨_, _, rfl, hle, Slc.of_row hrow hle, hbel⟩
end Go.Proofs.YtfdnbogbankjjaaGreatDoor

/- The walks over wide's digits: right. -/
namespace Go.Proofs.YtfdnbogbankjjaaGreatDoor
open Go Go.RowKit Fil

theorem div_cast (a s : Nat) : (a : Int) / 2 ^ s = ((a / 2 ^ s : Nat) : Int) := by simp
end Go.Proofs.YtfdnbogbankjjaaGreatDoor

/- The walks: bits.Len32, bits.TrailingZeros32; wide's size, low. -/
namespace Go.Proofs.YtfdnbogbankjjaaGreatDoor
open Go Go.RowKit Fil

end Go.Proofs.YtfdnbogbankjjaaGreatDoor
