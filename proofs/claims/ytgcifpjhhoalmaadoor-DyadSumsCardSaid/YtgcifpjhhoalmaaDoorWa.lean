/- The walks over wide's digits, first part: cut, plus. -/
import Derived.Test.YtgcifpjhhoalmaaDoorProg
import Derived.Test.YtgcifpjhhoalmaaDoorFb
import Derived.Deep.DeepCutAuto
import Derived.Deep.CutRange
import Derived.Test.YtgcifpjhhoalmaaDoorDg
namespace Go.Proofs.YtgcifpjhhoalmaaDoor
open Go Go.RowKit Fil

/-- a digit of x as a value -/
def d32 (x : Nat) (j : Nat) : Value := .int .u32 (dg 32 x j)

set_option maxHeartbeats 400000 in
theorem cut_any (A : Option Addr) (n c x : Nat) (w : World) (hx : x < 2 ^ (32 * n)) (hnc : n ≤ c) (hc : n ≤ 4398046511104) (h : Slc w 169 A n (d32 x)) :
    Calls Tryd.prog 168 #[.slice A n c] w fun e w' => e = .returned (.slice A (dn 32 x) c) ∧ w = w' := by
  go_enter Tryd.func168, Tryd.ntmps168
  go_wp2
  go_loopg [0] n (fun g a wr => w = wr ∧ g ≤ n ∧ a = .slice A g c ∧ x < 2 ^ (32 * g))
  case atStart => exact ⟨rfl, Nat.le_refl _, rfl, hx⟩
  case round =>
    obtain ⟨rfl, hg, rfl, hxg⟩ := hrel
    cases gk with
    | zero =>
      have hz : dn 32 x = 0 := by have : x = 0 := by simpa using hxg
                                  subst this; exact dn_zero 32
      clear h hx hxg
      go_wp2
      go_ret
      exact ⟨by rw [hz]; rfl, rfl⟩
    | succ k =>
      obtain ⟨b, o, rfl, hb, hcell⟩ := h.cell (by omega)
      have hk := hcell k (by omega)
      simp only [d32] at hk
      have hxx := Lib.hid hxg
      clear h hx hxg hcell
      by_cases hd : dg 32 x k = 0
      · have hd' : ((dg 32 x k : Int) == 0) = true := by simp [hd]
        have hd2 := Lib.hid hd
        clear hd
        go_wp2
        go_roundg k
        case measure => omega
        case rel => exact ⟨rfl, by omega, by go_num, cut_step hxx.out hd2.out⟩
      · have hd' : ((dg 32 x k : Int) == 0) = false := by simpa using hd
        have hd2 := Lib.hid hd
        clear hd
        go_wp2
        go_ret
        exact ⟨by rw [cut_stop (by omega) hxx.out hd2.out]; rfl, rfl⟩

theorem Tryd.info169 : (Tryd.prog.info? 169).map (fun i => (i.zero, i.size, i.bytes)) = some (some (.int .u32 0), 1, 4) := by kernel_rfl

/-- what a row of digits reads when i of them are laid -/
def upto (x i j : Nat) : Value := if j < i then d32 x j else .int .u32 0
theorem upto_step {x i j : Nat} {v : Value} (hv : v = d32 x i) : (if j = i then v else upto x i j) = upto x (i + 1) j := by
  unfold upto
  by_cases e : j = i
  · subst e; rw [if_pos rfl, if_pos (by omega), hv]
  · rw [if_neg e]
    by_cases h : j < i
    · rw [if_pos h, if_pos (by omega)]
    · rw [if_neg h, if_neg (by omega)]

set_option maxHeartbeats 1000000 in
theorem plus_any (A B : Option Addr) (n c x m d y : Nat) (w : World) (hn : n = dn 32 x) (hm : m = dn 32 y) (hnc : n ≤ c) (hmd : m ≤ d) (hc : n ≤ 1099511627776) (hd : m ≤ 1099511627776)
    (ha : Slc w 169 A n (d32 x)) (hb : Slc w 169 B m (d32 y)) :
    Calls Tryd.prog 156 #[.slice A n c, .slice B m d] w fun e w' => ∃ A' c', e = .returned (.slice A' (dn 32 (x + y)) c') ∧ dn 32 (x + y) ≤ c' ∧ Slc w' 169 A' (dn 32 (x + y)) (d32 (x + y)) ∧ Below w.heap.size w w' := by
  have Hn := Lib.hid hn
  have Hm := Lib.hid hm
  clear hn hm
  go_enter Tryd.func156, Tryd.ntmps156
  go_upto_if 12 with (fail)
  go_cut [0, 1] (fun a b wr => w = wr ∧ ∃ A n c x' B m d y', a = .slice A n c ∧ b = .slice B m d ∧ m ≤ n ∧ n = dn 32 x' ∧ m = dn 32 y' ∧ x' + y' = x + y ∧ n ≤ c ∧ m ≤ d ∧ n ≤ 1099511627776 ∧ Slc w 169 A n (d32 x') ∧ Slc w 169 B m (d32 y'))
  case first =>
    by_cases hlt : n < m
    · go_wp2
      go_meet
      case rel => exact ⟨rfl, B, m, d, y, A, n, c, x, rfl, rfl, by omega, Hm.out, Hn.out, Nat.add_comm _ _, hmd, hnc, hd, hb, ha⟩
    · go_wp2
      go_meet
      case rel => exact ⟨rfl, A, n, c, x, B, m, d, y, rfl, rfl, by omega, Hn.out, Hm.out, rfl, hnc, hmd, hc, ha, hb⟩
  case rest =>
    clear ha hb hnc hmd hc hd Hn Hm A B n m c d
    obtain ⟨rfl, A, n, c, x', B, m, d, y', rfl, rfl, hmn, hn, hm, hxy, hnc, hmd, hc, ha, hb⟩ := hcut
    have hx := lt_dn (k := 32) (by omega) x'
    have hy := lt_dn (k := 32) (by omega) y'
    rw [← hn] at hx
    rw [← hm] at hy
    have hyn : y' < 2 ^ (32 * n) := Nat.lt_of_lt_of_le hy (pmono (by omega))
    have Hx := Lib.hid hx
    have Hy := Lib.hid hy
    have Hyn := Lib.hid hyn
    have Hxy := Lib.hid hxy
    clear hn hm hx hy hyn hxy
    have hmk := run_make_row' (P := Tryd.prog) 144 169 (.int .u32 0) 4 Tryd.underlying144 Tryd.info169 rfl .i64 .i64 (n + 1) (by omega) (by omega)
    have ec : ((n + 1 : Nat) : Int) = (n : Int) + 1 := by omega
    rw [ec] at hmk
    clear ec
    go_wp2
    clear hmk
    go_loopg [6, 21] n (fun g s6 s21 wr => ∃ i : Nat, i ≤ n ∧ g = n - i ∧ s6 = .int .u64 (carry 32 x' y' i) ∧ s21 = .int .i64 i ∧ wr.rowIs w.heap.size 169 (n + 1) (upto (x' + y') i) ∧ Below w.heap.size w wr)
    case atStart => exact ⟨0, by omega, by omega, by rw [carry_zero]; rfl, rfl, (World.rowIs_made w _ (n + 1) 169).congr (fun j _ => by simp [upto]), (Below.refl _ _).alloc (Nat.le_refl _) _⟩
    case round =>
      obtain ⟨i, hi, hg, rfl, rfl, hrow, hbel⟩ := hrel
      have Hg := Lib.hid hg
      clear hg
      have hcl := carry_le 32 x' y' i
      have hdx : dg 32 x' i < 4294967296 := dg_lt 32 x' i
      have hdy : dg 32 y' i < 4294967296 := dg_lt 32 y' i
      by_cases hin : i < n
      · obtain ⟨b1, o1, rfl, _, hc1⟩ := (ha.below hbel).cell (by omega)
        have k1 := hc1 i hin
        have k2 := hrow.cell (i := i) (by omega)
        have k3 := hrow.frozen i
        simp only [d32] at k1
        clear hc1
        by_cases him : i < m
        · obtain ⟨b2, o2, rfl, _, hc2⟩ := (hb.below hbel).cell (by omega)
          have k4 := hc2 i him
          simp only [d32] at k4
          clear hc2
          go_wp2
          go_roundg (n - (i + 1))
          case measure => have := Hg.out; omega
          case rel =>
            have h1 := carry_dg 32 x' y' i
            have h2 := carry_succ 32 x' y' i
            exact ⟨i + 1, by omega, rfl, by rw [← h2]; go_num, by go_num, (hrow.set i _).congr (fun j _ => upto_step (by rw [d32, ← h1]; go_num)), hbel.setCell (Nat.le_refl _) _⟩
        · have hd0 : dg 32 y' i = 0 := dg_zero_of (Nat.lt_of_lt_of_le Hy.out (pmono (by omega)))
          have Hd0 := Lib.hid hd0
          clear hd0
          go_wp2
          go_roundg (n - (i + 1))
          case measure => have := Hg.out; omega
          case rel =>
            have h1 := carry_dg 32 x' y' i
            have h2 := carry_succ 32 x' y' i
            rw [Hd0.out, Nat.add_zero] at h1 h2
            exact ⟨i + 1, by omega, rfl, by rw [← h2]; go_num, by go_num, (hrow.set i _).congr (fun j _ => upto_step (by rw [d32, ← h1]; go_num)), hbel.setCell (Nat.le_refl _) _⟩
      · obtain rfl : i = n := by omega
        have k2 := hrow.cell (i := i) (by omega)
        have k3 := hrow.frozen i
        have hs := add_lt_succ (k := 32) (by omega) Hx.out Hyn.out
        have hct := carry_top_dg (k := 32) (by omega) Hx.out Hyn.out
        have hv : (Value.int .u32 (carry 32 x' y' i : Int)) = d32 (x' + y') i := by rw [d32, ← hct]
        have hrow' := (hrow.set i (.int .u32 (carry 32 x' y' i : Int))).congr (g := d32 (x' + y')) (fun j hj => (upto_step hv).trans (by unfold upto; rw [if_pos (by omega)]))
        have hb2 := hbel.setCell (p := ⟨w.heap.size, i, none⟩) (Nat.le_refl _) (.int .u32 (carry 32 x' y' i : Int))
        have Hs := Lib.hid hs
        clear hs hct hrow hv
        go_wp2_with (go_at_call 168; go_must (refine (cut_any _ (i + 1) (i + 1) (x' + y') _ Hs.out (by omega) (by omega) (Slc.of_row hrow' (by omega))).mono ?_); rintro e w' ⟨rfl, rfl⟩)
        go_ret
        have hle := dn_le (k := 32) (by omega) Hs.out
        rw [← Hxy.out]
        exact ⟨_, _, rfl, hle, Slc.of_row hrow' hle, hb2⟩
end Go.Proofs.YtgcifpjhhoalmaaDoor
