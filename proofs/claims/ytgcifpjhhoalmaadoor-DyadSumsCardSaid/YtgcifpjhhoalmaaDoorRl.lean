/- The walk over the reference's numbers: times. -/
import Derived.Test.YtgcifpjhhoalmaaDoorRk
namespace Go.Proofs.YtgcifpjhhoalmaaDoor
open Go Go.RowKit Go.PlainAid Fil

/-- a row that reads T below place p, V from there on -/
def mrow8 (V T p j : Nat) : Value := if j < p then i8 T j else i8 V j
theorem mrow8_step {V a y i m j : Nat} {v : Value} (hv : v = i8 (mac 8 V a y i (m + 1)) (i + m)) :
    (if j = i + m then v else mrow8 V (mac 8 V a y i m) (i + m) j) = mrow8 V (mac 8 V a y i (m + 1)) (i + (m + 1)) j := by
  unfold mrow8
  by_cases e : j = i + m
  · subst e; rw [if_pos rfl, if_pos (by omega), hv]
  · rw [if_neg e]
    by_cases h : j < i + m
    · rw [if_pos h, if_pos (by omega), i8, i8, mac_low 8 V a y i m h]
    · rw [if_neg h, if_neg (by omega)]
theorem i8_zero (j : Nat) : i8 0 j = .int .i64 0 := by simp [i8, dg]
theorem times_mac {x y i m k : Nat} (hy : y < 2 ^ (8 * m)) (hk : m ≤ k) : mac 8 (x % 2 ^ (8 * i) * y) (dg 8 x i) y i k = x % 2 ^ (8 * (i + 1)) * y := by
  have hV : x % 2 ^ (8 * i) * y < 2 ^ (8 * (i + m)) := mul_row_lt hy
  rw [mac_end (Nat.lt_of_lt_of_le hV (pmono (by omega))) (Nat.lt_of_lt_of_le hy (pmono (by omega))), mul_row]
theorem times_car {x y i m k : Nat} (hy : y < 2 ^ (8 * m)) (hk : m ≤ k) : mcar 8 (x % 2 ^ (8 * i) * y) (dg 8 x i) y i k = x % 2 ^ (8 * (i + 1)) * y / 2 ^ (8 * (i + k)) := by
  unfold mcar; rw [times_mac hy hk]
theorem times_car0 {x y i m : Nat} (hy : y < 2 ^ (8 * m)) : mcar 8 (x % 2 ^ (8 * i) * y) (dg 8 x i) y i (m + 1) = 0 := by
  rw [times_car hy (by omega)]
  exact Nat.div_eq_of_lt (by rw [show i + (m + 1) = i + 1 + m by omega]; exact mul_row_lt hy)
theorem times_end {x y i m k j : Nat} (hy : y < 2 ^ (8 * m)) (hk : m ≤ k) (h0 : mcar 8 (x % 2 ^ (8 * i) * y) (dg 8 x i) y i k = 0) :
    mrow8 (x % 2 ^ (8 * i) * y) (mac 8 (x % 2 ^ (8 * i) * y) (dg 8 x i) y i k) (i + k) j = i8 (x % 2 ^ (8 * (i + 1)) * y) j := by
  have hV : x % 2 ^ (8 * i) * y < 2 ^ (8 * (i + m)) := mul_row_lt hy
  rw [times_car hy hk] at h0
  have hR : x % 2 ^ (8 * (i + 1)) * y < 2 ^ (8 * (i + k)) := by
    rcases Nat.lt_or_ge (x % 2 ^ (8 * (i + 1)) * y) (2 ^ (8 * (i + k))) with h | h
    · exact h
    · have := (Nat.le_div_iff_mul_le (pp (8 * (i + k)))).2 (show 1 * 2 ^ (8 * (i + k)) ≤ _ by rw [Nat.one_mul]; exact h)
      omega
  unfold mrow8
  rw [times_mac hy hk]
  by_cases h : j < i + k
  · rw [if_pos h]
  · rw [if_neg h, i8, i8, dg_zero_of (Nat.lt_of_lt_of_le hV (pmono (Nat.mul_le_mul_left 8 (by omega)))), dg_zero_of (Nat.lt_of_lt_of_le hR (pmono (Nat.mul_le_mul_left 8 (by omega))))]
theorem rows_drewN {w : World} {b : Nat} {t : TypeId} {n : Nat} {f : Nat → Value} (h : w.rowIs b t n f) (k : Nat) : (w.drewN k).rowIs b t n f := h

set_option maxHeartbeats 4000000 in
set_option maxRecDepth 100000 in
theorem rtimes_any (A B : Option Addr) (n c x m d y : Nat) (w : World) (hn : n = Fil.dn 8 x) (hm : m = Fil.dn 8 y) (hn8 : n ≤ 1048576) (hm8 : m ≤ 1048576)
    (ha : Slc w 3 A n (i8 x)) (hb : Slc w 3 B m (i8 y)) :
    Calls Tryd.prog 136 #[.slice A n c, .slice B m d] w fun r w' => BigR w (x * y) r w' := by
  have hx := lt_dn (k := 8) (by omega) x
  have hy := lt_dn (k := 8) (by omega) y
  rw [← hn] at hx
  rw [← hm] at hy
  have Hx := Lib.hid hx
  have Hy := Lib.hid hy
  have Hn := Lib.hid hn
  have Hm := Lib.hid hm
  clear hn hm hx hy
  have hmk := run_make_row' (P := Tryd.prog) 122 3 (.int .i64 0) 8 Tryd.underlying122 Tryd.info3 rfl .i64 .i64 (n + m + 1) (by omega) (by omega)
  have ec : ((n + m + 1 : Nat) : Int) = (n : Int) + m + 1 := by omega
  rw [ec] at hmk
  clear ec
  go_enter Tryd.func136, Tryd.ntmps136
  go_wp2
  clear hmk
  go_loopg [6] n (fun g s6 wr => ∃ i : Nat, i ≤ n ∧ g = n - i ∧ s6 = .int .i64 i ∧ wr.rowIs w.heap.size 3 (n + m + 1) (i8 (x % 2 ^ (8 * i) * y)) ∧ Below w.heap.size w wr)
  case atStart => exact ⟨0, by omega, by omega, rfl, (World.rowIs_made w _ (n + m + 1) 3).congr (fun j _ => by simp only [Nat.mul_zero, Nat.pow_zero, Nat.mod_one, Nat.zero_mul, i8_zero]), (Below.refl _ _).alloc (Nat.le_refl _) _⟩
  case round =>
    obtain ⟨i, hi, hg, rfl, hrow, hbel⟩ := hrel
    have Hg := Lib.hid hg
    clear hg
    by_cases hin : i < n
    · have hdx := dg_lt 8 x i
      go_wp2
      obtain ⟨wo, rfl⟩ : ∃ wo : World, wo = wr := ⟨_, rfl⟩
      go_loopg [7, 8] (m + 1) (fun g s7 s8 wr => ∃ k : Nat, k ≤ m + 1 ∧ g = m + 1 - k ∧ s7 = .int .i64 (mcar 8 (x % 2 ^ (8 * i) * y) (dg 8 x i) y i k) ∧ s8 = .int .i64 k ∧ wr.rowIs w.heap.size 3 (n + m + 1) (mrow8 (x % 2 ^ (8 * i) * y) (mac 8 (x % 2 ^ (8 * i) * y) (dg 8 x i) y i k) (i + k)) ∧ Below w.heap.size w wr)
      case atStart => exact ⟨0, by omega, by omega, by rw [mcar_zero]; rfl, rfl, hrow.congr (fun j _ => by
        unfold mrow8; rw [mac_zero]
        by_cases h : j < i + 0
        · rw [if_pos h, i8, i8, dg_mod (by omega)]
        · rw [if_neg h]), hbel⟩
      case round =>
        clear hrow hbel
        obtain ⟨k, hk, hg2, rfl, rfl, hrow, hbel⟩ := hrel
        have Hg2 := Lib.hid hg2
        clear hg2
        have hcar : mcar 8 (x % 2 ^ (8 * i) * y) (dg 8 x i) y i k < 256 := mcar_lt 8 _ _ y i (dg_lt 8 x i) k
        by_cases hkm : k < m
        · have hcar0 := hcar
          obtain ⟨b1, o1, rfl, _, hc1⟩ := (ha.below hbel).cell (by omega)
          have k1 := hc1 i hin
          simp only [i8] at k1
          have k3 := hrow.cell (i := i + k) (by omega)
          have k4 := hrow.frozen (i + k)
          unfold mrow8 at k3
          rw [if_neg (by omega), i8] at k3
          have hs2 := hb.below hbel
          have hrb := fun W => rat_quiet B m d y (k : Int) W Hm.out (by omega) (by omega)
          simp only [Int.toNat_natCast] at hrb
          have HA := Lib.hid hrb
          have h1 := mcar_dg 8 (x % 2 ^ (8 * i) * y) (dg 8 x i) y i k
          have h2 := mcar_succ 8 (x % 2 ^ (8 * i) * y) (dg 8 x i) y i k
          have HB := Lib.hid (And.intro h1 h2)
          have hdv := dg_lt 8 (x % 2 ^ (8 * i) * y) (i + k)
          have hdy := dg_lt 8 y k
          have HR := Lib.hid (And.intro hrow hbel)
          have hb2 := hbel.size
          clear hc1 hrb h1 h2 hrow hbel
          obtain ⟨ca, hca⟩ : ∃ ca, ca = mcar 8 (x % 2 ^ (8 * i) * y) (dg 8 x i) y i k := ⟨_, rfl⟩
          rw [← hca] at hcar hcar0 HB ⊢
          obtain ⟨d0, hd0⟩ : ∃ d0, d0 = dg 8 (x % 2 ^ (8 * i) * y) (i + k) := ⟨_, rfl⟩
          rw [← hd0] at hdv k3 HB
          obtain ⟨d1, hd1⟩ : ∃ d1, d1 = dg 8 y k := ⟨_, rfl⟩
          rw [← hd1] at hdy HB HA
          obtain ⟨a, haa⟩ : ∃ a, a = dg 8 x i := ⟨_, rfl⟩
          rw [← haa] at hdx k1 HB HR
          obtain ⟨p, hp⟩ : ∃ p, p = a * d1 := ⟨_, rfl⟩
          have hpl : p ≤ 255 * 255 := by rw [hp]; exact Nat.mul_le_mul (by omega) (by omega)
          have W0 : (a : Int) * (d1 : Int) = (p : Int) := by rw [hp]; simp
          rw [← hp] at HB
          have W1 : IntKind.i64.wrap (p : Int) = (p : Int) := IntWalk.i64_in _ (by omega)
          have W2 : IntKind.i64.wrap ((ca : Int) + d0) = (ca : Int) + d0 := IntWalk.i64_in _ (by omega)
          have W3 : IntKind.i64.wrap ((ca : Int) + d0 + p) = (ca : Int) + d0 + p := IntWalk.i64_in _ (by omega)
          have W4 : IntKind.i64.wrap ((i : Int) + k) = (i : Int) + k := IntWalk.i64_in _ (by omega)
          have W5 : ((i : Int) + (k : Int)).toNat = i + k := by omega
          have P0 : 0 ≤ (i : Int) + k := by omega
          have P1 : (i : Int) + k < (n : Int) + m + 1 := by omega
          have P2 : 0 ≤ (i : Int) := by omega
          have P3 : (i : Int) < n := by omega
          have hp0 : (ca : Int) + d0 + p ≤ 100000 := by omega
          have hq0 : 0 ≤ (ca : Int) + d0 + p := by omega
          have Hx1 := Lib.hid (And.intro hca (And.intro hd0 (And.intro hd1 (And.intro haa hp))))
          clear hca hd0 hd1 haa hp hcar0
          go_wp2_with fail
          go_quiet ((go_at_call 158; exact Calls.quiet_of (HA.out _ (hs2.drewN _))))
          clear HA hs2 W0 W1 W2 W3 W4 k1
          go_wp2
          go_roundg (m + 1 - (k + 1))
          case measure => have := Hg2.out; omega
          case rel =>
            obtain ⟨_, _, _, haa, _⟩ := Hx1.out
            subst haa
            exact ⟨k + 1, by omega, rfl, by rw [← HB.out.2]; go_num, by go_num, ((rows_drewN HR.out.1 _).set (i + k) _).congr (fun j _ => mrow8_step (by rw [i8, ← HB.out.1]; go_num)), (Below.drewN' HR.out.2 _).setCell (Nat.le_refl _) _⟩
        · by_cases hc0 : mcar 8 (x % 2 ^ (8 * i) * y) (dg 8 x i) y i k = 0
          · have He := Lib.hid (fun j => @times_end x y i m k j Hy.out (by omega) hc0)
            rw [hc0]
            clear hcar hc0
            go_wp2
            go_roundg (n - (i + 1))
            case measure => have := Hg.out; omega
            case rel => exact ⟨i + 1, by omega, rfl, by go_num, hrow.congr (fun j _ => He.out j), hbel⟩
          · have hcar0 : 0 < mcar 8 (x % 2 ^ (8 * i) * y) (dg 8 x i) y i k := by omega
            have hkm2 : k = m := by
              rcases Nat.lt_or_ge m k with h | h
              · exfalso
                have e : k = m + 1 := by omega
                rw [e, times_car0 Hy.out] at hcar0
                omega
              · omega
            subst hkm2
            clear hc0
            obtain ⟨b1, o1, rfl, _, hc1⟩ := (ha.below hbel).cell (by omega)
            have k1 := hc1 i hin
            simp only [i8] at k1
            have k3 := hrow.cell (i := i + k) (by omega)
            have k4 := hrow.frozen (i + k)
            unfold mrow8 at k3
            rw [if_neg (by omega), i8] at k3
            have hs2 := hb.below hbel
            have hrb := fun W => rat_quiet B k d y (k : Int) W Hm.out (by omega) (by omega)
            simp only [Int.toNat_natCast] at hrb
            have HA := Lib.hid hrb
            have h1 := mcar_dg 8 (x % 2 ^ (8 * i) * y) (dg 8 x i) y i k
            have h2 := mcar_succ 8 (x % 2 ^ (8 * i) * y) (dg 8 x i) y i k
            have HB := Lib.hid (And.intro h1 h2)
            have hdv := dg_lt 8 (x % 2 ^ (8 * i) * y) (i + k)
            have hdy := dg_lt 8 y k
            have HR := Lib.hid (And.intro hrow hbel)
            have hb2 := hbel.size
            clear hc1 hrb h1 h2 hrow hbel
            obtain ⟨ca, hca⟩ : ∃ ca, ca = mcar 8 (x % 2 ^ (8 * i) * y) (dg 8 x i) y i k := ⟨_, rfl⟩
            rw [← hca] at hcar hcar0 HB ⊢
            obtain ⟨d0, hd0⟩ : ∃ d0, d0 = dg 8 (x % 2 ^ (8 * i) * y) (i + k) := ⟨_, rfl⟩
            rw [← hd0] at hdv k3 HB
            obtain ⟨d1, hd1⟩ : ∃ d1, d1 = dg 8 y k := ⟨_, rfl⟩
            rw [← hd1] at hdy HB HA
            obtain ⟨a, haa⟩ : ∃ a, a = dg 8 x i := ⟨_, rfl⟩
            rw [← haa] at hdx k1 HB HR
            obtain ⟨p, hp⟩ : ∃ p, p = a * d1 := ⟨_, rfl⟩
            have hpl : p ≤ 255 * 255 := by rw [hp]; exact Nat.mul_le_mul (by omega) (by omega)
            have W0 : (a : Int) * (d1 : Int) = (p : Int) := by rw [hp]; simp
            rw [← hp] at HB
            have W1 : IntKind.i64.wrap (p : Int) = (p : Int) := IntWalk.i64_in _ (by omega)
            have W2 : IntKind.i64.wrap ((ca : Int) + d0) = (ca : Int) + d0 := IntWalk.i64_in _ (by omega)
            have W3 : IntKind.i64.wrap ((ca : Int) + d0 + p) = (ca : Int) + d0 + p := IntWalk.i64_in _ (by omega)
            have W4 : IntKind.i64.wrap ((i : Int) + k) = (i : Int) + k := IntWalk.i64_in _ (by omega)
            have W5 : ((i : Int) + (k : Int)).toNat = i + k := by omega
            have P0 : 0 ≤ (i : Int) + k := by omega
            have P1 : (i : Int) + k < (n : Int) + k + 1 := by omega
            have P2 : 0 ≤ (i : Int) := by omega
            have P3 : (i : Int) < n := by omega
            have hp0 : (ca : Int) + d0 + p ≤ 100000 := by omega
            have hq0 : 0 ≤ (ca : Int) + d0 + p := by omega
            have Hx1 := Lib.hid (And.intro hca (And.intro hd0 (And.intro hd1 (And.intro haa hp))))
            clear hca hd0 hd1 haa hp
            go_wp2_with fail
            go_quiet ((go_at_call 158; exact Calls.quiet_of (HA.out _ (hs2.drewN _))))
            clear HA hs2 W0 W1 W2 W3 W4 k1
            go_wp2
            go_roundg (k + 1 - (k + 1))
            case measure => have := Hg2.out; omega
            case rel =>
              obtain ⟨_, _, _, haa, _⟩ := Hx1.out
              subst haa
              exact ⟨k + 1, by omega, rfl, by rw [← HB.out.2]; go_num, by go_num, ((rows_drewN HR.out.1 _).set (i + k) _).congr (fun j _ => mrow8_step (by rw [i8, ← HB.out.1]; go_num)), (Below.drewN' HR.out.2 _).setCell (Nat.le_refl _) _⟩
    · obtain rfl : i = n := by omega
      rw [Nat.mod_eq_of_lt Hx.out] at hrow
      have hlt : x * y < 2 ^ (8 * (i + m + 1)) := Nat.lt_of_lt_of_le (show x * y < 2 ^ (8 * (i + m)) by rw [padd]; exact Nat.mul_lt_mul'' Hx.out Hy.out) (pmono (by omega))
      have Hs := Lib.hid hlt
      clear hlt
      go_wp2_with fail
      refine (rcut_any _ (i + m + 1) (i + m + 1) (x * y) _ Hs.out (by omega) (by omega) (Slc.of_row hrow (by omega))).mono ?_
      rintro e w' ⟨rfl, rfl⟩
      go_wp2
      go_ret
      have hle := dn_le (k := 8) (by omega) Hs.out
      exact ⟨_, _, rfl, hle, Slc.of_row hrow hle, hbel⟩
end Go.Proofs.YtgcifpjhhoalmaaDoor
