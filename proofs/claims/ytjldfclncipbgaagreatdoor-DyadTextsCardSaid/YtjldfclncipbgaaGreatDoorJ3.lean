/- The walks over wide's digits: short, LeadingZeros32. -/
import Derived.Test.YtjldfclncipbgaaGreatDoorB3
import Derived.Test.YtjldfclncipbgaaGreatDoorJ5
namespace Go.Proofs.YtjldfclncipbgaaGreatDoor
open Go Go.RowKit Fil

/-- a row of digits of which those from place k on are laid -/
def dwn (x k j : Nat) : Value := if k ≤ j then d32 x j else .int .u32 0
theorem dwn_step {x k j : Nat} {v : Value} (hv : v = d32 x k) : (if j = k then v else dwn x (k + 1) j) = dwn x k j := by
  unfold dwn
  by_cases e : j = k
  · subst e; rw [if_pos rfl, if_pos (Nat.le_refl _), hv]
  · rw [if_neg e]
    by_cases h : k + 1 ≤ j
    · rw [if_pos h, if_pos (by omega)]
    · rw [if_neg h, if_neg (by omega)]
theorem dwn_all (x j : Nat) : dwn x 0 j = d32 x j := by unfold dwn; rw [if_pos (Nat.zero_le _)]
theorem short_or {c d : Nat} (hc : c < 4294967296) (hd : d < 4294967296) : bits BinOp.or IntKind.u64 ((c : Int) * 4294967296) (d : Int) = ((c * 2 ^ 32 + d : Nat) : Int) := by
  have h := u64_or_nat (c * 4294967296) d (by omega) (by omega)
  rw [or_low hd] at h
  have e : (c : Int) * 4294967296 = ((c * 4294967296 : Nat) : Int) := by omega
  rw [e]
  exact h

set_option maxHeartbeats 2000000 in
theorem short_any (A : Option Addr) (n c x b : Nat) (w : World) (hn : n = dn 32 x) (hc : n ≤ 1099511627776) (hb : 0 < b) (hb2 : b < 4294967296) (ha : Slc w 89 A n (d32 x)) :
    Calls Tryz.prog 44 #[.slice A n c, .int .u32 b] w fun e w' => ∃ A' c', e = .returned (.tuple #[.slice A' (dn 32 (x / b)) c', .int .u32 ((x % b : Nat) : Int)]) ∧ dn 32 (x / b) ≤ c' ∧ Slc w' 89 A' (dn 32 (x / b)) (d32 (x / b)) ∧ Below w.heap.size w w' := by
  have hx := lt_dn (k := 32) (by omega) x
  rw [← hn] at hx
  have Hx := Lib.hid hx
  clear hn hx
  have hb0 : ¬ (b : Int) = 0 := by omega
  have hmk := run_make_row' (P := Tryz.prog) 83 89 (.int .u32 0) 4 Tryz.underlying83 Tryz.info89 rfl .i64 .i64 n (by omega) (by omega)
  go_enter Tryz.func44, Tryz.ntmps44
  go_wp2
  clear hmk
  go_loopg [7, 8] n (fun g s7 s8 wr => g ≤ n ∧ s7 = .int .u64 (sr x b g : Nat) ∧ s8 = .int .i64 ((g : Int) - 1) ∧ wr.rowIs w.heap.size 89 n (dwn (x / b) g) ∧ Below w.heap.size w wr)
  case atStart => exact ⟨Nat.le_refl _, by rw [sr_top Hx.out]; rfl, rfl, (World.rowIs_made w _ n 89).congr (fun j hj => by unfold dwn; rw [if_neg (by omega)]), (Below.refl _ _).alloc (Nat.le_refl _) _⟩
  case round =>
    obtain ⟨hg, rfl, rfl, hrow, hbel⟩ := hrel
    cases gk with
    | zero =>
      have hxb := Lib.hid (short_bound (b := b) Hx.out)
      have hrow' := hrow.congr (g := d32 (x / b)) (fun j _ => dwn_all _ _)
      have ez := sr_zero x b
      have hlt : x % b < 4294967296 := Nat.lt_trans (Nat.mod_lt _ hb) hb2
      rw [ez]
      clear hrow ez
      obtain ⟨rr, hrr⟩ : ∃ rr, rr = x % b := ⟨_, rfl⟩
      rw [← hrr]
      rw [← hrr] at hlt
      have Hrr := Lib.hid hrr
      clear hrr
      go_wp2_with (go_at_call 74; go_must (refine (cut_any _ n n (x / b) _ hxb.out (by omega) (by omega) (Slc.of_row hrow' (by omega))).mono ?_); rintro e w' ⟨rfl, rfl⟩)
      have hle := dn_le (k := 32) (by omega) hxb.out
      exact bodyPost_ret (v := .tuple #[.slice (some ⟨w.heap.size, 0, none⟩) (dn 32 (x / b)) n, .int .u32 (rr : Int)]) (by simp [results, Tryz.results44, go_sem]) rfl ⟨_, _, by rw [Hrr.out], hle, Slc.of_row hrow' hle, hbel⟩
    | succ g =>
      obtain ⟨b1, o1, rfl, _, hc1⟩ := (ha.below hbel).cell (by omega)
      have k1 := hc1 g (by omega)
      simp only [d32] at k1
      have hdx : dg 32 x g < 4294967296 := dg_lt 32 x g
      have hsr := sr_lt x (g + 1) hb
      have k2 := hrow.cell (i := g) (by omega)
      have k3 := hrow.frozen g
      have e1 : ((g + 1 : Nat) : Int) - 1 = g := by omega
      have e2 : (0 : Int) ≤ g := by omega
      have e3 : (g : Int) < n := by omega
      have h1 := Lib.hid (sr_step x b g)
      have h2 := Lib.hid (sr_dg x g hb)
      have hor := short_or (c := sr x b (g + 1)) (d := dg 32 x g) (by omega) hdx
      rw [e1]
      generalize sr x b (g + 1) = s at *
      have hT : s * 2 ^ 32 + dg 32 x g < 18446744073709551616 := by omega
      generalize hTd : s * 2 ^ 32 + dg 32 x g = T at *
      have hsl : s < 4294967296 := by omega
      have hq := dg_lt 32 (x / b) g
      rw [← h2.out] at hq
      have hr := Nat.mod_lt T hb
      have eq1 : (T : Int) / (b : Int) = ((T / b : Nat) : Int) := by simp
      have er1 : (T : Int) % (b : Int) = ((T % b : Nat) : Int) := by simp
      have hq2 : T / b < 4294967296 := hq
      clear hc1 e1 hTd hq
      generalize T / b = Q at *
      generalize T % b = R at *
      go_wp2
      go_roundg g
      case measure => omega
      case rel =>
        refine ⟨by omega, ?_, by go_num, (hrow.set g _).congr (fun j _ => dwn_step ?_), hbel.setCell (Nat.le_refl _) _⟩
        · rw [← h1.out]; go_num
        · rw [d32, ← h2.out]
end Go.Proofs.YtjldfclncipbgaaGreatDoor
