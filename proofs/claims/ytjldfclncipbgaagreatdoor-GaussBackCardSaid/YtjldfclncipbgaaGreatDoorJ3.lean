/- Merged: J1 J2 J5 J3 -/
import Derived.Test.YtjldfclncipbgaaGreatDoorB1
import Derived.Test.YtjldfclncipbgaaGreatDoorB3

/- Long division, digit by digit, in plain Lean. -/
namespace Go.Proofs.YtjldfclncipbgaaGreatDoor
open Fil

/-- the guess of a digit: the divisor V = v1 B K + v2 K + vl, what is left R = two B K + u0 K + rl -/
structure Guess (B K v1 v2 vl two u0 rl V R : Nat) : Prop where
  hK : 0 < K
  hB : 2 ≤ B
  hv : B ≤ 2 * v1
  hv1 : v1 < B
  hv2 : v2 < B
  hvl : vl < K
  hu0 : u0 < B
  hrl : rl < K
  eV : V = (v1 * B + v2) * K + vl
  eR : R = (two * B + u0) * K + rl
  lt : R < B * V
namespace Guess
variable {B K v1 v2 vl two u0 rl V R g r : Nat}
end Guess

end Go.Proofs.YtjldfclncipbgaaGreatDoor

/- Division by one digit, and decimal digits, in plain Lean. -/
namespace Go.Proofs.YtjldfclncipbgaaGreatDoor
open Fil

/-- what is left of the digits above place i -/
def sr (x b i : Nat) : Nat := x / 2 ^ (32 * i) % b
theorem sr_top {x b n : Nat} (h : x < 2 ^ (32 * n)) : sr x b n = 0 := by unfold sr; rw [Nat.div_eq_of_lt h, Nat.zero_mod]
theorem sr_zero (x b : Nat) : sr x b 0 = x % b := by simp [sr]
theorem short_cur (x i : Nat) : x / 2 ^ (32 * i) = x / 2 ^ (32 * (i + 1)) * 2 ^ 32 + dg 32 x i := div_step 32 x i
theorem sr_step (x b i : Nat) : (sr x b (i + 1) * 2 ^ 32 + dg 32 x i) % b = sr x b i := by
  unfold sr
  rw [short_cur x i, Nat.add_mod, Nat.mod_mul_mod, ← Nat.add_mod]
theorem sr_dg {b : Nat} (x i : Nat) (hb : 0 < b) : (sr x b (i + 1) * 2 ^ 32 + dg 32 x i) / b = dg 32 (x / b) i := by
  have h1 : x / 2 ^ (32 * i) = b * (x / 2 ^ (32 * (i + 1)) / b * 2 ^ 32) + (sr x b (i + 1) * 2 ^ 32 + dg 32 x i) := by
    rw [short_cur x i]
    have h := Nat.div_add_mod (x / 2 ^ (32 * (i + 1))) b
    unfold sr
    rw [← Nat.mul_assoc, ← Nat.add_assoc, ← Nat.add_mul, h]
  have h2 : (sr x b (i + 1) * 2 ^ 32 + dg 32 x i) / b < 2 ^ 32 := by
    refine Nat.div_lt_of_lt_mul ?_
    have h3 : sr x b (i + 1) < b := Nat.mod_lt _ hb
    have h4 : dg 32 x i < 2 ^ 32 := dg_lt 32 x i
    have h5 : (sr x b (i + 1) + 1) * 2 ^ 32 ≤ b * 2 ^ 32 := Nat.mul_le_mul_right _ h3
    rw [Nat.add_mul] at h5
    omega
  have h6 : x / b / 2 ^ (32 * i) = x / 2 ^ (32 * (i + 1)) / b * 2 ^ 32 + (sr x b (i + 1) * 2 ^ 32 + dg 32 x i) / b := by
    rw [Nat.div_div_eq_div_mul, Nat.mul_comm, ← Nat.div_div_eq_div_mul, h1, Nat.mul_add_div hb]
  unfold dg
  unfold dg at h6 h2
  rw [h6, Nat.mul_add_mod_self_right, Nat.mod_eq_of_lt h2]
theorem sr_lt {b : Nat} (x i : Nat) (hb : 0 < b) : sr x b i < b := Nat.mod_lt _ hb
theorem short_bound {x b n : Nat} (h : x < 2 ^ (32 * n)) : x / b < 2 ^ (32 * n) := Nat.lt_of_le_of_lt (Nat.div_le_self _ _) h

/-- a number's decimal digits as signs, the lowest first; none of 0 -/
def decs (x : Nat) : List UInt8 := if h : x = 0 then [] else UInt8.ofNat (48 + x % 10) :: decs (x / 10)
termination_by x
decreasing_by omega
theorem decs_zero : decs 0 = [] := by unfold decs; simp
theorem decs_pos {x : Nat} (h : x ≠ 0) : decs x = UInt8.ofNat (48 + x % 10) :: decs (x / 10) := by rw [decs, dif_neg h]
/-- a number's text -/
def dtx (x : Nat) : List UInt8 := if x = 0 then [48] else (decs x).reverse
theorem decs_length_le : ∀ (n x : Nat), x < 10 ^ n → (decs x).length ≤ n
  | 0, x, h => by have : x = 0 := by simpa using h
                  subst this; simp [decs_zero]
  | n + 1, x, h => by
    by_cases h0 : x = 0
    · subst h0; simp [decs_zero]
    · rw [decs_pos h0, List.length_cons]
      have := decs_length_le n (x / 10) (Nat.div_lt_of_lt_mul (by rw [Nat.pow_succ, Nat.mul_comm] at h; exact h))
      omega
/-- the inner loop: d above nine digits, r what is left of nine, i of them done -/
def grp (d r i : Nat) : Nat := d * 10 ^ (9 - i) + r
theorem grp_zero_iff (d r i : Nat) : grp d r i = 0 ↔ d = 0 ∧ r = 0 := by
  unfold grp
  have := Nat.pow_pos (a := 10) (n := 9 - i) (by omega)
  constructor
  · intro h
    rcases Nat.eq_zero_or_pos d with h0 | h0
    · exact ⟨h0, by omega⟩
    · have := Nat.mul_le_mul h0 this; omega
  · rintro ⟨rfl, rfl⟩; simp
theorem grp_step {d r i : Nat} (hi : i < 9) (hne : grp d r i ≠ 0) : decs (grp d r i) = UInt8.ofNat (48 + r % 10) :: decs (grp d (r / 10) (i + 1)) := by
  have h : d * 10 ^ (9 - i) = 10 * (d * 10 ^ (9 - (i + 1))) := by rw [show 9 - i = (9 - (i + 1)) + 1 by omega, Nat.pow_succ, ← Nat.mul_assoc, Nat.mul_comm 10]
  have h1 : grp d r i % 10 = r % 10 := by unfold grp; omega
  have h2 : grp d r i / 10 = grp d (r / 10) (i + 1) := by unfold grp; omega
  rw [decs_pos hne, h1, h2]
theorem grp_start (x : Nat) : grp (x / 1000000000) (x % 1000000000) 0 = x := by
  unfold grp
  have := Nat.div_add_mod x 1000000000
  omega
theorem grp_nine {d r : Nat} (hr : r < 10 ^ (9 - 9)) : grp d r 9 = d := by unfold grp; simp at hr; simp [hr]
theorem grp_rest {r i : Nat} (hi : i < 9) (h : r < 10 ^ (9 - i)) : r / 10 < 10 ^ (9 - (i + 1)) := by
  rw [show 9 - i = (9 - (i + 1)) + 1 by omega, Nat.pow_succ, Nat.mul_comm] at h
  exact Nat.div_lt_of_lt_mul h

/-- the number that decimal signs spell, on top of n -/
def dval (n : Nat) (l : List UInt8) : Nat := l.foldl (fun n c => 10 * n + (c.toNat - 48)) n
theorem dval_nil (n : Nat) : dval n [] = n := by unfold dval; rw [List.foldl_nil]
theorem dval_cons (n : Nat) (c : UInt8) (r : List UInt8) : dval n (c :: r) = dval (10 * n + (c.toNat - 48)) r := by unfold dval; rw [List.foldl_cons]
theorem dval_append (l m : List UInt8) (n : Nat) : dval n (l ++ m) = dval (dval n l) m := List.foldl_append
/-- decimal signs -/
def isDec (c : UInt8) : Bool := decide (48 ≤ c.toNat ∧ c.toNat ≤ 57)
def allDec (l : List UInt8) : Prop := ∀ c ∈ l, isDec c = true
theorem u8_of_lt {n : Nat} (h : n < 256) : (UInt8.ofNat n).toNat = n := by simp [Nat.mod_eq_of_lt h]
theorem decs_allDec (x : Nat) : allDec (decs x) := by
  induction x using Nat.strongRecOn with
  | _ x ih =>
    by_cases h : x = 0
    · subst h; rw [decs_zero]; intro c hc; simp at hc
    · rw [decs_pos h]
      intro c hc
      rcases List.mem_cons.1 hc with rfl | hc
      · unfold isDec; rw [u8_of_lt (by omega)]; exact decide_eq_true (by omega)
      · exact ih (x / 10) (by omega) c hc
theorem dval_decs (x : Nat) : dval 0 (decs x).reverse = x := by
  induction x using Nat.strongRecOn with
  | _ x ih =>
    by_cases h : x = 0
    · subst h; rw [decs_zero]; rfl
    · rw [decs_pos h, List.reverse_cons, dval_append, ih (x / 10) (by omega), dval_cons, dval_nil, u8_of_lt (by omega)]
      omega
theorem dval_dtx (x : Nat) : dval 0 (dtx x) = x := by
  unfold dtx
  split
  · rename_i h; subst h; rfl
  · exact dval_decs x
theorem dtx_allDec (x : Nat) : allDec (dtx x) := by
  unfold dtx
  split
  · intro c hc; rcases List.mem_cons.1 hc with rfl | hc
    · rfl
    · simp at hc
  · intro c hc; exact decs_allDec x c (List.mem_reverse.1 hc)
/-- no 0 ahead of others -/
def bare (l : List UInt8) : Prop := l ≠ [] ∧ (l.head? = some 48 → l.length = 1)
theorem decs_last {x : Nat} (h : x ≠ 0) : ∃ c, (decs x).getLast? = some c ∧ c ≠ 48 := by
  induction x using Nat.strongRecOn with
  | _ x ih =>
    rw [decs_pos h]
    by_cases h0 : x / 10 = 0
    · rw [h0, decs_zero]
      refine ⟨UInt8.ofNat (48 + x % 10), rfl, fun he => ?_⟩
      have := congrArg UInt8.toNat he
      rw [u8_of_lt (by omega)] at this
      have h9 : (48 : UInt8).toNat = 48 := rfl
      omega
    · obtain ⟨c, hc, hne⟩ := ih (x / 10) (by omega) h0
      refine ⟨c, ?_, hne⟩
      rw [List.getLast?_cons, hc]; rfl
theorem dtx_bare (x : Nat) : bare (dtx x) := by
  unfold dtx
  split
  · exact ⟨by simp, fun _ => rfl⟩
  · rename_i h
    obtain ⟨c, hc, hne⟩ := decs_last h
    refine ⟨fun he => ?_, fun hh => ?_⟩
    · rw [List.reverse_eq_nil_iff] at he; rw [he] at hc; simp at hc
    · rw [List.head?_reverse, hc] at hh; injection hh with hh; exact absurd hh hne
end Go.Proofs.YtjldfclncipbgaaGreatDoor

/- Fractions in lowest terms, in plain Lean. -/
namespace Go.Proofs.YtjldfclncipbgaaGreatDoor
open Fil

theorem norm_num (p q : Int) (hq : q ≠ 0) : sz (!(sg p == sg q)) (p.natAbs / Nat.gcd p.natAbs q.natAbs) = (Rat.divInt p q).num := by
  rw [Rat.num_divInt, show q.gcd p = Nat.gcd p.natAbs q.natAbs from Nat.gcd_comm _ _]
  have hG : 0 < Nat.gcd p.natAbs q.natAbs := Nat.gcd_pos_of_pos_right _ (by omega)
  obtain ⟨t, ht⟩ := Nat.gcd_dvd_left p.natAbs q.natAbs
  generalize Nat.gcd p.natAbs q.natAbs = G at *
  rw [ht, Nat.mul_div_cancel_left t hG]
  have hG' : (G : Int) ≠ 0 := by omega
  have e : ((p.natAbs : Nat) : Int) = (G : Int) * t := by rw [ht]; simp
  unfold sz sg
  rcases Int.lt_trichotomy q 0 with h | h | h
  · rw [Int.sign_eq_neg_one_of_neg h]
    by_cases hp : p < 0
    · rw [show -1 * p = (G : Int) * t by omega, Int.mul_ediv_cancel_left _ hG']
      simp [h, hp]
    · rw [show -1 * p = (G : Int) * (-t) by rw [Int.mul_neg]; omega, Int.mul_ediv_cancel_left _ hG']
      simp [h, hp]
  · exact absurd h hq
  · rw [Int.sign_eq_one_of_pos h]
    by_cases hp : p < 0
    · rw [show 1 * p = (G : Int) * (-t) by rw [Int.mul_neg]; omega, Int.mul_ediv_cancel_left _ hG']
      simp [hp, show ¬ q < 0 by omega]
    · rw [show 1 * p = (G : Int) * t by omega, Int.mul_ediv_cancel_left _ hG']
      simp [hp, show ¬ q < 0 by omega]
theorem norm_den (p q : Int) (hq : q ≠ 0) : q.natAbs / Nat.gcd p.natAbs q.natAbs = (Rat.divInt p q).den := by
  rw [Rat.den_divInt, if_neg hq, show q.gcd p = Nat.gcd p.natAbs q.natAbs from Nat.gcd_comm _ _]
theorem divInt_add (x y : Rat) : Rat.divInt (x.num * (y.den : Int) + y.num * (x.den : Int)) ((x.den : Int) * (y.den : Int)) = x + y := by
  rw [Rat.add_def', ← Rat.divInt_ofNat]; simp
theorem divInt_mul (x y : Rat) : Rat.divInt (x.num * y.num) ((x.den : Int) * (y.den : Int)) = x * y := by
  rw [Rat.mul_def', ← Rat.divInt_ofNat]; simp
theorem den_ne (x : Rat) : (x.den : Int) ≠ 0 := by have := x.den_nz; omega
end Go.Proofs.YtjldfclncipbgaaGreatDoor

/- The walks over wide's digits: short, LeadingZeros32. -/
namespace Go.Proofs.YtjldfclncipbgaaGreatDoor
open Go Go.RowKit Fil

/-- a row of digits of which those from place k on are laid -/
def dwn (x k j : Nat) : Value := if k ≤ j then d32 x j else .int .u32 0
theorem dwn_step {x k j : Nat} {v : Value} (hv : v = d32 x k) : (if j = k then v else dwn x (k + 1) j) = dwn x k j := by
  unfold dwn
  by_cases e : j = k
  · subst e; rw [if_pos rfl, if_pos (Nat.le_refl _), hv]
  · rw [if_neg e]
    by_cases h : k + 1 ≤ j
    · rw [if_pos h, if_pos (by omega)]
    · rw [if_neg h, if_neg (by omega)]
theorem dwn_all (x j : Nat) : dwn x 0 j = d32 x j := by unfold dwn; rw [if_pos (Nat.zero_le _)]
theorem short_or {c d : Nat} (hc : c < 4294967296) (hd : d < 4294967296) : bits BinOp.or IntKind.u64 ((c : Int) * 4294967296) (d : Int) = ((c * 2 ^ 32 + d : Nat) : Int) := by
  have h := u64_or_nat (c * 4294967296) d (by omega) (by omega)
  rw [or_low hd] at h
  have e : (c : Int) * 4294967296 = ((c * 4294967296 : Nat) : Int) := by omega
  rw [e]
  exact h

set_option maxHeartbeats 2000000 in
theorem short_any (A : Option Addr) (n c x b : Nat) (w : World) (hn : n = dn 32 x) (hc : n ≤ 1099511627776) (hb : 0 < b) (hb2 : b < 4294967296) (ha : Slc w 89 A n (d32 x)) :
    Calls Tryz.prog 44 #[.slice A n c, .int .u32 b] w fun e w' => ∃ A' c', e = .returned (.tuple #[.slice A' (dn 32 (x / b)) c', .int .u32 ((x % b : Nat) : Int)]) ∧ dn 32 (x / b) ≤ c' ∧ Slc w' 89 A' (dn 32 (x / b)) (d32 (x / b)) ∧ Below w.heap.size w w' := by
  have hx := lt_dn (k := 32) (by omega) x
  rw [← hn] at hx
  have Hx := Lib.hid hx
  clear hn hx
  have hb0 : ¬ (b : Int) = 0 := by omega
  have hmk := run_make_row' (P := Tryz.prog) 83 89 (.int .u32 0) 4 Tryz.underlying83 Tryz.info89 rfl .i64 .i64 n (by omega) (by omega)
  go_enter Tryz.func44, Tryz.ntmps44
  go_wp2
  clear hmk
  go_loopg [7, 8] n (fun g s7 s8 wr => g ≤ n ∧ s7 = .int .u64 (sr x b g : Nat) ∧ s8 = .int .i64 ((g : Int) - 1) ∧ wr.rowIs w.heap.size 89 n (dwn (x / b) g) ∧ Below w.heap.size w wr)
  case atStart => exact ⟨Nat.le_refl _, by rw [sr_top Hx.out]; rfl, rfl, (World.rowIs_made w _ n 89).congr (fun j hj => by unfold dwn; rw [if_neg (by omega)]), (Below.refl _ _).alloc (Nat.le_refl _) _⟩
  case round =>
    obtain ⟨hg, rfl, rfl, hrow, hbel⟩ := hrel
    cases gk with
    | zero =>
      have hxb := Lib.hid (short_bound (b := b) Hx.out)
      have hrow' := hrow.congr (g := d32 (x / b)) (fun j _ => dwn_all _ _)
      have ez := sr_zero x b
      have hlt : x % b < 4294967296 := Nat.lt_trans (Nat.mod_lt _ hb) hb2
      rw [ez]
      clear hrow ez
      obtain ⟨rr, hrr⟩ : ∃ rr, rr = x % b := ⟨_, rfl⟩
      rw [← hrr]
      rw [← hrr] at hlt
      have Hrr := Lib.hid hrr
      clear hrr
      go_wp2_with (go_at_call 74; go_must (refine (cut_any _ n n (x / b) _ hxb.out (by omega) (by omega) (Slc.of_row hrow' (by omega))).mono ?_); rintro e w' ⟨rfl, rfl⟩)
      have hle := dn_le (k := 32) (by omega) hxb.out
      exact bodyPost_ret (v := .tuple #[.slice (some ⟨w.heap.size, 0, none⟩) (dn 32 (x / b)) n, .int .u32 (rr : Int)]) (by simp [results, Tryz.results44, go_sem]) rfl ⟨_, _, by rw [Hrr.out], hle, Slc.of_row hrow' hle, hbel⟩
    | succ g =>
      obtain ⟨b1, o1, rfl, _, hc1⟩ := (ha.below hbel).cell (by omega)
      have k1 := hc1 g (by omega)
      simp only [d32] at k1
      have hdx : dg 32 x g < 4294967296 := dg_lt 32 x g
      have hsr := sr_lt x (g + 1) hb
      have k2 := hrow.cell (i := g) (by omega)
      have k3 := hrow.frozen g
      have e1 : ((g + 1 : Nat) : Int) - 1 = g := by omega
      have e2 : (0 : Int) ≤ g := by omega
      have e3 : (g : Int) < n := by omega
      have h1 := Lib.hid (sr_step x b g)
      have h2 := Lib.hid (sr_dg x g hb)
      have hor := short_or (c := sr x b (g + 1)) (d := dg 32 x g) (by omega) hdx
      rw [e1]
      generalize sr x b (g + 1) = s at *
      have hT : s * 2 ^ 32 + dg 32 x g < 18446744073709551616 := by omega
      generalize hTd : s * 2 ^ 32 + dg 32 x g = T at *
      have hsl : s < 4294967296 := by omega
      have hq := dg_lt 32 (x / b) g
      rw [← h2.out] at hq
      have hr := Nat.mod_lt T hb
      have eq1 : (T : Int) / (b : Int) = ((T / b : Nat) : Int) := by simp
      have er1 : (T : Int) % (b : Int) = ((T % b : Nat) : Int) := by simp
      have hq2 : T / b < 4294967296 := hq
      clear hc1 e1 hTd hq
      generalize T / b = Q at *
      generalize T % b = R at *
      go_wp2
      go_roundg g
      case measure => omega
      case rel =>
        refine ⟨by omega, ?_, by go_num, (hrow.set g _).congr (fun j _ => dwn_step ?_), hbel.setCell (Nat.le_refl _) _⟩
        · rw [← h1.out]; go_num
        · rw [d32, ← h2.out]
end Go.Proofs.YtjldfclncipbgaaGreatDoor
