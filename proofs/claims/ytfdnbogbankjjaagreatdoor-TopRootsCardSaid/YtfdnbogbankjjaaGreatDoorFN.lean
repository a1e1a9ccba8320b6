/- Merged: FM FN -/
import Derived.Test.YtfdnbogbankjjaaGreatDoorF4
import Derived.Test.YtfdnbogbankjjaaGreatDoorC2
import Derived.Lib.TrailingZeros
import Derived.RegionTactic
import Derived.Test.YtfdnbogbankjjaaGreatDoorF5

/- math/bits.TrailingZeros64; the parts of a float. -/
namespace Go.Proofs.YtfdnbogbankjjaaGreatDoor
open Go Go.RowKit Go.PlainAid Fil

/-- math/bits' table in its variable -/
def Tab64 (w : World) : Prop := ∀ j, j < 64 → w.cell? ⟨1, j, none⟩ = some (.int .u8 (Lib.deBruijn64tab.getD j 0))
theorem Tab64.lt {w : World} (h : Tab64 w) : 1 < w.heap.size := World.block_lt_of_cell? _ _ (h 0 (by omega))
theorem Tab64.below {w w' : World} (h : Tab64 w) (hb : Below w.heap.size w w') : Tab64 w' := fun j hj => (hb.cell (p := ⟨1, j, none⟩) h.lt).trans (h j hj)
theorem tz64_key (x a : Nat) (hx : x < 18446744073709551616) (hx0 : x ≠ 0) (hlow : x &&& (18446744073709551616 - x) = a) :
  IntKind.u64.wrap (bits BinOp.and IntKind.u64 (x : Int) (IntKind.u64.wrap (-(x : Int))) * 285870213051353865) / 288230376151711744 = ((a * 285870213051353865 % 18446744073709551616 / 288230376151711744 : Nat) : Int) := by
 have e1 : IntKind.u64.wrap (-(x : Int)) = ((18446744073709551616 - x : Nat) : Int) := by
  show (-(x : Int)) % 18446744073709551616 = _
  omega
 rw [e1, u64_and_nat x _ hx (by omega), hlow]
 show ((a : Int) * 285870213051353865) % 18446744073709551616 / 288230376151711744 = _
 omega
set_option maxHeartbeats 1000000 in
theorem tz64_core (x k idx : Nat) (w : World) (hx0 : ((x : Int) == 0) = false)
  (key : IntKind.u64.wrap (bits BinOp.and IntKind.u64 (x : Int) (IntKind.u64.wrap (-(x : Int))) * 285870213051353865) / 288230376151711744 = (idx : Int))
  (hi : idx < 64) (hk : k < 64) (hcell : w.cell? ⟨1, idx, none⟩ = some (.int .u8 k)) :
  Calls Tryz.prog 118 #[.int .u64 x] w fun e w' => e = .returned (.int .i64 k) ∧ w = w' := by
 go_enter Tryz.func118, Tryz.ntmps118
 go_wp2_with (simp only [key])
 go_ret
 exact ⟨rfl, rfl⟩
theorem tz64_any (x : Nat) (w : World) (hx : x < 18446744073709551616) (hx0 : x ≠ 0) (hT : Tab64 w) :
  Calls Tryz.prog 118 #[.int .u64 x] w fun e w' => e = .returned (.int .i64 (Lib.ctz 64 x)) ∧ w = w' := by
 obtain ⟨hlow, hk⟩ := Lib.lowest_bit 64 x hx0 hx
 obtain ⟨hi, htab⟩ := Lib.deBruijn64_at _ hk
 have hcell := hT _ hi
 rw [htab] at hcell
 exact tz64_core x _ _ w (by simp; omega) (tz64_key x _ hx hx0 hlow) hi hk hcell
/-- the parts of a float -/
def FlOf (x : Nat) (m : Nat) (e : Int) : Prop := W (sz (fs x) m) e = fu x ∧ m < 9007199254740992 ∧ -1074 ≤ e ∧ e ≤ 1100
theorem ctz_pow {x : Nat} (hx0 : x ≠ 0) (hx : x < 18446744073709551616) : x = x / 2 ^ Lib.ctz 64 x * 2 ^ Lib.ctz 64 x := by
 obtain ⟨m, h, _⟩ := Lib.ctzFrom_spec 64 x (by omega) hx
 have e : Lib.ctz 64 x = Lib.ctzFrom 64 x := if_neg hx0
 rw [e]
 have hp := Nat.two_pow_pos (Lib.ctzFrom 64 x)
 have h2 : x / 2 ^ Lib.ctzFrom 64 x = 2 * m + 1 := by
  conv => lhs; lhs; rw [h]
  exact Nat.mul_div_cancel_left _ hp
 rw [h2, Nat.mul_comm]; exact h
theorem flof_val {x E F m q : Nat} (hE : fr x = E * 4503599627370496 + F) (hF : F < 4503599627370496) (hE2 : E < 2047) (hm : (E = 0 ∧ m = F ∧ q = 0) ∨ (0 < E ∧ m = F + 4503599627370496 ∧ q = E - 1)) (hm0 : m ≠ 0) :
  FlOf x (m / 2 ^ Lib.ctz 64 m) ((q : Int) - 1074 + Lib.ctz 64 m) := by
 have hml : m < 9007199254740992 := by omega
 have hc := (Lib.lowest_bit 64 m hm0 (by omega)).2
 have hp := ctz_pow hm0 (by omega : m < 18446744073709551616)
 have hmv : mv (fr x) = m * 2 ^ q := by
  rcases hm with ⟨rfl, rfl, rfl⟩ | ⟨h0, rfl, rfl⟩
  ·rw [hE, mv_small (by omega)]; omega
  ·rw [hE, mv_big (by omega), show (E * 4503599627370496 + F) / 4503599627370496 = E by omega, show (E * 4503599627370496 + F) % 4503599627370496 = F by omega, Nat.add_comm]
 have hc53 : Lib.ctz 64 m ≤ 53 := by
  rcases Nat.lt_or_ge 53 (Lib.ctz 64 m) with h | h
  ·have h1 : 2 ^ 54 ≤ 2 ^ Lib.ctz 64 m := Nat.pow_le_pow_right (by omega) h
   have h2 : m / 2 ^ Lib.ctz 64 m ≠ 0 := fun e => by rw [e] at hp; omega
   have h3 : 1 * 2 ^ 54 ≤ m / 2 ^ Lib.ctz 64 m * 2 ^ Lib.ctz 64 m := Nat.mul_le_mul (Nat.pos_of_ne_zero h2) h1
   omega
  ·exact h
 generalize Lib.ctz 64 m = t at *
 refine ⟨?_, ?_, by omega, by omega⟩
 ·have e1 : m * 2 ^ q * 2 ^ (lowM - 1074) = m / 2 ^ t * 2 ^ ((q : Int) - 1074 + t + lowM).toNat := by
   have hl : 1074 ≤ lowM := by decide
   rw [show ((q : Int) - 1074 + t + lowM).toNat = t + (q + (lowM - 1074)) by omega, Nat.pow_add, ← Nat.mul_assoc, ← hp, Nat.pow_add, Nat.mul_assoc]
  rw [W_sz]
  show sz (fs x) (m / 2 ^ t * 2 ^ ((q : Int) - 1074 + t + lowM).toNat) = sz (fs x) (mv (fr x) * 2 ^ (lowM - 1074))
  rw [hmv, e1]
 ·exact Nat.lt_of_le_of_lt (Nat.div_le_self _ _) hml
set_option maxRecDepth 100000 in
set_option maxHeartbeats 4000000 in
theorem bprt_core (x E F M Q t : Nat) (N : Bool) (w : World) (hfin : ∀ W, Calls Tryz.prog 79 #[.float .f64 x] W fun r w' => r = .returned (.bool true) ∧ Below W.heap.size W w')
  (hsb : (bits BinOp.and IntKind.u64 ((x : Nat) : Int) 9223372036854775808 != 0) = N) (hxF : bits BinOp.and IntKind.u64 ((x : Nat) : Int) 4503599627370495 = (F : Int)) (hxE : bits BinOp.and IntKind.u64 ((x : Int) / 4503599627370496) 2047 = (E : Int))
  (hEw : IntKind.i64.wrap (E : Int) = (E : Int)) (hE1 : IntKind.i64.wrap ((E : Int) - 1) = (Q : Int)) (hEp : (0 : Int) < (E : Int)) (hor : bits BinOp.or IntKind.u64 (F : Int) 4503599627370496 = (M : Int)) (hFi : ((M : Int) == 0) = false)
  (htz : ∀ W, Below w.heap.size w W → Calls Tryz.prog 118 #[.int .u64 M] W fun e w' => e = .returned (.int .i64 t) ∧ W = w') (hQ : Q < 2047) (ht : t < 64) :
  Calls Tryz.prog 83 #[.float .f64 x] w fun r w' => r = .returned (.tuple #[.bool N, .int .u64 ((M / 2 ^ t : Nat) : Int), .int .i64 ((Q : Int) - 1074 + t), .bool true]) ∧ Below w.heap.size w w' := by
 have h1 := run_f64bits
 have hsub : IntKind.i64.wrap ((Q : Int) - 1074) = (Q : Int) - 1074 := IntWalk.i64_in _ ⟨by omega, by omega⟩
 have hadd : IntKind.i64.wrap ((Q : Int) - 1074 + t) = (Q : Int) - 1074 + t := IntWalk.i64_in _ ⟨by omega, by omega⟩
 have hcast : ((M / 2 ^ t : Nat) : Int) = (M : Int) / 2 ^ t := by simp
 rw [hcast]
 have hmin : min t 64 = t := by omega
 clear hcast hQ ht
 have B0 := Below.refl w.heap.size w
 go_enter Tryz.func83, Tryz.ntmps83
 go_wp2_with fail
 refine (hfin _).mono ?_
 rintro r w1 ⟨rfl, hbb⟩
 replace B0 := B0.trans (hbb.mono B0.size)
 clear hbb hfin
 go_wp2_with fail
 refine (htz _ B0).mono ?_
 rintro r w2 ⟨rfl, rfl⟩
 go_wp2_with fail
 go_region
 replace B0 := B0.drew
 go_wp2
 exact bodyPost_ret (v := .tuple #[.bool N, .int .u64 ((M : Int) / 2 ^ t), .int .i64 ((Q : Int) - 1074 + t), .bool true]) (by simp [results, Tryz.results83, go_sem]) rfl ⟨rfl, B0⟩
set_option maxRecDepth 100000 in
set_option maxHeartbeats 4000000 in
theorem c_bprt {x : Nat} {X : FV} (w : World) (hx : Fl x X) (hf : fFin X = true) (hfr : fr x < 9218868437227405312) (hT : Tab64 w) :
  Calls Tryz.prog 83 #[.float .f64 x] w fun r w' => (∃ (m : Nat) (e : Int), r = .returned (.tuple #[.bool (fs x), .int .u64 m, .int .i64 e, .bool true]) ∧ FlOf x m e) ∧ Below w.heap.size w w' := by
 have hl := hx.lt
 have hfin := fun W => c_bFinite W hx
 rw [hf] at hfin
 have h1 := run_f64bits
 obtain ⟨E, hE⟩ : ∃ E, E = fr x / 4503599627370496 := ⟨_, rfl⟩
 obtain ⟨F, hF⟩ : ∃ F, F = fr x % 4503599627370496 := ⟨_, rfl⟩
 have hEF : fr x = E * 4503599627370496 + F := by omega
 have hF2 : F < 4503599627370496 := by omega
 have hE2 : E < 2047 := by omega
 have hs : bits BinOp.and IntKind.u64 ((x : Nat) : Int) 9223372036854775808 = if x < 9223372036854775808 then 0 else 9223372036854775808 := by
  have h1 := u64_and_nat x 9223372036854775808 hl (by omega)
  rw [show ((9223372036854775808 : Nat) : Int) = 9223372036854775808 from rfl] at h1
  rw [h1, and_top hl]
  split <;> rfl
 have hsb : (bits BinOp.and IntKind.u64 ((x : Nat) : Int) 9223372036854775808 != 0) = fs x := by
  rw [hs]
  by_cases h : x < 9223372036854775808
  ·rw [if_pos h, fs_lt h]; rfl
  ·rw [if_neg h]
   have : fs x = true := by unfold fs; rw [show x / 9223372036854775808 = 1 by omega]; rfl
   rw [this]; rfl
 have hxF : bits BinOp.and IntKind.u64 ((x : Nat) : Int) 4503599627370495 = (F : Int) := by
  have h1 := u64_and_nat x 4503599627370495 hl (by omega)
  rw [show ((4503599627370495 : Nat) : Int) = 4503599627370495 from rfl] at h1
  rw [h1, show 4503599627370495 = 2 ^ 52 - 1 by rfl, Nat.and_two_pow_sub_one_eq_mod]
  have : x % 2 ^ 52 = F := by rw [hF]; unfold fr; omega
  rw [this]
 have hxE : bits BinOp.and IntKind.u64 ((x : Int) / 4503599627370496) 2047 = (E : Int) := by
  have h1 := u64_and_nat (x / 4503599627370496) 2047 (by omega) (by omega)
  rw [show ((2047 : Nat) : Int) = 2047 from rfl, show ((x / 4503599627370496 : Nat) : Int) = (x : Int) / 4503599627370496 from rfl] at h1
  rw [h1, show 2047 = 2 ^ 11 - 1 by rfl, Nat.and_two_pow_sub_one_eq_mod]
  have : x / 4503599627370496 % 2 ^ 11 = E := by rw [hE]; unfold fr; omega
  rw [this]
 have hor : bits BinOp.or IntKind.u64 (F : Int) 4503599627370496 = ((F + 4503599627370496 : Nat) : Int) := by
  have h1 := u64_or_nat F 4503599627370496 (by omega) (by omega)
  rw [show ((4503599627370496 : Nat) : Int) = 4503599627370496 from rfl] at h1
  rw [h1, show (4503599627370496 : Nat) = 1 * 2 ^ 52 by rfl, or_add' (s := 52) hF2]
 have hEw : IntKind.i64.wrap (E : Int) = (E : Int) := IntWalk.i64_in _ ⟨by omega, by omega⟩
 have hz0 : fr x = 0 → FlOf x 0 0 := fun h => by
  refine ⟨?_, by decide, by decide, by decide⟩
  unfold fu
  rw [h, mv_zero, Nat.zero_mul, sz_zero]
  unfold W
  rw [Int.zero_mul]
 have hpv := fun m q hm hm0 => flof_val (m := m) (q := q) hEF hF2 hE2 hm hm0
 have htz := fun m (h : m < 18446744073709551616) (h0 : m ≠ 0) W hW => tz64_any m W h h0 (Tab64.below hT hW)
 clear hT hf hfr hx hE hF hs
 have B0 := Below.refl w.heap.size w
 generalize fs x = N at *
 by_cases hE0 : E = 0
 ·subst hE0
  by_cases hF0 : F = 0
  ·subst hF0
   go_enter Tryz.func83, Tryz.ntmps83
   go_wp2_with fail
   refine (hfin _).mono ?_
   rintro r w1 ⟨rfl, hbb⟩
   replace B0 := B0.trans (hbb.mono B0.size)
   clear hbb hfin
   go_wp2
   exact bodyPost_ret (v := .tuple #[.bool N, .int .u64 0, .int .i64 0, .bool true]) (by simp [results, Tryz.results83, go_sem]) rfl ⟨⟨0, 0, rfl, hz0 (by omega)⟩, B0⟩
  ·have hFi : ((F : Int) == 0) = false := by simp; omega
   go_enter Tryz.func83, Tryz.ntmps83
   go_wp2_with fail
   refine (hfin _).mono ?_
   rintro r w1 ⟨rfl, hbb⟩
   replace B0 := B0.trans (hbb.mono B0.size)
   clear hbb hfin
   go_wp2_with fail
   refine (htz F (by omega) (by omega) _ B0).mono ?_
   rintro r w2 ⟨rfl, rfl⟩
   have hv := hpv F 0 (.inl ⟨by trivial, rfl, rfl⟩) hF0
   have ht := (Lib.lowest_bit 64 F hF0 (by omega)).2
   generalize Lib.ctz 64 F = t at *
   rw [show ((0 : Nat) : Int) - 1074 + (t : Int) = -1074 + (t : Int) by omega] at hv
   have hneg : IntKind.i64.wrap (-1074) = -1074 := by decide
   have hadd : IntKind.i64.wrap (-1074 + (t : Int)) = -1074 + (t : Int) := IntWalk.i64_in _ ⟨by omega, by omega⟩
   go_wp2_with fail
   go_region
   replace B0 := B0.drew
   go_wp2
   exact bodyPost_ret (v := .tuple #[.bool N, .int .u64 ((F : Int) / 2 ^ t), .int .i64 (-1074 + t), .bool true]) (by simp [results, Tryz.results83, go_sem]) rfl ⟨⟨F / 2 ^ t, -1074 + t, by rw [show ((F / 2 ^ t : Nat) : Int) = (F : Int) / 2 ^ t by simp], hv⟩, B0⟩
 ·have hM0 : F + 4503599627370496 ≠ 0 := by omega
  have hv := hpv (F + 4503599627370496) (E - 1) (.inr ⟨by omega, rfl, rfl⟩) hM0
  have hz := htz (F + 4503599627370496) (by omega) hM0
  have ht := (Lib.lowest_bit 64 (F + 4503599627370496) hM0 (by omega)).2
  have hE1 : IntKind.i64.wrap ((E : Int) - 1) = ((E - 1 : Nat) : Int) := by rw [IntWalk.i64_in _ ⟨by omega, by omega⟩]; omega
  refine (bprt_core x E F (F + 4503599627370496) (E - 1) (Lib.ctz 64 (F + 4503599627370496)) N w hfin hsb hxF hxE hEw hE1 (by omega) hor (by simp; omega) hz (by omega) ht).mono ?_
  rintro r w' ⟨rfl, hb⟩
  exact ⟨⟨_, _, rfl, hv⟩, hb⟩
end Go.Proofs.YtfdnbogbankjjaaGreatDoor

/- Exact numbers of package ball: exact. (printed by gen_fn.py) -/
namespace Go.Proofs.YtfdnbogbankjjaaGreatDoor
open Go Go.RowKit Go.PlainAid Fil

theorem Blk.but {w w' : World} {b o b' : Nat} {cs : Array Value} {t : TypeId} (h : Blk w b' cs t) (hw : But w w' b o) (hne : b' ≠ b) : Blk w' b' cs t := (hw.far b' h.lt hne).trans h
theorem Blk.rm {w : World} {b : Nat} {cs : Array Value} {t : TypeId} (h : Blk w b cs t) (ht : t ≠ 155) (hs : 1 < cs.size) : Room w b 0 := ⟨_, _, h, ht, hs⟩
theorem IntAt.keep {w w' : World} {b o : Nat} {z : Int} (h : IntAt w b o z) (hb : Below w.heap.size w w') : IntAt w' b o z := h.below hb
theorem IntAt.allocd {w : World} {b o : Nat} {z : Int} (h : IntAt w b o z) (ob : Obj) : IntAt (w.alloc ob) b o z := h.alloc ob
theorem IntAt.drew {w : World} {b o : Nat} {z : Int} (h : IntAt w b o z) : IntAt w.drew b o z := h
/-- the number z times 2^e is the float x -/
def NumOf (x : Nat) (z e : Int) : Prop := W z e = fu x ∧ z.natAbs < 9007199254740992 ∧ -1074 ≤ e ∧ e ≤ 1100
theorem NumOf.mk {x : Nat} {z e : Int} (h1 : W z e = fu x) (h2 : z.natAbs < 9007199254740992) (h3 : -1074 ≤ e) (h4 : e ≤ 1100) : NumOf x z e := ⟨h1, h2, h3, h4⟩
set_option maxRecDepth 100000 in
set_option maxHeartbeats 4000000 in
theorem c_blexact {x : Nat} {X : FV} (w : World) (hx : Fl x X) (hf : fFin X = true) (hfr : fr x < 9218868437227405312) (hT : Tab64 w) :
  Calls Tryz.prog 41 #[.float .f64 x] w fun r w' => (∃ (b : Nat) (z e : Int), r = .returned (.agg #[.pointer (some ⟨b, 0, none⟩), .int .i64 e]) ∧ IntAt w' b 0 z ∧ NumOf x z e) ∧ Below w.heap.size w w' := by
 have hP := fun W hW => c_bprt W hx hf hfr (Tab64.below hT hW)
 clear hx hf hfr hT
 cases hN : fs x
 ·have hgo : ∀ {z e : Int}, W z e = fu x → z.natAbs < 9007199254740992 → -1074 ≤ e → e ≤ 1100 → NumOf x z e := NumOf.mk
  go_enter Tryz.func41, Tryz.ntmps41
  have B0 := Below.refl w.heap.size w
  have hst3 := fun (a : Addr) (v : Option Addr) (m : Mode) (W : World) => (run_store Tryz.prog W a (.pointer v) m rfl : (store a (.pointer v) m).run Tryz.prog W = stored Tryz.prog W a (.pointer v) m)
  have q_w_F2 : Hid (w.heap.size ≤ w.heap.size) := Lib.hid (by omega)
  have F2 := Blk.put (w) #[.pointer none, .int .i64 0] 89
  replace B0 := B0.alloc B0.size (.cells #[.pointer none, .int .i64 0] 89)
  go_wp2_with fail
  (with_reducible refine (hP _ B0).mono ?_)
  rintro r w1 ⟨⟨m, e, rfl, hO⟩, hb1⟩
  replace F2 := F2.keep hb1
  replace B0 := B0.trans (hb1.mono B0.size)
  clear hb1
  obtain ⟨hW, hm, he1, he2⟩ := hO
  have hml : m < 18446744073709551616 := by omega
  have hmd : dn 32 ((m : Int)).natAbs ≤ 1099511627776 := by rw [Int.natAbs_natCast]; exact Nat.le_trans (dn_le (k := 32) (by omega) (n := 2) (by omega)) (by omega)
  rw [hN, sz_f] at hW
  rw [hN]
  have q_F2_F15 : Hid (w.heap.size < w1.heap.size) := Lib.hid (by have := F2.lt; first | exact this | omega | (simp; done) | simpa using this)
  have q_w_F15 : Hid (w.heap.size ≤ w1.heap.size) := Lib.hid (by have := B0.size; first | exact this | omega | (simp; done) | simpa using this)
  replace F2 := F2.allocd (.cells #[.bool false, .slice none 0 0] 134)
  have F15 := Blk.put (w1) #[.bool false, .slice none 0 0] 134
  replace B0 := B0.alloc B0.size (.cells #[.bool false, .slice none 0 0] 134)
  go_wp2_with fail
  (with_reducible refine (setu_any w1.heap.size 0 m _ (F15.rm (by decide) (by decide)) hml).mono ?_)
  rintro r w2 ⟨rfl, hI, hb2⟩
  replace F2 := F2.but hb2 (Nat.ne_of_lt q_F2_F15.out)
  replace B0 := B0.trans (hb2.below q_w_F15.out B0.size)
  clear F15
  have F15 := hI
  clear hI hb2
  obtain ⟨xF22_0, xF22_1⟩ := F2.ce2
  obtain ⟨xF22_0f, xF22_1f⟩ := F2.fr2
  have hL3 := But.lay (b := w.heap.size) (o := 0) ⟨_, _, F2, by decide, by decide⟩ (.pointer (some ⟨w1.heap.size, 0, none⟩)) (.int .i64 e)
  replace F15 := F15.but hL3 (.inl (Nat.ne_of_gt q_F2_F15.out))
  replace F2 : Blk (((w2).setCell ⟨w.heap.size, 0, none⟩ (.pointer (some ⟨w1.heap.size, 0, none⟩))).setCell ⟨w.heap.size, 1, none⟩ (.int .i64 e)) (w.heap.size) #[.pointer (some ⟨w1.heap.size, 0, none⟩), .int .i64 e] 89 := ((F2.setAt 0 (.pointer (some ⟨w1.heap.size, 0, none⟩))).setAt 1 (.int .i64 e))
  replace B0 := B0.trans (hL3.below q_w_F2.out B0.size)
  clear hL3
  obtain ⟨xF23_0, xF23_1⟩ := F2.ce2
  go_wp2
  exact bodyPost_ret (v := .agg #[.pointer (some ⟨w1.heap.size, 0, none⟩), .int .i64 e]) (by simp [results, Tryz.results41, go_sem, xF23_0, xF23_1]) rfl ⟨⟨_, _, _, rfl, F15, hgo hW (by omega) he1 he2⟩, B0⟩
 ·have hgo : ∀ {z e : Int}, W z e = fu x → z.natAbs < 9007199254740992 → -1074 ≤ e → e ≤ 1100 → NumOf x z e := NumOf.mk
  go_enter Tryz.func41, Tryz.ntmps41
  have B0 := Below.refl w.heap.size w
  have hst3 := fun (a : Addr) (v : Option Addr) (m : Mode) (W : World) => (run_store Tryz.prog W a (.pointer v) m rfl : (store a (.pointer v) m).run Tryz.prog W = stored Tryz.prog W a (.pointer v) m)
  have q_w_F2 : Hid (w.heap.size ≤ w.heap.size) := Lib.hid (by omega)
  have F2 := Blk.put (w) #[.pointer none, .int .i64 0] 89
  replace B0 := B0.alloc B0.size (.cells #[.pointer none, .int .i64 0] 89)
  go_wp2_with fail
  (with_reducible refine (hP _ B0).mono ?_)
  rintro r w1 ⟨⟨m, e, rfl, hO⟩, hb1⟩
  replace F2 := F2.keep hb1
  replace B0 := B0.trans (hb1.mono B0.size)
  clear hb1
  obtain ⟨hW, hm, he1, he2⟩ := hO
  have hml : m < 18446744073709551616 := by omega
  have hmd : dn 32 ((m : Int)).natAbs ≤ 1099511627776 := by rw [Int.natAbs_natCast]; exact Nat.le_trans (dn_le (k := 32) (by omega) (n := 2) (by omega)) (by omega)
  rw [hN, sz_t] at hW
  rw [hN]
  have q_F2_F15 : Hid (w.heap.size < w1.heap.size) := Lib.hid (by have := F2.lt; first | exact this | omega | (simp; done) | simpa using this)
  have q_w_F15 : Hid (w.heap.size ≤ w1.heap.size) := Lib.hid (by have := B0.size; first | exact this | omega | (simp; done) | simpa using this)
  replace F2 := F2.allocd (.cells #[.bool false, .slice none 0 0] 134)
  have F15 := Blk.put (w1) #[.bool false, .slice none 0 0] 134
  replace B0 := B0.alloc B0.size (.cells #[.bool false, .slice none 0 0] 134)
  go_wp2_with fail
  (with_reducible refine (setu_any w1.heap.size 0 m _ (F15.rm (by decide) (by decide)) hml).mono ?_)
  rintro r w2 ⟨rfl, hI, hb2⟩
  replace F2 := F2.but hb2 (Nat.ne_of_lt q_F2_F15.out)
  replace B0 := B0.trans (hb2.below q_w_F15.out B0.size)
  clear F15
  have F15 := hI
  clear hI hb2
  go_wp2_with fail
  (with_reducible refine (neg_any w1.heap.size 0 w1.heap.size 0 _ _ F15.room F15 hmd).mono ?_)
  rintro r w3 ⟨rfl, hI, hb3⟩
  replace F2 := F2.but hb3 (Nat.ne_of_lt q_F2_F15.out)
  replace B0 := B0.trans (hb3.below q_w_F15.out B0.size)
  replace F15 := hI
  clear hI hb3
  obtain ⟨xF23_0, xF23_1⟩ := F2.ce2
  obtain ⟨xF23_0f, xF23_1f⟩ := F2.fr2
  have hL4 := But.lay (b := w.heap.size) (o := 0) ⟨_, _, F2, by decide, by decide⟩ (.pointer (some ⟨w1.heap.size, 0, none⟩)) (.int .i64 e)
  replace F15 := F15.but hL4 (.inl (Nat.ne_of_gt q_F2_F15.out))
  replace F2 : Blk (((w3).setCell ⟨w.heap.size, 0, none⟩ (.pointer (some ⟨w1.heap.size, 0, none⟩))).setCell ⟨w.heap.size, 1, none⟩ (.int .i64 e)) (w.heap.size) #[.pointer (some ⟨w1.heap.size, 0, none⟩), .int .i64 e] 89 := ((F2.setAt 0 (.pointer (some ⟨w1.heap.size, 0, none⟩))).setAt 1 (.int .i64 e))
  replace B0 := B0.trans (hL4.below q_w_F2.out B0.size)
  clear hL4
  obtain ⟨xF24_0, xF24_1⟩ := F2.ce2
  go_wp2
  exact bodyPost_ret (v := .agg #[.pointer (some ⟨w1.heap.size, 0, none⟩), .int .i64 e]) (by simp [results, Tryz.results41, go_sem, xF24_0, xF24_1]) rfl ⟨⟨_, _, _, rfl, F15, hgo hW (by omega) he1 he2⟩, B0⟩
end Go.Proofs.YtfdnbogbankjjaaGreatDoor
