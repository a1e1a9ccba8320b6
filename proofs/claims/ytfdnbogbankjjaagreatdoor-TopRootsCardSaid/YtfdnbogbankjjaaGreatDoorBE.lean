/- The walks over the reference's around, Near, Below, Above. -/
import Derived.Test.YtfdnbogbankjjaaGreatDoorBL
namespace Go.Proofs.YtfdnbogbankjjaaGreatDoor
open Go Go.RowKit Go.PlainAid Fil

theorem rem_eq {x k : Nat} : x - x / 2 ^ k * 2 ^ k = x % 2 ^ k := by
 have hd := Nat.div_add_mod x (2 ^ k)
 have hq : x / 2 ^ k * 2 ^ k = 2 ^ k * (x / 2 ^ k) := Nat.mul_comm _ _
 omega
theorem cmpZ_or (x y : Nat) : -1 ≤ cmpZ x y ∧ cmpZ x y ≤ 1 := by
 rcases Nat.lt_trichotomy x y with h | h | h
 ·rw [cmpZ_lt h]; omega
 ·subst h; rw [cmpZ_eq]; omega
 ·rw [cmpZ_gt h]; omega
theorem even_b (M : Nat) : ((M : Int) % 2 == 0) = decide (M % 2 = 0) := by
 rw [Bool.eq_iff_iff, beq_iff_eq, decide_eq_true_eq]; omega
set_option maxHeartbeats 4000000 in
theorem raround_big (neg : Bool) (x : Nat) (e : Int) (w : World) (h : okD neg x e) (hx : x ≠ 0) (ht : 1024 ≤ topZ x e) :
  Calls Tryz.prog 51 #[.agg #[.bool neg, .string (bstr x), .int .i64 e]] w fun r w' => r = .returned (.tuple #[.float .f64 9218868437227405311, .float .f64 9218868437227405312, .int .i64 3, .bool false]) ∧ Below w.heap.size w w' := by
 have htop := fun V => rtop_ok neg x e V h
 rw [decide_eq_true hx] at htop
 have cc := fun (w1 : World) hb => box_cells w neg (bstr x) e (w' := w1) hb
 generalize topZ x e = T at *
 have hdT : decide (1024 ≤ T) = true := decide_eq_true ht
 have hp1 := fun V => rpacked_any false 9007199254740991 971 V (by omega) (by omega) (by omega) (by omega)
 have hp2 := fun V => rpacked_any false 9007199254740992 971 V (by omega) (by omega) (by omega) (by omega)
 rw [d_word_f, show ((971 : Int) + 1074).toNat * 4503599627370496 + 9007199254740991 = 9218868437227405311 by rfl, show ((9007199254740991 : Nat) : Int) = 9007199254740991 from rfl] at hp1
 rw [d_word_f, show ((971 : Int) + 1074).toNat * 4503599627370496 + 9007199254740992 = 9218868437227405312 by rfl, show ((9007199254740992 : Nat) : Int) = 9007199254740992 from rfl] at hp2
 clear h hx
 go_enter Tryz.func51, Tryz.ntmps51
 go_wp2_with fail
 (with_reducible refine (htop _).mono ?_)
 rintro r w1 ⟨rfl, hb1⟩
 have hB1 : Below w.heap.size w w1 := ((Below.refl _ _).alloc (Nat.le_refl _) _).trans (hb1.mono (by simp))
 clear hb1 htop cc
 go_wp2_with fail
 (with_reducible refine (hp1 _).mono ?_)
 rintro r w2 ⟨rfl, rfl⟩
 go_wp2_with fail
 (with_reducible refine (hp2 _).mono ?_)
 rintro r w2 ⟨rfl, rfl⟩
 go_wp2
 go_returns
 exact ⟨rfl, hB1⟩
set_option maxHeartbeats 8000000 in
theorem raround_exact (neg : Bool) (x : Nat) (e Q : Int) (M : Nat) (w : World) (h : okD neg x e) (hx : x ≠ 0) (ht : topZ x e < 1024) (hQ : Q = max (topZ x e - 52) (-1074)) (hM1 : M ≤ 9007199254740991) (hM2 : -1074 < Q → 4503599627370496 ≤ M) (hQe : Q ≤ e) (k : Nat) (hk : e - Q = (k : Int)) (hM : M = x * 2 ^ k) :
  Calls Tryz.prog 51 #[.agg #[.bool neg, .string (bstr x), .int .i64 e]] w fun r w' => r = .returned (.tuple #[.float .f64 ((Q + 1074).toNat * 4503599627370496 + M), .float .f64 ((Q + 1074).toNat * 4503599627370496 + (M + 1)), .int .i64 0, .bool (decide (M % 2 = 0))]) ∧ Below w.heap.size w w' := by
 have htop := fun V => rtop_ok neg x e V h
 rw [decide_eq_true hx] at htop
 have cc := fun (w1 : World) hb => box_cells w neg (bstr x) e (w' := w1) hb
 have hdn := h.dn
 have e1 := h.e1
 have e2 := h.e2
 have hra := fun W => rof_any x W (by omega)
 have htlo : -1200000 ≤ topZ x e := by rw [topZ_pos hx]; omega
 have hQ' := hQ.symm
 have q0 : -1074 ≤ Q := by omega
 have q1 : Q ≤ 971 := by omega
 generalize topZ x e = T at *
 have hdT : decide (1024 ≤ T) = false := decide_eq_false (by omega)
 have k0 : 0 ≤ (k : Int) := by omega
 have k1 : (k : Int) ≤ 2300000 := by omega
 obtain ⟨z, hz⟩ : ∃ z, z = (Q + 1074).toNat * 4503599627370496 + M := ⟨_, rfl⟩
 obtain ⟨z', hz'⟩ : ∃ z', z' = (Q + 1074).toNat * 4503599627370496 + (M + 1) := ⟨_, rfl⟩
 have hp1 := fun V => rpacked_any false M Q V (by omega) q0 q1 hM2
 have hp2 := fun V => rpacked_any false (M + 1) Q V (by omega) q0 q1 (fun h => by have := hM2 h; omega)
 rw [show ((M + 1 : Nat) : Int) = (M : Int) + 1 by omega] at hp2
 rw [d_word_f, ← hz] at hp1
 rw [d_word_f, ← hz'] at hp2
 rw [← hz, ← hz']
 have m1 : (M : Int) ≤ 9007199254740991 := by omega
 have hev := even_b M
 have nM : (Fil.dn 8 M : Int) ≤ 8 := by have := dn_le (k := 8) (x := M) (n := 8) (by omega) (by omega); omega
 obtain ⟨E, hE⟩ : ∃ E, E = decide (M % 2 = 0) := ⟨_, rfl⟩
 rw [← hE] at hev ⊢
 have hY := Lib.hid hM1
 have hsh := fun A c W (hs : Slc W 3 A (Fil.dn 8 x) (i8 x)) => rshifted_any A (Fil.dn 8 x) c x k W rfl (by omega) (by omega) hs
 rw [← hM] at hsh
 have hdQ : decide (Q ≤ e) = true := decide_eq_true hQe
 clear hM hM2 hE hz hz' hM1
 have hkx := Lib.hid hx
 clear h hx ht hQ hQe
 go_enter Tryz.func51, Tryz.ntmps51
 go_wp2_with fail
 (with_reducible refine (htop _).mono ?_)
 rintro r w1 ⟨rfl, hb1⟩
 have hB1 : Below w.heap.size w w1 := ((Below.refl _ _).alloc (Nat.le_refl _) _).trans (hb1.mono (by simp))
 have hz1 := hb1.size
 obtain ⟨c0, c1, c2⟩ := cc _ hb1
 go_wp2_with fail
 (with_reducible refine (hra _).mono ?_)
 rintro r w2 ⟨v, rfl, hown, hb2⟩
 obtain ⟨A, c, rfl, hnc, hsl⟩ := Own.slc hown
 have hs0 : Slc w2 3 A (Fil.dn 8 x) (i8 x) := hsl
 have hb2' := hb1.trans (hb2.mono hz1)
 have hB2 : Below w.heap.size w w2 := hB1.trans (hb2.mono hB1.size)
 clear c0 c1 c2 hown hsl hb1 hb2 hB1 hz1 hra htop
 obtain ⟨c0, c1, c2⟩ := cc _ hb2'
 clear cc hb2'
 go_wp2_with fail
 (with_reducible refine (hsh A c w2 hs0).mono ?_)
 rintro r w3 ⟨A1, d1, rfl, hd1, hsM, hb3⟩
 have hB3 : Below w.heap.size w w3 := hB2.trans (hb3.mono hB2.size)
 have hW := hB3.alloc hB3.size (.cells #[.int .i64 1] 3)
 replace hsM := hsM.alloc (.cells #[.int .i64 1] 3)
 clear hs0 hnc hb3 hB2 hB3 hsh c0 c1 c2
 go_wp2_with fail
 generalize w3.alloc (.cells #[.int .i64 1] 3) = W at *
 go_loop [14, 15] (fun m s => ∃ j : Nat, j ≤ Fil.dn 8 M ∧ s = .int .i64 ((j : Int) - 1) ∧ m = .int .u64 ((M / 2 ^ (8 * j) : Nat) : Int)) (fun _ s => (intOf s + 1).toNat)
 case atStart => exact ⟨Fil.dn 8 M, Nat.le_refl _, rfl, by rw [Nat.div_eq_of_lt (lt_dn (by omega) M)]; rfl⟩
 case round =>
  obtain ⟨j, hj, rfl, rfl⟩ := hrel
  have hMl : M ≤ 9007199254740991 := hY.out
  by_cases h0 : j = 0
  ·subst h0
   rw [show M / 2 ^ (8 * 0) = M by simp]
   clear hj hMl
   go_wp2_with fail
   (with_reducible refine (hp1 _).mono ?_)
   rintro r w8 ⟨rfl, rfl⟩
   go_wp2_with fail
   (with_reducible refine (hp2 _).mono ?_)
   rintro r w8 ⟨rfl, rfl⟩
   go_wp2
   go_returns
   exact ⟨rfl, hW⟩
  ·obtain ⟨i, hi⟩ : ∃ i, i = j - 1 := ⟨_, rfl⟩
   have hic : (j : Int) - 1 = (i : Int) := by omega
   obtain ⟨bb, oo, rfl, hlt, hcl⟩ := hsM.cell (by omega)
   have hc9 := hcl i (by omega)
   have hst := div_step 8 M i
   rw [show i + 1 = j by omega] at hst
   have hub : M / 2 ^ (8 * j) ≤ 9007199254740991 := Nat.le_trans (Nat.div_le_self _ _) hMl
   obtain ⟨y, hy⟩ : ∃ y, y = M / 2 ^ (8 * j) := ⟨_, rfl⟩
   have hdl := dg_lt 8 M i
   unfold i8 at hc9
   rw [hic, ← hy]
   rw [← hy] at hst hub
   obtain ⟨d, hd⟩ : ∃ d, d = dg 8 M i := ⟨_, rfl⟩
   rw [← hd] at hst hdl hc9
   have g1 : (y : Int) ≤ 9007199254740991 := by omega
   have g2 : (d : Int) < 256 := by omega
   have g3 : 0 ≤ (d : Int) := by omega
   have g4 : (i : Int) < (Fil.dn 8 M : Int) := by omega
   have g6 : i < Fil.dn 8 M := by omega
   have g5 : 0 ≤ (i : Int) := by omega
   have Hi := Lib.hid (And.intro hi (And.intro hj (And.intro h0 hst)))
   clear hi hic hj h0 hst hy hd hub hdl hcl hMl
   go_wp2
   go_round
   case rel => exact ⟨i, by have := Hi.out; omega, by go_num, congrArg (Value.int IntKind.u64) (by rw [Hi.out.2.2.2]; omega)⟩
   case measure => simp [intOf] <;> omega
set_option maxHeartbeats 8000000 in
theorem raround_far (neg : Bool) (x : Nat) (e Q : Int) (M : Nat) (w : World) (h : okD neg x e) (hx : x ≠ 0) (ht : topZ x e < 1024) (hQ : Q = max (topZ x e - 52) (-1074)) (hM1 : M ≤ 9007199254740991) (hM2 : -1074 < Q → 4503599627370496 ≤ M) (hQe : ¬ Q ≤ e) (k : Nat) (hk : Q - e = (k : Int)) (hM : M = 0) (hQ0 : Q = -1074) (hfar : 8 * Fil.dn 8 x < k) :
  Calls Tryz.prog 51 #[.agg #[.bool neg, .string (bstr x), .int .i64 e]] w fun r w' => r = .returned (.tuple #[.float .f64 ((Q + 1074).toNat * 4503599627370496 + M), .float .f64 ((Q + 1074).toNat * 4503599627370496 + (M + 1)), .int .i64 1, .bool (decide (M % 2 = 0))]) ∧ Below w.heap.size w w' := by
 have htop := fun V => rtop_ok neg x e V h
 rw [decide_eq_true hx] at htop
 have cc := fun (w1 : World) hb => box_cells w neg (bstr x) e (w' := w1) hb
 have hdn := h.dn
 have e1 := h.e1
 have e2 := h.e2
 have hra := fun W => rof_any x W (by omega)
 have htlo : -1200000 ≤ topZ x e := by rw [topZ_pos hx]; omega
 have hQ' := hQ.symm
 have q0 : -1074 ≤ Q := by omega
 have q1 : Q ≤ 971 := by omega
 generalize topZ x e = T at *
 have hdT : decide (1024 ≤ T) = false := decide_eq_false (by omega)
 have k0 : 0 ≤ (k : Int) := by omega
 have k1 : (k : Int) ≤ 2300000 := by omega
 subst hM
 have hp2 := fun V => rpacked_any false 1 Q V (by omega) q0 q1 (by omega)
 rw [d_word_f, show (Q + 1074).toNat * 4503599627370496 + 1 = 1 by omega, show ((1 : Nat) : Int) = 1 from rfl] at hp2
 rw [show (Q + 1074).toNat * 4503599627370496 + 0 = 0 by omega, show (Q + 1074).toNat * 4503599627370496 + (0 + 1) = 1 by omega]
 clear hQ0 hM1 hM2
 have hdQ : decide (Q ≤ e) = false := decide_eq_false hQe
 have hdF : decide (8 * (Fil.dn 8 x : Int) < (k : Int)) = true := decide_eq_true (by omega)
 have n8 : (Fil.dn 8 x : Int) ≤ 16384 := by omega
 have hkx := Lib.hid hx
 clear h hx ht hQ hQe hfar
 go_enter Tryz.func51, Tryz.ntmps51
 go_wp2_with fail
 (with_reducible refine (htop _).mono ?_)
 rintro r w1 ⟨rfl, hb1⟩
 have hB1 : Below w.heap.size w w1 := ((Below.refl _ _).alloc (Nat.le_refl _) _).trans (hb1.mono (by simp))
 have hz1 := hb1.size
 obtain ⟨c0, c1, c2⟩ := cc _ hb1
 go_wp2_with fail
 (with_reducible refine (hra _).mono ?_)
 rintro r w2 ⟨v, rfl, hown, hb2⟩
 obtain ⟨A, c, rfl, hnc, hsl⟩ := Own.slc hown
 have hs0 : Slc w2 3 A (Fil.dn 8 x) (i8 x) := hsl
 have hb2' := hb1.trans (hb2.mono hz1)
 have hB2 : Below w.heap.size w w2 := hB1.trans (hb2.mono hB1.size)
 clear c0 c1 c2 hown hsl hb1 hb2 hB1 hz1 hra htop
 obtain ⟨c0, c1, c2⟩ := cc _ hb2'
 clear cc hb2'
 go_wp2_with fail
 (with_reducible refine (hp2 _).mono ?_)
 rintro r w3 ⟨rfl, rfl⟩
 go_wp2
 go_returns
 exact ⟨rfl, hB2.alloc hB2.size _⟩
set_option maxHeartbeats 8000000 in
theorem raround_part (neg : Bool) (x : Nat) (e Q : Int) (M : Nat) (w : World) (h : okD neg x e) (hx : x ≠ 0) (ht : topZ x e < 1024) (hQ : Q = max (topZ x e - 52) (-1074)) (hM1 : M ≤ 9007199254740991) (hM2 : -1074 < Q → 4503599627370496 ≤ M) (hQe : ¬ Q ≤ e) (k : Nat) (hk : Q - e = (k : Int)) (hM : M = x / 2 ^ k) (hfar : ¬ 8 * Fil.dn 8 x < k) :
  Calls Tryz.prog 51 #[.agg #[.bool neg, .string (bstr x), .int .i64 e]] w fun r w' => r = .returned (.tuple #[.float .f64 ((Q + 1074).toNat * 4503599627370496 + M), .float .f64 ((Q + 1074).toNat * 4503599627370496 + (M + 1)), .int .i64 (2 + cmpZ (x % 2 ^ k * 2) (2 ^ k)), .bool (decide (M % 2 = 0))]) ∧ Below w.heap.size w w' := by
 have htop := fun V => rtop_ok neg x e V h
 rw [decide_eq_true hx] at htop
 have cc := fun (w1 : World) hb => box_cells w neg (bstr x) e (w' := w1) hb
 have hdn := h.dn
 have e1 := h.e1
 have e2 := h.e2
 have hra := fun W => rof_any x W (by omega)
 have htlo : -1200000 ≤ topZ x e := by rw [topZ_pos hx]; omega
 have hQ' := hQ.symm
 have q0 : -1074 ≤ Q := by omega
 have q1 : Q ≤ 971 := by omega
 generalize topZ x e = T at *
 have hdT : decide (1024 ≤ T) = false := decide_eq_false (by omega)
 have k0 : 0 ≤ (k : Int) := by omega
 have k1 : (k : Int) ≤ 2300000 := by omega
 obtain ⟨z, hz⟩ : ∃ z, z = (Q + 1074).toNat * 4503599627370496 + M := ⟨_, rfl⟩
 obtain ⟨z', hz'⟩ : ∃ z', z' = (Q + 1074).toNat * 4503599627370496 + (M + 1) := ⟨_, rfl⟩
 have hp1 := fun V => rpacked_any false M Q V (by omega) q0 q1 hM2
 have hp2 := fun V => rpacked_any false (M + 1) Q V (by omega) q0 q1 (fun h => by have := hM2 h; omega)
 rw [show ((M + 1 : Nat) : Int) = (M : Int) + 1 by omega] at hp2
 rw [d_word_f, ← hz] at hp1
 rw [d_word_f, ← hz'] at hp2
 rw [← hz, ← hz']
 have m1 : (M : Int) ≤ 9007199254740991 := by omega
 have hev := even_b M
 have nM : (Fil.dn 8 M : Int) ≤ 8 := by have := dn_le (k := 8) (x := M) (n := 8) (by omega) (by omega); omega
 obtain ⟨E, hE⟩ : ∃ E, E = decide (M % 2 = 0) := ⟨_, rfl⟩
 rw [← hE] at hev ⊢
 have hY := Lib.hid hM1
 have hdQ : decide (Q ≤ e) = false := decide_eq_false hQe
 have hdF : decide (8 * (Fil.dn 8 x : Int) < (k : Int)) = false := decide_eq_false (by omega)
 have n8 : (Fil.dn 8 x : Int) ≤ 16384 := by omega
 have hhv := fun A c W (hc : Fil.dn 8 x ≤ c) (hs : Slc W 3 A (Fil.dn 8 x) (i8 x)) => rhalved_any A (Fil.dn 8 x) c x k W rfl hc (by omega) (by omega) hs
 rw [← hM] at hhv
 have hMn : Fil.dn 8 M ≤ 16384 := by rw [hM]; exact Nat.le_trans (dn_mono (by omega) (Nat.div_le_self _ _)) hdn
 have hSn : M * 2 ^ k ≤ x := by rw [hM]; exact Nat.div_mul_le_self _ _
 have hsh := fun A c W (hs : Slc W 3 A (Fil.dn 8 M) (i8 M)) => rshifted_any A (Fil.dn 8 M) c M k W rfl (by omega) (by omega) hs
 have hmi := fun A c W B d (ha : Slc W 3 A (Fil.dn 8 x) (i8 x)) (hb : Slc W 3 B (Fil.dn 8 (M * 2 ^ k)) (i8 (M * 2 ^ k))) => rminus_any A B (Fil.dn 8 x) c x (Fil.dn 8 (M * 2 ^ k)) d (M * 2 ^ k) W rfl rfl hSn (by omega) ha hb
 have hrem : x - M * 2 ^ k = x % 2 ^ k := by rw [hM]; exact rem_eq
 rw [hrem] at hmi
 have ho := okD.odd h hx
 have hr0 : x % 2 ^ k ≠ 0 := by
  have h2 : 2 ^ k % 2 = 0 := by rw [show k = k - 1 + 1 by omega, Nat.pow_succ]; omega
  have hd := Nat.div_add_mod x (2 ^ k)
  intro h0
  rw [h0, Nat.add_zero] at hd
  have : x % 2 = 0 := by rw [← hd, Nat.mul_mod, h2, Nat.zero_mul]
  omega
 have hrl : x % 2 ^ k ≤ x := Nat.mod_le _ _
 obtain ⟨R, hR⟩ : ∃ R, R = x % 2 ^ k := ⟨_, rfl⟩
 rw [← hR] at hmi hr0 hrl ⊢
 have hRn : Fil.dn 8 R ≤ 16384 := Nat.le_trans (dn_mono (by omega) hrl) hdn
 have hRp := dn_pos (k := 8) hr0
 have hdR1 : decide (0 < Fil.dn 8 R) = true := decide_eq_true hRp
 have hdR2 : decide (0 < (Fil.dn 8 R : Int)) = true := decide_eq_true (by omega)
 have hs1 := fun A c W (hs : Slc W 3 A (Fil.dn 8 R) (i8 R)) => rshifted_any A (Fil.dn 8 R) c R 1 W rfl (by omega) (by omega) hs
 rw [show R * 2 ^ 1 = R * 2 from rfl, show ((1 : Nat) : Int) = 1 from rfl] at hs1
 have hon := fun B W (hs : Slc W 3 (some ⟨B, 0, none⟩) 1 (i8 1)) => rshifted_any (some ⟨B, 0, none⟩) 1 1 1 k W dn8_one.symm (by omega) (by omega) hs
 rw [Nat.one_mul] at hon
 have hPn : Fil.dn 8 (2 ^ k) ≤ 400000 := by
  obtain ⟨q, hq⟩ : ∃ q, q = 400000 := ⟨_, rfl⟩
  rw [← hq]; exact dn_le (by omega) (Nat.pow_lt_pow_right (by omega) (by omega))
 have hR2n : Fil.dn 8 (R * 2) ≤ 16385 := by
  obtain ⟨q, hq⟩ : ∃ q, q = 16384 := ⟨_, rfl⟩
  rw [← hq] at hRn
  rw [show 16385 = q + 1 by omega]
  exact dn_le (by omega) (by have := lt_of_dn (k := 8) (by omega) hRn; rw [pstep]; omega)
 have hcz := cmpZ_or (R * 2) (2 ^ k)
 obtain ⟨c3, hc3⟩ : ∃ c3, c3 = cmpZ (R * 2) (2 ^ k) := ⟨_, rfl⟩
 have hcm := fun A c W B d (ha : Slc W 3 A (Fil.dn 8 (R * 2)) (i8 (R * 2))) (hb : Slc W 3 B (Fil.dn 8 (2 ^ k)) (i8 (2 ^ k))) => rcmp_any A B (Fil.dn 8 (R * 2)) c (R * 2) (Fil.dn 8 (2 ^ k)) d (2 ^ k) W rfl rfl (by omega) (by omega) ha hb
 rw [← hc3] at hcz hcm ⊢
 obtain ⟨P, hP⟩ : ∃ P, P = 2 ^ k := ⟨_, rfl⟩
 obtain ⟨S, hS⟩ : ∃ S, S = M * 2 ^ k := ⟨_, rfl⟩
 obtain ⟨R2, hR2⟩ : ∃ R2, R2 = R * 2 := ⟨_, rfl⟩
 rw [← hP] at hon hcm
 rw [← hS] at hsh hmi
 rw [← hR2] at hs1 hcm
 obtain ⟨cz1, cz2⟩ := hcz
 have HP := Lib.hid (And.intro hP (And.intro hS hR2))
 clear hP hS hR2 hPn hR2n hc3 hRn hRp hR hr0 hrl hrem hSn hMn ho
 clear hM hM2 hE hz hz' hM1
 have hkx := Lib.hid hx
 clear h hx ht hQ hQe hfar
 go_enter Tryz.func51, Tryz.ntmps51
 go_wp2_with fail
 (with_reducible refine (htop _).mono ?_)
 rintro r w1 ⟨rfl, hb1⟩
 have hB1 : Below w.heap.size w w1 := ((Below.refl _ _).alloc (Nat.le_refl _) _).trans (hb1.mono (by simp))
 have hz1 := hb1.size
 obtain ⟨c0, c1, c2⟩ := cc _ hb1
 go_wp2_with fail
 (with_reducible refine (hra _).mono ?_)
 rintro r w2 ⟨v, rfl, hown, hb2⟩
 obtain ⟨A, c, rfl, hnc, hsl⟩ := Own.slc hown
 have hs0 : Slc w2 3 A (Fil.dn 8 x) (i8 x) := hsl
 have hb2' := hb1.trans (hb2.mono hz1)
 have hB2 : Below w.heap.size w w2 := hB1.trans (hb2.mono hB1.size)
 clear c0 c1 c2 hown hsl hb1 hb2 hB1 hz1 hra htop
 obtain ⟨c0, c1, c2⟩ := cc _ hb2'
 clear cc hb2'
 go_wp2_with fail
 (with_reducible refine (hhv A c w2 hnc hs0).mono ?_)
 rintro r w3 ⟨A1, d1, rfl, hd1, hsM, hb3⟩
 have hB3 : Below w.heap.size w w3 := hB2.trans (hb3.mono hB2.size)
 replace hs0 := hs0.below hb3
 clear hb3 hB2 hhv c0 c1 c2
 go_wp2_with fail
 (with_reducible refine (hsh A1 d1 w3 hsM).mono ?_)
 rintro r w4 ⟨A2, d2, rfl, hd2, hsS, hb4⟩
 have hB4 : Below w.heap.size w w4 := hB3.trans (hb4.mono hB3.size)
 replace hs0 := hs0.below hb4
 replace hsM := hsM.below hb4
 clear hb4 hB3 hsh
 go_wp2_with fail
 (with_reducible refine (hmi A c w4 A2 d2 hs0 hsS).mono ?_)
 rintro r w5 ⟨A3, d3, rfl, hd3, hsR, hb5⟩
 have hB5 : Below w.heap.size w w5 := hB4.trans (hb5.mono hB4.size)
 replace hsM := hsM.below hb5
 clear hb5 hB4 hmi hs0 hsS hnc
 go_wp2_with fail
 have hB6 := hB5.alloc hB5.size (.cells #[.int .i64 1] 3)
 replace hsM := hsM.alloc (.cells #[.int .i64 1] 3)
 replace hsR := hsR.alloc (.cells #[.int .i64 1] 3)
 (with_reducible refine (hon _ _ (slc_one w5)).mono ?_)
 rintro r w6 ⟨A4, d4, rfl, hd4, hsP, hb6⟩
 have hW := hB6.trans (hb6.mono hB6.size)
 replace hsM := hsM.below hb6
 replace hsR := hsR.below hb6
 clear hb6 hB6 hB5 hon
 go_wp2_with fail
 generalize w6 = W at *
 go_loop [14, 15] (fun m s => ∃ j : Nat, j ≤ Fil.dn 8 M ∧ s = .int .i64 ((j : Int) - 1) ∧ m = .int .u64 ((M / 2 ^ (8 * j) : Nat) : Int)) (fun _ s => (intOf s + 1).toNat)
 case atStart => exact ⟨Fil.dn 8 M, Nat.le_refl _, rfl, by rw [Nat.div_eq_of_lt (lt_dn (by omega) M)]; rfl⟩
 case round =>
  obtain ⟨j, hj, rfl, rfl⟩ := hrel
  have hMl : M ≤ 9007199254740991 := hY.out
  by_cases h0 : j = 0
  ·subst h0
   rw [show M / 2 ^ (8 * 0) = M by simp]
   clear hj hMl
   go_wp2_with fail
   (with_reducible refine (hs1 A3 d3 W hsR).mono ?_)
   rintro r w7 ⟨A5, d5, rfl, hd5, hs2, hb7⟩
   have hW7 := hW.trans (hb7.mono hW.size)
   replace hsP := hsP.below hb7
   clear hb7 hsR hsM hs1 hW
   go_wp2_with fail
   (with_reducible refine (hcm A5 d5 w7 A4 d4 hs2 hsP).mono ?_)
   rintro r w8 ⟨rfl, n8, rfl⟩
   go_wp2_with fail
   (with_reducible refine (hp1 _).mono ?_)
   rintro r w8 ⟨rfl, rfl⟩
   go_wp2_with fail
   (with_reducible refine (hp2 _).mono ?_)
   rintro r w8 ⟨rfl, rfl⟩
   go_wp2
   go_returns
   exact ⟨rfl, Below.drewN' hW7 n8⟩
  ·obtain ⟨i, hi⟩ : ∃ i, i = j - 1 := ⟨_, rfl⟩
   have hic : (j : Int) - 1 = (i : Int) := by omega
   obtain ⟨bb, oo, rfl, hlt, hcl⟩ := hsM.cell (by omega)
   have hc9 := hcl i (by omega)
   have hst := div_step 8 M i
   rw [show i + 1 = j by omega] at hst
   have hub : M / 2 ^ (8 * j) ≤ 9007199254740991 := Nat.le_trans (Nat.div_le_self _ _) hMl
   obtain ⟨y, hy⟩ : ∃ y, y = M / 2 ^ (8 * j) := ⟨_, rfl⟩
   have hdl := dg_lt 8 M i
   unfold i8 at hc9
   rw [hic, ← hy]
   rw [← hy] at hst hub
   obtain ⟨d, hd⟩ : ∃ d, d = dg 8 M i := ⟨_, rfl⟩
   rw [← hd] at hst hdl hc9
   have g1 : (y : Int) ≤ 9007199254740991 := by omega
   have g2 : (d : Int) < 256 := by omega
   have g3 : 0 ≤ (d : Int) := by omega
   have g4 : (i : Int) < (Fil.dn 8 M : Int) := by omega
   have g6 : i < Fil.dn 8 M := by omega
   have g5 : 0 ≤ (i : Int) := by omega
   have Hi := Lib.hid (And.intro hi (And.intro hj (And.intro h0 hst)))
   clear hi hic hj h0 hst hy hd hub hdl hcl hMl
   go_wp2
   go_round
   case rel => exact ⟨i, by have := Hi.out; omega, by go_num, congrArg (Value.int IntKind.u64) (by rw [Hi.out.2.2.2]; omega)⟩
   case measure => simp [intOf] <;> omega
end Go.Proofs.YtfdnbogbankjjaaGreatDoor
