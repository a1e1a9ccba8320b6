/- Merged: U4 U5 U9 UA -/
import Derived.Test.YtbfnafcpjbdbpaaGreatU3
import Derived.Test.YtbfnafcpjbdbpaaGreatKi
import Derived.Test.YtbfnafcpjbdbpaaGreatJF
import Derived.Test.YtbfnafcpjbdbpaaGreatJU
import Derived.Test.YtbfnafcpjbdbpaaGreatU8

/- ratio.against, Below, Above. -/
namespace Go.Proofs.YtbfnafcpjbdbpaaGreat
open Go Go.RowKit Go.PlainAid Fil

theorem ord_gt0 {N : Bool} {r : Nat} (h : r ≤ 9218868437227405312) : (FloatKind.f64.format.order (Ieee.double.word N r) 0 == some .gt) = (!N && decide (r ≠ 0)) := by
  have hw := word_parts (N := N) (R := r) (by omega)
  rw [f64_double, order_some (by rw [hw.1]; omega) (by decide)]
  have hk : fk (Ieee.double.word N r) = if N then -(r : Int) else r := by unfold fk; rw [hw.1, hw.2]
  rw [hk, show fk 0 = 0 from rfl]
  by_cases h0 : r = 0
  · subst h0; cases N <;> rfl
  · cases N
    · rw [if_neg (by decide), cmp_gt (by omega), decide_eq_true h0]; rfl
    · rw [if_pos rfl, cmp_lt (by omega)]; rfl
/-- how a float lies against a number -/
def agI (N : Bool) (R : Nat) (x : Rat) : Int := if R = 9218868437227405312 then (if N then -1 else 1) else cmpR (fRat N R) x
theorem cmpR_rng (x y : Rat) : -1 ≤ cmpR x y ∧ cmpR x y ≤ 1 := by unfold cmpR; split <;> (try split) <;> omega
theorem agI_rng (N : Bool) (R : Nat) (x : Rat) : -1 ≤ agI N R x ∧ agI N R x ≤ 1 := by
  unfold agI
  split
  · cases N <;> simp
  · exact cmpR_rng _ _
theorem mv_bits {R K : Nat} (hK : K = 2104) (h : R < 9218868437227405312) : mv R < 2 ^ K := by
  by_cases hs : R < 4503599627370496
  · rw [mv_small hs]; exact Nat.lt_of_lt_of_le hs (Nat.le_trans (by decide : 4503599627370496 ≤ 2 ^ 52) (pmono (by omega)))
  · rw [mv_big hs]
    have h1 : 4503599627370496 + R % 4503599627370496 < 2 ^ 53 := by omega
    have h2 : 2 ^ (R / 4503599627370496 - 1) ≤ 2 ^ (K - 53) := pmono (by omega)
    calc _ < 2 ^ 53 * 2 ^ (R / 4503599627370496 - 1) := Nat.mul_lt_mul_of_pos_right h1 (pp _)
      _ ≤ 2 ^ 53 * 2 ^ (K - 53) := Nat.mul_le_mul_left _ h2
      _ = 2 ^ K := by rw [← Nat.pow_add]; congr 1; omega
theorem fRat_szd {N : Bool} {R : Nat} (h : R < 9218868437227405312) : Szd 100 (fRat N R) := by
  unfold fRat
  have hP0 : (P74 : Int) ≠ 0 := by have := P74_pos; omega
  refine Szd.div hP0 ?_ ?_
  · rw [sz_abs]
    obtain ⟨K, hK⟩ : ∃ K, K = 2104 := ⟨_, rfl⟩
    obtain ⟨L, hL⟩ : ∃ L, L = 100 := ⟨_, rfl⟩
    have : Fil.dn 32 (mv R) ≤ L := dn_le (by omega) (Nat.lt_of_lt_of_le (mv_bits hK h) (pmono (by omega)))
    omega
  · rw [Int.natAbs_natCast]
    obtain ⟨K, hK⟩ : ∃ K, K = 1074 := ⟨_, rfl⟩
    rw [P74_eq hK]
    obtain ⟨L, hL⟩ : ∃ L, L = 100 := ⟨_, rfl⟩
    have : Fil.dn 32 (2 ^ K) ≤ L := dn_le (by omega) (Nat.pow_lt_pow_right (by omega) (by omega))
    omega
set_option maxRecDepth 100000 in
set_option maxHeartbeats 2000000 in
theorem kagainst_any (b : Nat) (x : Rat) (N : Bool) (R : Nat) (w : World) (X : RatAt w b x) (hz : Szd 100000000000 x) (h : R ≤ 9218868437227405312) :
    Calls Tryz.prog 85 #[.float .f64 (Ieee.double.word N R), .pointer (some ⟨b, 0, none⟩)] w fun r w' => r = .returned (.int .i64 (agI N R x)) ∧ Below w.heap.size w w' := by
  have hi := fun W => isinf0 N R W h
  by_cases hR : R = 9218868437227405312
  · have ho := ord_gt0 (N := N) h
    rw [decide_eq_true hR] at hi
    rw [decide_eq_true (by omega), Bool.and_true] at ho
    unfold agI
    rw [if_pos hR]
    have hb := Below.refl w.heap.size w
    generalize Ieee.double.word N R = Y at *
    clear X hz h hR
    cases N
    · rw [show (!false) = true from rfl] at ho
      go_enter Tryz.func85, Tryz.ntmps85
      go_wp2_with (go_at_call 122; go_must (refine (hi _).mono ?_); rintro r w1 ⟨rfl, rfl⟩)
      go_ret
      exact ⟨rfl, hb⟩
    · rw [show (!true) = false from rfl] at ho
      go_enter Tryz.func85, Tryz.ntmps85
      go_wp2_with (go_at_call 122; go_must (refine (hi _).mono ?_); rintro r w1 ⟨rfl, rfl⟩)
      go_ret
      exact ⟨rfl, hb⟩
  · rw [decide_eq_false hR] at hi
    have hs := fun W B a => rsetfloat_any B N R W a (by omega)
    have hzf := fRat_szd (N := N) (R := R) (by omega)
    unfold agI
    rw [if_neg hR]
    have lx := X.lt
    have R0 := RRoom.new w
    have X0 := X.alloc (.cells #[.bool false, .slice none 0 0, .bool false, .slice none 0 0] 96)
    have hb := (Below.refl w.heap.size w).alloc (Nat.le_refl _) (.cells #[.bool false, .slice none 0 0, .bool false, .slice none 0 0] 96)
    have HZ := Lib.hid (And.intro hz (And.intro hzf lx))
    generalize fRat N R = f at *
    have hc := cmpR_rng f x
    obtain ⟨cz, hcz⟩ : ∃ cz, cz = cmpR f x := ⟨_, rfl⟩
    have HC := Lib.hid hcz
    rw [← hcz] at hc ⊢
    obtain ⟨hc1, hc2⟩ := hc
    generalize Ieee.double.word N R = Y at *
    clear X hz h hR hzf hcz lx
    go_enter Tryz.func85, Tryz.ntmps85
    go_wp2_with fail
    refine (hi _).mono ?_
    rintro r w1 ⟨rfl, rfl⟩
    clear hi
    go_wp2_with fail
    generalize w.alloc (.cells #[.bool false, .slice none 0 0, .bool false, .slice none 0 0] 96) = v at *
    refine (hs _ _ R0).mono ?_
    rintro r w1 ⟨rfl, R1, hF⟩
    have X1 := X0.far hF (Nat.ne_of_lt HZ.out.2.2)
    have hb1 := hb.trans (hF.below (Nat.le_refl _) hb.size)
    clear hs hF R0 X0 hb
    go_wp2_with fail
    refine (ratcmp_any w.heap.size b f x w1 R1 X1 (HZ.out.2.1.mono (by omega)) HZ.out.1).mono ?_
    rintro r w2 ⟨rfl, hb2⟩
    rw [← HC.out]
    go_wp2
    go_ret
    exact ⟨rfl, hb1.trans (hb2.mono hb1.size)⟩
set_option maxRecDepth 100000 in
set_option maxHeartbeats 4000000 in
theorem kbelow_by (x : Rat) (X Y : Nat) (c : Int) (z : Bool) (w : World) (hx : Fits x)
    (hf : ∀ W, Calls Tryz.prog 31 #[kA x] W fun r w' => r = .returned (.tuple #[.float .f64 X, .int .i64 0]) ∧ Below W.heap.size W w')
    (ha : ∀ W B, RatAt W B x → Calls Tryz.prog 85 #[.float .f64 X, .pointer (some ⟨B, 0, none⟩)] W fun r w' => r = .returned (.int .i64 c) ∧ Below W.heap.size W w') (hc1 : -1 ≤ c) (hc2 : c ≤ 1)
    (hd : 0 < c → ∀ W, Calls Tryz.prog 86 #[.float .f64 X] W fun r w' => r = .returned (.float .f64 Y) ∧ W = w') (hn : ¬ 0 < c → X = Y) (hz : (FloatKind.f64.format.order Y 0 == some .eq) = z) :
    Calls Tryz.prog 32 #[kA x] w fun r w' => r = .returned (.tuple #[.float .f64 (if z then 0 else Y), .int .i64 0]) ∧ Below w.heap.size w w' := by
  have hr := fun W => krat_any x W hx
  clear hx
  unfold kA at *
  generalize sg x.num = xn at *
  generalize bstr x.num.natAbs = xS at *
  generalize bstr x.den = xT at *
  have F := Blk.put w #[.bool xn, .string xS, .string xT] 24
  have hb := (Below.refl w.heap.size w).alloc (Nat.le_refl _) (.cells #[.bool xn, .string xS, .string xT] 24)
  obtain ⟨f0, f1, f2⟩ := F.ce3
  go_enter Tryz.func32, Tryz.ntmps32
  go_wp2_with fail
  refine (hf _).mono ?_
  rintro r w1 ⟨rfl, hB⟩
  clear f0 f1 f2 hf
  replace F := F.keep hB
  replace hb := hb.trans (hB.mono hb.size)
  clear hB
  obtain ⟨f0, f1, f2⟩ := F.ce3
  go_wp2_with fail
  refine (hr _).mono ?_
  rintro r w2 ⟨B, rfl, hR, _, _, hB⟩
  clear f0 f1 f2 hr F
  replace hb := hb.trans (hB.mono hb.size)
  clear hB
  go_wp2_with fail
  refine (ha _ _ hR).mono ?_
  rintro r w3 ⟨rfl, hB⟩
  replace hb := hb.trans (hB.mono hb.size)
  clear hB ha hR
  by_cases hp : 0 < c
  · have hd := hd hp
    clear hn
    cases z
    · go_wp2_with fail
      refine (hd _).mono ?_
      rintro r w4 ⟨rfl, rfl⟩
      clear hd
      go_wp2
      go_returns
      exact ⟨rfl, hb⟩
    · go_wp2_with fail
      refine (hd _).mono ?_
      rintro r w4 ⟨rfl, rfl⟩
      clear hd
      go_wp2
      go_returns
      exact ⟨rfl, hb⟩
  · obtain rfl := hn (by omega)
    clear hd hn
    cases z
    · go_wp2
      go_returns
      exact ⟨rfl, hb⟩
    · go_wp2
      go_returns
      exact ⟨rfl, hb⟩
set_option maxRecDepth 100000 in
set_option maxHeartbeats 4000000 in
theorem kabove_by (x : Rat) (X Y : Nat) (c : Int) (w : World) (hx : Fits x)
    (hf : ∀ W, Calls Tryz.prog 31 #[kA x] W fun r w' => r = .returned (.tuple #[.float .f64 X, .int .i64 0]) ∧ Below W.heap.size W w')
    (ha : ∀ W B, RatAt W B x → Calls Tryz.prog 85 #[.float .f64 X, .pointer (some ⟨B, 0, none⟩)] W fun r w' => r = .returned (.int .i64 c) ∧ Below W.heap.size W w') (hc1 : -1 ≤ c) (hc2 : c ≤ 1)
    (hd : c < 0 → ∀ W, Calls Tryz.prog 87 #[.float .f64 X] W fun r w' => r = .returned (.float .f64 Y) ∧ W = w') (hn : ¬ c < 0 → X = Y) :
    Calls Tryz.prog 33 #[kA x] w fun r w' => r = .returned (.tuple #[.float .f64 Y, .int .i64 0]) ∧ Below w.heap.size w w' := by
  have hr := fun W => krat_any x W hx
  clear hx
  unfold kA at *
  generalize sg x.num = xn at *
  generalize bstr x.num.natAbs = xS at *
  generalize bstr x.den = xT at *
  have F := Blk.put w #[.bool xn, .string xS, .string xT] 24
  have hb := (Below.refl w.heap.size w).alloc (Nat.le_refl _) (.cells #[.bool xn, .string xS, .string xT] 24)
  obtain ⟨f0, f1, f2⟩ := F.ce3
  go_enter Tryz.func33, Tryz.ntmps33
  go_wp2_with fail
  refine (hf _).mono ?_
  rintro r w1 ⟨rfl, hB⟩
  clear f0 f1 f2 hf
  replace F := F.keep hB
  replace hb := hb.trans (hB.mono hb.size)
  clear hB
  obtain ⟨f0, f1, f2⟩ := F.ce3
  go_wp2_with fail
  refine (hr _).mono ?_
  rintro r w2 ⟨B, rfl, hR, _, _, hB⟩
  clear f0 f1 f2 hr F
  replace hb := hb.trans (hB.mono hb.size)
  clear hB
  go_wp2_with fail
  refine (ha _ _ hR).mono ?_
  rintro r w3 ⟨rfl, hB⟩
  replace hb := hb.trans (hB.mono hb.size)
  clear hB ha hR
  by_cases hp : c < 0
  · have hd := hd hp
    clear hn
    go_wp2_with fail
    refine (hd _).mono ?_
    rintro r w4 ⟨rfl, rfl⟩
    clear hd
    go_wp2
    go_returns
    exact ⟨rfl, hb⟩
  · obtain rfl := hn (by omega)
    clear hd hn
    go_wp2
    go_returns
    exact ⟨rfl, hb⟩
end Go.Proofs.YtbfnafcpjbdbpaaGreat

/- wide.Int's Div; ratio.Floor, Part. -/
namespace Go.Proofs.YtbfnafcpjbdbpaaGreat
open Go Go.RowKit Go.PlainAid Fil

theorem ediv_sz (N : Bool) {n d : Nat} (hd : d ≠ 0) : sz N n / (d : Int) = sz N (n / d + if N = true ∧ n % d ≠ 0 then 1 else 0) := by
  cases N
  · rw [if_neg (by simp)]; show (n : Int) / d = ((n / d + 0 : Nat) : Int); simp
  · have h1 := Nat.div_add_mod n d
    have h2 := Nat.mod_lt n (Nat.pos_of_ne_zero hd)
    generalize hq : n / d = q at *
    generalize hr : n % d = r at *
    have hdp : (0 : Int) < (d : Int) := by omega
    show (-(n : Int)) / (d : Int) = -((q + _ : Nat) : Int)
    by_cases h0 : r = 0
    · rw [if_neg (by simp [h0])]
      have e : -(n : Int) = (d : Int) * (-(q : Int)) := by rw [← h1, h0, Int.mul_neg]; simp
      rw [e, Int.mul_ediv_cancel_left _ (by omega)]; simp
    · rw [if_pos ⟨rfl, h0⟩]
      have e : -(n : Int) = (d : Int) * (-((q : Int) + 1)) + ((d : Int) - r) := by
        rw [← h1, Int.mul_neg, Int.mul_add]; simp; omega
      rw [e, Int.mul_add_ediv_left _ _ (by omega), Int.ediv_eq_zero_of_lt (by omega) (by omega)]
      simp
set_option maxRecDepth 100000 in
set_option maxHeartbeats 4000000 in
theorem idiv_any (b b1 o1 b2 o2 : Nat) (z : Int) (d : Nat) (w : World) (hr : Room w b 0) (h1 : IntAt w b1 o1 z) (h2 : IntAt w b2 o2 (d : Int)) (hd : d ≠ 0) (sz1 : Fil.dn 32 z.natAbs ≤ 1000000000) (sz2 : Fil.dn 32 d ≤ 1000000000) :
    Calls Tryz.prog 81 #[.pointer (some ⟨b, 0, none⟩), .pointer (some ⟨b1, o1, none⟩), .pointer (some ⟨b2, o2, none⟩)] w fun e w' => e = .returned (.pointer (some ⟨b, 0, none⟩)) ∧ IntAt w' b 0 (z / (d : Int)) ∧ But w w' b 0 := by
  obtain ⟨A1, m1, c1, x0, x1, D1⟩ := h1.cells
  obtain ⟨A2, m2, c2, y0, y1, D2⟩ := h2.cells
  rw [Int.natAbs_natCast] at D2
  have hz := ediv_sz (sg z) (n := z.natAbs) hd
  rw [sz_self] at hz
  obtain ⟨V, hV⟩ : ∃ V, V = z / (d : Int) := ⟨_, rfl⟩
  rw [← hV] at hz ⊢
  clear hV
  have l1 := h1.lt
  have l2 := h2.lt
  have hov := fun W a b => over_any A1 A2 m1 c1 z.natAbs m2 c2 d W a b (by rw [D1.1]; omega) (by rw [D2.1]; omega) hd
  have HD := Lib.hid (And.intro D1 D2)
  have Hr := Lib.hid hr
  have HZ := Lib.hid (And.intro hz (And.intro sz1 (And.intro hd (And.intro l1 l2))))
  obtain ⟨S, hS⟩ : ∃ S, S = sg z := ⟨_, rfl⟩
  rw [← hS] at x0
  have HS := Lib.hid hS
  clear D1 D2 hr hz h1 h2 hd sz1 sz2 y0 l1 l2 hS
  have hb := Below.refl w.heap.size w
  go_enter Tryz.func81, Tryz.ntmps81
  go_wp2_with fail
  refine wp_region_any (by kernel_rfl) ?_
  have hHeld : (fun w' : World => w'.cell? ⟨b1, o1 + 1, none⟩ = some (.slice A1 m1 c1) ∧ w'.cell? ⟨b2, o2 + 1, none⟩ = some (.slice A2 m2 c2)) w.drew := ⟨x1, y1⟩
  refine wpAny_of_held (S := fun w' : World => w'.cell? ⟨b1, o1 + 1, none⟩ = some (.slice A1 m1 c1) ∧ w'.cell? ⟨b2, o2 + 1, none⟩ = some (.slice A2 m2 c2)) _ _ _ (w.drew) ?_
  refine wpAnyH_take (i := 0) (v := _) (by first | (simp only [List.getElem?_toArray, List.getElem?_cons_zero]; rfl) | rfl) (by kernel_rfl) (by kernel_rfl) (by kernel_rfl) (by exact fun _ _ _ h => h) (Or.inl ⟨by rfl, by (intro w hSw; (try dsimp only at hSw); go_simp; try with_reducible rfl)⟩) (by assumption) ?_
  (try dsimp only [Act.put]); (try go_frame)
  refine wpAnyH_take (i := 1) (v := _) (by first | (simp only [List.getElem?_toArray, List.getElem?_cons_zero, List.getElem?_cons_succ]; rfl) | rfl) (by kernel_rfl) (by kernel_rfl) (by kernel_rfl) (by exact fun _ _ _ h => h) (Or.inl ⟨by rfl, by (intro w hSw; (try dsimp only at hSw); go_simp; try with_reducible rfl)⟩) (by assumption) ?_
  (try dsimp only [Act.put]); (try go_frame)
  refine wpAnyH_take (i := 2) (v := _) (by first | (simp only [List.getElem?_toArray, List.getElem?_cons_zero, List.getElem?_cons_succ]; rfl) | rfl) (by kernel_rfl) (by kernel_rfl) (by kernel_rfl) (by exact fun _ _ _ h => h) (Or.inl ⟨by rfl, by (intro w hSw; (try dsimp only at hSw); go_simp; try with_reducible rfl)⟩) (by assumption) ?_
  (try dsimp only [Act.put]); (try go_frame)
  refine wpAnyH_take (i := 3) (v := _) (by first | (simp only [List.getElem?_toArray, List.getElem?_cons_zero, List.getElem?_cons_succ]; rfl) | rfl) (by kernel_rfl) (by kernel_rfl) (by kernel_rfl) (by exact fun _ _ _ h => h) (Or.inl ⟨by rfl, by (intro w hSw; (try dsimp only at hSw); go_simp; try with_reducible rfl)⟩) (by assumption) ?_
  (try dsimp only [Act.put]); (try go_frame)
  refine wpAnyH_take (i := 4) (v := _) (by first | (simp only [List.getElem?_toArray, List.getElem?_cons_zero, List.getElem?_cons_succ]; rfl) | rfl) (by kernel_rfl) (by kernel_rfl) (by kernel_rfl) (by exact fun _ _ _ h => h) (Or.inl ⟨by rfl, by (intro w hSw; (try dsimp only at hSw); go_simp; try with_reducible rfl)⟩) (by assumption) ?_
  (try dsimp only [Act.put]); (try go_frame)
  refine wpAnyH_take (i := 5) (v := _) (by first | (simp only [List.getElem?_toArray, List.getElem?_cons_zero, List.getElem?_cons_succ]; rfl) | rfl) (by kernel_rfl) (by kernel_rfl) (by kernel_rfl) (by exact fun _ _ _ h => h) (Or.inl ⟨by rfl, by (intro w hSw; (try dsimp only at hSw); go_simp; try with_reducible rfl)⟩) (by assumption) ?_
  (try dsimp only [Act.put]); (try go_frame)
  refine wpAnyH_take (i := 6) (v := _) (by first | (simp only [List.getElem?_toArray, List.getElem?_cons_zero, List.getElem?_cons_succ]; rfl) | rfl) (by kernel_rfl) (by kernel_rfl) (by kernel_rfl) (by exact fun _ _ _ h => h) (Or.inl ⟨by rfl, by (intro w hSw; (try dsimp only at hSw); go_simp; try with_reducible rfl)⟩) (by assumption) ?_
  (try dsimp only [Act.put]); (try go_frame)
  refine wpAnyH_take (i := 7) (v := _) (by first | (simp only [List.getElem?_toArray, List.getElem?_cons_zero, List.getElem?_cons_succ]; rfl) | rfl) (by kernel_rfl) (by kernel_rfl) (by kernel_rfl) (by exact fun _ _ _ h => h) (Or.inl ⟨by rfl, by (intro w hSw; (try dsimp only at hSw); go_simp; try with_reducible rfl)⟩) (by assumption) ?_
  (try dsimp only [Act.put]); (try go_frame)
  refine wpAnyH_ready (rs := [8]) (by kernel_rfl) (by simp) ?_
  refine AllReadyH.cons rfl (fun K hK => ?_) AllReadyH.nil
  go_simp
  refine (hov _ (by exact HD.out.1) (by exact HD.out.2)).mono ?_
  rintro r w1 ⟨Aq, cq, Ar, cr, rfl, Dq, Dr, hB⟩
  have hbw : Below w.heap.size w w1 := hb.drew.trans hB
  have x1w := (hbw.cell (p := ⟨b1, o1 + 1, none⟩) HZ.out.2.2.2.1).trans x1
  have x0w := (hbw.cell (p := ⟨b1, o1, none⟩) HZ.out.2.2.2.1).trans x0
  have y1w := (hbw.cell (p := ⟨b2, o2 + 1, none⟩) HZ.out.2.2.2.2).trans y1
  refine hK.out _ _ ?_ (fun hHeld => ?_)
  · exact ⟨x1w, y1w⟩
  clear hK K x0 x1 y1 x1w y1w hov hb
  (try dsimp only [Act.put]); (try go_frame)
  refine wpAnyH_take (i := 9) (v := _) (by first | (simp only [List.getElem?_toArray, List.getElem?_cons_zero, List.getElem?_cons_succ]; rfl) | rfl) (by kernel_rfl) (by kernel_rfl) (by kernel_rfl) (by exact fun _ _ _ h => h) (Or.inl ⟨by rfl, by (intro w hSw; (try dsimp only at hSw); go_simp; try with_reducible rfl)⟩) (by assumption) ?_
  (try dsimp only [Act.put]); (try go_frame)
  refine wpAnyH_take (i := 10) (v := _) (by first | (simp only [List.getElem?_toArray, List.getElem?_cons_zero, List.getElem?_cons_succ]; rfl) | rfl) (by kernel_rfl) (by kernel_rfl) (by kernel_rfl) (by exact fun _ _ _ h => h) (Or.inl ⟨by rfl, by (intro w hSw; (try dsimp only at hSw); go_simp; try with_reducible rfl)⟩) (by assumption) ?_
  (try dsimp only [Act.put]); (try go_frame)
  refine wpAnyH_take (i := 11) (v := _) (by first | (simp only [List.getElem?_toArray, List.getElem?_cons_zero, List.getElem?_cons_succ]; rfl) | rfl) (by kernel_rfl) (by kernel_rfl) (by kernel_rfl) (by exact fun _ _ _ h => h) (Or.inl ⟨by rfl, by (intro w hSw; (try dsimp only at hSw); go_simp; try with_reducible rfl)⟩) (by assumption) ?_
  (try dsimp only [Act.put]); (try go_frame)
  refine wpAnyH_take (i := 12) (v := _) (by first | (simp only [List.getElem?_toArray, List.getElem?_cons_zero, List.getElem?_cons_succ]; rfl) | rfl) (by kernel_rfl) (by kernel_rfl) (by kernel_rfl) (by exact fun _ _ _ h => h) (Or.inl ⟨by rfl, by (intro w hSw; (try dsimp only at hSw); go_simp; try with_reducible rfl)⟩) (by assumption) ?_
  (try dsimp only [Act.put]); (try go_frame)
  refine wpAnyH_take (i := 13) (v := _) (by first | (simp only [List.getElem?_toArray, List.getElem?_cons_zero, List.getElem?_cons_succ]; rfl) | rfl) (by kernel_rfl) (by kernel_rfl) (by kernel_rfl) (by exact fun _ _ _ h => h) (Or.inl ⟨by rfl, by (intro w hSw; (try dsimp only at hSw); go_simp; try with_reducible rfl)⟩) (by assumption) ?_
  (try dsimp only [Act.put]); (try go_frame)
  refine wpAnyH_done (by kernel_rfl) ?_ _
  try simp only [QCut]
  have hr1 := Hr.out.below hbw
  have hqs : Fil.dn 32 (z.natAbs / d) ≤ 1000000000 := Nat.le_trans (dn_mono (by omega) (Nat.div_le_self _ _)) HZ.out.2.1
  have hr32 : Fil.dn 32 (z.natAbs % d) ≤ 1000000000 := Nat.le_trans (dn_mono (by omega) (Nat.mod_le _ _)) HZ.out.2.1
  have hzd := HZ.out.1
  rw [← HS.out] at hzd
  have hrz : Fil.dn 32 (z.natAbs % d) = 0 ↔ z.natAbs % d = 0 := dn_eq_zero
  obtain ⟨q, hq⟩ : ∃ q, q = z.natAbs / d := ⟨_, rfl⟩
  obtain ⟨rr, hrr⟩ : ∃ rr, rr = Fil.dn 32 (z.natAbs % d) := ⟨_, rfl⟩
  obtain ⟨nq, hnq⟩ : ∃ nq, nq = Fil.dn 32 (z.natAbs / d) := ⟨_, rfl⟩
  rw [← hnq, ← hq] at Dq
  rw [← hrr] at Dr hr32 hrz
  rw [← hnq] at hqs ⊢
  rw [← hq] at hzd
  rw [← hrr]
  have HQ := Lib.hid (And.intro hzd (And.intro hrz (And.intro hq (And.intro hrr hnq))))
  have HDq := Lib.hid Dq
  have e1 : Fil.dn 32 1 = 1 := by decide
  clear hHeld hzd hrz hq hrr hnq Dr hB Dq
  cases S
  · have ez : V = sz false q := by rw [HQ.out.1, if_neg (by simp), Nat.add_zero]
    have HE := Lib.hid ez
    clear ez
    go_wp2_with fail
    refine (laid_int b 0 false Aq nq cq q w1 hr1 (by omega) HDq.out).mono ?_
    rintro r w2 ⟨rfl, I2, hB2⟩
    go_wp2
    go_ret
    exact ⟨rfl, by rw [HE.out]; exact I2, But.after hbw hB2 Hr.out⟩
  · by_cases h0 : rr = 0
    · have ez : V = sz true q := by rw [HQ.out.1, if_neg (fun h => h.2 (HQ.out.2.1.1 h0)), Nat.add_zero]
      have HE := Lib.hid ez
      subst h0
      clear ez
      go_wp2_with fail
      refine (laid_int b 0 true Aq nq cq q w1 hr1 (by omega) HDq.out).mono ?_
      rintro r w2 ⟨rfl, I2, hB2⟩
      go_wp2
      go_ret
      exact ⟨rfl, by rw [HE.out]; exact I2, But.after hbw hB2 Hr.out⟩
    · have ez : V = sz true (q + 1) := by rw [HQ.out.1, if_pos ⟨rfl, fun h => h0 (HQ.out.2.1.2 h)⟩]
      have HE := Lib.hid ez
      have h0p : 0 < rr := by omega
      have h0i : (0 : Int) < (rr : Int) := by omega
      have D1 : Dig (w1.alloc (.cells #[.int .u32 1] 125)) (some ⟨w1.heap.size, 0, none⟩) 1 1 1 := ⟨e1.symm, Nat.le_refl _, fun _ => ⟨w1.heap.size, 0, _, _, rfl, heap_alloc_new w1 _, fun j hj => by
        match j, hj with
        | 0, _ => rfl⟩⟩
      have Dq2 := HDq.out.alloc (.cells #[.int .u32 1] 125)
      have hb2 := hbw.alloc hbw.size (.cells #[.int .u32 1] 125)
      have hr2 := hr1.alloc (.cells #[.int .u32 1] 125)
      have hpl := plus_any Aq (some ⟨w1.heap.size, 0, none⟩) nq cq q 1 1 1 _ Dq2.1 D1.1 Dq2.2.1 (Nat.le_refl _) (by omega) (by omega) Dq2.2.2 D1.2.2
      have x0w2 : (w1.alloc (.cells #[.int .u32 1] 125)).cell? ⟨b1, o1, none⟩ = some (.bool true) := (((Below.refl w1.heap.size w1).alloc (Nat.le_refl _) (.cells #[.int .u32 1] 125)).cell (p := ⟨b1, o1, none⟩) (Nat.lt_of_lt_of_le HZ.out.2.2.2.1 hbw.size)).trans x0w
      have lz : b1 < (w1.alloc (.cells #[.int .u32 1] 125)).heap.size := Nat.lt_of_lt_of_le HZ.out.2.2.2.1 hb2.size
      have HP := Lib.hid (And.intro hpl (And.intro hb2 (And.intro hr2 (And.intro x0w2 lz))))
      clear ez D1 Dq2 hb2 hr2 hpl x0w2 lz
      go_wp2_with fail
      clear x0w
      obtain ⟨hpl, hb2, hr2, x0w2, lz⟩ := HP.out
      clear HP
      generalize w1.alloc (.cells #[.int .u32 1] 125) = v at *
      refine hpl.mono ?_
      rintro r w2 ⟨Ap, cp, rfl, hcp, Sp, hB2⟩
      have hn32 : Fil.dn 32 (q + 1) ≤ nq + 1 := by
        have h1 := HDq.out.1
        refine dn_le (by omega) ?_
        have h2 := lt_of_dn (k := 32) (n := nq) (by omega) (by rw [← h1]; exact Nat.le_refl _)
        calc q + 1 ≤ 2 ^ (32 * nq) := h2
          _ < 2 ^ (32 * (nq + 1)) := Nat.pow_lt_pow_right (by omega) (by omega)
      have x0w := (hB2.cell (p := ⟨b1, o1, none⟩) lz).trans x0w2
      have hr3 := hr2.below hB2
      have hb3 := hb2.trans (hB2.mono hb2.size)
      clear x0w2 hr2 hb2 lz
      go_wp2_with fail
      refine (laid_int b 0 true Ap _ cp (q + 1) w2 hr3 (by omega) ⟨rfl, hcp, Sp⟩).mono ?_
      rintro r w3 ⟨rfl, I2, hB3⟩
      go_wp2
      go_ret
      exact ⟨rfl, by rw [HE.out]; exact I2, But.after hb3 hB3 Hr.out⟩

set_option maxRecDepth 100000 in
set_option maxHeartbeats 4000000 in
theorem kfloor_ok (x : Rat) (w : World) (hx : Fits x) (tn : Bool) (tS tT : ByteArray) (te : Int) (hV : kToldV (Rat.divInt (x.num / (x.den : Int)) 1) = .tuple #[.agg #[.bool tn, .string tS, .string tT], .int .i64 te]) :
    Calls Tryz.prog 29 #[kA x] w fun r w' => r = .returned (.tuple #[.agg #[.bool tn, .string tS, .string tT], .int .i64 te]) ∧ Below w.heap.size w w' := by
  have hm := fun W => kmay_any (sg x.num) (bstr x.num.natAbs) (bstr x.den) W (by rw [bstr_size]; have := hx.1; omega) (by rw [bstr_size]; have := hx.2; omega)
  rw [may_of_rat hx] at hm
  have hr := fun W => krat_any x W hx
  have s1 := hx.szd.1
  have s2 := hx.szd.2
  have hq32 : Fil.dn 32 (x.num / (x.den : Int)).natAbs ≤ 5001 := by
    have h := ediv_sz (sg x.num) (n := x.num.natAbs) x.den_nz
    rw [sz_self] at h
    rw [h, sz_abs]
    have h1 : x.num.natAbs / x.den ≤ x.num.natAbs := Nat.div_le_self _ _
    have h2 : Fil.dn 32 (x.num.natAbs + 1) ≤ 5000 + 1 := dn_add s1 (Nat.le_trans (show Fil.dn 32 1 ≤ 1 by decide) (by omega))
    refine Nat.le_trans (dn_mono (by omega) ?_) h2
    split <;> omega
  have hsz : Szd 100000000000 (Rat.divInt (x.num / (x.den : Int)) 1) := Szd.div (by omega) (by omega) (by decide)
  have htd := fun W B R => ktold_any B (Rat.divInt (x.num / (x.den : Int)) 1) W R hsz
  rw [hV] at htd
  have HX := Lib.hid (And.intro s1 (And.intro s2 (And.intro hq32 x.den_nz)))
  clear hx s1 s2 hq32 hsz hV
  unfold kA at *
  generalize sg x.num = xn at *
  generalize bstr x.num.natAbs = xS at *
  generalize bstr x.den = xT at *
  have F := (Blk.put w #[.bool xn, .string xS, .string xT] 24).allocd (.cells #[.bool false, .string { data := #[] }, .string { data := #[] }] 24)
  have Z := Blk.put (w.alloc (.cells #[.bool xn, .string xS, .string xT] 24)) #[.bool false, .string { data := #[] }, .string { data := #[] }] 24
  rw [show (w.alloc (.cells #[.bool xn, .string xS, .string xT] 24)).heap.size = w.heap.size + 1 by simp] at Z
  have hb := ((Below.refl w.heap.size w).alloc (Nat.le_refl _) (.cells #[.bool xn, .string xS, .string xT] 24)).alloc (by simp) (.cells #[.bool false, .string { data := #[] }, .string { data := #[] }] 24)
  obtain ⟨f0, f1, f2⟩ := F.ce3
  go_enter Tryz.func29, Tryz.ntmps29
  go_wp2_with fail
  refine (hm _).mono ?_
  rintro r w1 ⟨rfl, hB⟩
  clear f0 f1 f2 hm
  replace F := F.keep hB
  replace Z := Z.keep hB
  replace hb := hb.trans (hB.mono hb.size)
  clear hB
  obtain ⟨f0, f1, f2⟩ := F.ce3
  go_wp2_with fail
  refine (hr _).mono ?_
  rintro r w2 ⟨B, rfl, X, hB1, hB2, hB⟩
  clear f0 f1 f2 hr F
  replace Z := Z.keep hB
  replace hb := hb.trans (hB.mono hb.size)
  clear hB
  have I0 := IntAt.zero w2
  have lz := Z.lt
  have lx := X.lt
  have hbs := hb.size
  have X2 := X.alloc (.cells #[.bool false, .slice none 0 0] 90)
  have Z2 := Z.allocd (.cells #[.bool false, .slice none 0 0] 90)
  have hb2 := hb.alloc hb.size (.cells #[.bool false, .slice none 0 0] 90)
  have HV := Lib.hid (And.intro I0 (And.intro X2 (And.intro Z2 (And.intro hb2 (And.intro lz (And.intro lx hbs))))))
  clear I0 X2 Z2 hb2 lz lx hbs X Z hb hB1 hB2
  go_wp2_with fail
  refine (ratnum_any B _).mono ?_
  rintro r w3 ⟨rfl, rfl⟩
  go_wp2_with fail
  refine (ratden_any B _).mono ?_
  rintro r w3 ⟨rfl, rfl⟩
  obtain ⟨I0, X2, Z2, hb2, lz, lx, hbs⟩ := HV.out
  clear HV
  go_wp2_with fail
  generalize w2.alloc (.cells #[.bool false, .slice none 0 0] 90) = v at *
  refine (idiv_any w2.heap.size B 0 B 2 x.num x.den v I0.room X2.1 X2.2 HX.out.2.2.2 (by have := HX.out.1; omega) (by have := HX.out.2.1; omega)).mono ?_
  rintro r w4 ⟨rfl, I4, hB4⟩
  replace Z2 := Z2.ofFar hB4.toFar (Nat.ne_of_lt lz)
  replace hb2 := hb2.trans (hB4.below hbs hb2.size)
  clear hB4 I0 X2 lz lx hbs
  have R0 := RRoom.new w4
  have lz := Z2.lt
  have li := I4.lt
  have hbs := hb2.size
  have I5 := I4.alloc (.cells #[.bool false, .slice none 0 0, .bool false, .slice none 0 0] 96)
  have Z5 := Z2.allocd (.cells #[.bool false, .slice none 0 0, .bool false, .slice none 0 0] 96)
  have hb5 := hb2.alloc hb2.size (.cells #[.bool false, .slice none 0 0, .bool false, .slice none 0 0] 96)
  have HW := Lib.hid (And.intro R0 (And.intro I5 (And.intro Z5 (And.intro hb5 (And.intro lz (And.intro li hbs))))))
  clear R0 I5 Z5 hb5 lz li hbs I4 Z2 hb2
  go_wp2_with fail
  obtain ⟨R0, I5, Z5, hb5, lz, li, hbs⟩ := HW.out
  clear HW
  generalize w4.alloc (.cells #[.bool false, .slice none 0 0, .bool false, .slice none 0 0] 96) = v6 at *
  refine (ratsetint_any w4.heap.size w2.heap.size (x.num / (x.den : Int)) v6 R0 I5 (Nat.ne_of_lt li) (by have := HX.out.2.2.1; omega)).mono ?_
  rintro r w5 ⟨rfl, R5, hF⟩
  replace Z5 := Z5.ofFar hF (Nat.ne_of_lt lz)
  replace hb5 := hb5.trans (hF.below hbs hb5.size)
  clear hF R0 I5 lz li hbs
  go_wp2_with fail
  refine (htd _ _ R5).mono ?_
  rintro r w6 ⟨rfl, hB⟩
  replace Z5 := Z5.keep hB
  replace hb5 := hb5.trans (hB.mono hb5.size)
  clear hB htd R5
  obtain ⟨zf0, zf1, zf2⟩ := Z5.fr3
  obtain ⟨z0, z1, z2⟩ := Z5.ce3
  have G0 : Blk (((w6.setCell ⟨w.heap.size + 1, 0, none⟩ (.bool tn)).setCell ⟨w.heap.size + 1, 1, none⟩ (.string tS)).setCell ⟨w.heap.size + 1, 2, none⟩ (.string tT)) (w.heap.size + 1) #[.bool tn, .string tS, .string tT] 24 := (((Z5.setAt 0 (.bool tn)).setAt 1 (.string tS)).setAt 2 (.string tT))
  obtain ⟨g0, g1, g2⟩ := G0.ce3
  have hbY := ((hb5.setCell (p := ⟨w.heap.size + 1, 0, none⟩) (Nat.le_add_right _ _) (.bool tn)).setCell (p := ⟨w.heap.size + 1, 1, none⟩) (Nat.le_add_right _ _) (.string tS)).setCell (p := ⟨w.heap.size + 1, 2, none⟩) (Nat.le_add_right _ _) (.string tT)
  have HG := Lib.hid (And.intro (And.intro g0 (And.intro g1 g2)) hbY)
  clear g0 g1 g2 hbY G0 Z5 hb5
  go_wp2
  obtain ⟨⟨g0, g1, g2⟩, hbY⟩ := HG.out
  exact bodyPost_ret (v := .tuple #[.agg #[.bool tn, .string tS, .string tT], .int .i64 te]) (by simp [results, Tryz.results29, go_sem, g0, g1, g2]) rfl ⟨rfl, hbY⟩
end Go.Proofs.YtbfnafcpjbdbpaaGreat

/- The plain law: the reference's exponent and rung are the program's. -/
namespace Go.Proofs.YtbfnafcpjbdbpaaGreat
open Go Go.RowKit Go.PlainAid Fil

theorem aM_half {n d : Nat} (hd : d ≠ 0) (q : Int) : aM n d (q + 1) * 2 ≤ aM n d q := by
  obtain ⟨m, hm⟩ : ∃ m, m = aM n d (q + 1) := ⟨_, rfl⟩
  rw [← hm]
  unfold aM at *
  rw [Nat.le_div_iff_mul_le (aY_pos hd _)]
  have h : m * aY d (q + 1) ≤ aX n (q + 1) := by rw [hm]; exact Nat.div_mul_le_self _ _
  clear hm
  unfold aX aY at *
  rcases Int.lt_or_le q 0 with h0 | h0
  · rw [show (q + 1).toNat = 0 by omega, Nat.pow_zero, Nat.mul_one] at h
    rw [show (-q).toNat = (-(q + 1)).toNat + 1 by omega, show q.toNat = 0 by omega, Nat.pow_succ, ← Nat.mul_assoc n, Nat.pow_zero, Nat.mul_one, Nat.mul_right_comm]
    omega
  · rw [show (-(q + 1)).toNat = 0 by omega, show (q + 1).toNat = q.toNat + 1 by omega, Nat.pow_succ, ← Nat.mul_assoc d, Nat.pow_zero, Nat.mul_one, ← Nat.mul_assoc m] at h
    rw [show (-q).toNat = 0 by omega, Nat.pow_zero, Nat.mul_one, Nat.mul_right_comm]
    exact h
theorem aM_far {n d : Nat} (hd : d ≠ 0) (q : Int) (k : Nat) : aM n d (q + ((k + 1 : Nat) : Int)) * 2 ≤ aM n d q := by
  induction k with
  | zero => exact aM_half hd q
  | succ k ih =>
    have := aM_half (n := n) hd (q + ((k + 1 : Nat) : Int))
    rw [show q + ((k + 1 + 1 : Nat) : Int) = q + ((k + 1 : Nat) : Int) + 1 by omega]
    omega
theorem AQ.lt {n d : Nat} (hd : d ≠ 0) {q p : Int} (h1 : AQ n d q) (h2 : AQ n d p) (h : q < p) : 971 < q := by
  rcases Int.lt_or_le 971 q with h3 | h3
  · exact h3
  · have := aM_far (n := n) hd q (p - q - 1).toNat
    rw [show q + (((p - q - 1).toNat + 1 : Nat) : Int) = p by omega] at this
    have := h1.2.2 h3
    have := h2.2.1 (by have := h1.1; omega)
    omega
theorem AQ.same {n d : Nat} (hd : d ≠ 0) {q p : Int} (h1 : AQ n d q) (h2 : AQ n d p) : aL n d q = aL n d p ∧ aC n d q = aC n d p ∧ aE n d q = aE n d p := by
  rcases Int.lt_trichotomy q p with h | h | h
  · have h3 := AQ.lt hd h1 h2 h
    have h4 : 971 < p := by omega
    unfold aL aC aE
    rw [if_pos h3, if_pos h4, if_pos h3, if_pos h4, if_pos h3, if_pos h4]
    exact ⟨rfl, rfl, rfl⟩
  · subst h; exact ⟨rfl, rfl, rfl⟩
  · have h3 := AQ.lt hd h2 h1 h
    have h4 : 971 < q := by omega
    unfold aL aC aE
    rw [if_pos h3, if_pos h4, if_pos h3, if_pos h4, if_pos h3, if_pos h4]
    exact ⟨rfl, rfl, rfl⟩
/-- the two quotients, brought to one measure -/
theorem scale {n d k : Nat} {Q : Int} (hk : (k : Int) = Q + fS n d) :
    fX n d * 2 ^ (-Q).toNat = aX n Q * 2 ^ (fS n d).toNat ∧ fY n d * 2 ^ k * 2 ^ (-Q).toNat = aY d Q * 2 ^ (fS n d).toNat := by
  unfold fX fY aX aY
  generalize fS n d = S at *
  constructor
  · rw [Nat.mul_assoc, Nat.mul_assoc, Nat.mul_comm (2 ^ S.toNat)]
  · rw [Nat.mul_assoc, Nat.mul_assoc, Nat.mul_assoc, ← Nat.pow_add, ← Nat.pow_add, ← Nat.pow_add]
    congr 2; omega
theorem scale_div {a b c e s t : Nat} (hs : 0 < s) (ht : 0 < t) (h1 : a * s = c * t) (h2 : b * s = e * t) : a / b = c / e ∧ a % b * s = c % e * t := by
  constructor
  · rw [← Nat.mul_div_mul_right a b hs, h1, h2, Nat.mul_div_mul_right c e ht]
  · rw [← Nat.mul_mod_mul_right, h1, h2, Nat.mul_mod_mul_right]
theorem scale_cmp {a b c e s t : Nat} (hs : 0 < s) (ht : 0 < t) (h1 : a * s = c * t) (h2 : b * s = e * t) : (a < b ↔ c < e) ∧ (a = b ↔ c = e) := by
  constructor
  · rw [← Nat.mul_lt_mul_right hs, h1, h2, Nat.mul_lt_mul_right ht]
  · constructor
    · intro h; subst h; exact Nat.eq_of_mul_eq_mul_right ht (h1.symm.trans h2)
    · intro h; subst h; exact Nat.eq_of_mul_eq_mul_right hs (h1.trans h2.symm)
theorem fS_k {n d : Nat} (hn : n ≠ 0) (hd : d ≠ 0) : ∃ k : Nat, (k : Int) = rdQ (fV n d) (fE n d) + fS n d ∧ 1 ≤ k := by
  have hq := fQ_lo hn hd
  have h := tl_Q (q := fQ n d) (t := fT n d) (by omega) (fT_le n d) (fS n d)
  have hb : 60 ≤ bl (fQ n d) := by
    rcases Nat.lt_or_ge (bl (fQ n d)) 60 with h1 | h1
    · have h2 := lt_bl (fQ n d)
      have h3 : 2 ^ bl (fQ n d) ≤ 2 ^ 59 := pmono (by omega)
      omega
    · exact h1
  unfold fV fE
  refine ⟨(rdQ (2 * fQ n d + fT n d) (-fS n d - 1) + fS n d).toNat, ?_, ?_⟩ <;> omega
theorem rdM_a {n d : Nat} (hn : n ≠ 0) (hd : d ≠ 0) : aM n d (rdQ (fV n d) (fE n d)) = rdM (fV n d) (fE n d) := by
  obtain ⟨k, hk, _⟩ := fS_k hn hd
  have hs := scale hk
  have hv := (scale_div (pp _) (pp _) hs.1 hs.2).1
  unfold aM
  rw [← hv, ← Nat.div_div_eq_div_mul]
  unfold fV fE at *
  exact (tl_M (fT_le n d) (fS n d) hk).symm
theorem AQ_rd {n d : Nat} (hn : n ≠ 0) (hd : d ≠ 0) : AQ n d (rdQ (fV n d) (fE n d)) := by
  have hV := fV_ne hn hd
  have h1 := rdM_lt hV (fE n d)
  refine ⟨rdQ_lo _ _, fun h => ?_, fun _ => ?_⟩
  · rw [rdM_a hn hd]; exact rdM_ge hV h
  · rw [rdM_a hn hd]; omega
theorem tp_Q {x : Nat} {e : Int} : 1024 ≤ tpI x e ↔ 971 < rdQ x e := by unfold rdQ; omega
theorem ar_L {n d : Nat} (hn : n ≠ 0) (hd : d ≠ 0) {Q : Int} (h : AQ n d Q) : rgL (fV n d) (fE n d) = aL n d Q := by
  rw [(AQ.same hd h (AQ_rd hn hd)).1]
  unfold rgL aL
  by_cases hb : 1024 ≤ tpI (fV n d) (fE n d)
  · rw [if_pos hb, if_pos (tp_Q.1 hb)]
  · rw [if_neg hb, if_neg (fun h => hb (tp_Q.2 h)), rdM_a hn hd]; rfl
theorem ar_up {n d : Nat} (hn : n ≠ 0) (hd : d ≠ 0) (hq : ¬ 971 < rdQ (fV n d) (fE n d)) :
    rdUp (fV n d) (fE n d) = (decide (0 < aC n d (rdQ (fV n d) (fE n d))) || (decide (aC n d (rdQ (fV n d) (fE n d)) = 0) && !aE n d (rdQ (fV n d) (fE n d)))) := by
  obtain ⟨k, hk, hk1⟩ := fS_k hn hd
  have hs := scale hk
  have hv := scale_div (pp _) (pp _) hs.1 hs.2
  have hU := tl_U (fT_le n d) (fS n d) hk hk1
  have hM := rdM_a hn hd
  have hMM := tl_M (fT_le n d) (fS n d) hk
  have eU : rdUp (fV n d) (fE n d) = rdUp (2 * fQ n d + fT n d) (-fS n d - 1) := rfl
  have eM : rdM (fV n d) (fE n d) = rdM (2 * fQ n d + fT n d) (-fS n d - 1) := rfl
  rw [eU, hU]
  unfold aC aE
  rw [if_neg hq, if_neg hq, hM, eM, hMM]
  generalize rdQ (fV n d) (fE n d) = Q at *
  obtain ⟨j, rfl⟩ : ∃ j, k = j + 1 := ⟨k - 1, by omega⟩
  have hmod : fX n d % (fY n d * 2 ^ (j + 1)) = fR n d + fY n d * (fQ n d % 2 ^ (j + 1)) := Nat.mod_mul
  rw [hmod] at hv
  have hcm := scale_cmp (a := fY n d * 2 ^ (j + 1)) (b := 2 * (fR n d + fY n d * (fQ n d % 2 ^ (j + 1)))) (c := aY d Q) (e := 2 * (aX n Q % aY d Q)) (pp _) (pp _) hs.2 (by rw [Nat.mul_assoc, hv.2, Nat.mul_assoc])
  have hz : aX n Q % aY d Q = 0 ↔ fR n d + fY n d * (fQ n d % 2 ^ (j + 1)) = 0 := by
    have p1 := pp (-Q).toNat
    have p2 := pp (fS n d).toNat
    constructor
    · intro h; rw [h, Nat.zero_mul] at hv; rcases Nat.mul_eq_zero.1 hv.2 with h | h <;> omega
    · intro h; rw [h, Nat.zero_mul] at hv; rcases Nat.mul_eq_zero.1 hv.2.symm with h | h <;> omega
  have hYp := fY_pos (n := n) hd
  have hpp := pp j
  have hR : fT n d = if fR n d = 0 then 0 else 1 := rfl
  have hRY : fR n d < fY n d := Nat.mod_lt _ hYp
  rw [show j + 1 - 1 = j by omega]
  rw [Nat.pow_succ] at *
  generalize fQ n d / (2 ^ j * 2) = m at *
  generalize fQ n d % (2 ^ j * 2) = o at *
  generalize fR n d = r at *
  generalize fT n d = t at *
  generalize fY n d = Y at *
  generalize aX n Q % aY d Q = ρ at *
  generalize aY d Q = B at *
  generalize 2 ^ j = p at *
  clear hs hv hU hM hMM eU eM hmod
  have e1 : Y * (p * 2) = 2 * (Y * p) := by rw [← Nat.mul_assoc, Nat.mul_comm]
  rw [e1] at hcm
  by_cases h1 : p < o
  · have h2 : Y * p + Y ≤ Y * o := by rw [← Nat.mul_succ]; exact Nat.mul_le_mul_left _ h1
    have h3 : B < 2 * ρ := hcm.1.1 (by omega)
    have h4 : ¬ ρ = 0 := by omega
    rw [decide_eq_true h1, if_neg h4, cmpZ_gt h3]; rfl
  · rw [decide_eq_false h1]
    by_cases h2 : o = p
    · subst h2
      by_cases hr0 : r = 0
      · have h3 : B = 2 * ρ := hcm.2.1 (by omega)
        have h4 : ¬ ρ = 0 := by
          intro h; have := hz.1 h
          have := Nat.mul_pos hYp hpp
          omega
        rw [if_pos hr0] at hR
        subst hR
        rw [if_neg h4, ← h3, cmpZ_eq]
        rcases Nat.mod_two_eq_zero_or_one m with h | h <;> simp [h]
      · have h3 : B < 2 * ρ := hcm.1.1 (by omega)
        have h4 : ¬ ρ = 0 := by omega
        rw [if_neg hr0] at hR
        subst hR
        rw [if_neg h4, cmpZ_gt h3]; simp
    · have h2b : o + 1 ≤ p := by omega
      have h3 : Y * o + Y ≤ Y * p := by rw [← Nat.mul_succ]; exact Nat.mul_le_mul_left _ h2b
      have h4 : 2 * ρ < B := by
        rcases Nat.lt_trichotomy (2 * ρ) B with h | h | h
        · exact h
        · have := hcm.2.2 h.symm; omega
        · have := hcm.1.2 h; omega
      rw [decide_eq_false h2]
      split
      · rfl
      · rw [cmpZ_lt h4]; rfl
theorem ar_N {n d : Nat} (hn : n ≠ 0) (hd : d ≠ 0) {Q : Int} (h : AQ n d Q) :
    rgN (fV n d) (fE n d) = aL n d Q + (decide (0 < aC n d Q) || (decide (aC n d Q = 0) && !aE n d Q)).toNat := by
  have hs := AQ.same hd h (AQ_rd hn hd)
  rw [hs.1, hs.2.1, hs.2.2]
  unfold rgN
  by_cases hb : 1024 ≤ tpI (fV n d) (fE n d)
  · have h1 := tp_Q.1 hb
    rw [if_pos hb]
    unfold aL aC aE
    rw [if_pos h1, if_pos h1, if_pos h1]; rfl
  · have h1 : ¬ 971 < rdQ (fV n d) (fE n d) := fun h => hb (tp_Q.2 h)
    rw [if_neg hb, ar_up hn hd h1]
    unfold aL
    rw [if_neg h1, rdM_a hn hd]; rfl
/-- where the number lies between the rungs -/
theorem ar_pos {n d : Nat} (hd : d ≠ 0) {Q : Int} (h : AQ n d Q) :
    aL n d Q ≤ 9218868437227405311 ∧ mv (aL n d Q) * d ≤ n * P74 ∧ (aC n d Q = -2 ↔ mv (aL n d Q) * d = n * P74) ∧ (aL n d Q = 9218868437227405311 ∨ n * P74 < mv (aL n d Q + 1) * d) := by
  obtain ⟨K, hK⟩ : ∃ K, K = 1074 := ⟨_, rfl⟩
  rw [P74_eq hK]
  obtain ⟨h0, h1, h2⟩ := h
  by_cases hQ : 971 < Q
  · unfold aL aC
    rw [if_pos hQ, if_pos hQ]
    have hm := h1 (by omega)
    have hle : aM n d Q * aY d Q ≤ aX n Q := Nat.div_mul_le_self _ _
    have hb : mv 9218868437227405312 * d ≤ n * 2 ^ K := by
      have e := mv_rung (m := 9007199254740992) (q := 971) (by omega) (fun _ => by omega) (by omega)
      rw [show (971 + 1074 : Int).toNat * 4503599627370496 + 9007199254740992 = 9218868437227405312 by rfl] at e
      rw [e]
      unfold aX aY at hle
      rw [show (-Q).toNat = 0 by omega, Nat.pow_zero, Nat.mul_one] at hle
      obtain ⟨J, hJ⟩ : ∃ J, J = (971 + 1074 : Int).toNat := ⟨_, rfl⟩
      rw [← hJ]
      have hJ2 : J + 1 ≤ Q.toNat + K := by omega
      calc 9007199254740992 * 2 ^ J * d = 4503599627370496 * d * 2 ^ (J + 1) := by rw [Nat.pow_succ, show 9007199254740992 = 4503599627370496 * 2 by rfl]; ac_rfl
        _ ≤ 4503599627370496 * d * 2 ^ (Q.toNat + K) := Nat.mul_le_mul_left _ (pmono hJ2)
        _ = 4503599627370496 * (d * 2 ^ Q.toNat) * 2 ^ K := by rw [Nat.pow_add]; ac_rfl
        _ ≤ aM n d Q * (d * 2 ^ Q.toNat) * 2 ^ K := Nat.mul_le_mul_right _ (Nat.mul_le_mul_right _ hm)
        _ ≤ n * 2 ^ K := Nat.mul_le_mul_right _ hle
    have hlt : mv 9218868437227405311 * d < mv 9218868437227405312 * d := Nat.mul_lt_mul_of_pos_right (mv_lt (by omega)) (by omega)
    exact ⟨Nat.le_refl _, by omega, ⟨fun h => by omega, fun h => by omega⟩, .inl rfl⟩
  · have hM := h2 (by omega)
    unfold aL aC
    rw [if_neg hQ, if_neg hQ]
    have e1 := mv_rung (m := aM n d Q) (q := Q) h0 h1 (by omega)
    have e2 := mv_rung (m := aM n d Q + 1) (q := Q) h0 (fun h => by have := h1 h; omega) (by omega)
    have hsum : aM n d Q * aY d Q + aX n Q % aY d Q = aX n Q := by unfold aM; rw [Nat.mul_comm]; exact Nat.div_add_mod _ _
    have hlt : aX n Q % aY d Q < aY d Q := Nat.mod_lt _ (aY_pos hd Q)
    obtain ⟨J, hJ⟩ : ∃ J, J = K - (-Q).toNat := ⟨_, rfl⟩
    have f1 : n * 2 ^ K = aX n Q * 2 ^ J := by unfold aX; rw [Nat.mul_assoc, ← Nat.pow_add]; congr 2; omega
    have f2 : 2 ^ (Q + 1074).toNat * d = aY d Q * 2 ^ J := by unfold aY; rw [Nat.mul_assoc, ← Nat.pow_add, Nat.mul_comm]; congr 2; omega
    rw [← Nat.add_assoc] at e2
    rw [e1, e2, Nat.mul_assoc, f1, f2, Nat.mul_assoc, f2, ← Nat.mul_assoc, ← Nat.mul_assoc]
    have pJ := pp J
    refine ⟨by omega, Nat.mul_le_mul_right _ (by omega), ?_, .inr (Nat.mul_lt_mul_of_pos_right (by rw [Nat.add_mul, Nat.one_mul]; omega) pJ)⟩
    constructor
    · intro h
      split at h
      · rename_i h3; rw [← hsum, h3, Nat.add_zero]
      · have : -1 ≤ cmpZ (2 * (aX n Q % aY d Q)) (aY d Q) := by unfold cmpZ; split <;> (try split) <;> omega
        omega
    · intro h
      have := Nat.eq_of_mul_eq_mul_right pJ h
      rw [if_pos (by omega)]
end Go.Proofs.YtbfnafcpjbdbpaaGreat

/- Below, Above, Float of the program and of the reference answer alike. -/
namespace Go.Proofs.YtbfnafcpjbdbpaaGreat
open Go Go.RowKit Go.PlainAid Fil

theorem cmpR_div {a b : Int} (hb : 0 < b) (y : Rat) : cmpR (Rat.divInt a b) y = cmpI (a * (y.den : Int)) (y.num * b) := by
  have hz : (Rat.divInt a b).num * b = a * ((Rat.divInt a b).den : Int) := (Rat.divInt_eq_divInt_iff (by have := (Rat.divInt a b).den_nz; omega) (by omega)).1 (Rat.num_divInt_den _)
  have hd : (0 : Int) < ((Rat.divInt a b).den : Int) := by have := (Rat.divInt a b).den_nz; omega
  rw [← cmpR_eq]
  generalize (Rat.divInt a b).num = p at *
  generalize ((Rat.divInt a b).den : Int) = q at *
  have e1 : q * (a * (y.den : Int)) = b * (p * (y.den : Int)) := by
    rw [← Int.mul_assoc, Int.mul_comm q, ← hz, Int.mul_comm p, Int.mul_assoc]
  have e2 : q * (y.num * b) = b * (y.num * q) := by rw [Int.mul_comm b, Int.mul_comm q, Int.mul_right_comm]
  have k1 : p * (y.den : Int) < y.num * q ↔ a * (y.den : Int) < y.num * b := by
    rw [← Int.mul_lt_mul_left (a := b) hb, ← e1, ← e2, Int.mul_lt_mul_left hd]
  have k2 : y.num * q < p * (y.den : Int) ↔ y.num * b < a * (y.den : Int) := by
    rw [← Int.mul_lt_mul_left (a := b) hb, ← e1, ← e2, Int.mul_lt_mul_left hd]
  unfold cmpI
  simp only [k1, k2]
theorem agI_val {x : Rat} {R : Nat} (h : R < 9218868437227405312) : agI (sg x.num) R x = cmpI (sz (sg x.num) (mv R * x.den)) (sz (sg x.num) (x.num.natAbs * P74)) := by
  unfold agI fRat
  rw [if_neg (by omega), cmpR_div (by have := P74_pos; omega), sz_mul_nat]
  congr 1
  rw [← sz_mul_nat, sz_self]
theorem agI_gt {x : Rat} {R : Nat} (h : R < 9218868437227405312) : 0 < agI (sg x.num) R x ↔ if sg x.num = true then mv R * x.den < x.num.natAbs * P74 else x.num.natAbs * P74 < mv R * x.den := by
  rw [agI_val h]
  generalize mv R * x.den = A
  generalize x.num.natAbs * P74 = B
  unfold cmpI sz
  cases sg x.num <;> simp <;> split <;> (try split) <;> omega
theorem agI_lt {x : Rat} {R : Nat} (h : R < 9218868437227405312) : agI (sg x.num) R x < 0 ↔ if sg x.num = true then x.num.natAbs * P74 < mv R * x.den else mv R * x.den < x.num.natAbs * P74 := by
  rw [agI_val h]
  generalize mv R * x.den = A
  generalize x.num.natAbs * P74 = B
  unfold cmpI sz
  cases sg x.num <;> simp <;> split <;> (try split) <;> omega
theorem agI_inf {N : Bool} {x : Rat} : agI N 9218868437227405312 x = if N then -1 else 1 := if_pos rfl
theorem word0_ne {N : Bool} {R : Nat} (h : R ≤ 9218868437227405312) (h0 : R ≠ 0) : (FloatKind.f64.format.order (Ieee.double.word N R) 0 == some .eq) = false := by
  rw [ord_word0 N h]; exact beq_eq_false_iff_ne.2 h0
set_option maxRecDepth 100000 in
set_option maxHeartbeats 1000000 in
theorem floors_some (x : Rat) (hx : Bts 4000 x) (h0 : x.num ≠ 0) : ∃ B A : Nat, (∀ W, Calls Tryz.prog 31 #[kA x] W fun r w' => r = .returned (.tuple #[.float .f64 (kFl x), .int .i64 0]) ∧ Below W.heap.size W w') ∧ (∀ W, Calls Tryz.prog 35 #[kA x] W fun r w' => r = .returned (.float .f64 (kFl x)) ∧ Below W.heap.size W w')
    ∧ (∀ W, Calls Tryz.prog 32 #[kA x] W fun r w' => r = .returned (.tuple #[.float .f64 B, .int .i64 0]) ∧ Below W.heap.size W w') ∧ (∀ W, Calls Tryz.prog 36 #[kA x] W fun r w' => r = .returned (.float .f64 B) ∧ Below W.heap.size W w')
    ∧ (∀ W, Calls Tryz.prog 33 #[kA x] W fun r w' => r = .returned (.tuple #[.float .f64 A, .int .i64 0]) ∧ Below W.heap.size W w') ∧ (∀ W, Calls Tryz.prog 37 #[kA x] W fun r w' => r = .returned (.float .f64 A) ∧ Below W.heap.size W w') := by
  have hd := x.den_nz
  have hn : x.num.natAbs ≠ 0 := by omega
  have fx : Fits x := hx.fits (by omega)
  obtain ⟨Q, hQ, har⟩ := p4around_any (sg x.num) x.num.natAbs x.den hn hd (by have := hx.1; omega) (by have := hx.2; omega)
  have hR : kRung x = _ := ar_N hn hd hQ
  obtain ⟨hL, hlo, hex, hhi⟩ := ar_pos hd hQ
  have hn0 : x.num.natAbs * P74 ≠ 0 := Nat.mul_ne_zero hn (by have := P74_pos; omega)
  have hT := (bstr_ne hn).1
  have hT2 := (bstr_ne hn).2
  have hag1 := fun (R : Nat) (h : R < 9218868437227405312) => agI_gt (x := x) h
  have hag2 := fun (R : Nat) (h : R < 9218868437227405312) => agI_lt (x := x) h
  have hgi := @agI_inf (sg x.num) x
  have hkf := fun W => kfloat_all x W fx
  have hFl : kFl x = Ieee.double.word (sg x.num) (kRung x) := by unfold kFl; rw [if_neg h0]
  obtain ⟨up, hup⟩ : ∃ up, up = (decide (0 < aC x.num.natAbs x.den Q) || (decide (aC x.num.natAbs x.den Q = 0) && !aE x.num.natAbs x.den Q)) := ⟨_, rfl⟩
  rw [← hup] at hR
  have hupc : up = true → aC x.num.natAbs x.den Q ≠ -2 := fun h e => by rw [hup, e] at h; simp at h
  have hka := fun W B (X : RatAt W B x) => kagainst_any B x (sg x.num) (kRung x) W X (fx.szd.mono (by omega)) (by rw [hR]; cases up <;> simp <;> omega)
  have hrng := agI_rng (sg x.num) (kRung x) x
  have hsgn := fun (v : Nat) (N : Bool) (h : v ≤ 9218868437227405312) (W : World) => p4signed_any N v W (by omega)
  have hbd := fun (N : Bool) (R : Nat) (h : R ≤ 9218868437227405312) (h2 : N = false ∨ R < 9218868437227405312) (W : World) => bdown_any N R W h h2
  have hbu := fun (N : Bool) (R : Nat) (h : R ≤ 9218868437227405312) (h2 : N = true ∨ R < 9218868437227405312) (W : World) => bup_any N R W h h2
  have PF : (∀ W, Calls Tryz.prog 35 #[kA x] W fun r w' => r = .returned (.float .f64 (kFl x)) ∧ Below W.heap.size W w') := fun W => by
    rw [hFl, hR]
    unfold kA
    generalize aL x.num.natAbs x.den Q = L at *
    generalize aC x.num.natAbs x.den Q = c at *
    generalize aE x.num.natAbs x.den Q = e at *
    by_cases c1 : 0 < c
    · obtain rfl : up = true := by rw [hup, decide_eq_true c1]; rfl
      exact p4float_gt _ _ L (L + 1) _ _ c e c1 W hT hT2 har (hsgn _ _ (by omega))
    · by_cases c2 : c = 0
      · subst c2
        cases e
        · obtain rfl : up = true := by rw [hup]; rfl
          exact p4float_odd _ _ L (L + 1) _ _ W hT hT2 har (hsgn _ _ (by omega))
        · obtain rfl : up = false := by rw [hup]; rfl
          exact p4float_even _ _ L (L + 1) _ _ W hT hT2 har (hsgn _ _ (by omega))
      · obtain rfl : up = false := by rw [hup, decide_eq_false c1, decide_eq_false c2]; rfl
        exact p4float_lt _ _ L (L + 1) _ _ c e c1 c2 W hT hT2 har (hsgn _ _ (by omega))
  have KB := fun (Y : Nat) (z : Bool) W => kbelow_by x (kFl x) Y (agI (sg x.num) (kRung x) x) z W fx hkf (fun W B X => by rw [hFl]; exact hka W B X) hrng.1 hrng.2
  have KA := fun (Y : Nat) W => kabove_by x (kFl x) Y (agI (sg x.num) (kRung x) x) W fx hkf (fun W B X => by rw [hFl]; exact hka W B X) hrng.1 hrng.2
  have hbL := fun h => hag1 (aL x.num.natAbs x.den Q) h
  generalize hLL : aL x.num.natAbs x.den Q = L at *
  generalize aC x.num.natAbs x.den Q = c at *
  generalize aE x.num.natAbs x.den Q = e at *
  generalize x.num.natAbs * P74 = A0 at *
  have hL1 : L = 9218868437227405311 ∨ L + 1 < 9218868437227405312 := by omega
  have hup2 : up = true → mv L * x.den < A0 := fun h => by
    have := hupc h
    rcases Nat.lt_or_ge (mv L * x.den) A0 with h1 | h1
    · exact h1
    · exact absurd (hex.2 (by omega)) this
  have hcases : (up = false ∧ kRung x = L) ∨ (up = true ∧ kRung x = L + 1 ∧ mv L * x.den < A0 ∧ c ≠ -2) := by
    cases hu : up
    · exact .inl ⟨rfl, by rw [hR, hu]; rfl⟩
    · exact .inr ⟨rfl, by rw [hR, hu]; rfl, hup2 hu, hupc hu⟩
  have hL0 : c = -2 → L ≠ 0 := fun h e => by
    have := hex.1 h
    rw [e, mv_zero, Nat.zero_mul] at this
    omega
  clear hR hup hup2 hupc hLL hka hrng hkf hbL
  generalize kRung x = R at *
  cases hN : sg x.num
  · -- the number is above zero
    rw [hN] at hag1 hag2 hgi hFl KB KA har
    simp only [Bool.false_eq_true, if_false] at hag1 hag2 hgi
    have up1 : agI false (L + 1) x < 0 → False := fun h => by
      rcases hL1 with h1 | h1
      · rw [show L + 1 = 9218868437227405312 by omega, hgi] at h; omega
      · have := (hag2 (L + 1) h1).1 h; omega
    have up2 : 0 < agI false (L + 1) x := by
      rcases hL1 with h1 | h1
      · rw [show L + 1 = 9218868437227405312 by omega, hgi]; omega
      · exact (hag1 (L + 1) h1).2 (by omega)
    refine ⟨L, if c = -2 then L else L + 1, fun W => kfloat_all x W fx, PF, fun W => ?_, fun W => ?_, fun W => ?_, fun W => ?_⟩
    · have e : (if (L == 0) = true then 0 else L) = L := by
        by_cases h : L = 0
        · rw [h]; rfl
        · rw [if_neg (by rw [beq_eq_false_iff_ne.2 h]; simp)]
      have := KB L (L == 0) W ?_ ?_ (ord_word0 (R := L) false (by omega))
      · rwa [e] at this
      · intro hg W
        rcases hcases with ⟨_, hRL⟩ | ⟨_, hRL, hlt, hc⟩
        · rw [hRL] at hg; have := (hag1 L (by omega)).1 hg; omega
        · rw [hFl, hRL]
          have := hbd false (L + 1) (by omega) (.inl rfl) W
          rwa [show dnW false (L + 1) = L by unfold dnW; simp] at this
      · intro hg
        rcases hcases with ⟨_, hRL⟩ | ⟨_, hRL, hlt, hc⟩
        · rw [hFl, hRL]; rfl
        · rw [hRL] at hg; exact absurd up2 hg
    · unfold kA; rw [hN]
      exact p4below_f _ _ L (L + 1) L c e W hT hT2 har (hsgn L false (by omega))
    · refine KA _ W ?_ ?_
      · intro hg W
        rcases hcases with ⟨_, hRL⟩ | ⟨_, hRL, hlt, hc⟩
        · rw [hRL] at hg
          have h1 := (hag2 L (by omega)).1 hg
          rw [if_neg (fun h => by have := hex.1 h; omega), hFl, hRL]
          have := hbu false L (by omega) (.inr (by omega)) W
          rwa [show upW false L = L + 1 by unfold upW; split <;> simp_all] at this
        · rw [hRL] at hg; exact absurd hg up1
      · intro hg
        rcases hcases with ⟨_, hRL⟩ | ⟨_, hRL, hlt, hc⟩
        · rw [hRL] at hg
          have h1 : ¬ mv L * x.den < A0 := fun h => hg ((hag2 L (by omega)).2 h)
          rw [if_pos (hex.2 (by omega)), hFl, hRL]; rfl
        · rw [if_neg hc, hFl, hRL]; rfl
    · unfold kA; rw [hN]
      by_cases hc : c = -2
      · subst hc
        rw [if_pos rfl]
        exact p4above_x _ _ L (L + 1) L e W hT hT2 har (hsgn L false (by omega))
      · rw [if_neg hc]
        exact p4above_f _ _ L (L + 1) c e hc W hT hT2 har
  · -- the number is below zero
    rw [hN] at hag1 hag2 hgi hFl KB KA har
    simp only [if_true] at hag1 hag2 hgi
    have up1 : 0 < agI true (L + 1) x → False := fun h => by
      rcases hL1 with h1 | h1
      · rw [show L + 1 = 9218868437227405312 by omega, hgi] at h; omega
      · have := (hag1 (L + 1) h1).1 h; omega
    have up2 : agI true (L + 1) x < 0 := by
      rcases hL1 with h1 | h1
      · rw [show L + 1 = 9218868437227405312 by omega, hgi]; omega
      · exact (hag2 (L + 1) h1).2 (by omega)
    refine ⟨if c = -2 then Ieee.double.word true L else Ieee.double.word true (L + 1), Ieee.double.word true L, fun W => kfloat_all x W fx, PF, fun W => ?_, fun W => ?_, fun W => ?_, fun W => ?_⟩
    · have := KB (if c = -2 then Ieee.double.word true L else Ieee.double.word true (L + 1)) false W ?_ ?_ ?_
      · simpa only [Bool.false_eq_true, if_false] using this
      · intro hg W
        rcases hcases with ⟨_, hRL⟩ | ⟨_, hRL, hlt, hc⟩
        · rw [hRL] at hg
          have h1 := (hag1 L (by omega)).1 hg
          rw [if_neg (fun h => by have := hex.1 h; omega), hFl, hRL]
          have := hbd true L (by omega) (.inr (by omega)) W
          rwa [show dnW true L = Ieee.double.word true (L + 1) by
            unfold dnW
            split
            · rename_i h; rw [h]; rfl
            · rfl] at this
        · rw [hRL] at hg; exact absurd hg up1
      · intro hg
        rcases hcases with ⟨_, hRL⟩ | ⟨_, hRL, hlt, hc⟩
        · rw [hRL] at hg
          have h1 : ¬ mv L * x.den < A0 := fun h => hg ((hag1 L (by omega)).2 h)
          rw [if_pos (hex.2 (by omega)), hFl, hRL]
        · rw [if_neg hc, hFl, hRL]
      · split
        · rename_i h; exact word0_ne (by omega) (hL0 h)
        · exact word0_ne (by omega) (by omega)
    · unfold kA; rw [hN]
      by_cases hc : c = -2
      · subst hc
        rw [if_pos rfl]
        exact p4below_x _ _ L (L + 1) _ e W hT hT2 har (hsgn L true (by omega))
      · rw [if_neg hc]
        exact p4below_t _ _ L (L + 1) _ c e hc W hT hT2 har (hsgn (L + 1) true (by omega))
    · refine KA _ W ?_ ?_
      · intro hg W
        rcases hcases with ⟨_, hRL⟩ | ⟨_, hRL, hlt, hc⟩
        · rw [hRL] at hg; have := (hag2 L (by omega)).1 hg; omega
        · rw [hFl, hRL]
          have := hbu true (L + 1) (by omega) (.inl rfl) W
          rwa [show upW true (L + 1) = Ieee.double.word true L by unfold upW; simp] at this
      · intro hg
        rcases hcases with ⟨_, hRL⟩ | ⟨_, hRL, hlt, hc⟩
        · rw [hFl, hRL]
        · rw [hRL] at hg; exact absurd up2 hg
    · unfold kA; rw [hN]
      exact p4above_t _ _ L (L + 1) _ c e W hT hT2 har (hsgn L true (by omega))
end Go.Proofs.YtbfnafcpjbdbpaaGreat
