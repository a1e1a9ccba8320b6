/- The walk over dyad.made. -/
import Derived.Test.YtgcifpjhhoalmaaDoorDd
namespace Go.Proofs.YtgcifpjhhoalmaaDoor
open Go Go.RowKit Go.PlainAid Fil

/-- what made answers: is there such a Dyad? its sign, magnitude, power; the error -/
def mkOk (z e : Int) : Bool := decide (z = 0) || (decide (Fil.dn 8 (z.natAbs / 2 ^ tz z.natAbs) ≤ 16384) && decide (-1048576 ≤ e + tz z.natAbs) && decide (e + tz z.natAbs ≤ 1048576))
def mkN (z e : Int) : Bool := mkOk z e && sg z
def mkX (z e : Int) : Nat := if mkOk z e then z.natAbs / 2 ^ tz z.natAbs else 0
def mkE (z e : Int) : Int := if mkOk z e && decide (z ≠ 0) then e + tz z.natAbs else 0
def mkR (z e : Int) : Int := if mkOk z e then 0 else 4
theorem mk_zero (e : Int) : mkOk 0 e = true ∧ mkN 0 e = false ∧ mkX 0 e = 0 ∧ mkE 0 e = 0 ∧ mkR 0 e = 0 := by
  have h : mkOk 0 e = true := by simp [mkOk]
  refine ⟨h, by simp [mkN, h, sg], by simp [mkX, h], by simp [mkE], by simp [mkR, h]⟩
theorem mk_bad {z e : Int} (h : mkOk z e = false) : mkN z e = false ∧ mkX z e = 0 ∧ mkE z e = 0 ∧ mkR z e = 4 := by
  refine ⟨by simp [mkN, h], by simp [mkX, h], by simp [mkE, h], by simp [mkR, h]⟩
theorem mk_good {z e : Int} (h : mkOk z e = true) (hz : z ≠ 0) : mkN z e = sg z ∧ mkX z e = z.natAbs / 2 ^ tz z.natAbs ∧ mkE z e = e + tz z.natAbs ∧ mkR z e = 0 := by
  refine ⟨by simp [mkN, h], by simp [mkX, h], by simp [mkE, h, hz], by simp [mkR, h]⟩
theorem mkOk_no1 {z e : Int} (hz : z ≠ 0) (h : ¬ Fil.dn 8 (z.natAbs / 2 ^ tz z.natAbs) ≤ 16384) : mkOk z e = false := by
  unfold mkOk; rw [decide_eq_false hz, decide_eq_false h]; rfl
theorem mkOk_no2 {z e : Int} (hz : z ≠ 0) (h : ¬ -1048576 ≤ e + tz z.natAbs) : mkOk z e = false := by
  unfold mkOk; rw [decide_eq_false hz, decide_eq_false h]; simp
theorem mkOk_no3 {z e : Int} (hz : z ≠ 0) (h : ¬ e + tz z.natAbs ≤ 1048576) : mkOk z e = false := by
  unfold mkOk; rw [decide_eq_false hz, decide_eq_false h]; simp
theorem mkOk_yes {z e : Int} (h1 : Fil.dn 8 (z.natAbs / 2 ^ tz z.natAbs) ≤ 16384) (h2 : -1048576 ≤ e + tz z.natAbs) (h3 : e + tz z.natAbs ≤ 1048576) : mkOk z e = true := by
  unfold mkOk; rw [decide_eq_true h1, decide_eq_true h2, decide_eq_true h3]; simp
theorem mk_ok (z e : Int) : okD (mkN z e) (mkX z e) (mkE z e) := by
  cases h : mkOk z e
  · obtain ⟨h1, h2, h3, _⟩ := mk_bad h
    rw [h1, h2, h3]; exact okD.zero
  · by_cases hz : z = 0
    · subst hz
      obtain ⟨_, h1, h2, h3, _⟩ := mk_zero e
      rw [h1, h2, h3]; exact okD.zero
    · obtain ⟨h1, h2, h3, _⟩ := mk_good h hz
      rw [h1, h2, h3]
      unfold mkOk at h
      rw [decide_eq_false hz] at h
      simp only [Bool.false_or, Bool.and_eq_true, decide_eq_true_eq] at h
      exact .inr ⟨tz_div (by omega), h.1.1, h.1.2, h.2⟩

theorem run_back (w : World) (g x : Nat) (h : w.rowIs g 5 (Fil.dn 8 x) (fun i => b8 x (Fil.dn 8 x - 1 - i))) (c : Nat) :
    (convert 148 22 (.slice (some ⟨g, 0, none⟩) (Fil.dn 8 x) c)).run Tryd.prog w = .ok (.string (bstr x)) w := by
  have := run_convert_bytes_back (P := Tryd.prog) w 148 22 5 ⟨g, 0, none⟩ c (bs x) Tryd.underlying148 Tryd.underlying5 Tryd.underlying22 (fun j hj => by
    have hj' : j < Fil.dn 8 x := by rw [bs_length] at hj; exact hj
    have h1 := h.cell hj'
    have e : (Addr.add ⟨g, 0, none⟩ j) = ⟨g, j, none⟩ := by unfold Addr.add; split <;> simp_all
    rw [e, h1, bs_get]; rfl)
  rw [bs_length] at this
  exact this

theorem tz_small {x : Nat} (h : Fil.dn 32 x ≤ 1048576) : tz x ≤ 33554432 := by
  by_cases h0 : x = 0
  · subst h0; rw [tz_zero]; omega
  · have h1 := tz_le_log h0
    have h2 := lt_of_dn (k := 32) (by omega) h
    have := (Nat.log2_lt h0).2 h2
    omega

theorem shrZ_nat (x k : Nat) : shrZ (x : Int) k = ((x / 2 ^ k : Nat) : Int) := by
  unfold shrZ sz sg
  have h : ¬ ((x : Int) < 0) := by omega
  simp [h]
theorem sign_sg (z : Int) : decide (z.sign < 0) = sg z := by
  unfold sg
  rcases Int.lt_trichotomy z 0 with h | h | h
  · rw [Int.sign_eq_neg_one_of_neg h]; simp [h]
  · subst h; rfl
  · rw [Int.sign_eq_one_of_pos h]; simp; omega
theorem bstr_zero : bstr 0 = { data := #[] } := by unfold bstr; rw [bs_zero]
/-- an answer of a Dyad and an error -/
def dyR (neg : Bool) (x : Nat) (e r : Int) : Value := .tuple #[.agg #[.bool neg, .string (bstr x), .int .i64 e], .int .i64 r]
theorem dyR_eq {neg neg' : Bool} {x x' : Nat} {e e' r r' : Int} (h : neg = neg' ∧ x = x' ∧ e = e' ∧ r = r') : Ending.returned (dyR neg x e r) = .returned (dyR neg' x' e' r') := by
  obtain ⟨rfl, rfl, rfl, rfl⟩ := h; rfl
theorem dyR_none {neg : Bool} {x : Nat} {e r r' : Int} (h : neg = false ∧ x = 0 ∧ e = 0 ∧ r = r') : Ending.returned (.tuple #[.agg #[.bool false, .string { data := #[] }, .int .i64 0], .int .i64 r']) = .returned (dyR neg x e r) := by
  obtain ⟨rfl, rfl, rfl, rfl⟩ := h; rw [← bstr_zero]; rfl

set_option maxHeartbeats 4000000 in
theorem made_any (b o : Nat) (z e : Int) (w : World) (h : IntAt w b o z) (hz : Fil.dn 32 z.natAbs ≤ 1048576) (hT : Tab w) (he1 : -9223372036854775808 ≤ e) (he2 : e ≤ 9223372036854775807) :
    Calls Tryd.prog 111 #[.pointer (some ⟨b, o, none⟩), .int .i64 e] w fun r w' => r = .returned (dyR (mkN z e) (mkX z e) (mkE z e) (mkR z e)) ∧ Below w.heap.size w w' := by
  have hb0 : Below w.heap.size w (w.alloc (.cells #[.bool false, .string ByteArray.empty, .int .i64 0] 24)) := (Below.refl _ _).alloc (Nat.le_refl _) _
  have l0 := h.lt
  by_cases h0 : z = 0
  · subst h0
    obtain ⟨_, m1, m2, m3, m4⟩ := mk_zero e
    have H := Lib.hid (And.intro m1 (And.intro m2 (And.intro m3 m4)))
    clear m1 m2 m3 m4 he1 he2
    go_enter Tryd.func111, Tryd.ntmps111
    go_wp2_with (go_at_call 150; go_must (refine (sign_any b o 0 _ (h.alloc _)).mono ?_); rintro r w1 ⟨rfl, rfl⟩)
    go_returns
    exact ⟨dyR_none H.out, (Below.refl _ _).alloc (Nat.le_refl _) _⟩
  · have hzs : (z.sign == 0) = false := by
      rcases Int.lt_or_gt_of_ne h0 with h1 | h1
      · rw [Int.sign_eq_neg_one_of_neg h1]; rfl
      · rw [Int.sign_eq_one_of_pos h1]; rfl
    have ht := tz_small hz
    have ht0 : 0 ≤ (tz z.natAbs : Int) := by omega
    by_cases hf : 1099511627776 < e
    · have hk : mkOk z e = false := mkOk_no3 h0 (by omega)
      obtain ⟨m1, m2, m3, m4⟩ := mk_bad hk
      have H := Lib.hid (And.intro m1 (And.intro m2 (And.intro m3 m4)))
      clear m1 m2 m3 m4 hk ht0 ht
      go_enter Tryd.func111, Tryd.ntmps111
      go_wp2_with (go_at_call 150; go_must (refine (sign_any b o z _ (h.alloc _)).mono ?_); rintro r w1 ⟨rfl, rfl⟩)
      go_returns
      exact ⟨dyR_none H.out, (Below.refl _ _).alloc (Nat.le_refl _) _⟩
    · by_cases hf2 : e < -1099511627776
      · have hk : mkOk z e = false := mkOk_no2 h0 (by omega)
        obtain ⟨m1, m2, m3, m4⟩ := mk_bad hk
        have H := Lib.hid (And.intro m1 (And.intro m2 (And.intro m3 m4)))
        clear m1 m2 m3 m4 hk ht0 ht
        go_enter Tryd.func111, Tryd.ntmps111
        go_wp2_with (go_at_call 150; go_must (refine (sign_any b o z _ (h.alloc _)).mono ?_); rintro r w1 ⟨rfl, rfl⟩)
        go_returns
        exact ⟨dyR_none H.out, (Below.refl _ _).alloc (Nat.le_refl _) _⟩
      · have hT1 := Lib.hid (hT.alloc (.cells #[.bool false, .string { data := #[] }, .int .i64 0] 24))
        have hd := Nat.le_trans hz (show 1048576 ≤ 1099511627776 by omega)
        have hle := Nat.div_le_self z.natAbs (2 ^ tz z.natAbs)
        have hz2 : Fil.dn 32 (z.natAbs / 2 ^ tz z.natAbs) ≤ 1048576 := Nat.le_trans (dn_mono (by omega) hle) hz
        have hHT := Lib.hid hT
        have H0 := Lib.hid h0
        clear hT hle h0
        go_enter Tryd.func111, Tryd.ntmps111
        go_wp2_with (first
          | (go_at_call 150; go_must (refine (sign_any b o z _ (h.alloc _)).mono ?_); rintro r w1 ⟨rfl, rfl⟩)
          | (go_at_call 151; go_must (refine (tzb_any b o z _ (h.alloc _) hd hT1.out).mono ?_); rintro r w1 ⟨rfl, rfl⟩))
        have hbA : Below w.heap.size w ((w.alloc (Obj.cells #[Value.bool false, Value.string { data := #[] }, Value.int IntKind.i64 0] 24)).alloc (Obj.cells #[Value.bool false, Value.slice none 0 0] 146)) := ((Below.refl _ _).alloc (Nat.le_refl _) _).alloc (by simp) _
        have hrA := Room.new (o := 0) (w.alloc (Obj.cells #[Value.bool false, Value.string { data := #[] }, Value.int IntKind.i64 0] 24)) 146 #[Value.bool false, Value.slice none 0 0] (by decide) (by simp)
        have hrB := Room.new (o := 0) ((w.alloc (Obj.cells #[Value.bool false, Value.string { data := #[] }, Value.int IntKind.i64 0] 24)).alloc (Obj.cells #[Value.bool false, Value.slice none 0 0] 146)) 146 #[Value.bool false, Value.slice none 0 0] (by decide) (by simp)
        have hxA : Below (w.alloc (Obj.cells #[Value.bool false, Value.string { data := #[] }, Value.int IntKind.i64 0] 24)).heap.size (w.alloc (Obj.cells #[Value.bool false, Value.string { data := #[] }, Value.int IntKind.i64 0] 24)) _ := ((Below.refl _ _).alloc (Nat.le_refl _) (Obj.cells #[Value.bool false, Value.slice none 0 0] 146)).alloc (by simp) (Obj.cells #[Value.bool false, Value.slice none 0 0] 146)
        have hbB := hbA.alloc hbA.size (Obj.cells #[Value.bool false, Value.slice none 0 0] 146)
        have hs1 : (w.alloc (Obj.cells #[Value.bool false, Value.string { data := #[] }, Value.int IntKind.i64 0] 24)).heap.size = w.heap.size + 1 := by simp
        have hs2 : ((w.alloc (Obj.cells #[Value.bool false, Value.string { data := #[] }, Value.int IntKind.i64 0] 24)).alloc (Obj.cells #[Value.bool false, Value.slice none 0 0] 146)).heap.size = w.heap.size + 1 + 1 := by simp
        rw [hs1] at hrA
        rw [hs2] at hrB
        have hrA2 := hrA.alloc (Obj.cells #[Value.bool false, Value.slice none 0 0] 146)
        have hI0 := h.below hbB
        have hT2 := hHT.out.below hbB
        refine (abs_any (w.heap.size + 1 + 1) 0 b o z _ hrB hI0 hd).mono ?_
        rintro r w1 ⟨rfl, hI1, hB1⟩
        have hx1 := hxA.trans (hB1.below (by rw [hs1]; omega) hxA.size)
        have hb1 : Below w.heap.size w w1 := hbB.trans (hB1.below (by omega) hbB.size)
        have hrA3 := hrA2.but hB1
        have hT3 := Lib.hid (hHT.out.below hb1)
        clear hrA hrB hrA2 hI0 hT2 hbA hbB hs2 hb0 hxA
        have Hs1 := Lib.hid hs1
        have Hx1 := Lib.hid hx1
        clear hs1 hx1
        go_wp2_with fail
        refine (rsh_any (w.heap.size + 1) 0 (w.heap.size + 1 + 1) 0 (tz z.natAbs) (z.natAbs : Int) _ hrA3 hI1 (by rw [Int.natAbs_natCast]; omega) (by omega) hT3.out).mono ?_
        rintro r w2 ⟨rfl, hI2, hB2⟩
        rw [shrZ_nat] at hI2
        have hx2 := Lib.hid (Hx1.out.trans (hB2.below (by rw [Hs1.out]; omega) Hx1.out.size))
        have hb2 : Below w.heap.size w w2 := hb1.trans (hB2.below (by omega) hb1.size)
        go_wp2_with fail
        refine (bytes_any (w.heap.size + 1) 0 _ _ hI2 (by rw [Int.natAbs_natCast]; omega)).mono ?_
        rintro r w3 ⟨rfl, hrow, hb3⟩
        rw [Int.natAbs_natCast] at hrow ⊢
        have hb4 : Below w.heap.size w w3 := hb2.trans (hb3.mono hb2.size)
        have hI4 := h.below hb4
        have hx3 := hx2.out.trans (hb3.mono hx2.out.size)
        obtain ⟨c0, c1, c2⟩ := box_cells w false { data := #[] } 0 hx3
        have f0 := box_free w false { data := #[] } 0 hx3 0
        have f1 := box_free w false { data := #[] } 0 hx3 1
        have f2 := box_free w false { data := #[] } 0 hx3 2
        have hrb := Lib.hid (run_back w3.drew w2.heap.size (z.natAbs / 2 ^ tz z.natAbs) hrow)
        have hz1 := H0.out
        have hbZ : Below w.heap.size w (((w3.setCell ⟨w.heap.size, 0, none⟩ (.bool false)).setCell ⟨w.heap.size, 1, none⟩ (.string { data := #[] })).setCell ⟨w.heap.size, 2, none⟩ (.int .i64 0)) := ((hb4.setCell (Nat.le_refl _) _).setCell (Nat.le_refl _) _).setCell (Nat.le_refl _) _
        have hM : Fil.dn 8 (z.natAbs / 2 ^ tz z.natAbs) ≤ 4294967296 := by
          have h1 := dn8_le32 (z.natAbs / 2 ^ tz z.natAbs)
          omega
        clear hrow hb3 hI2 hB2 hx3 hB1 hI1 Hx1 hx2 Hs1 hT3 hb1 hb2 hHT hT1 hrA3
        have HI4 := Lib.hid hI4
        have HT := Lib.hid ht
        clear hI4 hz2
        by_cases g1 : Fil.dn 8 (z.natAbs / 2 ^ tz z.natAbs) ≤ 16384
        · by_cases g2 : e + (tz z.natAbs : Int) ≤ 1048576
          · by_cases g3 : -1048576 ≤ e + (tz z.natAbs : Int)
            · have H := Lib.hid (mk_good (mkOk_yes g1 g3 g2) hz1)
              clear hz1 hbZ
              go_wp2
              refine wp_region_cut 7 (by kernel_rfl) (by kernel_rfl) ?_
              rintro W rfl
              simp only [List.take_succ_cons, List.take_zero, List.drop_succ_cons, List.drop_zero]
              refine wpAny_of_held (S := fun w' : World => w' = w3.drew) _ _ _ _ ?_
              have hHeld : (fun w' : World => w' = w3.drew) w3.drew := rfl
              have hrb2 := hrb.out
              refine wpAnyH_take (i := 0) (v := _) (by first | (simp only [List.getElem?_toArray, List.getElem?_cons_zero]; rfl) | rfl) (by kernel_rfl) (by kernel_rfl) (by kernel_rfl) (by exact fun _ _ _ h => h) (Or.inl ⟨by rfl, by (intro w hSw; (try dsimp only at hSw); go_simp; try with_reducible rfl)⟩) (by assumption) ?_
              (try dsimp only [Act.put]); (try go_frame)
              refine wpAnyH_take (i := 3) (v := _) (by first | (simp only [List.getElem?_toArray, List.getElem?_cons_zero, List.getElem?_cons_succ]; rfl) | rfl) (by kernel_rfl) (by kernel_rfl) (by kernel_rfl) (by exact fun _ _ _ h => h) (Or.inl ⟨by rfl, by (intro w hSw; (try dsimp only at hSw); go_simp; try with_reducible rfl)⟩) (by assumption) ?_
              (try dsimp only [Act.put]); (try go_frame)
              refine wpAnyH_take (i := 4) (v := _) (by first | (simp only [List.getElem?_toArray, List.getElem?_cons_zero, List.getElem?_cons_succ]; rfl) | rfl) (by kernel_rfl) (by kernel_rfl) (by kernel_rfl) (by exact fun _ _ _ h => h) (Or.inl ⟨by rfl, by (intro w hSw; (try dsimp only at hSw); go_simp; try with_reducible rfl)⟩) (by assumption) ?_
              (try dsimp only [Act.put]); (try go_frame)
              refine wpAnyH_take (i := 5) (v := _) (by first | (simp only [List.getElem?_toArray, List.getElem?_cons_zero, List.getElem?_cons_succ]; rfl) | rfl) (by kernel_rfl) (by kernel_rfl) (by kernel_rfl) (by exact fun _ _ _ h => h) (Or.inl ⟨by rfl, by (intro w hSw; (try dsimp only at hSw); go_simp; try with_reducible rfl)⟩) (by assumption) ?_
              (try dsimp only [Act.put]); (try go_frame)
              refine wpAnyH_ready (rs := [1]) (by kernel_rfl) (by simp) ?_
              refine AllReadyH.cons rfl (fun K hK => ?_) AllReadyH.nil
              go_simp
              refine (sign_any b o z w3.drew (by exact HI4.out)).mono ?_
              rintro r w4 ⟨rfl, rfl⟩
              refine hK.out _ _ ?_ (fun hHeld => ?_)
              · rfl
              clear hK K
              (try dsimp only [Act.put]); (try go_frame)
              refine wpAnyH_take (i := 2) (v := _) (by first | (simp only [List.getElem?_toArray, List.getElem?_cons_zero, List.getElem?_cons_succ]; rfl) | rfl) (by kernel_rfl) (by kernel_rfl) (by kernel_rfl) (by exact fun _ _ _ h => h) (Or.inl ⟨by rfl, by (intro w hSw; (try dsimp only at hSw); go_simp; try with_reducible rfl)⟩) (by assumption) ?_
              (try dsimp only [Act.put]); (try go_frame)
              refine wpAnyH_take (i := 6) (v := _) (by first | (simp only [List.getElem?_toArray, List.getElem?_cons_zero, List.getElem?_cons_succ]; rfl) | rfl) (by kernel_rfl) (by kernel_rfl) (by kernel_rfl) (by exact fun _ _ _ h => h) (Or.inl ⟨by rfl, by (intro w hSw; (try dsimp only at hSw); go_simp; try with_reducible rfl)⟩) (by assumption) ?_
              (try dsimp only [Act.put]); (try go_frame)
              refine wpAnyH_done (by kernel_rfl) ?_ _
              try simp only [QCut]
              go_wp2
              exact bodyPost_ret (v := .tuple #[.agg #[.bool (decide (z.sign < 0)), .string (bstr (z.natAbs / 2 ^ tz z.natAbs)), .int .i64 (e + (tz z.natAbs : Int))], .int .i64 0]) (by simp [results, Tryd.results111, go_sem, c0, c1, c2]) rfl
                ⟨dyR_eq ⟨(sign_sg z).trans H.out.1.symm, H.out.2.1.symm, H.out.2.2.1.symm, H.out.2.2.2.symm⟩, ((hb4.drew.setCell (Nat.le_refl _) _).setCell (Nat.le_refl _) _).setCell (Nat.le_refl _) _⟩
            · have H := Lib.hid (mk_bad (mkOk_no2 hz1 g3))
              clear hz1
              go_wp2
              exact bodyPost_ret (v := .tuple #[.agg #[.bool false, .string { data := #[] }, .int .i64 0], .int .i64 4]) (by simp [results, Tryd.results111, go_sem, c0, c1, c2]) rfl ⟨dyR_none H.out, hbZ⟩
          · have H := Lib.hid (mk_bad (mkOk_no3 hz1 g2))
            clear hz1
            go_wp2
            exact bodyPost_ret (v := .tuple #[.agg #[.bool false, .string { data := #[] }, .int .i64 0], .int .i64 4]) (by simp [results, Tryd.results111, go_sem, c0, c1, c2]) rfl ⟨dyR_none H.out, hbZ⟩
        · have H := Lib.hid (mk_bad (e := e) (mkOk_no1 hz1 g1))
          clear hz1
          go_wp2
          exact bodyPost_ret (v := .tuple #[.agg #[.bool false, .string { data := #[] }, .int .i64 0], .int .i64 4]) (by simp [results, Tryd.results111, go_sem, c0, c1, c2]) rfl ⟨dyR_none H.out, hbZ⟩
end Go.Proofs.YtgcifpjhhoalmaaDoor
