/- The reference of layer 2: Div, Gcd. -/
import Derived.Test.YtbfnafcpjbdbpaaGreatR4
namespace Go.Proofs.YtbfnafcpjbdbpaaGreat
open Go Go.RowKit Go.PlainAid Fil

theorem row_keep {w w' : World} {b : Nat} {t : TypeId} {n : Nat} {f : Nat → Value} (h : w.rowIs b t n f) (hb : Below w.heap.size w w') : w'.rowIs b t n f := h.of_block (hb.block b h.lt)
theorem Slc.one (w : World) (d : Nat) (hd : d < 256) : Slc (w.alloc (.cells #[.int .i64 d] 3)) 3 (some ⟨w.heap.size, 0, none⟩) 1 (i8 d) := by
  refine Slc.of_row (World.rowIs_alloc w #[.int .i64 d] 3 (i8 d) ?_) (Nat.le_refl _)
  intro i hi
  match i, hi with
  | 0, _ => simp [i8, dg]; omega
theorem bstr256 : bstr 256 = { data := #[1, 0] } := by
  unfold bstr
  rw [show bs 256 = [1, 0] by decide]
/-- made of a list of one digit -/
theorem r2one_any (d : Nat) (W : World) (hd : d < 256) :
    Calls Tryz.prog 100 #[.slice (some ⟨W.heap.size, 0, none⟩) 1 1] (W.alloc (.cells #[.int .i64 d] 3)) fun r w' => r = .returned (.string (bstr d)) ∧ Below W.heap.size W w' :=
  (r2made_gen _ 1 1 d _ (by omega) (by omega) (Slc.one W d hd)).mono fun _ _ ⟨h1, h2⟩ => ⟨h1, ((Below.refl _ _).alloc (Nat.le_refl _) _).trans (h2.mono (by simp))⟩
theorem dn_byte {d : Nat} (h : d < 256) : Fil.dn 8 d ≤ 1 := dn_le (by omega) (by omega)
theorem cmpZ_le {a b : Nat} : cmpZ a b ≤ 0 ↔ a ≤ b := by
  unfold cmpZ
  by_cases h1 : a < b
  · rw [if_pos h1]; omega
  · rw [if_neg h1]
    by_cases h2 : b < a
    · rw [if_pos h2]; omega
    · rw [if_neg h2]; omega
theorem mul_dn {x y j k : Nat} (hx : Fil.dn 8 x ≤ j) (hy : Fil.dn 8 y ≤ k) : Fil.dn 8 (x * y) ≤ j + k := dn_le (by omega) (by rw [padd]; exact Nat.mul_lt_mul'' (lt_of_dn (by omega) hx) (lt_of_dn (by omega) hy))
theorem add_dn {x y k : Nat} (hx : Fil.dn 8 x ≤ k) (hy : Fil.dn 8 y ≤ k) : Fil.dn 8 (x + y) ≤ k + 1 := dn_le (by omega) (add_lt_succ (by omega) (lt_of_dn (by omega) hx) (lt_of_dn (by omega) hy))

set_option maxRecDepth 100000 in
set_option maxHeartbeats 8000000 in
theorem r2Div_any (x b : Nat) (w : World) (hb0 : b ≠ 0) (hx8 : Fil.dn 8 x ≤ 400000) (hb8 : Fil.dn 8 b ≤ 400000) :
    Calls Tryz.prog 88 #[.string (bstr x), .string (bstr b)] w fun r w' => r = .returned (.tuple #[.string (bstr (x / b)), .string (bstr (x % b)), .int .i64 0]) ∧ Below w.heap.size w w' := by
  have hbp : 0 < b := by omega
  have hsx := bstr_size x
  have hsb := bstr_size b
  have hbx := fun k h => bstr_bt x k h
  have hgx := get_bt (bstr x)
  have hbe := (bstr_ne hb0).1
  have hbe2 := (bstr_ne hb0).2
  have hbn := dn_pos (k := 8) hb0
  have hxl := lt_dn (k := 8) (by omega) x
  have hle := le_dn (k := 8) b hb0
  have htk := fun k h => bstr_take x k h
  obtain ⟨la, hla⟩ : ∃ la, la = Fil.dn 8 x := ⟨_, rfl⟩
  obtain ⟨lb, hlb⟩ : ∃ lb, lb = Fil.dn 8 b := ⟨_, rfl⟩
  simp only [← hla] at hsx hbx hxl hx8 htk
  simp only [← hlb] at hsb hb8 hbn hle
  have hmk := run_make_row' (P := Tryz.prog) 119 3 (.int .i64 0) 8 Tryz.underlying119 Tryz.info3 rfl .i64 .i64 la (by omega) (by omega)
  obtain ⟨c, hc⟩ : ∃ c, c = lb - 1 := ⟨_, rfl⟩
  obtain ⟨n0, hn0⟩ : ∃ n0, n0 = min c la := ⟨_, rfl⟩
  have hn0la : n0 ≤ la := by omega
  have hX0 : x / 2 ^ (8 * (la - n0)) < b := by
    refine Nat.lt_of_lt_of_le ?_ hle
    rw [Nat.div_lt_iff_lt_mul (pp _), ← Nat.pow_add]
    exact Nat.lt_of_lt_of_le hxl (pmono (by omega))
  have HX := Lib.hid (And.intro hbx (And.intro hX0 (And.intro hxl (And.intro hle (And.intro hlb hla)))))
  have HT := Lib.hid (htk (la - n0) (by omega))
  have HN := Lib.hid hn0
  have hlbi : (lb : Int) - 1 = (c : Int) := by omega
  have hc8 : c ≤ 400000 := by omega
  have hltx : ∀ (k : Nat), s8 x b k < b := fun k => s8_lt x k hbp
  have hsz : ∀ k : Nat, Fil.dn 8 (s8 x b k) ≤ lb := fun k => by rw [hlb]; exact dn_mono (by omega) (Nat.le_of_lt (hltx k))
  have HS := Lib.hid hsz
  have HQ := Lib.hid (And.intro hlb hla)
  clear hla hlb hc hbx hX0 hxl hle htk hltx hsz
  go_enter Tryz.func88, Tryz.ntmps88
  go_upto_if 25 with fail
  go_cut [8] (fun s8 wr => s8 = .int .i64 (n0 : Int) ∧ wr.rowIs w.heap.size 3 la (fun _ => .int .i64 0) ∧ Below w.heap.size w wr)
  case first =>
    by_cases hgt : la < c
    · have hd1 : decide ((la : Int) < (c : Int)) = true := decide_eq_true (by omega)
      have hd2 : decide (la < c) = true := decide_eq_true hgt
      have e0 : n0 = la := by have := HN.out; omega
      clear hn0 hn0la hbn hx8 hb8 hd1 hd2
      go_wp2
      go_meet
      case rel => exact ⟨by rw [e0], World.rowIs_made w _ la 3, (Below.refl _ _).alloc (Nat.le_refl _) _⟩
    · have hd1 : decide ((la : Int) < (c : Int)) = false := decide_eq_false (by omega)
      have hd2 : decide (la < c) = false := decide_eq_false hgt
      have e0 : n0 = c := by have := HN.out; omega
      clear hn0 hn0la hbn hx8 hb8 hd1 hd2
      go_wp2
      go_meet
      case rel => exact ⟨by rw [e0], World.rowIs_made w _ la 3, (Below.refl _ _).alloc (Nat.le_refl _) _⟩
  case rest =>
    clear hmk hlbi hn0 hbn
    obtain ⟨rfl, hrow, hbel⟩ := hcut
    rename_i wc
    have p0 : (0 : Int) ≤ (n0 : Int) := by omega
    have p1 : (n0 : Int) ≤ (la : Int) := by omega
    go_wp2
    go_loopg [9, 10] (la - n0) (fun g s9 s10 wr => ∃ i : Nat, n0 ≤ i ∧ i ≤ la ∧ g = la - i ∧ s9 = .string (bstr (s8 x b (la - i))) ∧ s10 = .int .i64 (i : Int) ∧ wr.rowIs w.heap.size 3 la (quo8 x b (la - i)) ∧ Below w.heap.size w wr)
    case atStart =>
      have hX0 := HX.out.2.1
      refine ⟨n0, Nat.le_refl _, hn0la, ?_, ?_, rfl, hrow.congr (fun j _ => (quo8_start hX0).symm), hbel⟩
      · rfl
      · have h := HT.out
        rw [show la - (la - n0) = n0 by omega] at h
        unfold s8
        rw [Nat.mod_eq_of_lt hX0, ← h]
    case round =>
      clear hrow hbel p0 p1
      obtain ⟨i, hi0, hi, hg, rfl, rfl, hrow, hbel⟩ := hrel
      have Hg := Lib.hid hg
      clear hg
      by_cases hin : i < la
      · obtain ⟨k, hk⟩ : ∃ k, k = la - 1 - i := ⟨_, rfl⟩
        have ek : la - i = k + 1 := by omega
        have hby := HX.out.1 i hin
        rw [← hk] at hby
        rw [ek] at hrow ⊢
        have hdl := dg_lt 8 x k
        have hsd := s8_dg x k hbp
        have hst := s8_step x b k
        have hrl := HS.out (k + 1)
        have hrb := s8_lt x (k + 1) hbp
        have hqd := dg_lt 8 (x / b) k
        have ek2 : (la : Int) - 1 - (i : Int) = (k : Int) := by omega
        obtain ⟨r, hr⟩ : ∃ r, r = s8 x b (k + 1) := ⟨_, rfl⟩
        obtain ⟨d, hd⟩ : ∃ d, d = dg 8 x k := ⟨_, rfl⟩
        obtain ⟨q, hq⟩ : ∃ q, q = dg 8 (x / b) k := ⟨_, rfl⟩
        rw [← hr] at hsd hst hrl hrb ⊢
        rw [← hd] at hdl hsd hst hby
        rw [← hq] at hsd hqd
        obtain ⟨R, hR⟩ : ∃ R, R = r * 256 + d := ⟨_, rfl⟩
        have d256 : Fil.dn 8 256 ≤ 2 := by decide
        have hR8 : Fil.dn 8 R ≤ lb + 3 := by
          rw [hR]
          exact add_dn (k := lb + 2) (mul_dn hrl d256) (Nat.le_trans (dn_byte hdl) (by omega))
        have ht := fun W => r2times_any r 256 W (by omega) (Nat.le_trans d256 (by omega))
        rw [bstr256] at ht
        have hm := fun W => r2one_any d W hdl
        have hp := fun W => r2plus_any (r * 256) d W (Nat.le_trans (mul_dn hrl d256) (by omega)) (Nat.le_trans (dn_byte hdl) (by omega))
        rw [← hR] at hsd hst hp
        have hi1 : (0 : Int) ≤ (i : Int) := by omega
        have hi2 : (i : Int) < (la : Int) := by omega
        have Wd : IntKind.i64.wrap (d : Int) = (d : Int) := IntWalk.i64_in _ (by omega)
        have HK := Lib.hid (And.intro hk (And.intro ek (And.intro hq (And.intro hsd (And.intro hst hR8)))))
        clear hk ek hr hd hq hR hsd hst hrl hR8 d256 ek2
        go_upto_region 11 with fail
        go_cut [9] (fun s9 wx => s9 = .string (bstr R) ∧ wx.rowIs w.heap.size 3 la (quo8 x b (k + 1)) ∧ Below w.heap.size w wx)
        case first =>
          refine wp_region_any (by kernel_rfl) ?_
          have hHeld : (fun _ : World => True) wr.drew := trivial
          refine wpAny_of_held (S := fun _ : World => True) _ _ _ (wr.drew) ?_
          replace hrow : wr.drew.rowIs w.heap.size 3 la (quo8 x b (k + 1)) := hrow
          replace hbel : Below w.heap.size w wr.drew := hbel.drew
          generalize wr.drew = v0 at *
          refine wpAnyH_take (i := 0) (v := _) (by first | (simp only [List.getElem?_toArray, List.getElem?_cons_zero]; rfl) | rfl) (by kernel_rfl) (by kernel_rfl) (by kernel_rfl) (by exact fun _ _ _ h => h) (Or.inl ⟨by rfl, by (intro w hSw; (try dsimp only at hSw); go_simp; try with_reducible rfl)⟩) (by assumption) ?_
          (try dsimp only [Act.put]); (try go_frame)
          refine wpAnyH_take (i := 2) (v := _) (by first | (simp only [List.getElem?_toArray, List.getElem?_cons_zero, List.getElem?_cons_succ]; rfl) | rfl) (by kernel_rfl) (by kernel_rfl) (by kernel_rfl) (by exact fun _ _ _ h => h) (Or.inl ⟨by rfl, by (intro w hSw; (try dsimp only at hSw); go_simp; try with_reducible rfl)⟩) (by assumption) ?_
          (try dsimp only [Act.put]); (try go_frame)
          refine wpAnyH_take (i := 3) (v := _) (by first | (simp only [List.getElem?_toArray, List.getElem?_cons_zero, List.getElem?_cons_succ]; rfl) | rfl) (by kernel_rfl) (by kernel_rfl) (by kernel_rfl) (by exact fun _ _ _ h => h) (Or.inl ⟨by rfl, by (intro w hSw; (try dsimp only at hSw); go_simp; try with_reducible rfl)⟩) (by assumption) ?_
          (try dsimp only [Act.put]); (try go_frame)
          refine wpAnyH_take (i := 4) (v := _) (by first | (simp only [List.getElem?_toArray, List.getElem?_cons_zero, List.getElem?_cons_succ]; rfl) | rfl) (by kernel_rfl) (by kernel_rfl) (by kernel_rfl) (by exact fun _ _ _ h => h) (Or.inl ⟨by rfl, by (intro w hSw; (try dsimp only at hSw); go_simp; try with_reducible rfl)⟩) (by assumption) ?_
          (try dsimp only [Act.put]); (try go_frame)
          refine wpAnyH_take (i := 5) (v := _) (by first | (simp only [List.getElem?_toArray, List.getElem?_cons_zero, List.getElem?_cons_succ]; rfl) | rfl) (by kernel_rfl) (by kernel_rfl) (by kernel_rfl) (by exact fun _ _ _ h => h) (Or.inl ⟨by rfl, by (intro w hSw; (try dsimp only at hSw); go_simp; try with_reducible rfl)⟩) (by assumption) ?_
          (try dsimp only [Act.put]); (try go_frame)
          refine wpAnyH_ready (rs := [1, 6]) (by kernel_rfl) (by simp) ?_
          refine AllReadyH.cons rfl (fun K hK => ?_) (AllReadyH.cons rfl (fun K hK => ?_) AllReadyH.nil)
          · go_simp
            refine (ht _).mono ?_
            rintro r1 v1 ⟨rfl, hb1⟩
            replace hrow := row_keep hrow hb1
            replace hbel := hbel.trans (hb1.mono hbel.size)
            refine hK.out _ _ ?_ (fun hHeld => ?_)
            · exact trivial
            clear hK K hb1
            (try dsimp only [Act.put]); (try go_frame)
            refine wpAnyH_ready (rs := [6]) (by kernel_rfl) (by simp) ?_
            refine AllReadyH.cons rfl (fun K hK => ?_) AllReadyH.nil
            go_simp
            refine hK.out _ _ ?_ (fun hHeld => ?_)
            · exact trivial
            clear hK K
            (try dsimp only [Act.put]); (try go_frame)
            refine wpAnyH_ready (rs := [7]) (by kernel_rfl) (by simp) ?_
            refine AllReadyH.cons rfl (fun K hK => ?_) AllReadyH.nil
            go_simp
            refine (hm _).mono ?_
            rintro r1 v2 ⟨rfl, hb1⟩
            replace hrow := row_keep hrow hb1
            replace hbel := hbel.trans (hb1.mono hbel.size)
            refine hK.out _ _ ?_ (fun hHeld => ?_)
            · exact trivial
            clear hK K hb1
            (try dsimp only [Act.put]); (try go_frame)
            refine wpAnyH_ready (rs := [8]) (by kernel_rfl) (by simp) ?_
            refine AllReadyH.cons rfl (fun K hK => ?_) AllReadyH.nil
            go_simp
            refine (hp _).mono ?_
            rintro r1 v3 ⟨rfl, hb1⟩
            replace hrow := row_keep hrow hb1
            replace hbel := hbel.trans (hb1.mono hbel.size)
            refine hK.out _ _ ?_ (fun hHeld => ?_)
            · exact trivial
            clear hK K hb1
            (try dsimp only [Act.put]); (try go_frame)
            refine wpAnyH_take (i := 9) (v := _) (by first | (simp only [List.getElem?_toArray, List.getElem?_cons_zero, List.getElem?_cons_succ]; rfl) | rfl) (by kernel_rfl) (by kernel_rfl) (by kernel_rfl) (by exact fun _ _ _ h => h) (Or.inl ⟨by rfl, by (intro w hSw; (try dsimp only at hSw); go_simp; try with_reducible rfl)⟩) (by assumption) ?_
            (try dsimp only [Act.put]); (try go_frame)
            refine wpAnyH_done (by kernel_rfl) ?_ _
            try simp only [QCut]
            go_wp2_with fail
            go_meet
            exact ⟨rfl, hrow, hbel⟩
          · go_simp
            have hs := Slc.one v0 d hdl
            replace hrow := hrow.alloc (.cells #[.int .i64 d] 3)
            replace hbel := hbel.alloc hbel.size (.cells #[.int .i64 d] 3)
            refine hK.out _ _ ?_ (fun hHeld => ?_)
            · exact trivial
            clear hK K
            (try dsimp only [Act.put]); (try go_frame)
            generalize v0.alloc (.cells #[.int .i64 d] 3) = v4 at *
            generalize v0.heap.size = B0 at *
            refine wpAnyH_ready (rs := [1]) (by kernel_rfl) (by simp) ?_
            refine AllReadyH.cons rfl (fun K hK => ?_) AllReadyH.nil
            go_simp
            refine (ht _).mono ?_
            rintro r1 v1 ⟨rfl, hb1⟩
            replace hs := hs.below hb1
            replace hrow := row_keep hrow hb1
            replace hbel := hbel.trans (hb1.mono hbel.size)
            refine hK.out _ _ ?_ (fun hHeld => ?_)
            · exact trivial
            clear hK K hb1
            (try dsimp only [Act.put]); (try go_frame)
            refine wpAnyH_ready (rs := [7]) (by kernel_rfl) (by simp) ?_
            refine AllReadyH.cons rfl (fun K hK => ?_) AllReadyH.nil
            go_simp
            refine (r2made_gen _ 1 1 d _ (by omega) (by omega) hs).mono ?_
            rintro r1 v2 ⟨rfl, hb1⟩
            clear hs
            replace hrow := row_keep hrow hb1
            replace hbel := hbel.trans (hb1.mono hbel.size)
            refine hK.out _ _ ?_ (fun hHeld => ?_)
            · exact trivial
            clear hK K hb1
            (try dsimp only [Act.put]); (try go_frame)
            refine wpAnyH_ready (rs := [8]) (by kernel_rfl) (by simp) ?_
            refine AllReadyH.cons rfl (fun K hK => ?_) AllReadyH.nil
            go_simp
            refine (hp _).mono ?_
            rintro r1 v3 ⟨rfl, hb1⟩
            replace hrow := row_keep hrow hb1
            replace hbel := hbel.trans (hb1.mono hbel.size)
            refine hK.out _ _ ?_ (fun hHeld => ?_)
            · exact trivial
            clear hK K hb1
            (try dsimp only [Act.put]); (try go_frame)
            refine wpAnyH_take (i := 9) (v := _) (by first | (simp only [List.getElem?_toArray, List.getElem?_cons_zero, List.getElem?_cons_succ]; rfl) | rfl) (by kernel_rfl) (by kernel_rfl) (by kernel_rfl) (by exact fun _ _ _ h => h) (Or.inl ⟨by rfl, by (intro w hSw; (try dsimp only at hSw); go_simp; try with_reducible rfl)⟩) (by assumption) ?_
            (try dsimp only [Act.put]); (try go_frame)
            refine wpAnyH_done (by kernel_rfl) ?_ _
            try simp only [QCut]
            go_wp2_with fail
            go_meet
            exact ⟨rfl, hrow, hbel⟩
        case rest =>
          clear hrow hbel ht hm hp
          obtain ⟨rfl, hrow, hbel⟩ := hcut
          generalize wc = v5 at *
          have hRq : R / b = q := HK.out.2.2.2.1
          have hR8 : Fil.dn 8 R ≤ lb + 3 := HK.out.2.2.2.2.2
          have HR := Lib.hid hRq
          clear hRq
          go_wp2
          go_loopg [11, 12] 255 (fun g s11 s12 wr => ∃ lo hi : Nat, lo ≤ q ∧ q ≤ hi ∧ hi ≤ 255 ∧ g = hi - lo ∧ s11 = .int .i64 (lo : Int) ∧ s12 = .int .i64 (hi : Int) ∧ wr.rowIs w.heap.size 3 la (quo8 x b (k + 1)) ∧ Below w.heap.size w wr)
          case atStart => exact ⟨0, 255, by omega, by omega, by omega, rfl, rfl, rfl, hrow, hbel⟩
          case round =>
            clear hrow hbel
            obtain ⟨lo, hi, h1, h2, h3, hg2, rfl, rfl, hrow, hbel⟩ := hrel
            have Hg2 := Lib.hid hg2
            clear hg2
            by_cases hlt : lo < hi
            · obtain ⟨mid, hmid⟩ : ∃ mid, mid = (lo + hi + 1) / 2 := ⟨_, rfl⟩
              have m1 : lo < mid := by omega
              have m2 : mid ≤ hi := by omega
              have em : ((lo : Int) + (hi : Int) + 1) / 2 = (mid : Int) := by omega
              have hm := fun W => r2one_any mid W (by omega)
              have ht := fun W => r2times_any b mid W (by have := HQ.out.1; omega) (Nat.le_trans (dn_byte (by omega)) (by omega))
              have hc := fun W => r2Cmp_any (b * mid) R W (Nat.le_trans (mul_dn (Nat.le_refl _) (dn_byte (by omega))) (by have := HQ.out.1; omega)) (by omega)
              have hcz : cmpZ (b * mid) R ≤ 0 ↔ mid ≤ q := by
                rw [cmpZ_le, ← HR.out, Nat.le_div_iff_mul_le hbp, Nat.mul_comm]
              obtain ⟨cz, hcd⟩ : ∃ cz, cz = cmpZ (b * mid) R := ⟨_, rfl⟩
              simp only [← hcd] at hc hcz
              clear hmid hcd
              by_cases hmq : mid ≤ q
              · have hz := hcz.2 hmq
                clear hcz
                go_wp2_with fail
                refine (hm _).mono ?_
                rintro r1 v1 ⟨rfl, hb1⟩
                replace hrow := row_keep hrow hb1
                replace hbel := hbel.trans (hb1.mono hbel.size)
                clear hb1
                go_wp2_with fail
                refine (ht _).mono ?_
                rintro r1 v2 ⟨rfl, hb1⟩
                replace hrow := row_keep hrow hb1
                replace hbel := hbel.trans (hb1.mono hbel.size)
                clear hb1
                go_wp2_with fail
                refine (hc _).mono ?_
                rintro r1 v3 ⟨rfl, kk, rfl⟩
                replace hrow := rows_drewN hrow kk
                replace hbel := Below.drewN' hbel kk
                generalize v2.drewN kk = v4 at *
                go_wp2
                go_roundg (hi - mid)
                case measure => have := Hg2.out; omega
                case rel => exact ⟨mid, hi, hmq, h2, h3, rfl, rfl, rfl, hrow, hbel⟩
              · have hz : ¬ cz ≤ 0 := fun h => hmq (hcz.1 h)
                have emi : (mid : Int) - 1 = ((mid - 1 : Nat) : Int) := by omega
                have Hm := Lib.hid emi
                clear hcz emi
                go_wp2_with fail
                refine (hm _).mono ?_
                rintro r1 v1 ⟨rfl, hb1⟩
                replace hrow := row_keep hrow hb1
                replace hbel := hbel.trans (hb1.mono hbel.size)
                clear hb1
                go_wp2_with fail
                refine (ht _).mono ?_
                rintro r1 v2 ⟨rfl, hb1⟩
                replace hrow := row_keep hrow hb1
                replace hbel := hbel.trans (hb1.mono hbel.size)
                clear hb1
                go_wp2_with fail
                refine (hc _).mono ?_
                rintro r1 v3 ⟨rfl, kk, rfl⟩
                replace hrow := rows_drewN hrow kk
                replace hbel := Below.drewN' hbel kk
                generalize v2.drewN kk = v4 at *
                go_wp2
                go_roundg (mid - 1 - lo)
                case measure => have := Hg2.out; omega
                case rel => exact ⟨lo, mid - 1, h1, by omega, by omega, rfl, rfl, congrArg (Value.int IntKind.i64) Hm.out, hrow, hbel⟩
            · obtain rfl : lo = q := by omega
              obtain rfl : hi = lo := by omega
              obtain ⟨hk, -, hq, hRq, hRs, -⟩ := HK.out
              have ek2 : (la : Int) - 1 - (i : Int) = (k : Int) := by omega
              have k2 := hrow.cell (i := k) (by omega)
              have k3 := hrow.frozen k
              have hkl : k < la := by omega
              have hk0 : (0 : Int) ≤ (k : Int) := by omega
              have hk1 : (k : Int) < (la : Int) := by omega
              have hrow2 := (hrow.set k (.int .i64 (hi : Int))).congr (fun j _ => quo8_step (x := x) (b := b) (k := k) (j := j) (by rw [i8, ← hq]))
              have hbel2 := hbel.setCell (p := ⟨w.heap.size, k, none⟩) (Nat.le_refl _) (.int .i64 (hi : Int))
              have HV := Lib.hid (And.intro hrow2 (And.intro hbel2 (And.intro hk (And.intro hq (And.intro hRq hRs)))))
              clear hrow2 hbel2 hk hq hRq hRs h1 h2 hlt
              go_upto_region 19 with fail
              obtain ⟨hrow2, hbel2, hk, hq, hRq, hRs⟩ := HV.out
              clear k2 k3 hrow hbel HV
              generalize wr.setCell ⟨w.heap.size, k, none⟩ (.int .i64 (hi : Int)) = v6 at *
              have hrow := hrow2
              have hbel := hbel2
              clear hrow2 hbel2
              have hm := fun W => r2one_any hi W hqd
              have ht := fun W => r2times_any b hi W (by have := HQ.out.1; omega) (Nat.le_trans (dn_byte hqd) (by omega))
              have hsub : b * hi ≤ R := by rw [Nat.mul_comm]; exact (Nat.le_div_iff_mul_le hbp).1 (by omega)
              have hs := fun W => r2Sub_any R (b * hi) W hsub (by omega)
              have hRm : R - b * hi = s8 x b k := by rw [← hRs, Nat.mod_def, hRq]
              rw [hRm] at hs
              have HZ := Lib.hid (And.intro hk hq)
              clear hk hq hRq hRs hsub hRm
              go_wp2_with fail
              refine (hm _).mono ?_
              rintro r1 v1 ⟨rfl, hb1⟩
              replace hrow := row_keep hrow hb1
              replace hbel := hbel.trans (hb1.mono hbel.size)
              clear hb1
              go_wp2_with fail
              refine (ht _).mono ?_
              rintro r1 v2 ⟨rfl, hb1⟩
              replace hrow := row_keep hrow hb1
              replace hbel := hbel.trans (hb1.mono hbel.size)
              clear hb1
              go_wp2_with fail
              refine (hs _).mono ?_
              rintro r1 v3 ⟨rfl, hb1⟩
              replace hrow := row_keep hrow hb1
              replace hbel := hbel.trans (hb1.mono hbel.size)
              clear hb1
              go_wp2
              go_roundg (la - (i + 1))
              case measure => have := Hg.out; omega
              case rel =>
                have e : la - (i + 1) = k := by have := HZ.out.1; omega
                exact ⟨i + 1, by omega, by omega, rfl, by rw [e], by go_num, by rw [e]; exact hrow, hbel⟩
      · obtain rfl : i = la := by omega
        rw [Nat.sub_self] at hrow ⊢
        rw [s8_zero]
        have hqb : x / b < 2 ^ (8 * i) := Nat.lt_of_le_of_lt (Nat.div_le_self _ _) HX.out.2.2.1
        have hs := Slc.of_row (hrow.congr (g := i8 (x / b)) (fun j _ => if_pos (Nat.zero_le j))) (Nat.le_refl _)
        have Hq := Lib.hid hqb
        clear hqb
        go_wp2_with fail
        refine (r2made_gen _ i i (x / b) _ Hq.out (by omega) hs).mono ?_
        rintro r1 v3 ⟨rfl, hb1⟩
        go_wp2
        go_ret3
        exact ⟨rfl, hbel.trans (hb1.mono hbel.size)⟩

set_option maxRecDepth 100000 in
set_option maxHeartbeats 4000000 in
theorem r2Gcd_any (x y : Nat) (w : World) (hx8 : Fil.dn 8 x ≤ 400000) (hy8 : Fil.dn 8 y ≤ 400000) :
    Calls Tryz.prog 49 #[.string (bstr x), .string (bstr y)] w fun r w' => r = .returned (.string (bstr (Nat.gcd x y))) ∧ Below w.heap.size w w' := by
  have hb := Below.refl w.heap.size w
  go_enter Tryz.func49, Tryz.ntmps49
  go_wp2
  go_loopg [0, 1] y (fun g s0 s1 wr => ∃ a : Nat, s0 = .string (bstr a) ∧ s1 = .string (bstr g) ∧ Fil.dn 8 a ≤ 400000 ∧ Fil.dn 8 g ≤ 400000 ∧ Nat.gcd a g = Nat.gcd x y ∧ Below w.heap.size w wr)
  case atStart => exact ⟨x, rfl, rfl, hx8, hy8, rfl, hb⟩
  case round =>
    clear hb
    obtain ⟨a, rfl, rfl, ha, hg, he, hbel⟩ := hrel
    by_cases h0 : gk = 0
    · subst h0
      have e1 : (bstr 0).toList = [] := bstr_nil
      rw [Nat.gcd_zero_right] at he
      subst he
      go_wp2
      go_ret
      exact ⟨rfl, hbel⟩
    · have e1 := (bstr_ne h0).1
      have e2 := (bstr_ne h0).2
      have hd := fun W => r2Div_any a gk W h0 ha hg
      have hlt := Nat.mod_lt a (Nat.pos_of_ne_zero h0)
      have hm : Fil.dn 8 (a % gk) ≤ 400000 := Nat.le_trans (dn_mono (by omega) (Nat.le_of_lt hlt)) hg
      go_wp2_with fail
      refine (hd _).mono ?_
      rintro r w1 ⟨rfl, hb1⟩
      have hB := hbel.trans (hb1.mono hbel.size)
      have HE := Lib.hid he
      clear hd hbel hb1 e1 e2 he
      go_wp2
      go_roundg (a % gk)
      case measure => exact hlt
      case rel => exact ⟨gk, rfl, rfl, hg, hm, by rw [← HE.out, Nat.gcd_comm gk, ← Nat.gcd_rec, Nat.gcd_comm], hB⟩
end Go.Proofs.YtbfnafcpjbdbpaaGreat
