/- The reference of layer 2: Text. -/
import Derived.Test.YtjldfclncipbgaaGreatDoorR9
import Derived.Test.YtjldfclncipbgaaGreatDoorJH
namespace Go.Proofs.YtjldfclncipbgaaGreatDoor
open Go Go.RowKit Go.PlainAid Fil

theorem Own.row {w : World} {B : Nat} {v : Value} {n : Nat} {f : Nat → Int} (h : Own w B v n f) (h0 : 0 < n) : ∃ (g cap : Nat) (F : Nat → Value), v = .slice (some ⟨g, 0, none⟩) n cap ∧ B ≤ g ∧ g < w.heap.size ∧ n ≤ cap ∧ w.rowIs g 3 cap F ∧ ∀ (j : Nat), j < n → F j = .int .i64 (f j) := by
  rcases h.2 with ⟨rfl, rfl⟩ | ⟨g, cap, cur, rfl, hB, hh, hc, _, hs, ht⟩
  · omega
  · refine ⟨g, cap, fun j => cur.getD j undef, rfl, hB, lt_of_heap hh, hc, ⟨cur, hh, by simpa using hs, fun i hi => ?_⟩, fun j hj => ?_⟩
    · have : i < cur.size := by rw [show cur.size = cap by simpa using hs]; exact hi
      simp [this]
    · have h1 : (cur.toList.take (n * 1))[j]? = ((List.range n).map fun i => Value.int .i64 (f i))[j]? := by rw [ht]
      rw [List.getElem?_take_of_lt (by omega), List.getElem?_map, List.getElem?_range hj] at h1
      have h2 : cur[j]? = some (.int .i64 (f j)) := by simpa using h1
      show cur.getD j undef = _
      rw [Array.getD_eq_getD_getElem?, h2]; rfl
theorem OwnB.out {w : World} {B : Nat} {v : Value} {l : List UInt8} (h : OwnB w B v l) {g o : Nat} (hg : g < B) (u : Value) : OwnB (w.setCell ⟨g, o, none⟩ u) B v l := by
  refine ⟨?_, ?_⟩
  · exact h.1
  rcases h.2 with h2 | ⟨k, cap, cur, hv, hk, hh, hr⟩
  · exact .inl h2
  · exact .inr ⟨k, cap, cur, hv, hk, (Below.heap_setCell _ _ _ _ (by show k ≠ g; omega)).trans hh, hr⟩
/-- the row of digits: from digit k on those of a tenth -/
def ten8 (y k j : Nat) : Value := if k ≤ j then i8 (y / 10) j else i8 y j
theorem ten8_at (y k : Nat) : ten8 y (k + 1) k = i8 y k := if_neg (by omega)
theorem ten8_zero (y j : Nat) : ten8 y 0 j = i8 (y / 10) j := if_pos (by omega)
theorem ten8_step {y k j : Nat} {v : Value} (hv : v = i8 (y / 10) k) : (if j = k then v else ten8 y (k + 1) j) = ten8 y k j := by
  unfold ten8
  by_cases e : j = k
  · subst e; rw [if_pos rfl, if_pos (Nat.le_refl _), hv]
  · rw [if_neg e]
    by_cases h : k + 1 ≤ j
    · rw [if_pos h, if_pos (by omega)]
    · rw [if_neg h, if_neg (by omega)]
set_option maxRecDepth 1000000 in
set_option maxHeartbeats 8000000 in
theorem r2text_any (x : Nat) (w : World) (hz : Fil.dn 8 x ≤ 1048576) :
    Calls Tryz.prog 36 #[.string (bstr x)] w fun e w' => e = .returned (.string ⟨(dtx x).toArray⟩) ∧ Below w.heap.size w w' := by
  by_cases hx : x = 0
  · subst hx
    rw [bstr_zero]
    have hb := Below.refl w.heap.size w
    go_enter Tryz.func36, Tryz.ntmps36
    go_wp2
    go_ret
    exact ⟨rfl, hb⟩
  have hd1 := fun W => r2digits_any x W hz
  obtain ⟨n, hn⟩ : ∃ n, n = Fil.dn 8 x := ⟨_, rfl⟩
  have hn0 : 0 < n := by rw [hn]; exact dn_pos hx
  have e1 := (bstr_ne hx).1
  have e2 := (bstr_ne hx).2
  have hlen : (decs x).length ≤ 4 * n := by
    refine decs_length_le _ _ (Nat.lt_of_lt_of_le (lt_of_dn (k := 8) (n := n) (by omega) (by omega)) ?_)
    rw [Nat.pow_mul, Nat.pow_mul]
    exact Nat.pow_le_pow_left (by decide) _
  have hne : decs x ≠ [] := by rw [decs_pos hx]; simp
  have hdt : dtx x = (decs x).reverse := by unfold dtx; rw [if_neg hx]
  rw [hdt]
  simp only [← hn] at hd1 hz
  obtain ⟨X, hX⟩ : ∃ X, X = decs x := ⟨_, rfl⟩
  rw [← hX] at hlen hne ⊢
  obtain ⟨i0, hi, hp⟩ := Option.map_eq_some_iff.1 Tryz.info5
  have hz0 : i0.zero = some (.int .u8 0) := congrArg Prod.fst hp
  have hz1 : i0.size = 1 := congrArg (fun q => q.2.1) hp
  have hz2 : i0.bytes = 1 := congrArg (fun q => q.2.2) hp
  have HX := Lib.hid (And.intro hX (And.intro hne (And.intro hlen hn)))
  have B0 := Below.refl w.heap.size w
  clear hX hne hlen hn hx hdt hp
  go_enter Tryz.func36, Tryz.ntmps36
  go_wp2_with fail
  refine (hd1 _).mono ?_
  rintro r w1 ⟨v1, rfl, ho1, hb1⟩
  obtain ⟨g, cap, F0, rfl, hg0, hg1, hnc, hrow, hF⟩ := ho1.row hn0
  replace B0 := B0.trans (hb1.mono B0.size)
  clear ho1 hb1 hd1 hn0
  have HB := Lib.hid (And.intro hg0 hg1)
  clear hg0 hg1
  go_wp2
  go_loopg [4, 5, 6, 7] x (fun y s4 s5 s6 s7 wr => ∃ (l : List UInt8) (v : Value) (m : Nat) (F : Nat → Value), m = Fil.dn 8 y ∧ m ≤ n ∧ v = s4 ∧ s5 = .int .i64 m ∧ OwnB wr w1.heap.size v l ∧ l ++ decs y = X ∧ wr.rowIs g 3 cap F ∧ (∀ j, j < m → F j = i8 y j) ∧ w1.heap.size ≤ wr.heap.size ∧ Below w.heap.size w wr)
  case atStart => exact ⟨[], _, n, F0, HX.out.2.2.2, Nat.le_refl _, rfl, rfl, OwnB.nil _ _, HX.out.1.symm, hrow, hF, Nat.le_refl _, B0⟩
  case round =>
    clear hrow hF B0
    obtain ⟨l, v, m, F, hm, hmn, rfl, rfl, hown, hl, hrow, hF, hws, hbel⟩ := hrel
    by_cases hy : gk = 0
    · subst hy
      rw [dn_zero] at hm
      subst hm
      rw [decs_zero, List.append_nil] at hl
      subst hl
      obtain ⟨b, cb, f, rfl, hB, hc, hrw, hf⟩ := hown.row HX.out.2.1
      obtain ⟨L, hL⟩ : ∃ L, L = l.length := ⟨_, rfl⟩
      have hLb : L ≤ 4 * n := by rw [hL]; exact HX.out.2.2.1
      have hu : ∀ j, j < L → ∃ x : Nat, f j = .int .u8 x := fun j hj => ⟨_, hf j (by omega)⟩
      rw [← hL] at hc ⊢
      have HF := Lib.hid (And.intro hf (And.intro hL (And.intro hmn hF)))
      have hwb : w.heap.size ≤ b := Nat.le_trans HB.out.1 (Nat.le_trans (Nat.le_of_lt HB.out.2) hB)
      clear hf hL hown hrow hF hmn
      go_wp2
      go_loopg [8, 9, 10] L (fun gg s8 s9 s10 wi => ∃ i : Nat, i ≤ L ∧ gg = L - i ∧ s8 = .int .i64 i ∧ s9 = .int .i64 ((L : Int) - 1 - i) ∧ wi.rowIs b 5 cb (rvs f L i) ∧ Below w.heap.size w wi)
      case atStart => exact ⟨0, by omega, by omega, rfl, by go_num, hrw.congr (fun j _ => (rvs_zero _ _ _).symm), hbel⟩
      case round =>
        clear hrw hbel
        obtain ⟨i, hi2, hgg, rfl, rfl, hrw, hbel⟩ := hrel
        by_cases hlt : i + i + 1 < L
        · obtain ⟨k, hk⟩ : ∃ k, k = L - 1 - i := ⟨_, rfl⟩
          have hkc : (L : Int) - 1 - i = (k : Int) := by omega
          have c1 := hrw.cell (i := i) (by omega)
          have c2 := hrw.cell (i := L - 1 - i) (by omega)
          have f1 := hrw.frozen i
          have f2 := hrw.frozen (L - 1 - i)
          rw [rvs_lo hlt] at c1
          rw [rvs_hi hlt, ← hk] at c2
          rw [← hk] at f2
          obtain ⟨p, hp⟩ := hu i (by omega)
          obtain ⟨q, hq⟩ := hu k (by omega)
          rw [hp] at c1
          rw [hq] at c2
          rw [hkc]
          have hik : i < k := by omega
          have hkn : k < L := by omega
          have hne : ¬ i = k := by omega
          have hin : i < L := by omega
          have Hk := Lib.hid (And.intro hk (And.intro hlt (And.intro hgg (And.intro hp hq))))
          clear hk hkc hlt hgg hp hq hu
          go_wp2
          go_roundg (L - (i + 1))
          case measure => have := Hk.out; omega
          case rel =>
            refine ⟨i + 1, by omega, rfl, by go_num, congrArg (Value.int IntKind.i64) (by have := Hk.out; omega), ((hrw.set i _).set k _).congr (fun j _ => ?_), ((hbel.setCell hwb _).setCell hwb _)⟩
            rw [← rvs_step Hk.out.2.1, ← Hk.out.1, Hk.out.2.2.2.1, Hk.out.2.2.2.2]
        · have hlt' : ¬ (i : Int) < (L : Int) - 1 - i := by omega
          have Hl := Lib.hid hlt
          have hcv := fun C => run_text wr b C cb l.reverse (rvs f L i) hrw (by rw [List.length_reverse]; have := HF.out.2.1; omega) (fun j hj => by
            have hj' : j < l.length := by simpa using hj
            have hL := HF.out.2.1
            rw [rvs_all (by have := Hl.out; omega), if_pos (by omega), HF.out.1 _ (by omega), List.getElem_reverse]
            simp only [hL])
          rw [List.length_reverse, ← HF.out.2.1] at hcv
          clear hlt hgg hu hrw
          go_wp2
          go_ret
          exact ⟨rfl, hbel⟩
    · obtain ⟨y, rfl⟩ : ∃ y, y = gk := ⟨_, rfl⟩
      have hm0 : 0 < m := by rw [hm]; exact dn_pos hy
      have hy1 : y / 10 < y := Nat.div_lt_self (by omega) (by decide)
      have hym : y < 2 ^ (8 * m) := by rw [hm]; exact lt_dn (by omega) y
      rw [decs_pos hy] at hl
      have HL := Lib.hid (And.intro hl (And.intro hm (And.intro hy hy1)))
      have HY := Lib.hid hym
      clear hl hm hy hy1 hym
      go_wp2
      obtain ⟨wo, rfl⟩ : ∃ wo : World, wo = wr := ⟨_, rfl⟩
      go_loopg [6, 7] (m + 1) (fun gg s6 s7 wi => ∃ k : Nat, k ≤ m ∧ gg = k + 1 ∧ s6 = .int .i64 (s8 y 10 k) ∧ s7 = .int .i64 ((k : Int) - 1) ∧ wi.rowIs g 3 cap (fun j => if j < m then ten8 y k j else F j) ∧ OwnB wi w1.heap.size v l ∧ w1.heap.size ≤ wi.heap.size ∧ Below w.heap.size w wi)
      case atStart => exact ⟨m, Nat.le_refl _, rfl, by rw [s8_top HY.out]; rfl, by go_num, hrow.congr (fun j _ => by
        by_cases h : j < m
        · rw [if_pos h, hF j h]; exact (if_neg (by omega)).symm
        · rw [if_neg h]), hown, hws, hbel⟩
      case round =>
        clear hrow hown hbel hws
        obtain ⟨k, hkm, hgg, rfl, rfl, hrow, hown, hws, hbel⟩ := hrel
        rcases Nat.eq_zero_or_pos k with rfl | hk0
        · -- the round's last step: a digit is told
          obtain ⟨d, hd⟩ : ∃ d, d = s8 y 10 0 := ⟨_, rfl⟩
          have hdy : d = y % 10 := by rw [hd, s8_zero]
          have hd10 : d < 10 := by omega
          rw [← hd]
          have hch : ((UInt8.ofNat (48 + y % 10)).toNat : Int) = 48 + (d : Int) := by rw [dig_char, hdy]; omega
          have hll : l.length < 4 * n := by
            have h1 := HX.out.2.2.1
            rw [← HL.out.1, List.length_append, List.length_cons] at h1
            omega
          have hl2 := HL.out.1
          generalize UInt8.ofNat (48 + y % 10) = C at *
          obtain ⟨q, hq⟩ : ∃ q, q = 48 + d := ⟨_, rfl⟩
          have eq4 : (48 : Int) + (d : Int) = (q : Int) := by omega
          have hqb : q < 256 := by omega
          have hch2 : (C.toNat : Int) = (q : Int) := by rw [hch, eq4]
          have hbs := hbel.size
          have hrow0 : wr.rowIs g 3 cap (fun j => if j < m then i8 (y / 10) j else F j) := hrow.congr (fun j _ => by
            by_cases h : j < m
            · rw [if_pos h, if_pos h, ten8_zero]
            · rw [if_neg h, if_neg h])
          have Hk := Lib.hid (And.intro hl2 (And.intro hch2 (And.intro hgg hll)))
          have HQ := Lib.hid (And.intro hd (And.intro hdy hd10))
          have e1 : ((0 : Nat) : Int) - 1 = -1 := rfl
          rw [e1]
          clear hl2 hch2 hgg hll hd hdy hd10 hq hch hrow HY e1
          go_wp2_with (at_builtin; refine wpList_append_own _ rfl _ _ 87 rfl w1.heap.size 5 i0 (.int .u8 0) 1 1 Tryz.underlying87 hi hz0 hz1 hz2 rfl (by decide) _ _ _ rfl (by exact hown.alloc _) ⟨wr.heap.size, 0, none⟩ 1 1 [.int .u8 (q : Int)] rfl rfl ?c1 ?c2 ?c3 ?c4 ?c5 ?_)
          case c1 =>
            intro j u hj
            match j, hj with
            | 0, hj => simp at hj; subst hj; simp [Addr.add]
          case c2 => intro u hu; simp at hu; subst hu; rfl
          case c3 => have := Hk.out.2.2.2; unfold maxLen; omega
          case c4 => have := Hk.out.2.2.2; omega
          case c5 => simp; omega
          · intro v' w2 hown' hgrow _
            have hb2 := (hbel.alloc hbs (.cells #[.int .u8 (q : Int)] 5)).grown hgrow (by simp; omega) (fun k hk => by have := (hown.lt k hk).1; have := HB.out; omega)
            have hrow2 : w2.rowIs g 3 cap (fun j => if j < m then i8 (y / 10) j else F j) := hrow0.of_block ((hgrow.block g (by have := hrow0.lt; simp; omega) (fun e => by have h1 := (hown.lt g e.symm).1; have h2 := HB.out.2; omega)).trans (Below.heap_alloc _ _ _ hrow0.lt))
            have hown2 : OwnB w2 w1.heap.size v' (l ++ [C]) := by
              have e : (l ++ [C]).length = l.length + 1 := by simp
              rw [← Hk.out.2.1, map_snoc] at hown'
              unfold OwnB
              rw [e]; exact hown'
            have hws2 : w1.heap.size ≤ w2.heap.size := by have := hgrow.size; simp at this; omega
            clear hown hown' hgrow hbel hrow0 hws
            go_wp2
            obtain ⟨z, hz⟩ : ∃ z, z = y / 10 := ⟨_, rfl⟩
            rw [← hz] at hrow2
            have HZ := Lib.hid hz
            have hz10 : Fil.dn 8 z ≤ m := by rw [hz, HL.out.2.1]; exact dn_mono (by omega) (Nat.div_le_self _ _)
            clear hz
            go_loopg [5] (m + 1) (fun gg s5 wl => ∃ p : Nat, gg = p + 1 ∧ Fil.dn 8 z ≤ p ∧ p ≤ m ∧ s5 = .int .i64 p ∧ wl = w2)
            case atStart => exact ⟨m, rfl, hz10, Nat.le_refl _, rfl, rfl⟩
            case round =>
              obtain ⟨p, hpg, hp1, hp2, rfl, rfl⟩ := hrel
              rcases Nat.eq_zero_or_pos p with rfl | hp0
              · have HE := Lib.hid (And.intro hp1 hpg)
                clear hp1 hp2 hpg hz10
                go_wp2
                go_roundg z
                case measure => have := HZ.out; have := HL.out.2.2.2; omega
                case rel => exact ⟨l ++ [C], _, 0, _, by have := HE.out.1; omega, Nat.zero_le _, rfl, rfl, hown2, by rw [List.append_assoc, HZ.out]; exact Hk.out.1, hrow2, fun j hj => by omega, hws2, hb2⟩
              · obtain ⟨k, hk⟩ : ∃ k, p = k + 1 := ⟨p - 1, by omega⟩
                subst hk
                have c1 := hrow2.cell (i := k) (by omega)
                rw [if_pos (by omega), i8] at c1
                have ek : ((k + 1 : Nat) : Int) - 1 = (k : Int) := by omega
                have hkn : k < n := by omega
                by_cases hdk : Fil.dn 8 z ≤ k
                · have hd0 : dg 8 z k = 0 := dg_zero_of (lt_of_dn (by omega) hdk)
                  rw [hd0] at c1
                  have HE := Lib.hid (And.intro hdk hpg)
                  clear hp1 hpg hz10 hdk hd0
                  go_wp2
                  go_roundg (k + 1)
                  case measure => have := HE.out.2; omega
                  case rel => exact ⟨k, rfl, HE.out.1, by omega, by go_num, rfl⟩
                · have hdn : Fil.dn 8 z = k + 1 := by omega
                  have hz0 : z ≠ 0 := fun h => by rw [h, dn_zero] at hdn; omega
                  have ht := dg_top (k := 8) (by omega) hz0
                  rw [hdn, Nat.add_sub_cancel] at ht
                  obtain ⟨t, htt⟩ : ∃ t, t = dg 8 z k := ⟨_, rfl⟩
                  rw [← htt] at ht c1
                  have ht0 : ((t : Int) == 0) = false := by simp; omega
                  have HE := Lib.hid (And.intro hdn hpg)
                  clear hp1 hpg hz10 hdk hdn ht htt hz0
                  go_wp2
                  go_roundg z
                  case measure => have := HZ.out; have := HL.out.2.2.2; omega
                  case rel => exact ⟨l ++ [C], _, k + 1, _, HE.out.1.symm, by omega, rfl, by go_num, hown2, by rw [List.append_assoc, HZ.out]; exact Hk.out.1, hrow2, fun j hj => by rw [if_pos (by omega)], hws2, hb2⟩
        · obtain ⟨j, hj⟩ : ∃ j, k = j + 1 := ⟨k - 1, by omega⟩
          subst hj
          have c1 := hrow.cell (i := j) (by omega)
          have f1 := hrow.frozen j
          rw [if_pos (by omega), ten8_at, i8] at c1
          have h1 := s8_step y 10 j
          have h2 := s8_dg (b := 10) y j (by omega)
          have h3 := s8_lt (b := 10) y (j + 1) (by omega)
          have hdg := dg_lt 8 y j
          have HS := Lib.hid (And.intro h1 h2)
          obtain ⟨r, hr⟩ : ∃ r, r = s8 y 10 (j + 1) := ⟨_, rfl⟩
          obtain ⟨d, hd⟩ : ∃ d, d = dg 8 y j := ⟨_, rfl⟩
          rw [← hr, ← hd] at HS
          rw [← hr] at h3 ⊢
          rw [← hd] at hdg c1
          obtain ⟨D, hD⟩ : ∃ D, D = r * 256 + d := ⟨_, rfl⟩
          rw [← hD] at HS
          have W1 : IntKind.i64.wrap ((256 : Int) * (r : Int)) = 256 * (r : Int) := IntWalk.i64_in _ (by omega)
          have W2 : IntKind.i64.wrap ((256 : Int) * (r : Int) + (d : Int)) = (D : Int) := by rw [IntWalk.i64_in _ (by omega)]; omega
          have E1 : (256 : Int) * (r : Int) + (d : Int) = (D : Int) := by omega
          have hDb : D < 100000 := by omega
          obtain ⟨q, hq⟩ : ∃ q, q = D / 10 := ⟨_, rfl⟩
          obtain ⟨t, ht⟩ : ∃ t, t = D % 10 := ⟨_, rfl⟩
          have E2 : (D : Int) / 10 = (q : Int) := by omega
          have E3 : (D : Int) % 10 = (t : Int) := by omega
          have E4 : (D : Int).tdiv 10 = (q : Int) := by rw [Int.tdiv_eq_ediv_of_nonneg (by omega)]; exact E2
          have E5 : (D : Int).tmod 10 = (t : Int) := by rw [Int.tmod_eq_emod_of_nonneg (by omega)]; exact E3
          rw [← hq, ← ht] at HS
          have ej : ((j + 1 : Nat) : Int) - 1 = (j : Int) := by omega
          rw [ej]
          have hjn : j < n := by omega
          have hgw : w.heap.size ≤ g := HB.out.1
          have HK := Lib.hid (And.intro hgg hrow)
          have HO := Lib.hid (And.intro hown (And.intro hbel hws))
          clear h1 h2 hr hd hD hq ht hgg hrow hown hbel hws HY ej
          go_wp2
          go_roundg (j + 1)
          case measure => have := HK.out.1; omega
          case rel => exact ⟨j, by omega, rfl, by rw [← HS.out.1], by go_num, (HK.out.2.set j _).congr (fun i _ => by
            by_cases e : i = j
            · subst e; rw [if_pos rfl, if_pos (by omega), ten8, if_pos (Nat.le_refl _), i8, ← HS.out.2]
            · rw [if_neg e]
              by_cases h : i < m
              · rw [if_pos h, if_pos h, ← ten8_step (v := i8 (y / 10) j) rfl, if_neg e]
              · rw [if_neg h, if_neg h]), HO.out.1.out HB.out.2 _, by simpa using HO.out.2.2, HO.out.2.1.setCell hgw _⟩
end Go.Proofs.YtjldfclncipbgaaGreatDoor
