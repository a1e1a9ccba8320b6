/- The walks over the reference's numbers: halved, plus, minus, shifted. -/
import Derived.Test.YtgcifpjhhoalmaaDoorRh
namespace Go.Proofs.YtgcifpjhhoalmaaDoor
open Go Go.RowKit Go.PlainAid Fil

theorem Own.congr {w : World} {B : Nat} {v : Value} {n : Nat} {f g : Nat → Int} (h : Own w B v n f) (e : ∀ i, i < n → f i = g i) : Own w B v n g := by
  unfold Own at *
  rw [show ((List.range n).map fun i => Value.int .i64 (g i)) = (List.range n).map fun i => Value.int .i64 (f i) from List.map_congr_left fun i hi => by rw [e i (List.mem_range.1 hi)]]
  exact h
theorem own_grow {n : Nat} {f g : Nat → Int} {t : Int} (e : ∀ i, i < n → f i = g i) (ht : t = g n) : (List.range n).map (fun i => Value.int .i64 (f i)) ++ [.int .i64 t] = (List.range (n + 1)).map fun i => Value.int .i64 (g i) := by
  rw [List.range_succ, List.map_append, ht, List.map_congr_left fun i hi => by rw [e i (List.mem_range.1 hi)]]; rfl

/-- an answer that is a number of the reference -/
def BigR (w : World) (y : Nat) (r : Ending) (w' : World) : Prop := ∃ A c, r = .returned (.slice A (Fil.dn 8 y) c) ∧ Fil.dn 8 y ≤ c ∧ Slc w' 3 A (Fil.dn 8 y) (i8 y) ∧ Below w.heap.size w w'

theorem halved_dg (x k j : Nat) : (dg 8 x (k / 8 + j) + 256 * dg 8 x (k / 8 + j + 1)) / 2 ^ (k % 8) % 256 = dg 8 (x / 2 ^ k) j := by
  have h := shr_dg 8 (x / 2 ^ (8 * (k / 8))) (k % 8) j (by omega)
  rw [Nat.div_div_eq_div_mul, ← Nat.pow_add, show 8 * (k / 8) + k % 8 = k by omega, dg_div, dg_div] at h
  rw [h, Nat.mul_comm 256]
  rfl
theorem halved_lt {x k n : Nat} (hx : x < 2 ^ (8 * n)) (h : k / 8 ≤ n) : x / 2 ^ k < 2 ^ (8 * (n - k / 8)) := by
  have h1 := shr_bound hx h
  have e : x / 2 ^ k = x / 2 ^ (8 * (k / 8)) / 2 ^ (k % 8) := by rw [Nat.div_div_eq_div_mul, ← Nat.pow_add]; congr 2; omega
  rw [e]
  exact Nat.lt_of_le_of_lt (Nat.div_le_self _ _) h1

theorem tmod_nat (a b : Nat) : (a : Int).tmod (b : Int) = ((a % b : Nat) : Int) := (Int.ofNat_tmod a b).symm
theorem shift_nat (d0 d1 s : Nat) (hs : s ≤ 64) : Op.shift BinOp.shr IntKind.i64 ((d0 : Int) + 256 * (d1 : Int)) IntKind.i64 ((s : Nat) : Int) = pure (Value.int .i64 (((d0 + 256 * d1) / 2 ^ s : Nat) : Int)) := by
  have h := shift_shr .i64 .i64 ((d0 : Int) + 256 * (d1 : Int)) (s : Int) (by omega) (by show (s : Int) ≤ 64; omega)
  rw [h, Int.toNat_natCast, show ((d0 : Int) + 256 * (d1 : Int)) = ((d0 + 256 * d1 : Nat) : Int) by omega, div_cast]

set_option maxRecDepth 100000 in
set_option maxHeartbeats 2000000 in
theorem rhalved_any (A : Option Addr) (n c x k : Nat) (w : World) (hn : n = Fil.dn 8 x) (hnc : n ≤ c) (h8 : n ≤ 1048576) (hk : k ≤ 1099511627776) (h : Slc w 3 A n (i8 x)) :
    Calls Tryd.prog 113 #[.slice A n c, .int .i64 k] w fun r w' => BigR w (x / 2 ^ k) r w' := by
  have hx := lt_dn (k := 8) (by omega) x
  rw [← hn] at hx
  have Hn := Lib.hid hn
  obtain ⟨i0, hi, hp⟩ := Option.map_eq_some_iff.1 Tryd.info3
  have hz0 : i0.zero = some (.int .i64 0) := congrArg Prod.fst hp
  have hz1 : i0.size = 1 := congrArg (fun q => q.2.1) hp
  have hz2 : i0.bytes = 8 := congrArg (fun q => q.2.2) hp
  clear hn hp
  obtain ⟨q, hq⟩ : ∃ q, q = k / 8 := ⟨_, rfl⟩
  have hkq : (k : Int) / 8 = (q : Int) := by omega
  by_cases hqn : n ≤ q
  · have hz : x / 2 ^ k = 0 := Nat.div_eq_of_lt (Nat.lt_of_lt_of_le hx (pmono (by omega)))
    have Hz := Lib.hid hz
    clear hz hx hq
    go_enter Tryd.func113, Tryd.ntmps113
    go_wp2
    go_loopg [5, 6] 0 (fun g s5 s6 wr => s5 = .slice none 0 0 ∧ s6 = .int .i64 q ∧ w = wr)
    case atStart => exact ⟨rfl, rfl, rfl⟩
    case round =>
      obtain ⟨rfl, rfl, rfl⟩ := hrel
      go_wp2_with fail
      refine (rcut_any none 0 0 0 _ (by omega) (by omega) (by omega) (Slc.nil _ _ _ _)).mono ?_
      rintro r w1 ⟨rfl, rfl⟩
      go_wp2
      go_ret
      exact ⟨none, 0, by rw [Hz.out, dn_zero]; rfl, by rw [Hz.out, dn_zero]; omega, by rw [Hz.out, dn_zero]; exact Slc.nil _ _ _ _, Below.refl _ _⟩
  · have Hx := Lib.hid (halved_lt hx (by omega) : x / 2 ^ k < 2 ^ (8 * (n - k / 8)))
    have Hd := Lib.hid (halved_dg x k)
    have Hq := Lib.hid hq
    clear hx hq
    go_enter Tryd.func113, Tryd.ntmps113
    go_wp2
    go_loopg [5, 6] (n - q) (fun g s5 s6 wr => ∃ p : Nat, q ≤ p ∧ p ≤ n ∧ g = n - p ∧ s6 = .int .i64 p ∧ Own wr w.heap.size s5 (p - q) (fun i => (dg 8 (x / 2 ^ k) i : Int)) ∧ Below w.heap.size w wr)
    case atStart => exact ⟨q, by omega, by omega, by omega, rfl, by rw [Nat.sub_self]; exact Own.nil _ _ _, Below.refl _ _⟩
    case round =>
      obtain ⟨p, hqp, hp, hg, rfl, hown, hbel⟩ := hrel
      by_cases hpn : p < n
      · obtain ⟨b, o, rfl, hblt0, hc⟩ := (h.below hbel).cell (by omega)
        have k1 := hc p hpn
        have hblt := hblt0
        simp only [i8] at k1
        have hd0 := dg_lt 8 x p
        have hd1 := dg_lt 8 x (p + 1)
        have HD := Hd.out (p - q)
        rw [← Hq.out, show q + (p - q) = p by omega] at HD
        have ha := fun W (hW : W = wr.drew) => rat_any (some ⟨b, o, none⟩) n c x ((p : Int) + 1) W Hn.out (by omega) (by omega) (by rw [hW]; exact (h.below hbel).drew)
        rw [show (((p : Int) + 1).toNat) = p + 1 by omega] at ha
        obtain ⟨d2, hd2⟩ : ∃ d2, d2 = dg 8 (x / 2 ^ k) (p - q) := ⟨_, rfl⟩
        rw [← hd2] at HD
        have HE := Lib.hid hd2
        have HD2 := Lib.hid HD
        have HA := Lib.hid ha
        clear HD ha hc hd2
        generalize dg 8 x p = d0 at *
        generalize dg 8 x (p + 1) = d1 at *
        have W1 : IntKind.i64.wrap (256 * (d1 : Int)) = 256 * (d1 : Int) := IntWalk.i64_in _ (by omega)
        have W2 : IntKind.i64.wrap ((d0 : Int) + 256 * (d1 : Int)) = (d0 : Int) + 256 * (d1 : Int) := IntWalk.i64_in _ (by omega)
        have W3 : IntKind.i64.wrap ((p : Int) + 1) = (p : Int) + 1 := IntWalk.i64_in _ (by omega)
        obtain ⟨t, ht⟩ : ∃ t, t = (d0 + 256 * d1) / 2 ^ (k % 8) := ⟨_, rfl⟩
        have hsh : Op.shift BinOp.shr IntKind.i64 ((d0 : Int) + 256 * (d1 : Int)) IntKind.i64 ((k : Int).tmod 8) = pure (Value.int .i64 (t : Int)) := by
          rw [show (k : Int).tmod 8 = ((k % 8 : Nat) : Int) from tmod_nat k 8, shift_nat d0 d1 (k % 8) (by omega), ht]
        have hrm : ((t : Nat) : Int).tmod 256 = (d2 : Int) := by
          rw [show ((t : Nat) : Int).tmod 256 = ((t % 256 : Nat) : Int) from tmod_nat t 256, ht, HD2.out]
        clear ht HD2
        have P0 : (0 : Int) ≤ (p : Int) := by omega
        have P1 : (p : Int) < (n : Int) := by omega
        have hb2 := hbel.size
        have HG := Lib.hid (And.intro hg hbel)
        clear hg hbel h
        go_wp2_with fail
        refine wp_region_cut 16 (by kernel_rfl) (by kernel_rfl) ?_
        rintro W rfl
        simp only [List.take_succ_cons, List.take_zero, List.drop_succ_cons, List.drop_zero]
        refine wpAny_of_held (S := fun w' : World => w'.cell? ⟨b, o + p, none⟩ = some (.int .i64 d0)) _ _ _ _ ?_
        have hHeld : (fun w' : World => w'.cell? ⟨b, o + p, none⟩ = some (.int .i64 d0)) wr.drew := k1
        refine wpAnyH_take (i := 0) (v := _) (by first | (simp only [List.getElem?_toArray, List.getElem?_cons_zero]; rfl) | rfl) (by kernel_rfl) (by kernel_rfl) (by kernel_rfl) (by exact fun _ _ _ h => h) (Or.inl ⟨by rfl, by (intro w hSw; (try dsimp only at hSw); go_simp; try with_reducible rfl)⟩) (by assumption) ?_
        (try dsimp only [Act.put]); (try go_frame)
        refine wpAnyH_take (i := 1) (v := _) (by first | (simp only [List.getElem?_toArray, List.getElem?_cons_zero, List.getElem?_cons_succ]; rfl) | rfl) (by kernel_rfl) (by kernel_rfl) (by kernel_rfl) (by exact fun _ _ _ h => h) (Or.inl ⟨by rfl, by (intro w hSw; (try dsimp only at hSw); go_simp; try with_reducible rfl)⟩) (by assumption) ?_
        (try dsimp only [Act.put]); (try go_frame)
        refine wpAnyH_take (i := 2) (v := _) (by first | (simp only [List.getElem?_toArray, List.getElem?_cons_zero, List.getElem?_cons_succ]; rfl) | rfl) (by kernel_rfl) (by kernel_rfl) (by kernel_rfl) (by exact fun _ _ _ h => h) (Or.inl ⟨by rfl, by (intro w hSw; (try dsimp only at hSw); go_simp; try with_reducible rfl)⟩) (by assumption) ?_
        (try dsimp only [Act.put]); (try go_frame)
        refine wpAnyH_take (i := 3) (v := _) (by first | (simp only [List.getElem?_toArray, List.getElem?_cons_zero, List.getElem?_cons_succ]; rfl) | rfl) (by kernel_rfl) (by kernel_rfl) (by kernel_rfl) (by exact fun _ _ _ h => h) (Or.inl ⟨by rfl, by (intro w hSw; (try dsimp only at hSw); go_simp; try with_reducible rfl)⟩) (by assumption) ?_
        (try dsimp only [Act.put]); (try go_frame)
        refine wpAnyH_take (i := 4) (v := _) (by first | (simp only [List.getElem?_toArray, List.getElem?_cons_zero, List.getElem?_cons_succ]; rfl) | rfl) (by kernel_rfl) (by kernel_rfl) (by kernel_rfl) (by exact fun _ _ _ h => h) (Or.inl ⟨by rfl, by (intro w hSw; (try dsimp only at hSw); go_simp; try with_reducible rfl)⟩) (by assumption) ?_
        (try dsimp only [Act.put]); (try go_frame)
        refine wpAnyH_take (i := 5) (v := _) (by first | (simp only [List.getElem?_toArray, List.getElem?_cons_zero, List.getElem?_cons_succ]; rfl) | rfl) (by kernel_rfl) (by kernel_rfl) (by kernel_rfl) (by exact fun _ _ _ h => h) (Or.inl ⟨by rfl, by (intro w hSw; (try dsimp only at hSw); go_simp; try with_reducible rfl)⟩) (by assumption) ?_
        (try dsimp only [Act.put]); (try go_frame)
        refine wpAnyH_take (i := 6) (v := _) (by first | (simp only [List.getElem?_toArray, List.getElem?_cons_zero, List.getElem?_cons_succ]; rfl) | rfl) (by kernel_rfl) (by kernel_rfl) (by kernel_rfl) (by exact fun _ _ _ h => h) (Or.inl ⟨by rfl, by (intro w hSw; (try dsimp only at hSw); go_simp; try with_reducible rfl)⟩) (by assumption) ?_
        (try dsimp only [Act.put]); (try go_frame)
        refine wpAnyH_take (i := 7) (v := _) (by first | (simp only [List.getElem?_toArray, List.getElem?_cons_zero, List.getElem?_cons_succ]; rfl) | rfl) (by kernel_rfl) (by kernel_rfl) (by kernel_rfl) (by exact fun _ _ _ h => h) (Or.inl ⟨by rfl, by (intro w hSw; (try dsimp only at hSw); go_simp; try with_reducible rfl)⟩) (by assumption) ?_
        (try dsimp only [Act.put]); (try go_frame)
        refine wpAnyH_take (i := 11) (v := _) (by first | (simp only [List.getElem?_toArray, List.getElem?_cons_zero, List.getElem?_cons_succ]; rfl) | rfl) (by kernel_rfl) (by kernel_rfl) (by kernel_rfl) (by exact fun _ _ _ h => h) (Or.inl ⟨by rfl, by (intro w hSw; (try dsimp only at hSw); go_simp; try with_reducible rfl)⟩) (by assumption) ?_
        (try dsimp only [Act.put]); (try go_frame)
        refine wpAnyH_take (i := 12) (v := _) (by first | (simp only [List.getElem?_toArray, List.getElem?_cons_zero, List.getElem?_cons_succ]; rfl) | rfl) (by kernel_rfl) (by kernel_rfl) (by kernel_rfl) (by exact fun _ _ _ h => h) (Or.inl ⟨by rfl, by (intro w hSw; (try dsimp only at hSw); go_simp; try with_reducible rfl)⟩) (by assumption) ?_
        (try dsimp only [Act.put]); (try go_frame)
        refine wpAnyH_ready (rs := [8]) (by kernel_rfl) (by simp) ?_
        refine AllReadyH.cons rfl (fun K hK => ?_) AllReadyH.nil
        go_simp
        refine (HA.out _ rfl).mono ?_
        rintro r w1 ⟨rfl, rfl⟩
        refine hK.out _ _ ?_ (fun hHeld => ?_)
        · exact k1
        clear hK K
        (try dsimp only [Act.put]); (try go_frame)
        refine wpAnyH_take (i := 9) (v := _) (by first | (simp only [List.getElem?_toArray, List.getElem?_cons_zero, List.getElem?_cons_succ]; rfl) | rfl) (by kernel_rfl) (by kernel_rfl) (by kernel_rfl) (by exact fun _ _ _ h => h) (Or.inl ⟨by rfl, by (intro w hSw; (try dsimp only at hSw); go_simp; try with_reducible rfl)⟩) (by assumption) ?_
        (try dsimp only [Act.put]); (try go_frame)
        refine wpAnyH_take (i := 10) (v := _) (by first | (simp only [List.getElem?_toArray, List.getElem?_cons_zero, List.getElem?_cons_succ]; rfl) | rfl) (by kernel_rfl) (by kernel_rfl) (by kernel_rfl) (by exact fun _ _ _ h => h) (Or.inl ⟨by rfl, by (intro w hSw; (try dsimp only at hSw); go_simp; try with_reducible rfl)⟩) (by assumption) ?_
        (try dsimp only [Act.put]); (try go_frame)
        refine wpAnyH_take (i := 13) (v := _) (by first | (simp only [List.getElem?_toArray, List.getElem?_cons_zero, List.getElem?_cons_succ]; rfl) | rfl) (by kernel_rfl) (by kernel_rfl) (by kernel_rfl) (by exact fun _ _ _ h => h) (Or.inl ⟨by rfl, by (intro w hSw; (try dsimp only at hSw); go_simp; try with_reducible rfl)⟩) (by assumption) ?_
        (try dsimp only [Act.put]); (try go_frame)
        refine wpAnyH_take (i := 14) (v := _) (by first | (simp only [List.getElem?_toArray, List.getElem?_cons_zero, List.getElem?_cons_succ]; rfl) | rfl) (by kernel_rfl) (by kernel_rfl) (by kernel_rfl) (by exact fun _ _ _ h => h) (Or.inl ⟨by rfl, by (intro w hSw; (try dsimp only at hSw); go_simp; try with_reducible rfl)⟩) (by assumption) ?_
        (try dsimp only [Act.put]); (try go_frame)
        refine wpAnyH_ready (rs := [15]) (by kernel_rfl) (by simp) ?_
        refine AllReadyH.cons rfl (fun K hK => ?_) AllReadyH.nil
        go_simp
        refine hK.out _ _ ?_ (fun hHeld => ?_)
        · exact (((Below.refl wr.heap.size wr).drew.alloc (Nat.le_refl _) _).cell hblt).trans k1
        clear hK K
        (try dsimp only [Act.put]); (try go_frame)
        refine wpAnyH_done (by kernel_rfl) ?_ _
        try simp only [QCut]
        clear hHeld k1 HA W1 W2 W3 hsh hrm
        go_wp2_with (at_builtin; refine wpList_append_own _ rfl _ _ 122 rfl w.heap.size 3 i0 (.int .i64 0) 1 8 Tryd.underlying122 hi hz0 hz1 hz2 rfl (by decide) _ _ _ rfl (by exact hown.alloc _) ⟨wr.heap.size, 0, none⟩ 1 1 [.int .i64 d2] rfl rfl ?c1 ?c2 ?c3 ?c4 ?c5 ?_)
        case c2 => rfl
        case c3 => unfold maxLen; omega
        case c4 => omega
        case c5 => first | omega | (simp; omega)
        · intro v' w1 hown' hgrow _
          rw [own_grow (g := fun i => (dg 8 (x / 2 ^ k) i : Int)) (fun _ _ => rfl) (congrArg Nat.cast HE.out), show p - q + 1 = p + 1 - q by have := HG.out.1; omega] at hown'
          have hb1 := (HG.out.2.drew.alloc hb2 (Obj.cells #[Value.int IntKind.i64 d2] 3)).grown hgrow (by simp; omega) (fun k hk => (hown.lt k hk).1)
          clear hown hgrow
          go_wp2
          go_roundg (n - (p + 1))
          case measure => have := HG.out.1; omega
          case rel => exact ⟨p + 1, by omega, by omega, rfl, by go_num, hown', hb1⟩
      · obtain rfl : p = n := by omega
        obtain ⟨A', c', rfl, hnc', hs'⟩ := hown.slc
        have hle := dn_le (k := 8) (by omega) Hx.out
        rw [← Hq.out] at hle
        have Hle := Lib.hid hle
        have Hx2 := Hx.out
        rw [← Hq.out] at Hx2
        have Hx3 := Lib.hid Hx2
        clear hle Hx2 h hg hown
        go_wp2_with fail
        refine (rcut_any A' (p - q) c' (x / 2 ^ k) _ Hx3.out hnc' (by omega) hs').mono ?_
        rintro r w1 ⟨rfl, rfl⟩
        go_wp2
        go_ret
        exact ⟨A', c', rfl, Nat.le_trans Hle.out hnc', hs'.le Hle.out, hbel⟩
end Go.Proofs.YtgcifpjhhoalmaaDoor
