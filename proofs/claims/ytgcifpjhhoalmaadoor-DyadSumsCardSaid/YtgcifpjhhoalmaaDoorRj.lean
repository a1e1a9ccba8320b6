/- The walks over the reference's numbers: plus, minus. -/
import Derived.Test.YtgcifpjhhoalmaaDoorRi
namespace Go.Proofs.YtgcifpjhhoalmaaDoor
open Go Go.RowKit Go.PlainAid Fil

set_option maxRecDepth 100000 in
set_option maxHeartbeats 2000000 in
theorem rplus_any (A B : Option Addr) (n c x m d y : Nat) (w : World) (hn : n = Fil.dn 8 x) (hm : m = Fil.dn 8 y) (hn8 : n ≤ 1048576) (hm8 : m ≤ 1048576)
    (ha : Slc w 3 A n (i8 x)) (hb : Slc w 3 B m (i8 y)) :
    Calls Tryd.prog 114 #[.slice A n c, .slice B m d] w fun r w' => BigR w (x + y) r w' := by
  have hx := lt_dn (k := 8) (by omega) x
  have hy := lt_dn (k := 8) (by omega) y
  rw [← hn] at hx
  rw [← hm] at hy
  have Hn := Lib.hid hn
  have Hm := Lib.hid hm
  obtain ⟨i0, hi, hp⟩ := Option.map_eq_some_iff.1 Tryd.info3
  have hz0 : i0.zero = some (.int .i64 0) := congrArg Prod.fst hp
  have hz1 : i0.size = 1 := congrArg (fun q => q.2.1) hp
  have hz2 : i0.bytes = 8 := congrArg (fun q => q.2.2) hp
  obtain ⟨M, hM⟩ : ∃ M, M = max n m := ⟨_, rfl⟩
  have hnM : n ≤ M := by omega
  have hmM : m ≤ M := by omega
  have hM8 : M ≤ 1048576 := by omega
  have HM := Lib.hid hM
  have hx1 : x < 2 ^ (8 * M) := Nat.lt_of_lt_of_le hx (pmono (by omega))
  have hy1 : y < 2 ^ (8 * M) := Nat.lt_of_lt_of_le hy (pmono (by omega))
  have HT := Lib.hid (carry_top_dg (k := 8) (by omega) hx1 hy1)
  have HL := Lib.hid (add_lt_succ (k := 8) (by omega) hx1 hy1)
  clear hn hm hp hM hx hy hx1 hy1
  go_enter Tryd.func114, Tryd.ntmps114
  go_wp2
  go_loopg [5, 6, 7] M (fun g s5 s6 s7 wr => ∃ i : Nat, i ≤ M ∧ g = M - i ∧ s6 = .int .i64 (carry 8 x y i) ∧ s7 = .int .i64 i ∧ Own wr w.heap.size s5 i (fun j => (dg 8 (x + y) j : Int)) ∧ Below w.heap.size w wr)
  case atStart => exact ⟨0, by omega, by omega, by rw [carry_zero]; rfl, rfl, Own.nil _ _ _, Below.refl _ _⟩
  case round =>
    obtain ⟨i, hiM, hg, rfl, rfl, hown, hbel⟩ := hrel
    have hs1 := ha.below hbel
    have hs2 := hb.below hbel
    have hra := fun W => rat_any A n c x (i : Int) W Hn.out (by omega) (by omega)
    have hrb := fun W => rat_any B m d y (i : Int) W Hm.out (by omega) (by omega)
    rw [Int.toNat_natCast] at hra hrb
    have hcl := carry_le 8 x y i
    have h1 := carry_dg 8 x y i
    have h2 := carry_succ 8 x y i
    have hd0 := dg_lt 8 x i
    have hd1 := dg_lt 8 y i
    have hb2 := hbel.size
    have HG := Lib.hid (And.intro hg hbel)
    have HA := Lib.hid (And.intro hra hrb)
    have HB := Lib.hid (And.intro h1 h2)
    clear hg hbel hra hrb h1 h2
    by_cases hex : n ≤ i ∧ m ≤ i
    · obtain ⟨he1, he2⟩ := hex
      obtain rfl : i = M := by have := HM.out; omega
      have ht : carry 8 x y i = dg 8 (x + y) i := HT.out
      rw [ht]
      have hdt := dg_lt 8 (x + y) i
      have HE := Lib.hid ht
      clear ht hs1 hs2 HB hcl hd0 hd1 ha hb
      go_wp2_with (at_builtin; refine wpList_append_own _ rfl _ _ 122 rfl w.heap.size 3 i0 (.int .i64 0) 1 8 Tryd.underlying122 hi hz0 hz1 hz2 rfl (by decide) _ _ _ rfl (by exact hown.alloc _) ⟨wr.heap.size, 0, none⟩ 1 1 [.int .i64 (dg 8 (x + y) i)] rfl rfl ?c1 ?c2 ?c3 ?c4 ?c5 ?_)
      case c1 =>
        intro j u hj
        match j, hj with
        | 0, hj => simp at hj; subst hj; simp [Addr.add]
      case c2 => intro u hu; simp at hu; subst hu; rfl
      case c3 => unfold maxLen; omega
      case c4 => omega
      case c5 => simp; omega
      · intro v' w1 hown' hgrow _
        rw [own_grow (g := fun i => (dg 8 (x + y) i : Int)) (fun _ _ => rfl) rfl] at hown'
        have hb1 := (HG.out.2.alloc hb2 (Obj.cells #[Value.int IntKind.i64 (dg 8 (x + y) i)] 3)).grown hgrow (by simp; omega) (fun k hk => (hown.lt k hk).1)
        clear hown hgrow
        obtain ⟨A', c', rfl, hnc', hs'⟩ := Own.slc hown'
        have Hle := Lib.hid (dn_le (k := 8) (by omega) HL.out)
        clear hown'
        go_wp2_with fail
        refine (rcut_any A' (i + 1) c' (x + y) _ HL.out hnc' (by omega) hs').mono ?_
        rintro r w2 ⟨rfl, rfl⟩
        go_wp2
        go_ret
        exact ⟨A', c', rfl, Nat.le_trans Hle.out hnc', hs'.le Hle.out, hb1⟩
    · have hiM' : i < M := by omega
      have hM2 := Lib.hid hex
      obtain ⟨ca, hca⟩ : ∃ ca, ca = carry 8 x y i := ⟨_, rfl⟩
      rw [← hca] at hcl HB ⊢
      clear hca hex
      by_cases hin : i < n
      · go_wp2_with fail
        refine (HA.out.1 _ (by exact hs1)).mono ?_
        rintro r w1 ⟨rfl, rfl⟩
        go_wp2_with fail
        refine (HA.out.2 _ (by exact hs2)).mono ?_
        rintro r w1 ⟨rfl, rfl⟩
        generalize dg 8 x i = d0 at *
        generalize dg 8 y i = d1 at *
        clear hs1 hs2 HA
        go_wp2_with (at_builtin; refine wpList_append_own _ rfl _ _ 122 rfl w.heap.size 3 i0 (.int .i64 0) 1 8 Tryd.underlying122 hi hz0 hz1 hz2 rfl (by decide) _ _ _ rfl (by exact hown.alloc _) ⟨wr.heap.size, 0, none⟩ 1 1 [.int .i64 (((ca : Int) + d0 + d1) % 256)] rfl rfl ?c1 ?c2 ?c3 ?c4 ?c5 ?_)
        case c1 =>
          intro j u hj
          match j, hj with
          | 0, hj => simp at hj; subst hj; simp [Addr.add]
        case c2 => intro u hu; simp at hu; subst hu; rfl
        case c3 => unfold maxLen; omega
        case c4 => omega
        case c5 => simp; omega
        · intro v' w1 hown' hgrow _
          rw [own_grow (g := fun i => (dg 8 (x + y) i : Int)) (fun _ _ => rfl) (by have := HB.out.1; omega)] at hown'
          have hb1 := (HG.out.2.alloc hb2 (Obj.cells #[Value.int IntKind.i64 (((ca : Int) + d0 + d1) % 256)] 3)).grown hgrow (by simp; omega) (fun k hk => (hown.lt k hk).1)
          clear hown hgrow
          go_wp2
          go_roundg (M - (i + 1))
          case measure => have := HG.out.1; omega
          case rel => exact ⟨i + 1, by omega, rfl, by rw [← HB.out.2]; go_num, by go_num, hown', hb1⟩
      · have him : i < m := by have := hM2.out; omega
        go_wp2_with fail
        refine (HA.out.1 _ (by exact hs1)).mono ?_
        rintro r w1 ⟨rfl, rfl⟩
        go_wp2_with fail
        refine (HA.out.2 _ (by exact hs2)).mono ?_
        rintro r w1 ⟨rfl, rfl⟩
        generalize dg 8 x i = d0 at *
        generalize dg 8 y i = d1 at *
        clear hs1 hs2 HA
        go_wp2_with (at_builtin; refine wpList_append_own _ rfl _ _ 122 rfl w.heap.size 3 i0 (.int .i64 0) 1 8 Tryd.underlying122 hi hz0 hz1 hz2 rfl (by decide) _ _ _ rfl (by exact hown.alloc _) ⟨wr.heap.size, 0, none⟩ 1 1 [.int .i64 (((ca : Int) + d0 + d1) % 256)] rfl rfl ?c1 ?c2 ?c3 ?c4 ?c5 ?_)
        case c1 =>
          intro j u hj
          match j, hj with
          | 0, hj => simp at hj; subst hj; simp [Addr.add]
        case c2 => intro u hu; simp at hu; subst hu; rfl
        case c3 => unfold maxLen; omega
        case c4 => omega
        case c5 => simp; omega
        · intro v' w1 hown' hgrow _
          rw [own_grow (g := fun i => (dg 8 (x + y) i : Int)) (fun _ _ => rfl) (by have := HB.out.1; omega)] at hown'
          have hb1 := (HG.out.2.alloc hb2 (Obj.cells #[Value.int IntKind.i64 (((ca : Int) + d0 + d1) % 256)] 3)).grown hgrow (by simp; omega) (fun k hk => (hown.lt k hk).1)
          clear hown hgrow
          go_wp2
          go_roundg (M - (i + 1))
          case measure => have := HG.out.1; omega
          case rel => exact ⟨i + 1, by omega, rfl, by rw [← HB.out.2]; go_num, by go_num, hown', hb1⟩

theorem rat_quiet (A : Option Addr) (n c x : Nat) (z : Int) (w : World) (hn : n = Fil.dn 8 x) (h0 : 0 ≤ z) (h8 : n ≤ 4398046511104) (h : Slc w 3 A n (i8 x)) :
    Calls Tryd.prog 158 #[.slice A n c, .int .i64 z] w fun e w' => e = .returned (.int .i64 (dg 8 x z.toNat)) ∧ ∃ k, w' = w.drewN k :=
  (rat_any A n c x z w hn h0 h8 h).mono fun _ _ ⟨he, hw⟩ => ⟨he, 0, hw.symm⟩

set_option maxRecDepth 100000 in
set_option maxHeartbeats 2000000 in
theorem rminus_any (A B : Option Addr) (n c x m d y : Nat) (w : World) (hn : n = Fil.dn 8 x) (hm : m = Fil.dn 8 y) (hxy : y ≤ x) (hn8 : n ≤ 1048576)
    (ha : Slc w 3 A n (i8 x)) (hb : Slc w 3 B m (i8 y)) :
    Calls Tryd.prog 135 #[.slice A n c, .slice B m d] w fun r w' => BigR w (x - y) r w' := by
  have hx := lt_dn (k := 8) (by omega) x
  rw [← hn] at hx
  have hmn : m ≤ n := by rw [hn, hm]; exact dn_mono (by omega) hxy
  have Hn := Lib.hid hn
  have Hm := Lib.hid hm
  obtain ⟨i0, hi, hp⟩ := Option.map_eq_some_iff.1 Tryd.info3
  have hz0 : i0.zero = some (.int .i64 0) := congrArg Prod.fst hp
  have hz1 : i0.size = 1 := congrArg (fun q => q.2.1) hp
  have hz2 : i0.bytes = 8 := congrArg (fun q => q.2.2) hp
  have HL0 := Lib.hid (Nat.lt_of_le_of_lt (Nat.sub_le x y) hx)
  have Hxy := Lib.hid hxy
  clear hn hm hp hx hxy
  go_enter Tryd.func135, Tryd.ntmps135
  go_wp2
  go_loopg [5, 6, 7] n (fun g s5 s6 s7 wr => ∃ i : Nat, i ≤ n ∧ g = n - i ∧ s6 = .int .i64 (borrow 8 x y i) ∧ s7 = .int .i64 i ∧ Own wr w.heap.size s5 i (fun j => (dg 8 (x - y) j : Int)) ∧ Below w.heap.size w wr)
  case atStart => exact ⟨0, by omega, by omega, by rw [borrow_zero]; rfl, rfl, Own.nil _ _ _, Below.refl _ _⟩
  case round =>
    obtain ⟨i, hiM, hg, rfl, rfl, hown, hbel⟩ := hrel
    have hs1 := ha.below hbel
    have hs2 := hb.below hbel
    have hrb := fun W => rat_quiet B m d y (i : Int) W Hm.out (by omega) (by omega)
    simp only [Int.toNat_natCast] at hrb
    have hcl := borrow_le 8 x y i
    have h1 := sub_succ (k := 8) (i := i) Hxy.out
    have h2 := borrow_succ 8 x y i
    have hd0 := dg_lt 8 x i
    have hd1 := dg_lt 8 y i
    have hb2 := hbel.size
    have HG := Lib.hid (And.intro hg hbel)
    have HA := Lib.hid hrb
    have HB := Lib.hid (And.intro h1 h2)
    clear hg hbel hrb h1 h2
    by_cases hin : i < n
    · by_cases hlt : dg 8 x i < dg 8 y i + borrow 8 x y i
      · have HL := Lib.hid hlt
        obtain ⟨b1, o1, rfl, _, hc1⟩ := hs1.cell (by omega)
        have k1 := hc1 i hin
        simp only [i8] at k1
        clear hc1 hs1
        generalize dg 8 x i = d0 at *
        generalize dg 8 y i = d1 at *
        generalize borrow 8 x y i = bo at *
        have W1 : IntKind.i64.wrap ((d0 : Int) - d1) = (d0 : Int) - d1 := IntWalk.i64_in _ (by omega)
        have W2 : IntKind.i64.wrap ((d0 : Int) - d1 - bo) = (d0 : Int) - d1 - bo := IntWalk.i64_in _ (by omega)
        have P0 : (0 : Int) ≤ (i : Int) := by omega
        have P1 : (i : Int) < (n : Int) := by omega
        go_wp2_with fail
        go_quiet ((go_at_call 158; exact Calls.quiet_of (HA.out _ (by exact hs2))))
        clear HA hs2 W1 W2 k1
        go_wp2_with (at_builtin; refine wpList_append_own _ rfl _ _ 122 rfl w.heap.size 3 i0 (.int .i64 0) 1 8 Tryd.underlying122 hi hz0 hz1 hz2 rfl (by decide) _ _ _ rfl (by exact hown.alloc _) ⟨wr.heap.size, 0, none⟩ 1 1 [.int .i64 ((d0 : Int) - d1 - bo + 256)] rfl rfl ?c1 ?c2 ?c3 ?c4 ?c5 ?_)
        case c1 =>
          intro j u hj
          match j, hj with
          | 0, hj => simp at hj; subst hj; simp [Addr.add]; exact one_cell (wr.drewN nq) _ _
        case c2 => intro u hu; simp at hu; subst hu; rfl
        case c3 => unfold maxLen; omega
        case c4 => omega
        case c5 => simp; omega
        · intro v' w1 hown' hgrow _
          rw [own_grow (g := fun i => (dg 8 (x - y) i : Int)) (fun _ _ => rfl) (by have := HB.out.1; have := HL.out; omega)] at hown'
          have hb1 := ((Below.drewN' HG.out.2 nq).alloc hb2 (Obj.cells #[Value.int IntKind.i64 ((d0 : Int) - d1 - bo + 256)] 3)).grown hgrow (by simp; omega) (fun k hk => (hown.lt k hk).1)
          clear hown hgrow
          go_wp2
          go_roundg (n - (i + 1))
          case measure => have := HG.out.1; omega
          case rel => exact ⟨i + 1, by omega, rfl, by rw [HB.out.2, if_pos HL.out]; rfl, by go_num, hown', hb1⟩
      · have HL := Lib.hid hlt
        obtain ⟨b1, o1, rfl, _, hc1⟩ := hs1.cell (by omega)
        have k1 := hc1 i hin
        simp only [i8] at k1
        clear hc1 hs1
        generalize dg 8 x i = d0 at *
        generalize dg 8 y i = d1 at *
        generalize borrow 8 x y i = bo at *
        have W1 : IntKind.i64.wrap ((d0 : Int) - d1) = (d0 : Int) - d1 := IntWalk.i64_in _ (by omega)
        have W2 : IntKind.i64.wrap ((d0 : Int) - d1 - bo) = (d0 : Int) - d1 - bo := IntWalk.i64_in _ (by omega)
        have P0 : (0 : Int) ≤ (i : Int) := by omega
        have P1 : (i : Int) < (n : Int) := by omega
        go_wp2_with fail
        go_quiet ((go_at_call 158; exact Calls.quiet_of (HA.out _ (by exact hs2))))
        clear HA hs2 W1 W2 k1
        go_wp2_with (at_builtin; refine wpList_append_own _ rfl _ _ 122 rfl w.heap.size 3 i0 (.int .i64 0) 1 8 Tryd.underlying122 hi hz0 hz1 hz2 rfl (by decide) _ _ _ rfl (by exact hown.alloc _) ⟨wr.heap.size, 0, none⟩ 1 1 [.int .i64 ((d0 : Int) - d1 - bo)] rfl rfl ?c1 ?c2 ?c3 ?c4 ?c5 ?_)
        case c1 =>
          intro j u hj
          match j, hj with
          | 0, hj => simp at hj; subst hj; simp [Addr.add]; exact one_cell (wr.drewN nq) _ _
        case c2 => intro u hu; simp at hu; subst hu; rfl
        case c3 => unfold maxLen; omega
        case c4 => omega
        case c5 => simp; omega
        · intro v' w1 hown' hgrow _
          rw [own_grow (g := fun i => (dg 8 (x - y) i : Int)) (fun _ _ => rfl) (by have := HB.out.1; have := HL.out; omega)] at hown'
          have hb1 := ((Below.drewN' HG.out.2 nq).alloc hb2 (Obj.cells #[Value.int IntKind.i64 ((d0 : Int) - d1 - bo)] 3)).grown hgrow (by simp; omega) (fun k hk => (hown.lt k hk).1)
          clear hown hgrow
          go_wp2
          go_roundg (n - (i + 1))
          case measure => have := HG.out.1; omega
          case rel => exact ⟨i + 1, by omega, rfl, by rw [HB.out.2, if_neg HL.out]; rfl, by go_num, hown', hb1⟩
    · obtain rfl : i = n := by omega
      obtain ⟨A', c', rfl, hnc', hs'⟩ := Own.slc hown
      have Hle := Lib.hid (dn_le (k := 8) (by omega) HL0.out)
      have hbel := HG.out.2
      clear hown HB hd0 hd1 hcl hs1 hs2 ha hb HA
      go_wp2_with fail
      refine (rcut_any A' i c' (x - y) _ HL0.out hnc' (by omega) hs').mono ?_
      rintro r w2 ⟨rfl, rfl⟩
      go_wp2
      go_ret
      exact ⟨A', c', rfl, Nat.le_trans Hle.out hnc', hs'.le Hle.out, hbel⟩
end Go.Proofs.YtgcifpjhhoalmaaDoor
