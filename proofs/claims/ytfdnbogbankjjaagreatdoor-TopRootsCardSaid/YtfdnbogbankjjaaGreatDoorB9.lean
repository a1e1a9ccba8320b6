/- The reference's plus, minus, shifted, cmp, times, fit. -/
import Derived.Test.YtfdnbogbankjjaaGreatDoorB8
import Derived.Test.YtfdnbogbankjjaaGreatDoorB5

/- The walks over the reference's numbers: plus, minus. -/
namespace Go.Proofs.YtfdnbogbankjjaaGreatDoor
open Go Go.RowKit Go.PlainAid Fil

set_option maxRecDepth 100000 in
set_option maxHeartbeats 2000000 in
theorem rplus_any (A B : Option Addr) (n c x m d y : Nat) (w : World) (hn : n = Fil.dn 8 x) (hm : m = Fil.dn 8 y) (hn8 : n ≤ 1048576) (hm8 : m ≤ 1048576)
  (ha : Slc w 3 A n (i8 x)) (hb : Slc w 3 B m (i8 y)) :
  Calls Tryz.prog 93 #[.slice A n c, .slice B m d] w fun r w' => BigR w (x + y) r w' := by
 have hx := lt_dn (k := 8) (by omega) x
 have hy := lt_dn (k := 8) (by omega) y
 rw [← hn] at hx
 rw [← hm] at hy
 have Hn := Lib.hid hn
 have Hm := Lib.hid hm
 obtain ⟨i0, hi, hp⟩ := Option.map_eq_some_iff.1 Tryz.info3
 have hz0 : i0.zero = some (.int .i64 0) := congrArg Prod.fst hp
 have hz1 : i0.size = 1 := congrArg (fun q => q.2.1) hp
 have hz2 : i0.bytes = 8 := congrArg (fun q => q.2.2) hp
 obtain ⟨M, hM⟩ : ∃ M, M = max n m := ⟨_, rfl⟩
 have hnM : n ≤ M := by omega
 have hmM : m ≤ M := by omega
 have hM8 : M ≤ 1048576 := by omega
 have HM := Lib.hid hM
 have hx1 : x < 2 ^ (8 * M) := Nat.lt_of_lt_of_le hx (pmono (by omega))
 have hy1 : y < 2 ^ (8 * M) := Nat.lt_of_lt_of_le hy (pmono (by omega))
 have HT := Lib.hid (carry_top_dg (k := 8) (by omega) hx1 hy1)
 have HL := Lib.hid (add_lt_succ (k := 8) (by omega) hx1 hy1)
 clear hn hm hp hM hx hy hx1 hy1
 go_enter Tryz.func93, Tryz.ntmps93
 go_wp2
 go_loopg [5, 6, 7] M (fun g s5 s6 s7 wr => ∃ i : Nat, i ≤ M ∧ g = M - i ∧ s6 = .int .i64 (carry 8 x y i) ∧ s7 = .int .i64 i ∧ Own wr w.heap.size s5 i (fun j => (dg 8 (x + y) j : Int)) ∧ Below w.heap.size w wr)
 case atStart => exact ⟨0, by omega, by omega, by rw [carry_zero]; rfl, rfl, Own.nil _ _ _, Below.refl _ _⟩
 case round =>
  obtain ⟨i, hiM, hg, rfl, rfl, hown, hbel⟩ := hrel
  have hs1 := ha.below hbel
  have hs2 := hb.below hbel
  have hra := fun W => rat_any A n c x (i : Int) W Hn.out (by omega) (by omega)
  have hrb := fun W => rat_any B m d y (i : Int) W Hm.out (by omega) (by omega)
  rw [Int.toNat_natCast] at hra hrb
  have hcl := carry_le 8 x y i
  have h1 := carry_dg 8 x y i
  have h2 := carry_succ 8 x y i
  have hd0 := dg_lt 8 x i
  have hd1 := dg_lt 8 y i
  have hb2 := hbel.size
  have HG := Lib.hid (And.intro hg hbel)
  have HA := Lib.hid (And.intro hra hrb)
  have HB := Lib.hid (And.intro h1 h2)
  clear hg hbel hra hrb h1 h2
  by_cases hex : n ≤ i ∧ m ≤ i
  ·obtain ⟨he1, he2⟩ := hex
   obtain rfl : i = M := by have := HM.out; omega
   have ht : carry 8 x y i = dg 8 (x + y) i := HT.out
   rw [ht]
   have hdt := dg_lt 8 (x + y) i
   have HE := Lib.hid ht
   clear ht hs1 hs2 HB hcl hd0 hd1 ha hb
   go_wp2_with (at_builtin; refine wpList_append_own _ rfl _ _ 94 rfl w.heap.size 3 i0 (.int .i64 0) 1 8 Tryz.underlying94 hi hz0 hz1 hz2 rfl (by decide) _ _ _ rfl (by exact hown.alloc _) ⟨wr.heap.size, 0, none⟩ 1 1 [.int .i64 (dg 8 (x + y) i)] rfl rfl ?c1 ?c2 ?c3 ?c4 ?c5 ?_)
   case c1 =>
    intro j u hj
    match j, hj with
    | 0, hj => simp at hj; subst hj; simp [Addr.add]
   case c2 => intro u hu; simp at hu; subst hu; rfl
   case c3 => unfold maxLen; omega
   case c4 => omega
   case c5 => simp; omega
   ·intro v' w1 hown' hgrow _
    rw [own_grow (g := fun i => (dg 8 (x + y) i : Int)) (fun _ _ => rfl) rfl] at hown'
    have hb1 := (HG.out.2.alloc hb2 (Obj.cells #[Value.int IntKind.i64 (dg 8 (x + y) i)] 3)).grown hgrow (by simp; omega) (fun k hk => (hown.lt k hk).1)
    clear hown hgrow
    obtain ⟨A', c', rfl, hnc', hs'⟩ := Own.slc hown'
    have Hle := Lib.hid (dn_le (k := 8) (by omega) HL.out)
    clear hown'
    go_wp2_with fail
    refine (rcut_any A' (i + 1) c' (x + y) _ HL.out hnc' (by omega) hs').mono ?_
    rintro r w2 ⟨rfl, rfl⟩
    go_wp2
    go_ret
    exact ⟨A', c', rfl, Nat.le_trans Hle.out hnc', hs'.le Hle.out, hb1⟩
  ·have hiM' : i < M := by omega
   have hM2 := Lib.hid hex
   obtain ⟨ca, hca⟩ : ∃ ca, ca = carry 8 x y i := ⟨_, rfl⟩
   rw [← hca] at hcl HB ⊢
   clear hca hex
   by_cases hin : i < n
   ·go_wp2_with fail
    refine (HA.out.1 _ (by exact hs1)).mono ?_
    rintro r w1 ⟨rfl, rfl⟩
    go_wp2_with fail
    refine (HA.out.2 _ (by exact hs2)).mono ?_
    rintro r w1 ⟨rfl, rfl⟩
    generalize dg 8 x i = d0 at *
    generalize dg 8 y i = d1 at *
    clear hs1 hs2 HA
    go_wp2_with (at_builtin; refine wpList_append_own _ rfl _ _ 94 rfl w.heap.size 3 i0 (.int .i64 0) 1 8 Tryz.underlying94 hi hz0 hz1 hz2 rfl (by decide) _ _ _ rfl (by exact hown.alloc _) ⟨wr.heap.size, 0, none⟩ 1 1 [.int .i64 (((ca : Int) + d0 + d1) % 256)] rfl rfl ?c1 ?c2 ?c3 ?c4 ?c5 ?_)
    case c1 =>
     intro j u hj
     match j, hj with
     | 0, hj => simp at hj; subst hj; simp [Addr.add]
    case c2 => intro u hu; simp at hu; subst hu; rfl
    case c3 => unfold maxLen; omega
    case c4 => omega
    case c5 => simp; omega
    ·intro v' w1 hown' hgrow _
     rw [own_grow (g := fun i => (dg 8 (x + y) i : Int)) (fun _ _ => rfl) (by have := HB.out.1; omega)] at hown'
     have hb1 := (HG.out.2.alloc hb2 (Obj.cells #[Value.int IntKind.i64 (((ca : Int) + d0 + d1) % 256)] 3)).grown hgrow (by simp; omega) (fun k hk => (hown.lt k hk).1)
     clear hown hgrow
     go_wp2
     go_roundg (M - (i + 1))
     case measure => have := HG.out.1; omega
     case rel => exact ⟨i + 1, by omega, rfl, by rw [← HB.out.2]; go_num, by go_num, hown', hb1⟩
   ·have him : i < m := by have := hM2.out; omega
    go_wp2_with fail
    refine (HA.out.1 _ (by exact hs1)).mono ?_
    rintro r w1 ⟨rfl, rfl⟩
    go_wp2_with fail
    refine (HA.out.2 _ (by exact hs2)).mono ?_
    rintro r w1 ⟨rfl, rfl⟩
    generalize dg 8 x i = d0 at *
    generalize dg 8 y i = d1 at *
    clear hs1 hs2 HA
    go_wp2_with (at_builtin; refine wpList_append_own _ rfl _ _ 94 rfl w.heap.size 3 i0 (.int .i64 0) 1 8 Tryz.underlying94 hi hz0 hz1 hz2 rfl (by decide) _ _ _ rfl (by exact hown.alloc _) ⟨wr.heap.size, 0, none⟩ 1 1 [.int .i64 (((ca : Int) + d0 + d1) % 256)] rfl rfl ?c1 ?c2 ?c3 ?c4 ?c5 ?_)
    case c1 =>
     intro j u hj
     match j, hj with
     | 0, hj => simp at hj; subst hj; simp [Addr.add]
    case c2 => intro u hu; simp at hu; subst hu; rfl
    case c3 => unfold maxLen; omega
    case c4 => omega
    case c5 => simp; omega
    ·intro v' w1 hown' hgrow _
     rw [own_grow (g := fun i => (dg 8 (x + y) i : Int)) (fun _ _ => rfl) (by have := HB.out.1; omega)] at hown'
     have hb1 := (HG.out.2.alloc hb2 (Obj.cells #[Value.int IntKind.i64 (((ca : Int) + d0 + d1) % 256)] 3)).grown hgrow (by simp; omega) (fun k hk => (hown.lt k hk).1)
     clear hown hgrow
     go_wp2
     go_roundg (M - (i + 1))
     case measure => have := HG.out.1; omega
     case rel => exact ⟨i + 1, by omega, rfl, by rw [← HB.out.2]; go_num, by go_num, hown', hb1⟩

theorem rat_quiet (A : Option Addr) (n c x : Nat) (z : Int) (w : World) (hn : n = Fil.dn 8 x) (h0 : 0 ≤ z) (h8 : n ≤ 4398046511104) (h : Slc w 3 A n (i8 x)) :
  Calls Tryz.prog 125 #[.slice A n c, .int .i64 z] w fun e w' => e = .returned (.int .i64 (dg 8 x z.toNat)) ∧ ∃ k, w' = w.drewN k :=
 (rat_any A n c x z w hn h0 h8 h).mono fun _ _ ⟨he, hw⟩ => ⟨he, 0, hw.symm⟩

set_option maxRecDepth 100000 in
set_option maxHeartbeats 2000000 in
theorem rminus_any (A B : Option Addr) (n c x m d y : Nat) (w : World) (hn : n = Fil.dn 8 x) (hm : m = Fil.dn 8 y) (hxy : y ≤ x) (hn8 : n ≤ 1048576)
  (ha : Slc w 3 A n (i8 x)) (hb : Slc w 3 B m (i8 y)) :
  Calls Tryz.prog 94 #[.slice A n c, .slice B m d] w fun r w' => BigR w (x - y) r w' := by
 have hx := lt_dn (k := 8) (by omega) x
 rw [← hn] at hx
 have hmn : m ≤ n := by rw [hn, hm]; exact dn_mono (by omega) hxy
 have Hn := Lib.hid hn
 have Hm := Lib.hid hm
 obtain ⟨i0, hi, hp⟩ := Option.map_eq_some_iff.1 Tryz.info3
 have hz0 : i0.zero = some (.int .i64 0) := congrArg Prod.fst hp
 have hz1 : i0.size = 1 := congrArg (fun q => q.2.1) hp
 have hz2 : i0.bytes = 8 := congrArg (fun q => q.2.2) hp
 have HL0 := Lib.hid (Nat.lt_of_le_of_lt (Nat.sub_le x y) hx)
 have Hxy := Lib.hid hxy
 clear hn hm hp hx hxy
 go_enter Tryz.func94, Tryz.ntmps94
 go_wp2
 go_loopg [5, 6, 7] n (fun g s5 s6 s7 wr => ∃ i : Nat, i ≤ n ∧ g = n - i ∧ s6 = .int .i64 (borrow 8 x y i) ∧ s7 = .int .i64 i ∧ Own wr w.heap.size s5 i (fun j => (dg 8 (x - y) j : Int)) ∧ Below w.heap.size w wr)
 case atStart => exact ⟨0, by omega, by omega, by rw [borrow_zero]; rfl, rfl, Own.nil _ _ _, Below.refl _ _⟩
 case round =>
  obtain ⟨i, hiM, hg, rfl, rfl, hown, hbel⟩ := hrel
  have hs1 := ha.below hbel
  have hs2 := hb.below hbel
  have hrb := fun W => rat_quiet B m d y (i : Int) W Hm.out (by omega) (by omega)
  simp only [Int.toNat_natCast] at hrb
  have hcl := borrow_le 8 x y i
  have h1 := sub_succ (k := 8) (i := i) Hxy.out
  have h2 := borrow_succ 8 x y i
  have hd0 := dg_lt 8 x i
  have hd1 := dg_lt 8 y i
  have hb2 := hbel.size
  have HG := Lib.hid (And.intro hg hbel)
  have HA := Lib.hid hrb
  have HB := Lib.hid (And.intro h1 h2)
  clear hg hbel hrb h1 h2
  by_cases hin : i < n
  ·by_cases hlt : dg 8 x i < dg 8 y i + borrow 8 x y i
   ·have HL := Lib.hid hlt
    obtain ⟨b1, o1, rfl, _, hc1⟩ := hs1.cell (by omega)
    have k1 := hc1 i hin
    simp only [i8] at k1
    clear hc1 hs1
    generalize dg 8 x i = d0 at *
    generalize dg 8 y i = d1 at *
    generalize borrow 8 x y i = bo at *
    have W1 : IntKind.i64.wrap ((d0 : Int) - d1) = (d0 : Int) - d1 := IntWalk.i64_in _ (by omega)
    have W2 : IntKind.i64.wrap ((d0 : Int) - d1 - bo) = (d0 : Int) - d1 - bo := IntWalk.i64_in _ (by omega)
    have P0 : (0 : Int) ≤ (i : Int) := by omega
    have P1 : (i : Int) < (n : Int) := by omega
    go_wp2_with fail
    go_quiet ((go_at_call 125; exact Calls.quiet_of (HA.out _ (by exact hs2))))
    clear HA hs2 W1 W2 k1
    go_wp2_with (at_builtin; refine wpList_append_own _ rfl _ _ 94 rfl w.heap.size 3 i0 (.int .i64 0) 1 8 Tryz.underlying94 hi hz0 hz1 hz2 rfl (by decide) _ _ _ rfl (by exact hown.alloc _) ⟨wr.heap.size, 0, none⟩ 1 1 [.int .i64 ((d0 : Int) - d1 - bo + 256)] rfl rfl ?c1 ?c2 ?c3 ?c4 ?c5 ?_)
    case c1 =>
     intro j u hj
     match j, hj with
     | 0, hj => simp at hj; subst hj; simp [Addr.add]; exact one_cell (wr.drewN nq) _ _
    case c2 => intro u hu; simp at hu; subst hu; rfl
    case c3 => unfold maxLen; omega
    case c4 => omega
    case c5 => simp; omega
    ·intro v' w1 hown' hgrow _
     rw [own_grow (g := fun i => (dg 8 (x - y) i : Int)) (fun _ _ => rfl) (by have := HB.out.1; have := HL.out; omega)] at hown'
     have hb1 := ((Below.drewN' HG.out.2 nq).alloc hb2 (Obj.cells #[Value.int IntKind.i64 ((d0 : Int) - d1 - bo + 256)] 3)).grown hgrow (by simp; omega) (fun k hk => (hown.lt k hk).1)
     clear hown hgrow
     go_wp2
     go_roundg (n - (i + 1))
     case measure => have := HG.out.1; omega
     case rel => exact ⟨i + 1, by omega, rfl, by rw [HB.out.2, if_pos HL.out]; rfl, by go_num, hown', hb1⟩
   ·have HL := Lib.hid hlt
    obtain ⟨b1, o1, rfl, _, hc1⟩ := hs1.cell (by omega)
    have k1 := hc1 i hin
    simp only [i8] at k1
    clear hc1 hs1
    generalize dg 8 x i = d0 at *
    generalize dg 8 y i = d1 at *
    generalize borrow 8 x y i = bo at *
    have W1 : IntKind.i64.wrap ((d0 : Int) - d1) = (d0 : Int) - d1 := IntWalk.i64_in _ (by omega)
    have W2 : IntKind.i64.wrap ((d0 : Int) - d1 - bo) = (d0 : Int) - d1 - bo := IntWalk.i64_in _ (by omega)
    have P0 : (0 : Int) ≤ (i : Int) := by omega
    have P1 : (i : Int) < (n : Int) := by omega
    go_wp2_with fail
    go_quiet ((go_at_call 125; exact Calls.quiet_of (HA.out _ (by exact hs2))))
    clear HA hs2 W1 W2 k1
    go_wp2_with (at_builtin; refine wpList_append_own _ rfl _ _ 94 rfl w.heap.size 3 i0 (.int .i64 0) 1 8 Tryz.underlying94 hi hz0 hz1 hz2 rfl (by decide) _ _ _ rfl (by exact hown.alloc _) ⟨wr.heap.size, 0, none⟩ 1 1 [.int .i64 ((d0 : Int) - d1 - bo)] rfl rfl ?c1 ?c2 ?c3 ?c4 ?c5 ?_)
    case c1 =>
     intro j u hj
     match j, hj with
     | 0, hj => simp at hj; subst hj; simp [Addr.add]; exact one_cell (wr.drewN nq) _ _
    case c2 => intro u hu; simp at hu; subst hu; rfl
    case c3 => unfold maxLen; omega
    case c4 => omega
    case c5 => simp; omega
    ·intro v' w1 hown' hgrow _
     rw [own_grow (g := fun i => (dg 8 (x - y) i : Int)) (fun _ _ => rfl) (by have := HB.out.1; have := HL.out; omega)] at hown'
     have hb1 := ((Below.drewN' HG.out.2 nq).alloc hb2 (Obj.cells #[Value.int IntKind.i64 ((d0 : Int) - d1 - bo)] 3)).grown hgrow (by simp; omega) (fun k hk => (hown.lt k hk).1)
     clear hown hgrow
     go_wp2
     go_roundg (n - (i + 1))
     case measure => have := HG.out.1; omega
     case rel => exact ⟨i + 1, by omega, rfl, by rw [HB.out.2, if_neg HL.out]; rfl, by go_num, hown', hb1⟩
  ·obtain rfl : i = n := by omega
   obtain ⟨A', c', rfl, hnc', hs'⟩ := Own.slc hown
   have Hle := Lib.hid (dn_le (k := 8) (by omega) HL0.out)
   have hbel := HG.out.2
   clear hown HB hd0 hd1 hcl hs1 hs2 ha hb HA
   go_wp2_with fail
   refine (rcut_any A' i c' (x - y) _ HL0.out hnc' (by omega) hs').mono ?_
   rintro r w2 ⟨rfl, rfl⟩
   go_wp2
   go_ret
   exact ⟨A', c', rfl, Nat.le_trans Hle.out hnc', hs'.le Hle.out, hbel⟩
end Go.Proofs.YtfdnbogbankjjaaGreatDoor

/- The walks over the reference's numbers: shifted, cmp. -/
namespace Go.Proofs.YtfdnbogbankjjaaGreatDoor
open Go Go.RowKit Go.PlainAid Fil

theorem Own.made (w : World) (q : Nat) (hq : q ≤ maxLen) : Own (w.alloc (.cells (madeCells #[.int .i64 0] q) 3)) w.heap.size (.slice (some ⟨w.heap.size, 0, none⟩) q q) q (fun _ => 0) := by
 refine ⟨by simp, .inr ⟨w.heap.size, q, _, rfl, Nat.le_refl _, heap_alloc_new w _, Nat.le_refl _, hq, by rw [size_madeCells]; simp, ?_⟩⟩
 apply List.ext_getElem?
 intro i
 by_cases hi : i < q
 ·rw [List.getElem?_take_of_lt (by omega), List.getElem?_map, List.getElem?_range hi, Array.getElem?_toList]
  simp [madeCells, hi, Nat.mod_one]
 ·rw [List.getElem?_take_eq_none (by omega)]
  simp [hi]

/-- what is carried on in front of digit i -/
def shm (x k i : Nat) : Nat := shl 8 x k i / 2 ^ (8 * (i + k / 8))
theorem shm_zero (x k : Nat) : shm x k 0 = 0 := by unfold shm; rw [shl_zero, Nat.zero_div]
theorem shm_sum (x k i : Nat) : shl 8 x k (i + 1) / 2 ^ (8 * (i + k / 8)) = shm x k i + dg 8 x i * 2 ^ (k % 8) := by
 have h := shl_succ 8 x (k / 8) (k % 8) i
 rw [show 8 * (k / 8) + k % 8 = k by omega] at h
 rw [h, Nat.add_mul_div_right _ _ (pp _)]
 rfl
theorem shm_dg (x k i : Nat) : (shm x k i + dg 8 x i * 2 ^ (k % 8)) % 256 = dg 8 (shl 8 x k (i + 1)) (i + k / 8) := by
 rw [← shm_sum]; rfl
theorem shm_next (x k i : Nat) : (shm x k i + dg 8 x i * 2 ^ (k % 8)) / 256 = shm x k (i + 1) := by
 rw [← shm_sum, Nat.div_div_eq_div_mul]
 unfold shm
 rw [show i + 1 + k / 8 = i + k / 8 + 1 by omega, pstep]
theorem shm_lt (x k i : Nat) : shm x k i < 256 := by
 have h := (shl_at 8 x (k / 8) (k % 8) i (by omega)).1
 have h2 := (shl_at 8 x (k / 8) (k % 8) i (by omega)).2
 rw [show 8 * (k / 8) + k % 8 = k by omega] at h h2
 rw [h2] at h
 have h3 : (2 : Nat) ^ (k % 8) ≤ 2 ^ 8 := pmono (by omega)
 exact Nat.lt_of_lt_of_le h h3
theorem shm_low (x k i : Nat) {j : Nat} (hj : j < i + k / 8) : dg 8 (shl 8 x k i) j = dg 8 (shl 8 x k (i + 1)) j := by
 have h := shl_dg_low 8 x (k / 8) (k % 8) i hj
 rw [show 8 * (k / 8) + k % 8 = k by omega] at h
 exact h.symm
theorem shm_bound {x k n : Nat} (h : x < 2 ^ (8 * n)) : x * 2 ^ k < 2 ^ (8 * (n + k / 8 + 1)) := by
 have h1 := shl_bound (k := 8) (q := k / 8) (s := k % 8) h (by omega)
 rw [show 8 * (k / 8) + k % 8 = k by omega] at h1
 exact h1
theorem shm_end {x k n : Nat} (h : x < 2 ^ (8 * n)) : shm x k n = dg 8 (x * 2 ^ k) (n + k / 8) := by
 unfold shm
 rw [shl_end h, dg_div_eq (shm_bound h)]
theorem sh8_lt {d s : Nat} (hd : d < 256) (hs : s < 8) : d * 2 ^ s < 32768 := by
 have h1 : (2 : Nat) ^ s ≤ 2 ^ 7 := pmono (by omega)
 have h2 : d * 2 ^ s ≤ 255 * 2 ^ 7 := Nat.mul_le_mul (by omega) h1
 omega

theorem sm_dg {ca t u : Nat} (h : (ca + t) % 256 = u) : ((ca : Int) + ((t : Nat) : Int)) % 256 = (u : Int) := by omega
theorem sm_next (ca t : Nat) : Value.int IntKind.i64 (((ca : Int) + ((t : Nat) : Int)) / 256) = .int .i64 (((ca + t) / 256 : Nat) : Int) := by congr 1

set_option maxRecDepth 100000 in
set_option maxHeartbeats 2000000 in
theorem rshifted_any (A : Option Addr) (n c x k : Nat) (w : World) (hn : n = Fil.dn 8 x) (hn8 : n ≤ 1048576) (hk : k ≤ 16777216)
  (ha : Slc w 3 A n (i8 x)) :
  Calls Tryz.prog 55 #[.slice A n c, .int .i64 k] w fun r w' => BigR w (x * 2 ^ k) r w' := by
 have hx := lt_dn (k := 8) (by omega) x
 rw [← hn] at hx
 by_cases h0 : n = 0
 ·have hx0 : x = 0 := by rw [h0] at hn; exact dn_eq_zero.1 hn.symm
  have h0' : ((n : Int) == 0) = true := by simpa using h0
  subst hx0
  clear hn hx h0 ha
  go_enter Tryz.func55, Tryz.ntmps55
  go_wp2
  go_ret
  exact ⟨none, 0, by rw [Nat.zero_mul, dn_zero]; rfl, by rw [Nat.zero_mul, dn_zero]; omega, by rw [Nat.zero_mul, dn_zero]; exact Slc.nil _ _ _ _, Below.refl _ _⟩
 ·have h0' : ((n : Int) == 0) = false := by simp; omega
  obtain ⟨i0, hi, hp⟩ := Option.map_eq_some_iff.1 Tryz.info3
  have hz0 : i0.zero = some (.int .i64 0) := congrArg Prod.fst hp
  have hz1 : i0.size = 1 := congrArg (fun q => q.2.1) hp
  have hz2 : i0.bytes = 8 := congrArg (fun q => q.2.2) hp
  obtain ⟨q, hq⟩ : ∃ q, q = k / 8 := ⟨_, rfl⟩
  have hq8 : q ≤ 2097152 := by omega
  have hmk := run_make_row' (P := Tryz.prog) 94 3 (.int .i64 0) 8 Tryz.underlying94 Tryz.info3 rfl .i64 .i64 q (by omega) (by omega)
  rw [show ((q : Nat) : Int) = (k : Int) / 8 by omega] at hmk
  have HT : Hid (shm x k n = dg 8 (x * 2 ^ k) (n + q)) := Lib.hid (by rw [hq]; exact shm_end hx)
  have HL : Hid (x * 2 ^ k < 2 ^ (8 * (n + q + 1))) := Lib.hid (by rw [hq]; exact shm_bound hx)
  have HZ := Lib.hid (shl_end (n := k) hx)
  have HD := Lib.hid (fun i => shm_dg x k i)
  have HX := Lib.hid (fun i => shm_next x k i)
  have HW := Lib.hid (fun i j (hj : j < i + k / 8) => @shm_low x k i j hj)
  rw [← hq] at HW
  have HD' : Hid (∀ i, (shm x k i + dg 8 x i * 2 ^ (k % 8)) % 256 = dg 8 (shl 8 x k (i + 1)) (i + q)) := Lib.hid (by rw [hq]; exact HD.out)
  have hown0 := Own.made w q (by unfold maxLen; omega)
  have Hq := Lib.hid hq
  clear hn hx h0 hp HD hq
  go_enter Tryz.func55, Tryz.ntmps55
  go_wp2
  clear hmk
  go_loopg [5, 6, 7] n (fun g s5 s6 s7 wr => ∃ i : Nat, i ≤ n ∧ g = n - i ∧ s6 = .int .i64 (shm x k i) ∧ s7 = .int .i64 i ∧ Own wr w.heap.size s5 (i + q) (fun j => (dg 8 (shl 8 x k i) j : Int)) ∧ Below w.heap.size w wr)
  case atStart => exact ⟨0, by omega, by omega, by rw [shm_zero]; rfl, rfl, by
   rw [Nat.zero_add]
   have e : ((k : Int) / 8).toNat = q := by have := Hq.out; omega
   refine Own.congr ?_ (f := fun _ => 0) (fun j _ => by rw [shl_zero]; simp [dg])
   simpa only [e] using hown0, (Below.refl _ _).alloc (Nat.le_refl _) _⟩
  case round =>
   clear hown0
   obtain ⟨i, hin, hg, rfl, rfl, hown, hbel⟩ := hrel
   have hb2 := hbel.size
   have hsl := shm_lt x k i
   have HG := Lib.hid (And.intro hg hbel)
   by_cases hlt : i < n
   ·obtain ⟨b1, o1, rfl, _, hc1⟩ := (ha.below hbel).cell (by omega)
    have k1 := hc1 i hlt
    simp only [i8] at k1
    have hd := dg_lt 8 x i
    have he := sh8_lt (s := k % 8) hd (by omega)
    have h1 := HD'.out i
    have h2 := HX.out i
    have HB := Lib.hid (And.intro h1 h2)
    clear hg hbel h1 h2 hc1
    obtain ⟨ca, hca⟩ : ∃ ca, ca = shm x k i := ⟨_, rfl⟩
    rw [← hca] at hsl HB ⊢
    clear hca
    generalize dg 8 x i = d at *
    have B0 : 0 ≤ (d : Int) * 2 ^ (k % 8) := by rw [pow_cast]; omega
    have B1 : (d : Int) * 2 ^ (k % 8) < 32768 := by rw [pow_cast]; omega
    have HP := Lib.hid (pow_cast d (k % 8))
    go_wp2_with (at_builtin; refine wpList_append_own _ rfl _ _ 94 rfl w.heap.size 3 i0 (.int .i64 0) 1 8 Tryz.underlying94 hi hz0 hz1 hz2 rfl (by decide) _ _ _ rfl (by exact hown.alloc _) ⟨wr.heap.size, 0, none⟩ 1 1 [.int .i64 (((ca : Int) + (d : Int) * 2 ^ (k % 8)) % 256)] rfl rfl ?c1 ?c2 ?c3 ?c4 ?c5 ?_)
    case c1 =>
     intro j u hj
     match j, hj with
     | 0, hj => simp at hj; subst hj; simp [Addr.add]
    case c2 => intro u hu; simp at hu; subst hu; rfl
    case c3 => unfold maxLen; omega
    case c4 => omega
    case c5 => simp; omega
    ·intro v' w1 hown' hgrow _
     rw [own_grow (g := fun j => (dg 8 (shl 8 x k (i + 1)) j : Int)) (fun j hj => congrArg Nat.cast (HW.out i j hj)) (by rw [HP.out]; exact sm_dg HB.out.1), show i + q + 1 = i + 1 + q by omega] at hown'
     have hb1 := (HG.out.2.alloc hb2 (Obj.cells #[Value.int IntKind.i64 (((ca : Int) + (d : Int) * 2 ^ (k % 8)) % 256)] 3)).grown hgrow (by simp; omega) (fun k hk => (hown.lt k hk).1)
     clear hown hgrow
     go_wp2
     go_roundg (n - (i + 1))
     case measure => have := HG.out.1; omega
     case rel => exact ⟨i + 1, by omega, rfl, by rw [← HB.out.2, HP.out]; exact sm_next ca _, by go_num, hown', hb1⟩
   ·obtain rfl : i = n := by omega
    have ht := HT.out
    rw [HZ.out] at hown
    rw [ht]
    have hdt := dg_lt 8 (x * 2 ^ k) (i + q)
    clear ht hg ha hsl
    go_wp2_with (at_builtin; refine wpList_append_own _ rfl _ _ 94 rfl w.heap.size 3 i0 (.int .i64 0) 1 8 Tryz.underlying94 hi hz0 hz1 hz2 rfl (by decide) _ _ _ rfl (by exact hown.alloc _) ⟨wr.heap.size, 0, none⟩ 1 1 [.int .i64 (dg 8 (x * 2 ^ k) (i + q))] rfl rfl ?c1 ?c2 ?c3 ?c4 ?c5 ?_)
    case c1 =>
     intro j u hj
     match j, hj with
     | 0, hj => simp at hj; subst hj; simp [Addr.add]
    case c2 => intro u hu; simp at hu; subst hu; rfl
    case c3 => unfold maxLen; omega
    case c4 => omega
    case c5 => simp; omega
    ·intro v' w1 hown' hgrow _
     rw [own_grow (g := fun j => (dg 8 (x * 2 ^ k) j : Int)) (fun _ _ => rfl) rfl] at hown'
     have hb1 := (HG.out.2.alloc hb2 (Obj.cells #[Value.int IntKind.i64 (dg 8 (x * 2 ^ k) (i + q))] 3)).grown hgrow (by simp; omega) (fun k hk => (hown.lt k hk).1)
     clear hown hgrow
     obtain ⟨A', c', rfl, hnc', hs'⟩ := Own.slc hown'
     have Hle := Lib.hid (dn_le (k := 8) (by omega) HL.out)
     clear hown'
     go_wp2_with fail
     refine (rcut_any A' (i + q + 1) c' (x * 2 ^ k) _ HL.out hnc' (by omega) hs').mono ?_
     rintro r w2 ⟨rfl, rfl⟩
     go_wp2
     go_ret
     exact ⟨A', c', rfl, Nat.le_trans Hle.out hnc', hs'.le Hle.out, hb1⟩
set_option maxHeartbeats 1000000 in
theorem rcmp_any (A B : Option Addr) (n c x m d y : Nat) (w : World) (hn : n = Fil.dn 8 x) (hm : m = Fil.dn 8 y) (hc : n ≤ 4398046511104) (hd : m ≤ 4398046511104)
  (ha : Slc w 3 A n (i8 x)) (hb : Slc w 3 B m (i8 y)) :
  Calls Tryz.prog 56 #[.slice A n c, .slice B m d] w fun e w' => e = .returned (.int .i64 (cmpZ x y)) ∧ ∃ k, w' = w.drewN k := by
 have Hn := Lib.hid hn
 have Hm := Lib.hid hm
 clear hn hm
 by_cases hnm : n = m
 ·subst hnm
  go_enter Tryz.func56, Tryz.ntmps56
  go_wp2
  go_loopg [5] n (fun g s5 wr => ∃ k, wr = w.drewN k ∧ g ≤ n ∧ s5 = .int .i64 ((g : Int) - 1) ∧ x / 2 ^ (8 * g) = y / 2 ^ (8 * g))
  case atStart => exact ⟨0, rfl, Nat.le_refl _, rfl, by rw [Nat.div_eq_of_lt (by rw [Hn.out]; exact lt_dn (by omega) x), Nat.div_eq_of_lt (by rw [Hm.out]; exact lt_dn (by omega) y)]⟩
  case round =>
   obtain ⟨k, rfl, hg, rfl, he⟩ := hrel
   have He := Lib.hid he
   clear he
   cases gk with
   | zero =>
    have hxy : x = y := by simpa using He.out
    subst hxy
    have hz := Lib.hid (cmpZ_eq x)
    go_wp2
    go_ret
    exact ⟨by rw [hz.out]; rfl, k, rfl⟩
   | succ g =>
    obtain ⟨b1, o1, rfl, _, hc1⟩ := ha.cell (by omega)
    obtain ⟨b2, o2, rfl, _, hc2⟩ := hb.cell (by omega)
    have k1 := hc1 g (by omega)
    have k2 := hc2 g (by omega)
    simp only [i8] at k1 k2
    have e1 : ((g + 1 : Nat) : Int) - 1 = g := by omega
    have e2 : (0 : Int) ≤ g := by omega
    have e3 : (g : Int) < n := by omega
    rw [e1]
    clear hc1 hc2 e1
    rcases Nat.lt_trichotomy (dg 8 x g) (dg 8 y g) with hlt | heq | hgt
    ·have t1 : ((dg 8 x g : Int) != (dg 8 y g : Int)) = true := by rw [bne_iff_ne]; omega
     have t2 : decide (dg 8 x g < dg 8 y g) = true := by simp; omega
     have hz := Lib.hid (cmpZ_lt (cmp_digit He.out hlt))
     clear hlt
     go_wp2
     go_quiet (fail)
     go_wp2
     go_quiet (fail)
     go_wp2
     go_ret
     exact ⟨by rw [hz.out]; rfl, _, by rw [World.drewN_drewN, World.drewN_drewN]⟩
    ·have t1 : ((dg 8 x g : Int) != (dg 8 y g : Int)) = false := by simp; omega
     have hz := Lib.hid (cmp_next He.out heq)
     clear heq
     go_wp2
     go_quiet (fail)
     go_wp2
     go_roundg g
     case measure => omega
     case rel => exact ⟨_, rfl, by omega, by go_num, hz.out⟩
    ·have t1 : ((dg 8 x g : Int) != (dg 8 y g : Int)) = true := by rw [bne_iff_ne]; omega
     have t2 : decide (dg 8 x g < dg 8 y g) = false := by simp; omega
     have hz := Lib.hid (cmpZ_gt (cmp_digit He.out.symm hgt))
     clear hgt
     go_wp2
     go_quiet (fail)
     go_wp2
     go_quiet (fail)
     go_wp2
     go_ret
     exact ⟨by rw [hz.out]; rfl, _, by rw [World.drewN_drewN, World.drewN_drewN]⟩
 ·by_cases hlt : n < m
  ·have hz := Lib.hid (cmpZ_lt (cmp_len (k := 8) (x := x) (y := y) (by omega) (by rw [← Hn.out, ← Hm.out]; exact hlt)))
   go_enter Tryz.func56, Tryz.ntmps56
   go_wp2
   go_ret
   exact ⟨by rw [hz.out]; rfl, 0, rfl⟩
  ·have hz := Lib.hid (cmpZ_gt (cmp_len (k := 8) (x := y) (y := x) (by omega) (by rw [← Hn.out, ← Hm.out]; omega)))
   go_enter Tryz.func56, Tryz.ntmps56
   go_wp2
   go_ret
   exact ⟨by rw [hz.out]; rfl, 0, rfl⟩

end Go.Proofs.YtfdnbogbankjjaaGreatDoor

/- The walk over the reference's numbers: times. -/
namespace Go.Proofs.YtfdnbogbankjjaaGreatDoor
open Go Go.RowKit Go.PlainAid Fil

/-- a row that reads T below place p, V from there on -/
def mrow8 (V T p j : Nat) : Value := if j < p then i8 T j else i8 V j
theorem mrow8_step {V a y i m j : Nat} {v : Value} (hv : v = i8 (mac 8 V a y i (m + 1)) (i + m)) :
  (if j = i + m then v else mrow8 V (mac 8 V a y i m) (i + m) j) = mrow8 V (mac 8 V a y i (m + 1)) (i + (m + 1)) j := by
 unfold mrow8
 by_cases e : j = i + m
 ·subst e; rw [if_pos rfl, if_pos (by omega), hv]
 ·rw [if_neg e]
  by_cases h : j < i + m
  ·rw [if_pos h, if_pos (by omega), i8, i8, mac_low 8 V a y i m h]
  ·rw [if_neg h, if_neg (by omega)]
theorem i8_zero (j : Nat) : i8 0 j = .int .i64 0 := by simp [i8, dg]
theorem times_mac {x y i m k : Nat} (hy : y < 2 ^ (8 * m)) (hk : m ≤ k) : mac 8 (x % 2 ^ (8 * i) * y) (dg 8 x i) y i k = x % 2 ^ (8 * (i + 1)) * y := by
 have hV : x % 2 ^ (8 * i) * y < 2 ^ (8 * (i + m)) := mul_row_lt hy
 rw [mac_end (Nat.lt_of_lt_of_le hV (pmono (by omega))) (Nat.lt_of_lt_of_le hy (pmono (by omega))), mul_row]
theorem times_car {x y i m k : Nat} (hy : y < 2 ^ (8 * m)) (hk : m ≤ k) : mcar 8 (x % 2 ^ (8 * i) * y) (dg 8 x i) y i k = x % 2 ^ (8 * (i + 1)) * y / 2 ^ (8 * (i + k)) := by
 unfold mcar; rw [times_mac hy hk]
theorem times_car0 {x y i m : Nat} (hy : y < 2 ^ (8 * m)) : mcar 8 (x % 2 ^ (8 * i) * y) (dg 8 x i) y i (m + 1) = 0 := by
 rw [times_car hy (by omega)]
 exact Nat.div_eq_of_lt (by rw [show i + (m + 1) = i + 1 + m by omega]; exact mul_row_lt hy)
theorem times_end {x y i m k j : Nat} (hy : y < 2 ^ (8 * m)) (hk : m ≤ k) (h0 : mcar 8 (x % 2 ^ (8 * i) * y) (dg 8 x i) y i k = 0) :
  mrow8 (x % 2 ^ (8 * i) * y) (mac 8 (x % 2 ^ (8 * i) * y) (dg 8 x i) y i k) (i + k) j = i8 (x % 2 ^ (8 * (i + 1)) * y) j := by
 have hV : x % 2 ^ (8 * i) * y < 2 ^ (8 * (i + m)) := mul_row_lt hy
 rw [times_car hy hk] at h0
 have hR : x % 2 ^ (8 * (i + 1)) * y < 2 ^ (8 * (i + k)) := by
  rcases Nat.lt_or_ge (x % 2 ^ (8 * (i + 1)) * y) (2 ^ (8 * (i + k))) with h | h
  ·exact h
  ·have := (Nat.le_div_iff_mul_le (pp (8 * (i + k)))).2 (show 1 * 2 ^ (8 * (i + k)) ≤ _ by rw [Nat.one_mul]; exact h)
   omega
 unfold mrow8
 rw [times_mac hy hk]
 by_cases h : j < i + k
 ·rw [if_pos h]
 ·rw [if_neg h, i8, i8, dg_zero_of (Nat.lt_of_lt_of_le hV (pmono (Nat.mul_le_mul_left 8 (by omega)))), dg_zero_of (Nat.lt_of_lt_of_le hR (pmono (Nat.mul_le_mul_left 8 (by omega))))]
theorem rows_drewN {w : World} {b : Nat} {t : TypeId} {n : Nat} {f : Nat → Value} (h : w.rowIs b t n f) (k : Nat) : (w.drewN k).rowIs b t n f := h

set_option maxHeartbeats 4000000 in
set_option maxRecDepth 100000 in
theorem rtimes_any (A B : Option Addr) (n c x m d y : Nat) (w : World) (hn : n = Fil.dn 8 x) (hm : m = Fil.dn 8 y) (hn8 : n ≤ 1048576) (hm8 : m ≤ 1048576)
  (ha : Slc w 3 A n (i8 x)) (hb : Slc w 3 B m (i8 y)) :
  Calls Tryz.prog 91 #[.slice A n c, .slice B m d] w fun r w' => BigR w (x * y) r w' := by
 have hx := lt_dn (k := 8) (by omega) x
 have hy := lt_dn (k := 8) (by omega) y
 rw [← hn] at hx
 rw [← hm] at hy
 have Hx := Lib.hid hx
 have Hy := Lib.hid hy
 have Hn := Lib.hid hn
 have Hm := Lib.hid hm
 clear hn hm hx hy
 have hmk := run_make_row' (P := Tryz.prog) 94 3 (.int .i64 0) 8 Tryz.underlying94 Tryz.info3 rfl .i64 .i64 (n + m + 1) (by omega) (by omega)
 have ec : ((n + m + 1 : Nat) : Int) = (n : Int) + m + 1 := by omega
 rw [ec] at hmk
 clear ec
 go_enter Tryz.func91, Tryz.ntmps91
 go_wp2
 clear hmk
 go_loopg [6] n (fun g s6 wr => ∃ i : Nat, i ≤ n ∧ g = n - i ∧ s6 = .int .i64 i ∧ wr.rowIs w.heap.size 3 (n + m + 1) (i8 (x % 2 ^ (8 * i) * y)) ∧ Below w.heap.size w wr)
 case atStart => exact ⟨0, by omega, by omega, rfl, (World.rowIs_made w _ (n + m + 1) 3).congr (fun j _ => by simp only [Nat.mul_zero, Nat.pow_zero, Nat.mod_one, Nat.zero_mul, i8_zero]), (Below.refl _ _).alloc (Nat.le_refl _) _⟩
 case round =>
  obtain ⟨i, hi, hg, rfl, hrow, hbel⟩ := hrel
  have Hg := Lib.hid hg
  clear hg
  by_cases hin : i < n
  ·have hdx := dg_lt 8 x i
   go_wp2
   obtain ⟨wo, rfl⟩ : ∃ wo : World, wo = wr := ⟨_, rfl⟩
   go_loopg [7, 8] (m + 1) (fun g s7 s8 wr => ∃ k : Nat, k ≤ m + 1 ∧ g = m + 1 - k ∧ s7 = .int .i64 (mcar 8 (x % 2 ^ (8 * i) * y) (dg 8 x i) y i k) ∧ s8 = .int .i64 k ∧ wr.rowIs w.heap.size 3 (n + m + 1) (mrow8 (x % 2 ^ (8 * i) * y) (mac 8 (x % 2 ^ (8 * i) * y) (dg 8 x i) y i k) (i + k)) ∧ Below w.heap.size w wr)
   case atStart => exact ⟨0, by omega, by omega, by rw [mcar_zero]; rfl, rfl, hrow.congr (fun j _ => by
    unfold mrow8; rw [mac_zero]
    by_cases h : j < i + 0
    ·rw [if_pos h, i8, i8, dg_mod (by omega)]
    ·rw [if_neg h]), hbel⟩
   case round =>
    clear hrow hbel
    obtain ⟨k, hk, hg2, rfl, rfl, hrow, hbel⟩ := hrel
    have Hg2 := Lib.hid hg2
    clear hg2
    have hcar : mcar 8 (x % 2 ^ (8 * i) * y) (dg 8 x i) y i k < 256 := mcar_lt 8 _ _ y i (dg_lt 8 x i) k
    by_cases hkm : k < m
    ·have hcar0 := hcar
     obtain ⟨b1, o1, rfl, _, hc1⟩ := (ha.below hbel).cell (by omega)
     have k1 := hc1 i hin
     simp only [i8] at k1
     have k3 := hrow.cell (i := i + k) (by omega)
     have k4 := hrow.frozen (i + k)
     unfold mrow8 at k3
     rw [if_neg (by omega), i8] at k3
     have hs2 := hb.below hbel
     have hrb := fun W => rat_quiet B m d y (k : Int) W Hm.out (by omega) (by omega)
     simp only [Int.toNat_natCast] at hrb
     have HA := Lib.hid hrb
     have h1 := mcar_dg 8 (x % 2 ^ (8 * i) * y) (dg 8 x i) y i k
     have h2 := mcar_succ 8 (x % 2 ^ (8 * i) * y) (dg 8 x i) y i k
     have HB := Lib.hid (And.intro h1 h2)
     have hdv := dg_lt 8 (x % 2 ^ (8 * i) * y) (i + k)
     have hdy := dg_lt 8 y k
     have HR := Lib.hid (And.intro hrow hbel)
     have hb2 := hbel.size
     clear hc1 hrb h1 h2 hrow hbel
     obtain ⟨ca, hca⟩ : ∃ ca, ca = mcar 8 (x % 2 ^ (8 * i) * y) (dg 8 x i) y i k := ⟨_, rfl⟩
     rw [← hca] at hcar hcar0 HB ⊢
     obtain ⟨d0, hd0⟩ : ∃ d0, d0 = dg 8 (x % 2 ^ (8 * i) * y) (i + k) := ⟨_, rfl⟩
     rw [← hd0] at hdv k3 HB
     obtain ⟨d1, hd1⟩ : ∃ d1, d1 = dg 8 y k := ⟨_, rfl⟩
     rw [← hd1] at hdy HB HA
     obtain ⟨a, haa⟩ : ∃ a, a = dg 8 x i := ⟨_, rfl⟩
     rw [← haa] at hdx k1 HB HR
     obtain ⟨p, hp⟩ : ∃ p, p = a * d1 := ⟨_, rfl⟩
     have hpl : p ≤ 255 * 255 := by rw [hp]; exact Nat.mul_le_mul (by omega) (by omega)
     have W0 : (a : Int) * (d1 : Int) = (p : Int) := by rw [hp]; simp
     rw [← hp] at HB
     have W1 : IntKind.i64.wrap (p : Int) = (p : Int) := IntWalk.i64_in _ (by omega)
     have W2 : IntKind.i64.wrap ((ca : Int) + d0) = (ca : Int) + d0 := IntWalk.i64_in _ (by omega)
     have W3 : IntKind.i64.wrap ((ca : Int) + d0 + p) = (ca : Int) + d0 + p := IntWalk.i64_in _ (by omega)
     have W4 : IntKind.i64.wrap ((i : Int) + k) = (i : Int) + k := IntWalk.i64_in _ (by omega)
     have W5 : ((i : Int) + (k : Int)).toNat = i + k := by omega
     have P0 : 0 ≤ (i : Int) + k := by omega
     have P1 : (i : Int) + k < (n : Int) + m + 1 := by omega
     have P2 : 0 ≤ (i : Int) := by omega
     have P3 : (i : Int) < n := by omega
     have hp0 : (ca : Int) + d0 + p ≤ 100000 := by omega
     have hq0 : 0 ≤ (ca : Int) + d0 + p := by omega
     have Hx1 := Lib.hid (And.intro hca (And.intro hd0 (And.intro hd1 (And.intro haa hp))))
     clear hca hd0 hd1 haa hp hcar0
     go_wp2_with fail
     go_quiet ((go_at_call 125; exact Calls.quiet_of (HA.out _ (hs2.drewN _))))
     clear HA hs2 W0 W1 W2 W3 W4 k1
     go_wp2
     go_roundg (m + 1 - (k + 1))
     case measure => have := Hg2.out; omega
     case rel =>
      obtain ⟨_, _, _, haa, _⟩ := Hx1.out
      subst haa
      exact ⟨k + 1, by omega, rfl, by rw [← HB.out.2]; go_num, by go_num, ((rows_drewN HR.out.1 _).set (i + k) _).congr (fun j _ => mrow8_step (by rw [i8, ← HB.out.1]; go_num)), (Below.drewN' HR.out.2 _).setCell (Nat.le_refl _) _⟩
    ·by_cases hc0 : mcar 8 (x % 2 ^ (8 * i) * y) (dg 8 x i) y i k = 0
     ·have He := Lib.hid (fun j => @times_end x y i m k j Hy.out (by omega) hc0)
      rw [hc0]
      clear hcar hc0
      go_wp2
      go_roundg (n - (i + 1))
      case measure => have := Hg.out; omega
      case rel => exact ⟨i + 1, by omega, rfl, by go_num, hrow.congr (fun j _ => He.out j), hbel⟩
     ·have hcar0 : 0 < mcar 8 (x % 2 ^ (8 * i) * y) (dg 8 x i) y i k := by omega
      have hkm2 : k = m := by
       rcases Nat.lt_or_ge m k with h | h
       ·exfalso
        have e : k = m + 1 := by omega
        rw [e, times_car0 Hy.out] at hcar0
        omega
       ·omega
      subst hkm2
      clear hc0
      obtain ⟨b1, o1, rfl, _, hc1⟩ := (ha.below hbel).cell (by omega)
      have k1 := hc1 i hin
      simp only [i8] at k1
      have k3 := hrow.cell (i := i + k) (by omega)
      have k4 := hrow.frozen (i + k)
      unfold mrow8 at k3
      rw [if_neg (by omega), i8] at k3
      have hs2 := hb.below hbel
      have hrb := fun W => rat_quiet B k d y (k : Int) W Hm.out (by omega) (by omega)
      simp only [Int.toNat_natCast] at hrb
      have HA := Lib.hid hrb
      have h1 := mcar_dg 8 (x % 2 ^ (8 * i) * y) (dg 8 x i) y i k
      have h2 := mcar_succ 8 (x % 2 ^ (8 * i) * y) (dg 8 x i) y i k
      have HB := Lib.hid (And.intro h1 h2)
      have hdv := dg_lt 8 (x % 2 ^ (8 * i) * y) (i + k)
      have hdy := dg_lt 8 y k
      have HR := Lib.hid (And.intro hrow hbel)
      have hb2 := hbel.size
      clear hc1 hrb h1 h2 hrow hbel
      obtain ⟨ca, hca⟩ : ∃ ca, ca = mcar 8 (x % 2 ^ (8 * i) * y) (dg 8 x i) y i k := ⟨_, rfl⟩
      rw [← hca] at hcar hcar0 HB ⊢
      obtain ⟨d0, hd0⟩ : ∃ d0, d0 = dg 8 (x % 2 ^ (8 * i) * y) (i + k) := ⟨_, rfl⟩
      rw [← hd0] at hdv k3 HB
      obtain ⟨d1, hd1⟩ : ∃ d1, d1 = dg 8 y k := ⟨_, rfl⟩
      rw [← hd1] at hdy HB HA
      obtain ⟨a, haa⟩ : ∃ a, a = dg 8 x i := ⟨_, rfl⟩
      rw [← haa] at hdx k1 HB HR
      obtain ⟨p, hp⟩ : ∃ p, p = a * d1 := ⟨_, rfl⟩
      have hpl : p ≤ 255 * 255 := by rw [hp]; exact Nat.mul_le_mul (by omega) (by omega)
      have W0 : (a : Int) * (d1 : Int) = (p : Int) := by rw [hp]; simp
      rw [← hp] at HB
      have W1 : IntKind.i64.wrap (p : Int) = (p : Int) := IntWalk.i64_in _ (by omega)
      have W2 : IntKind.i64.wrap ((ca : Int) + d0) = (ca : Int) + d0 := IntWalk.i64_in _ (by omega)
      have W3 : IntKind.i64.wrap ((ca : Int) + d0 + p) = (ca : Int) + d0 + p := IntWalk.i64_in _ (by omega)
      have W4 : IntKind.i64.wrap ((i : Int) + k) = (i : Int) + k := IntWalk.i64_in _ (by omega)
      have W5 : ((i : Int) + (k : Int)).toNat = i + k := by omega
      have P0 : 0 ≤ (i : Int) + k := by omega
      have P1 : (i : Int) + k < (n : Int) + k + 1 := by omega
      have P2 : 0 ≤ (i : Int) := by omega
      have P3 : (i : Int) < n := by omega
      have hp0 : (ca : Int) + d0 + p ≤ 100000 := by omega
      have hq0 : 0 ≤ (ca : Int) + d0 + p := by omega
      have Hx1 := Lib.hid (And.intro hca (And.intro hd0 (And.intro hd1 (And.intro haa hp))))
      clear hca hd0 hd1 haa hp
      go_wp2_with fail
      go_quiet ((go_at_call 125; exact Calls.quiet_of (HA.out _ (hs2.drewN _))))
      clear HA hs2 W0 W1 W2 W3 W4 k1
      go_wp2
      go_roundg (k + 1 - (k + 1))
      case measure => have := Hg2.out; omega
      case rel =>
       obtain ⟨_, _, _, haa, _⟩ := Hx1.out
       subst haa
       exact ⟨k + 1, by omega, rfl, by rw [← HB.out.2]; go_num, by go_num, ((rows_drewN HR.out.1 _).set (i + k) _).congr (fun j _ => mrow8_step (by rw [i8, ← HB.out.1]; go_num)), (Below.drewN' HR.out.2 _).setCell (Nat.le_refl _) _⟩
  ·obtain rfl : i = n := by omega
   rw [Nat.mod_eq_of_lt Hx.out] at hrow
   have hlt : x * y < 2 ^ (8 * (i + m + 1)) := Nat.lt_of_lt_of_le (show x * y < 2 ^ (8 * (i + m)) by rw [padd]; exact Nat.mul_lt_mul'' Hx.out Hy.out) (pmono (by omega))
   have Hs := Lib.hid hlt
   clear hlt
   go_wp2_with fail
   refine (rcut_any _ (i + m + 1) (i + m + 1) (x * y) _ Hs.out (by omega) (by omega) (Slc.of_row hrow (by omega))).mono ?_
   rintro e w' ⟨rfl, rfl⟩
   go_wp2
   go_ret
   have hle := dn_le (k := 8) (by omega) Hs.out
   exact ⟨_, _, rfl, hle, Slc.of_row hrow hle, hbel⟩
end Go.Proofs.YtfdnbogbankjjaaGreatDoor

/- The walk over the reference's fit. -/
namespace Go.Proofs.YtfdnbogbankjjaaGreatDoor
open Go Go.RowKit Go.PlainAid Fil

theorem by_row8 {y p i k j : Nat} {v : Value} (hk : k = p - 1 - i) (hi : i < p) (hj : j < p) (hv : v = b8 y i) : (if j = k then v else if p - i ≤ j then b8 y (p - 1 - j) else Value.int IntKind.u8 0) = if p - (i + 1) ≤ j then b8 y (p - 1 - j) else Value.int IntKind.u8 0 := by
 by_cases e : j = k
 ·rw [if_pos e, if_pos (by omega), show p - 1 - j = i by omega, hv]
 ·rw [if_neg e]
  by_cases h : p - i ≤ j
  ·rw [if_pos h, if_pos (by omega)]
  ·rw [if_neg h, if_neg (by omega)]
theorem tz_lt8 {x n : Nat} (hx : x ≠ 0) (h : x < 2 ^ (8 * n)) : tz x < 8 * n := by
 have ht := tz_le_log hx
 have hl := (Nat.log2_lt hx).2 h
 omega
theorem sz_ne {neg : Bool} {x : Nat} (h : x ≠ 0) : sz neg x ≠ 0 := fun e => h (by rw [← sz_abs neg x, e]; rfl)
/-- fit's answer where there is none -/
theorem fit_no {neg : Bool} {x : Nat} {e : Int} (h : mkOk (sz neg x) e = false) : dyR false 0 0 4 = mkV (sz neg x) e := (mkV_bad h).symm
theorem fit_yes {neg : Bool} {x : Nat} {e : Int} (hx : x ≠ 0) (h : mkOk (sz neg x) e = true) : dyR neg (x / 2 ^ tz x) (e + tz x) 0 = mkV (sz neg x) e := by
 obtain ⟨m1, m2, m3, m4⟩ := mk_good h (sz_ne hx)
 unfold mkV
 rw [m1, m2, m3, m4, sz_abs, sg_sz hx]

set_option maxRecDepth 100000 in
set_option maxHeartbeats 4000000 in
theorem rfit_any (neg : Bool) (A : Option Addr) (n c x : Nat) (e : Int) (w : World) (hn : n = Fil.dn 8 x) (hnc : n ≤ c) (h8 : n ≤ 393216) (he1 : -9223372036854775808 ≤ e) (he2 : e ≤ 9223372036854775807) (h : Slc w 3 A n (i8 x)) :
  Calls Tryz.prog 44 #[.bool neg, .slice A n c, .int .i64 e] w fun r w' => r = .returned (mkV (sz neg x) e) ∧ Below w.heap.size w w' := by
 have hbw : Below w.heap.size w (w.alloc (.cells #[.bool false, .string { data := #[] }, .int .i64 0] 38)) := (Below.refl _ _).alloc (Nat.le_refl _) _
 by_cases hx0 : x = 0
 ·subst hx0
  have hn0 : n = 0 := by rw [hn, dn_zero]
  subst hn0
  have H := Lib.hid (mkV_zero e)
  have hz := sz_zero neg
  rw [hz]
  clear hn h hz he1 he2
  go_enter Tryz.func44, Tryz.ntmps44
  go_wp2
  go_returns
  exact ⟨by rw [H.out]; exact dyR_none ⟨rfl, rfl, rfl, rfl⟩, hbw⟩
 ·have hx := lt_dn (k := 8) (by omega) x
  rw [← hn] at hx
  have ht := tz_lt8 hx0 hx
  have hnp : 0 < n := by rw [hn]; exact dn_pos hx0
  have hn1 : ((n : Int) == 0) = false := by rw [beq_eq_false_iff_ne]; omega
  have hlow := fun W => rlow_any A n c x W hn hx0 (by omega)
  have hhal := fun W => rhalved_any A n c x (tz x) W hn hnc (by omega) (by omega)
  have hs0 := h.alloc (.cells #[.bool false, .string { data := #[] }, .int .i64 0] 38)
  have hno1 := @mkOk_no1 (sz neg x) e (sz_ne hx0)
  have hno2 := @mkOk_no2 (sz neg x) e (sz_ne hx0)
  have hno3 := @mkOk_no3 (sz neg x) e (sz_ne hx0)
  have hyes := @mkOk_yes (sz neg x) e
  rw [sz_abs] at hno1 hno2 hno3 hyes
  have hfy := @fit_yes neg x e hx0
  have hfn := @fit_no neg x e
  have H := Lib.hid (And.intro hno1 (And.intro hno2 (And.intro hno3 (And.intro hyes (And.intro hfy hfn)))))
  have HC := Lib.hid (And.intro hlow hhal)
  clear hx hno1 hno2 hno3 hyes hfy hfn hlow hhal hx0 hn
  obtain ⟨t, hte⟩ : ∃ t, t = tz x := ⟨_, rfl⟩
  obtain ⟨y, hye⟩ : ∃ y, y = x / 2 ^ tz x := ⟨_, rfl⟩
  rw [← hte] at ht H HC hye
  rw [← hye] at H HC
  obtain ⟨V, hV⟩ : ∃ V, V = mkV (sz neg x) e := ⟨_, rfl⟩
  rw [← hV] at H ⊢
  obtain ⟨m, hm⟩ : ∃ m, m = mkOk (sz neg x) e := ⟨_, rfl⟩
  rw [← hm] at H
  have H6 := Lib.hid H.out.2.2.2.2.2
  have ht0 : 0 ≤ (t : Int) := by omega
  have ht1 : (t : Int) ≤ 3145728 := by omega
  clear hV hm hte hye h
  go_enter Tryz.func44, Tryz.ntmps44
  go_wp2_with fail
  refine (HC.out.1 _ hs0).mono ?_
  rintro r w1 ⟨rfl, rfl⟩
  go_wp2_with fail
  refine (HC.out.2 _ hs0).mono ?_
  rintro r w1 ⟨A', c', rfl, hnc', hs', hb1⟩
  obtain ⟨p, hp⟩ : ∃ p, p = Fil.dn 8 y := ⟨_, rfl⟩
  rw [← hp] at hnc' hs' H ⊢
  obtain ⟨c0, c1, c2⟩ := box_cells w false { data := #[] } 0 hb1
  have f0 := box_free w false { data := #[] } 0 hb1 0
  have f1 := box_free w false { data := #[] } 0 hb1 1
  have f2 := box_free w false { data := #[] } 0 hb1 2
  have hsz : (w.alloc (.cells #[.bool false, .string { data := #[] }, .int .i64 0] 38)).heap.size = w.heap.size + 1 := by simp
  have hB1 : Below w.heap.size w w1 := hbw.trans (hb1.mono (by omega))
  have hbZ : Below w.heap.size w (((w1.setCell ⟨w.heap.size, 0, none⟩ (.bool false)).setCell ⟨w.heap.size, 1, none⟩ (.string { data := #[] })).setCell ⟨w.heap.size, 2, none⟩ (.int .i64 0)) := ((hB1.setCell (Nat.le_refl _) _).setCell (Nat.le_refl _) _).setCell (Nat.le_refl _) _
  rw [hsz] at hb1
  have hsz1 := hb1.size
  rw [hsz] at hsz1
  have Hp := Lib.hid hp
  have HB := Lib.hid (And.intro hb1 hB1)
  have hbx := hb1
  clear HC hs0 hbw hp hsz hb1 hB1 hbx
  by_cases g1 : 1048576 < e
  ·have hv := H.out.2.2.1 (by omega)
   clear H
   have Hv := Lib.hid (H6.out hv)
   clear hv
   go_wp2
   exact bodyPost_ret (v := .tuple #[.agg #[.bool false, .string { data := #[] }, .int .i64 0], .int .i64 4]) (by simp [results, Tryz.results44, go_sem, c0, c1, c2]) rfl ⟨by rw [← Hv.out]; exact dyR_none ⟨rfl, rfl, rfl, rfl⟩, hbZ⟩
  ·by_cases g2 : e < -4194304
   ·have hv := H.out.2.1 (by omega)
    clear H
    have Hv := Lib.hid (H6.out hv)
    clear hv
    go_wp2
    exact bodyPost_ret (v := .tuple #[.agg #[.bool false, .string { data := #[] }, .int .i64 0], .int .i64 4]) (by simp [results, Tryz.results44, go_sem, c0, c1, c2]) rfl ⟨by rw [← Hv.out]; exact dyR_none ⟨rfl, rfl, rfl, rfl⟩, hbZ⟩
   ·by_cases g3 : 1048576 < e + (t : Int)
    ·have hv := H.out.2.2.1 (by omega)
     clear H
     have Hv := Lib.hid (H6.out hv)
     clear hv
     go_wp2
     exact bodyPost_ret (v := .tuple #[.agg #[.bool false, .string { data := #[] }, .int .i64 0], .int .i64 4]) (by simp [results, Tryz.results44, go_sem, c0, c1, c2]) rfl ⟨by rw [← Hv.out]; exact dyR_none ⟨rfl, rfl, rfl, rfl⟩, hbZ⟩
    ·by_cases g4 : e + (t : Int) < -1048576
     ·have hv := H.out.2.1 (by omega)
      clear H
      have Hv := Lib.hid (H6.out hv)
      clear hv
      go_wp2
      exact bodyPost_ret (v := .tuple #[.agg #[.bool false, .string { data := #[] }, .int .i64 0], .int .i64 4]) (by simp [results, Tryz.results44, go_sem, c0, c1, c2]) rfl ⟨by rw [← Hv.out]; exact dyR_none ⟨rfl, rfl, rfl, rfl⟩, hbZ⟩
     ·by_cases g5 : 16384 < p
      ·have hv := H.out.1 (by omega)
       clear H
       have g5' : (16384 : Int) < (p : Int) := by omega
       have Hv := Lib.hid (H6.out hv)
       clear hv
       go_wp2
       exact bodyPost_ret (v := .tuple #[.agg #[.bool false, .string { data := #[] }, .int .i64 0], .int .i64 4]) (by simp [results, Tryz.results44, go_sem, c0, c1, c2]) rfl ⟨by rw [← Hv.out]; exact dyR_none ⟨rfl, rfl, rfl, rfl⟩, hbZ⟩
      ·have hv := H.out.2.2.2.2.1 (H.out.2.2.2.1 (by omega) (by omega) (by omega))
       have Hv := Lib.hid hv
       clear H H6 hv hbZ
       have g5' : (p : Int) ≤ 16384 := by omega
       have hmk := run_make_row' (P := Tryz.prog) 141 5 (.int .u8 0) 1 Tryz.underlying141 Tryz.info5 rfl .i64 .i64 p (by omega) (by omega)
       go_wp2
       clear hmk
       go_loopg [10] p (fun g s10 wr => ∃ i : Nat, i ≤ p ∧ g = p - i ∧ s10 = .int .i64 i ∧ wr.rowIs w1.heap.size 5 p (fun j => if p - i ≤ j then b8 y (p - 1 - j) else .int .u8 0) ∧ Below w1.heap.size w1 wr)
       case atStart => exact ⟨0, by omega, by omega, rfl, (World.rowIs_made w1 _ p 5).congr (fun j hj => by simp; omega), (Below.refl _ _).alloc (Nat.le_refl _) _⟩
       case round =>
        obtain ⟨i, hi, hg, rfl, hrow, hbel⟩ := hrel
        have Hg := Lib.hid hg
        clear hg
        by_cases hin : i < p
        ·obtain ⟨b1, o1, rfl, _, hc1⟩ := (hs'.below hbel).cell (by omega)
         have k1 := hc1 i hin
         simp only [i8] at k1
         obtain ⟨k, hk⟩ : ∃ k, k = p - 1 - i := ⟨_, rfl⟩
         have ek : (p : Int) - 1 - (i : Int) = (k : Int) := by omega
         have hkm : k < p := by omega
         have Hk : Hid (k = p - 1 - i) := Lib.hid hk
         have k2 := hrow.cell (i := k) (by omega)
         have k3 := hrow.frozen k
         have hdx := dg_lt 8 y i
         clear hc1 hk c0 c1 c2 f0 f1 f2
         go_wp2
         go_roundg (p - (i + 1))
         case measure => have := Hg.out; omega
         case rel =>
          exact ⟨i + 1, by omega, rfl, by go_num, (hrow.set k _).congr (fun j hj => by_row8 Hk.out hin hj (by rw [b8])), hbel.setCell (Nat.le_refl _) _⟩
        ·obtain rfl : i = p := by omega
         have hrow' := hrow.congr (g := fun j => b8 y (i - 1 - j)) (fun j hj => by rw [if_pos (by omega)])
         rw [Hp.out] at hrow'
         have hrb := run_back wr w1.heap.size y hrow'
         rw [← Hp.out] at hrb
         have l0 : w.heap.size < w1.heap.size := by omega
         have d0 := (hbel.cell (p := ⟨w.heap.size, 0, none⟩) l0).trans c0
         have d1 := (hbel.cell (p := ⟨w.heap.size, 1, none⟩) l0).trans c1
         have d2 := (hbel.cell (p := ⟨w.heap.size, 2, none⟩) l0).trans c2
         have e0 := (hbel.frozen (p := ⟨w.heap.size, 0, none⟩) l0).trans f0
         have e1 := (hbel.frozen (p := ⟨w.heap.size, 1, none⟩) l0).trans f1
         have e2 := (hbel.frozen (p := ⟨w.heap.size, 2, none⟩) l0).trans f2
         have hB := HB.out.2.trans (hbel.mono HB.out.2.size)
         have hbZ : Below w.heap.size w (((wr.setCell ⟨w.heap.size, 0, none⟩ (.bool neg)).setCell ⟨w.heap.size, 1, none⟩ (.string (bstr y))).setCell ⟨w.heap.size, 2, none⟩ (.int .i64 (e + t))) := ((hB.setCell (Nat.le_refl _) _).setCell (Nat.le_refl _) _).setCell (Nat.le_refl _) _
         clear hrow hrow' hbel c0 c1 c2 f0 f1 f2 hs' hB
         go_wp2
         exact bodyPost_ret (v := .tuple #[.agg #[.bool neg, .string (bstr y), .int .i64 (e + (t : Int))], .int .i64 0]) (by simp [results, Tryz.results44, go_sem, d0, d1, d2]) rfl ⟨by rw [← Hv.out]; rfl, hbZ⟩
end Go.Proofs.YtfdnbogbankjjaaGreatDoor
