/- The walks over the reference's numbers: shifted, cmp. -/
import Derived.Test.YtgcifpjhhoalmaaDoorRj
namespace Go.Proofs.YtgcifpjhhoalmaaDoor
open Go Go.RowKit Go.PlainAid Fil

theorem Own.made (w : World) (q : Nat) (hq : q ≤ maxLen) : Own (w.alloc (.cells (madeCells #[.int .i64 0] q) 3)) w.heap.size (.slice (some ⟨w.heap.size, 0, none⟩) q q) q (fun _ => 0) := by
  refine ⟨by simp, .inr ⟨w.heap.size, q, _, rfl, Nat.le_refl _, heap_alloc_new w _, Nat.le_refl _, hq, by rw [size_madeCells]; simp, ?_⟩⟩
  apply List.ext_getElem?
  intro i
  by_cases hi : i < q
  · rw [List.getElem?_take_of_lt (by omega), List.getElem?_map, List.getElem?_range hi, Array.getElem?_toList]
    simp [madeCells, hi, Nat.mod_one]
  · rw [List.getElem?_take_eq_none (by omega)]
    simp [hi]

/-- what is carried on in front of digit i -/
def shm (x k i : Nat) : Nat := shl 8 x k i / 2 ^ (8 * (i + k / 8))
theorem shm_zero (x k : Nat) : shm x k 0 = 0 := by unfold shm; rw [shl_zero, Nat.zero_div]
theorem shm_sum (x k i : Nat) : shl 8 x k (i + 1) / 2 ^ (8 * (i + k / 8)) = shm x k i + dg 8 x i * 2 ^ (k % 8) := by
  have h := shl_succ 8 x (k / 8) (k % 8) i
  rw [show 8 * (k / 8) + k % 8 = k by omega] at h
  rw [h, Nat.add_mul_div_right _ _ (pp _)]
  rfl
theorem shm_dg (x k i : Nat) : (shm x k i + dg 8 x i * 2 ^ (k % 8)) % 256 = dg 8 (shl 8 x k (i + 1)) (i + k / 8) := by
  rw [← shm_sum]; rfl
theorem shm_next (x k i : Nat) : (shm x k i + dg 8 x i * 2 ^ (k % 8)) / 256 = shm x k (i + 1) := by
  rw [← shm_sum, Nat.div_div_eq_div_mul]
  unfold shm
  rw [show i + 1 + k / 8 = i + k / 8 + 1 by omega, pstep]
theorem shm_lt (x k i : Nat) : shm x k i < 256 := by
  have h := (shl_at 8 x (k / 8) (k % 8) i (by omega)).1
  have h2 := (shl_at 8 x (k / 8) (k % 8) i (by omega)).2
  rw [show 8 * (k / 8) + k % 8 = k by omega] at h h2
  rw [h2] at h
  have h3 : (2 : Nat) ^ (k % 8) ≤ 2 ^ 8 := pmono (by omega)
  exact Nat.lt_of_lt_of_le h h3
theorem shm_low (x k i : Nat) {j : Nat} (hj : j < i + k / 8) : dg 8 (shl 8 x k i) j = dg 8 (shl 8 x k (i + 1)) j := by
  have h := shl_dg_low 8 x (k / 8) (k % 8) i hj
  rw [show 8 * (k / 8) + k % 8 = k by omega] at h
  exact h.symm
theorem shm_bound {x k n : Nat} (h : x < 2 ^ (8 * n)) : x * 2 ^ k < 2 ^ (8 * (n + k / 8 + 1)) := by
  have h1 := shl_bound (k := 8) (q := k / 8) (s := k % 8) h (by omega)
  rw [show 8 * (k / 8) + k % 8 = k by omega] at h1
  exact h1
theorem shm_end {x k n : Nat} (h : x < 2 ^ (8 * n)) : shm x k n = dg 8 (x * 2 ^ k) (n + k / 8) := by
  unfold shm
  rw [shl_end h, dg_div_eq (shm_bound h)]
theorem sh8_lt {d s : Nat} (hd : d < 256) (hs : s < 8) : d * 2 ^ s < 32768 := by
  have h1 : (2 : Nat) ^ s ≤ 2 ^ 7 := pmono (by omega)
  have h2 : d * 2 ^ s ≤ 255 * 2 ^ 7 := Nat.mul_le_mul (by omega) h1
  omega

theorem sm_dg {ca t u : Nat} (h : (ca + t) % 256 = u) : ((ca : Int) + ((t : Nat) : Int)) % 256 = (u : Int) := by omega
theorem sm_next (ca t : Nat) : Value.int IntKind.i64 (((ca : Int) + ((t : Nat) : Int)) / 256) = .int .i64 (((ca + t) / 256 : Nat) : Int) := by congr 1

set_option maxRecDepth 100000 in
set_option maxHeartbeats 2000000 in
theorem rshifted_any (A : Option Addr) (n c x k : Nat) (w : World) (hn : n = Fil.dn 8 x) (hn8 : n ≤ 1048576) (hk : k ≤ 16777216)
    (ha : Slc w 3 A n (i8 x)) :
    Calls Tryd.prog 133 #[.slice A n c, .int .i64 k] w fun r w' => BigR w (x * 2 ^ k) r w' := by
  have hx := lt_dn (k := 8) (by omega) x
  rw [← hn] at hx
  by_cases h0 : n = 0
  · have hx0 : x = 0 := by rw [h0] at hn; exact dn_eq_zero.1 hn.symm
    have h0' : ((n : Int) == 0) = true := by simpa using h0
    subst hx0
    clear hn hx h0 ha
    go_enter Tryd.func133, Tryd.ntmps133
    go_wp2
    go_ret
    exact ⟨none, 0, by rw [Nat.zero_mul, dn_zero]; rfl, by rw [Nat.zero_mul, dn_zero]; omega, by rw [Nat.zero_mul, dn_zero]; exact Slc.nil _ _ _ _, Below.refl _ _⟩
  · have h0' : ((n : Int) == 0) = false := by simp; omega
    obtain ⟨i0, hi, hp⟩ := Option.map_eq_some_iff.1 Tryd.info3
    have hz0 : i0.zero = some (.int .i64 0) := congrArg Prod.fst hp
    have hz1 : i0.size = 1 := congrArg (fun q => q.2.1) hp
    have hz2 : i0.bytes = 8 := congrArg (fun q => q.2.2) hp
    obtain ⟨q, hq⟩ : ∃ q, q = k / 8 := ⟨_, rfl⟩
    have hq8 : q ≤ 2097152 := by omega
    have hmk := run_make_row' (P := Tryd.prog) 122 3 (.int .i64 0) 8 Tryd.underlying122 Tryd.info3 rfl .i64 .i64 q (by omega) (by omega)
    rw [show ((q : Nat) : Int) = (k : Int) / 8 by omega] at hmk
    have HT : Hid (shm x k n = dg 8 (x * 2 ^ k) (n + q)) := Lib.hid (by rw [hq]; exact shm_end hx)
    have HL : Hid (x * 2 ^ k < 2 ^ (8 * (n + q + 1))) := Lib.hid (by rw [hq]; exact shm_bound hx)
    have HZ := Lib.hid (shl_end (n := k) hx)
    have HD := Lib.hid (fun i => shm_dg x k i)
    have HX := Lib.hid (fun i => shm_next x k i)
    have HW := Lib.hid (fun i j (hj : j < i + k / 8) => @shm_low x k i j hj)
    rw [← hq] at HW
    have HD' : Hid (∀ i, (shm x k i + dg 8 x i * 2 ^ (k % 8)) % 256 = dg 8 (shl 8 x k (i + 1)) (i + q)) := Lib.hid (by rw [hq]; exact HD.out)
    have hown0 := Own.made w q (by unfold maxLen; omega)
    have Hq := Lib.hid hq
    clear hn hx h0 hp HD hq
    go_enter Tryd.func133, Tryd.ntmps133
    go_wp2
    clear hmk
    go_loopg [5, 6, 7] n (fun g s5 s6 s7 wr => ∃ i : Nat, i ≤ n ∧ g = n - i ∧ s6 = .int .i64 (shm x k i) ∧ s7 = .int .i64 i ∧ Own wr w.heap.size s5 (i + q) (fun j => (dg 8 (shl 8 x k i) j : Int)) ∧ Below w.heap.size w wr)
    case atStart => exact ⟨0, by omega, by omega, by rw [shm_zero]; rfl, rfl, by
      rw [Nat.zero_add]
      have e : ((k : Int) / 8).toNat = q := by have := Hq.out; omega
      refine Own.congr ?_ (f := fun _ => 0) (fun j _ => by rw [shl_zero]; simp [dg])
      simpa only [e] using hown0, (Below.refl _ _).alloc (Nat.le_refl _) _⟩
    case round =>
      clear hown0
      obtain ⟨i, hin, hg, rfl, rfl, hown, hbel⟩ := hrel
      have hb2 := hbel.size
      have hsl := shm_lt x k i
      have HG := Lib.hid (And.intro hg hbel)
      by_cases hlt : i < n
      · obtain ⟨b1, o1, rfl, _, hc1⟩ := (ha.below hbel).cell (by omega)
        have k1 := hc1 i hlt
        simp only [i8] at k1
        have hd := dg_lt 8 x i
        have he := sh8_lt (s := k % 8) hd (by omega)
        have h1 := HD'.out i
        have h2 := HX.out i
        have HB := Lib.hid (And.intro h1 h2)
        clear hg hbel h1 h2 hc1
        obtain ⟨ca, hca⟩ : ∃ ca, ca = shm x k i := ⟨_, rfl⟩
        rw [← hca] at hsl HB ⊢
        clear hca
        generalize dg 8 x i = d at *
        have B0 : 0 ≤ (d : Int) * 2 ^ (k % 8) := by rw [pow_cast]; omega
        have B1 : (d : Int) * 2 ^ (k % 8) < 32768 := by rw [pow_cast]; omega
        have HP := Lib.hid (pow_cast d (k % 8))
        go_wp2_with (at_builtin; refine wpList_append_own _ rfl _ _ 122 rfl w.heap.size 3 i0 (.int .i64 0) 1 8 Tryd.underlying122 hi hz0 hz1 hz2 rfl (by decide) _ _ _ rfl (by exact hown.alloc _) ⟨wr.heap.size, 0, none⟩ 1 1 [.int .i64 (((ca : Int) + (d : Int) * 2 ^ (k % 8)) % 256)] rfl rfl ?c1 ?c2 ?c3 ?c4 ?c5 ?_)
        case c1 =>
          intro j u hj
          match j, hj with
          | 0, hj => simp at hj; subst hj; simp [Addr.add]
        case c2 => intro u hu; simp at hu; subst hu; rfl
        case c3 => unfold maxLen; omega
        case c4 => omega
        case c5 => simp; omega
        · intro v' w1 hown' hgrow _
          rw [own_grow (g := fun j => (dg 8 (shl 8 x k (i + 1)) j : Int)) (fun j hj => congrArg Nat.cast (HW.out i j hj)) (by rw [HP.out]; exact sm_dg HB.out.1), show i + q + 1 = i + 1 + q by omega] at hown'
          have hb1 := (HG.out.2.alloc hb2 (Obj.cells #[Value.int IntKind.i64 (((ca : Int) + (d : Int) * 2 ^ (k % 8)) % 256)] 3)).grown hgrow (by simp; omega) (fun k hk => (hown.lt k hk).1)
          clear hown hgrow
          go_wp2
          go_roundg (n - (i + 1))
          case measure => have := HG.out.1; omega
          case rel => exact ⟨i + 1, by omega, rfl, by rw [← HB.out.2, HP.out]; exact sm_next ca _, by go_num, hown', hb1⟩
      · obtain rfl : i = n := by omega
        have ht := HT.out
        rw [HZ.out] at hown
        rw [ht]
        have hdt := dg_lt 8 (x * 2 ^ k) (i + q)
        clear ht hg ha hsl
        go_wp2_with (at_builtin; refine wpList_append_own _ rfl _ _ 122 rfl w.heap.size 3 i0 (.int .i64 0) 1 8 Tryd.underlying122 hi hz0 hz1 hz2 rfl (by decide) _ _ _ rfl (by exact hown.alloc _) ⟨wr.heap.size, 0, none⟩ 1 1 [.int .i64 (dg 8 (x * 2 ^ k) (i + q))] rfl rfl ?c1 ?c2 ?c3 ?c4 ?c5 ?_)
        case c1 =>
          intro j u hj
          match j, hj with
          | 0, hj => simp at hj; subst hj; simp [Addr.add]
        case c2 => intro u hu; simp at hu; subst hu; rfl
        case c3 => unfold maxLen; omega
        case c4 => omega
        case c5 => simp; omega
        · intro v' w1 hown' hgrow _
          rw [own_grow (g := fun j => (dg 8 (x * 2 ^ k) j : Int)) (fun _ _ => rfl) rfl] at hown'
          have hb1 := (HG.out.2.alloc hb2 (Obj.cells #[Value.int IntKind.i64 (dg 8 (x * 2 ^ k) (i + q))] 3)).grown hgrow (by simp; omega) (fun k hk => (hown.lt k hk).1)
          clear hown hgrow
          obtain ⟨A', c', rfl, hnc', hs'⟩ := Own.slc hown'
          have Hle := Lib.hid (dn_le (k := 8) (by omega) HL.out)
          clear hown'
          go_wp2_with fail
          refine (rcut_any A' (i + q + 1) c' (x * 2 ^ k) _ HL.out hnc' (by omega) hs').mono ?_
          rintro r w2 ⟨rfl, rfl⟩
          go_wp2
          go_ret
          exact ⟨A', c', rfl, Nat.le_trans Hle.out hnc', hs'.le Hle.out, hb1⟩
set_option maxHeartbeats 1000000 in
theorem rcmp_any (A B : Option Addr) (n c x m d y : Nat) (w : World) (hn : n = Fil.dn 8 x) (hm : m = Fil.dn 8 y) (hc : n ≤ 4398046511104) (hd : m ≤ 4398046511104)
    (ha : Slc w 3 A n (i8 x)) (hb : Slc w 3 B m (i8 y)) :
    Calls Tryd.prog 134 #[.slice A n c, .slice B m d] w fun e w' => e = .returned (.int .i64 (cmpZ x y)) ∧ ∃ k, w' = w.drewN k := by
  have Hn := Lib.hid hn
  have Hm := Lib.hid hm
  clear hn hm
  by_cases hnm : n = m
  · subst hnm
    go_enter Tryd.func134, Tryd.ntmps134
    go_wp2
    go_loopg [5] n (fun g s5 wr => ∃ k, wr = w.drewN k ∧ g ≤ n ∧ s5 = .int .i64 ((g : Int) - 1) ∧ x / 2 ^ (8 * g) = y / 2 ^ (8 * g))
    case atStart => exact ⟨0, rfl, Nat.le_refl _, rfl, by rw [Nat.div_eq_of_lt (by rw [Hn.out]; exact lt_dn (by omega) x), Nat.div_eq_of_lt (by rw [Hm.out]; exact lt_dn (by omega) y)]⟩
    case round =>
      obtain ⟨k, rfl, hg, rfl, he⟩ := hrel
      have He := Lib.hid he
      clear he
      cases gk with
      | zero =>
        have hxy : x = y := by simpa using He.out
        subst hxy
        have hz := Lib.hid (cmpZ_eq x)
        go_wp2
        go_ret
        exact ⟨by rw [hz.out]; rfl, k, rfl⟩
      | succ g =>
        obtain ⟨b1, o1, rfl, _, hc1⟩ := ha.cell (by omega)
        obtain ⟨b2, o2, rfl, _, hc2⟩ := hb.cell (by omega)
        have k1 := hc1 g (by omega)
        have k2 := hc2 g (by omega)
        simp only [i8] at k1 k2
        have e1 : ((g + 1 : Nat) : Int) - 1 = g := by omega
        have e2 : (0 : Int) ≤ g := by omega
        have e3 : (g : Int) < n := by omega
        rw [e1]
        clear hc1 hc2 e1
        rcases Nat.lt_trichotomy (dg 8 x g) (dg 8 y g) with hlt | heq | hgt
        · have t1 : ((dg 8 x g : Int) != (dg 8 y g : Int)) = true := by rw [bne_iff_ne]; omega
          have t2 : decide (dg 8 x g < dg 8 y g) = true := by simp; omega
          have hz := Lib.hid (cmpZ_lt (cmp_digit He.out hlt))
          clear hlt
          go_wp2
          go_quiet (fail)
          go_wp2
          go_quiet (fail)
          go_wp2
          go_ret
          exact ⟨by rw [hz.out]; rfl, _, by rw [World.drewN_drewN, World.drewN_drewN]⟩
        · have t1 : ((dg 8 x g : Int) != (dg 8 y g : Int)) = false := by simp; omega
          have hz := Lib.hid (cmp_next He.out heq)
          clear heq
          go_wp2
          go_quiet (fail)
          go_wp2
          go_roundg g
          case measure => omega
          case rel => exact ⟨_, rfl, by omega, by go_num, hz.out⟩
        · have t1 : ((dg 8 x g : Int) != (dg 8 y g : Int)) = true := by rw [bne_iff_ne]; omega
          have t2 : decide (dg 8 x g < dg 8 y g) = false := by simp; omega
          have hz := Lib.hid (cmpZ_gt (cmp_digit He.out.symm hgt))
          clear hgt
          go_wp2
          go_quiet (fail)
          go_wp2
          go_quiet (fail)
          go_wp2
          go_ret
          exact ⟨by rw [hz.out]; rfl, _, by rw [World.drewN_drewN, World.drewN_drewN]⟩
  · by_cases hlt : n < m
    · have hz := Lib.hid (cmpZ_lt (cmp_len (k := 8) (x := x) (y := y) (by omega) (by rw [← Hn.out, ← Hm.out]; exact hlt)))
      go_enter Tryd.func134, Tryd.ntmps134
      go_wp2
      go_ret
      exact ⟨by rw [hz.out]; rfl, 0, rfl⟩
    · have hz := Lib.hid (cmpZ_gt (cmp_len (k := 8) (x := y) (y := x) (by omega) (by rw [← Hn.out, ← Hm.out]; omega)))
      go_enter Tryd.func134, Tryd.ntmps134
      go_wp2
      go_ret
      exact ⟨by rw [hz.out]; rfl, 0, rfl⟩

end Go.Proofs.YtgcifpjhhoalmaaDoor
