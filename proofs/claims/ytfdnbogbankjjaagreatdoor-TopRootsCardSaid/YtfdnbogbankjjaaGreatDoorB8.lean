/- The reference's first functions. -/
import Derived.Test.YtfdnbogbankjjaaGreatDoorB5
import Derived.Lib.RabinKarpLaws

/- The walks over the reference's May, Sign, Neg. -/
namespace Go.Proofs.YtfdnbogbankjjaaGreatDoor
open Go Go.RowKit Go.PlainAid Fil

set_option maxHeartbeats 1000000 in
theorem rsign_ok (neg : Bool) (x : Nat) (e : Int) (w : World) (h : okD neg x e) :
    Calls Tryz.prog 54 #[.agg #[.bool neg, .string (bstr x), .int .i64 e]] w fun r w' => r = .returned (.int .i64 (sz neg x).sign) ∧ Below w.heap.size w w' := by
  have hb0 := box_below w neg (bstr x) e
  by_cases hx : x = 0
  · subst hx
    have h1 := bstr_nil
    have hz := sz_sign_zero neg
    go_enter Tryz.func54, Tryz.ntmps54
    go_wp2
    go_ret
    exact ⟨by rw [hz]; rfl, hb0⟩
  · obtain ⟨h1, h2⟩ := bstr_ne hx
    have Hx := Lib.hid hx
    clear hx h
    cases neg
    · go_enter Tryz.func54, Tryz.ntmps54
      go_wp2
      go_ret
      exact ⟨by rw [Int.sign_eq_one_of_pos (show 0 < sz false x by have := Hx.out; simp [sz]; omega)]; rfl, hb0⟩
    · go_enter Tryz.func54, Tryz.ntmps54
      go_wp2
      go_ret
      exact ⟨by rw [Int.sign_eq_neg_one_of_neg (show sz true x < 0 by have := Hx.out; simp [sz]; omega)]; rfl, hb0⟩

set_option maxHeartbeats 1000000 in
theorem rneg_ok (neg : Bool) (x : Nat) (e : Int) (w : World) (h : okD neg x e) :
    Calls Tryz.prog 92 #[.agg #[.bool neg, .string (bstr x), .int .i64 e]] w fun r w' => r = .returned (dyN (!neg && decide (x ≠ 0)) x e) ∧ Below w.heap.size w w' := by
  by_cases hx : x = 0
  · have ha : neg = false ∧ e = 0 := by
      rcases h with ⟨_, h1, h2⟩ | h
      · exact ⟨h1, h2⟩
      · omega
    obtain ⟨rfl, rfl⟩ := ha
    subst hx
    have h1 := bstr_nil
    clear h
    go_enter Tryz.func92, Tryz.ntmps92
    go_wp2
    go_returns
    exact ⟨rfl, (((Below.refl _ _).alloc (Nat.le_refl _) _).alloc (by simp) _)⟩
  · obtain ⟨h1, h2⟩ := bstr_ne hx
    have hx2 := Lib.hid hx
    clear hx h
    go_enter Tryz.func92, Tryz.ntmps92
    go_wp2
    go_returns
    have : (!neg && decide (x ≠ 0)) = !neg := by rw [decide_eq_true hx2.out, Bool.and_true]
    refine ⟨?_, (((Below.refl _ _).alloc (Nat.le_refl _) _).alloc (by simp) _)⟩
    rw [this]; rfl
end Go.Proofs.YtfdnbogbankjjaaGreatDoor

/- The reference's numbers of any length: rows of the call's own; the walk over of. -/
namespace Go.Proofs.YtfdnbogbankjjaaGreatDoor
open Go Go.RowKit Go.PlainAid Fil

theorem Tryz.info3 : (Tryz.prog.info? 3).map (fun i => (i.zero, i.size, i.bytes)) = some (some (.int .i64 0), 1, 8) := by kernel_rfl
/-- a row of whole numbers that the call has made -/
def Own (w : World) (B : Nat) (v : Value) (n : Nat) (f : Nat → Int) : Prop := w.ownsRow B 3 1 v n ((List.range n).map fun i => .int .i64 (f i))
theorem Own.nil (w : World) (B : Nat) (f : Nat → Int) : Own w B (.slice none 0 0) 0 f := World.ownsRow_nil _ _ _ _
theorem range_grow (n : Nat) (f : Nat → Int) : (List.range n).map (fun i => Value.int .i64 (f i)) ++ [.int .i64 (f n)] = (List.range (n + 1)).map fun i => Value.int .i64 (f i) := by
  rw [List.range_succ, List.map_append]; rfl

set_option maxHeartbeats 2000000 in
theorem rof_any (x : Nat) (w : World) (hx : Fil.dn 8 x ≤ 1048576) :
    Calls Tryz.prog 45 #[.string (bstr x)] w fun r w' => ∃ v, r = .returned v ∧ Own w' w.heap.size v (Fil.dn 8 x) (fun i => (dg 8 x i : Int)) ∧ Below w.heap.size w w' := by
  have hsz := bstr_size x
  obtain ⟨n, hn⟩ : ∃ n, n = Fil.dn 8 x := ⟨_, rfl⟩
  have hbt := fun j (h : j < n) => bstr_bt x (n - 1 - j) (by omega)
  have hgb := get_bt (bstr x)
  rw [← hn] at hsz hx ⊢
  obtain ⟨i0, hi, hp⟩ := Option.map_eq_some_iff.1 Tryz.info3
  have hz0 : i0.zero = some (.int .i64 0) := congrArg Prod.fst hp
  have hz1 : i0.size = 1 := congrArg (fun q => q.2.1) hp
  have hz2 : i0.bytes = 8 := congrArg (fun q => q.2.2) hp
  have HX := Lib.hid hbt
  clear hbt
  go_enter Tryz.func45, Tryz.ntmps45
  go_wp2
  go_loopg [3, 4] n (fun g v s4 wr => ∃ j : Nat, j ≤ n ∧ g = n - j ∧ s4 = .int .i64 ((n : Int) - 1 - j) ∧ Own wr w.heap.size v j (fun i => (dg 8 x i : Int)) ∧ Below w.heap.size w wr)
  case atStart => exact ⟨0, by omega, by omega, by go_num, Own.nil _ _ _, Below.refl _ _⟩
  case round =>
    obtain ⟨j, hj, hg, rfl, hown, hbel⟩ := hrel
    by_cases hjn : j < n
    · obtain ⟨k, hk⟩ : ∃ k, k = n - 1 - j := ⟨_, rfl⟩
      have hkc : (n : Int) - 1 - j = (k : Int) := by omega
      have hbk : bt (bstr x) k = (dg 8 x j : Int) := by rw [hk, HX.out j hjn, ← hn, show n - 1 - (n - 1 - j) = j by omega]
      have hd0 : 0 ≤ (dg 8 x j : Int) := by omega
      have hd1 : (dg 8 x j : Int) < 256 := by have := dg_lt 8 x j; omega
      have hks : k < (bstr x).size := by rw [hsz]; omega
      have hkn : (k : Int) < 1048576 := by omega
      rw [hkc]
      have Hk := Lib.hid (And.intro hk (And.intro hkc (And.intro hjn (And.intro hg hbel))))
      have hx' := Lib.hid hx
      have hbs := hbel.size
      clear hk hkc hjn hg hn hx hj
      go_wp2_with (at_builtin; refine wpList_append_own _ rfl _ _ 94 rfl w.heap.size 3 i0 (.int .i64 0) 1 8 Tryz.underlying94 hi hz0 hz1 hz2 rfl (by decide) _ _ _ rfl (hown.alloc _) ⟨wr.heap.size, 0, none⟩ 1 1 [.int .i64 (dg 8 x j)] rfl rfl ?c1 ?c2 ?c3 ?c4 ?c5 ?_)
      case c1 =>
        intro j u hj
        match j, hj with
        | 0, hj => simp at hj; subst hj; simp [Addr.add]
      case c2 => intro u hu; simp at hu; subst hu; rfl
      case c3 => have := Hk.out; have := hx'.out; unfold maxLen; omega
      case c4 => have := Hk.out; have := hx'.out; omega
      case c5 => simp; omega
      · intro v' w1 hown' hgrow _
        rw [range_grow] at hown'
        have hb1 := (hbel.alloc hbs (Obj.cells #[Value.int IntKind.i64 (dg 8 x j)] 3)).grown hgrow (by simp; omega) (fun k hk => (hown.lt k hk).1)
        clear hown hgrow hbel hbk hd0 hd1 hks hgb
        go_wp2
        go_roundg (n - (j + 1))
        case measure => have := Hk.out; omega
        case rel => exact ⟨j + 1, by have := Hk.out; omega, rfl, congrArg (Value.int IntKind.i64) (by have := Hk.out; omega), hown', hb1⟩
    · have he : j = n := by omega
      rw [show (n : Int) - 1 - j = -1 by omega]
      subst he
      clear hn hj hjn hg hx hsz
      go_wp2
      go_ret
      exact ⟨_, rfl, hown, hbel⟩
end Go.Proofs.YtfdnbogbankjjaaGreatDoor

/- The walks over the reference's bits, Top. -/
namespace Go.Proofs.YtfdnbogbankjjaaGreatDoor
open Go Go.RowKit Go.PlainAid Fil

/-- an owned row, as a slice that can be read -/
theorem Own.slc {w : World} {B : Nat} {v : Value} {n : Nat} {f : Nat → Int} (h : Own w B v n f) : ∃ A c, v = .slice A n c ∧ n ≤ c ∧ Slc w 3 A n (fun j => .int .i64 (f j)) := by
  rcases h.2 with ⟨rfl, rfl⟩ | ⟨g, cap, cur, rfl, _, hh, hc, _, hs, ht⟩
  · exact ⟨none, 0, rfl, Nat.le_refl _, Slc.nil _ _ _ _⟩
  · refine ⟨some ⟨g, 0, none⟩, cap, rfl, hc, fun _ => ⟨g, 0, cur, _, rfl, hh, fun j hj => ?_⟩⟩
    have h1 : (cur.toList.take (n * 1))[j]? = ((List.range n).map fun i => Value.int .i64 (f i))[j]? := by rw [ht]
    rw [List.getElem?_take_of_lt (by omega), List.getElem?_map, List.getElem?_range hj] at h1
    rw [Nat.zero_add, ← Array.getElem?_toList]
    exact h1
theorem bl_half {y : Nat} (h : y ≠ 0) : bl (y / 2) + 1 = bl y := by
  rcases Nat.lt_or_ge y 2 with h1 | h1
  · have : y = 1 := by omega
    subst this; decide
  · have h2 := bl_shift (x := y / 2) (k := 1) (by omega)
    have h3 : y / 2 ≠ 0 := by omega
    have h4 := le_bl h
    have h5 := lt_bl (y / 2)
    have h6 := lt_bl y
    have h7 := le_bl h3
    apply Nat.le_antisymm
    · apply Nat.le_of_not_lt; intro hc
      have : y < 2 ^ (bl (y / 2) - 1 + 1) := Nat.lt_of_lt_of_le h6 (pmono (by omega))
      rw [Nat.pow_succ] at this; omega
    · apply bl_le
      rw [Nat.pow_succ]; omega

set_option maxHeartbeats 2000000 in
theorem rbits_any (A : Option Addr) (n c x : Nat) (w : World) (hn : n = Fil.dn 8 x) (h8 : n ≤ 1048576) (h : Slc w 3 A n (fun j => .int .i64 (dg 8 x j))) :
    Calls Tryz.prog 96 #[.slice A n c] w fun r w' => r = .returned (.int .i64 (bl x)) ∧ w = w' := by
  by_cases hx : x = 0
  · subst hx
    have hn0 : n = 0 := by rw [hn, dn_zero]
    subst hn0
    clear h hn h8
    go_enter Tryz.func96, Tryz.ntmps96
    go_wp2
    go_ret
    exact ⟨rfl, rfl⟩
  · have hp : 0 < n := by rw [hn]; exact dn_pos hx
    have hB := Lib.hid (bl_dn (k := 8) (by omega) hx)
    obtain ⟨b, o, cs, fz, rfl, hh, hc⟩ := h hp
    have hcell : w.cell? ⟨b, o + (n - 1), none⟩ = some (.int .i64 (dg 8 x (n - 1))) := by
      rw [cell_of_row _ b _ cs 3 fz hh]; exact hc _ (by omega)
    rw [← hn] at hB
    have ht := dg_lt 8 x (n - 1)
    generalize dg 8 x (n - 1) = t at *
    have hn1 : (n : Int) - 1 = ((n - 1 : Nat) : Int) := by omega
    clear h hc hn hx hh
    go_enter Tryz.func96, Tryz.ntmps96
    go_wp2
    go_loopg [3, 4] t (fun g s3 s4 wr => ∃ (i y : Nat), bl y + i = bl t ∧ g = y ∧ y ≤ t ∧ s3 = .int .i64 (8 * ((n - 1 : Nat) : Int) + i) ∧ s4 = .int .i64 y ∧ w = wr)
    case atStart => exact ⟨0, t, by omega, rfl, Nat.le_refl _, congrArg (Value.int IntKind.i64) (by omega), rfl, rfl⟩
    case round =>
      obtain ⟨i, y, hi, hg, hy, rfl, rfl, rfl⟩ := hrel
      have hb8 : bl t ≤ 8 := bl_le ht
      have hi8 : (i : Int) ≤ 8 := by omega
      have hi0 : 0 ≤ (i : Int) := by omega
      have hn2 : ((n - 1 : Nat) : Int) ≤ 1048576 := by omega
      have hn3 : 0 ≤ ((n - 1 : Nat) : Int) := by omega
      by_cases hy0 : 0 < y
      · have hh := bl_half (y := y) (by omega)
        have HH := Lib.hid (And.intro hi (And.intro hg (And.intro hy (And.intro hh hy0))))
        have hyi : 0 < (y : Int) := by omega
        have hyi2 : (y : Int) / 2 ≤ 256 := by omega
        have hyi3 : 0 ≤ (y : Int) / 2 := by omega
        clear hi hg hh hb8 hy ht
        go_wp2
        go_roundg (y / 2)
        case measure => have := HH.out; omega
        case rel => exact ⟨i + 1, y / 2, by have := HH.out; omega, rfl, by have := HH.out; omega, congrArg (Value.int IntKind.i64) (by omega), congrArg (Value.int IntKind.i64) (by omega), rfl⟩
      · obtain rfl : y = 0 := by omega
        rw [bl_zero] at hi
        have HH := Lib.hid hi
        clear hi hg hy hb8 ht
        go_wp2
        go_ret
        exact ⟨ret_int (by rw [hB.out]; have := HH.out; omega), rfl⟩

set_option maxHeartbeats 1000000 in
theorem rtop_ok (neg : Bool) (x : Nat) (e : Int) (w : World) (h : okD neg x e) :
    Calls Tryz.prog 52 #[.agg #[.bool neg, .string (bstr x), .int .i64 e]] w fun r w' => r = .returned (.tuple #[.int .i64 (topZ x e), .bool (decide (x ≠ 0))]) ∧ Below w.heap.size w w' := by
  have hb0 := box_below w neg (bstr x) e
  by_cases hx : x = 0
  · subst hx
    have h1 := bstr_nil
    go_enter Tryz.func52, Tryz.ntmps52
    go_wp2
    go_returns
    exact ⟨rfl, hb0⟩
  · obtain ⟨h1, h2⟩ := bstr_ne hx
    have hx2 := Lib.hid hx
    have he : -1048576 ≤ e ∧ e ≤ 1048576 := ⟨h.e1, h.e2⟩
    have hdn := h.dn
    have hbl : bl x ≤ 1048576 := by have := h.dn; have := dn8_bl x; omega
    have hbl0 : 0 ≤ (bl x : Int) := by omega
    have H := Lib.hid (topZ_pos hx e)
    obtain ⟨c0, c1, c2⟩ := box_cells w neg (bstr x) e (Below.refl _ _)
    clear hx h
    have W1 : IntKind.i64.wrap ((bl x : Int) - 1) = (bl x : Int) - 1 := IntWalk.i64_in _ (by omega)
    have W2 : IntKind.i64.wrap ((bl x : Int) - 1 + e) = (bl x : Int) - 1 + e := IntWalk.i64_in _ (by omega)
    go_enter Tryz.func52, Tryz.ntmps52
    go_wp2_with fail
    refine wp_region_cut 8 (by kernel_rfl) (by kernel_rfl) ?_
    rintro W rfl
    simp only [List.take_succ_cons, List.take_zero, List.drop_succ_cons, List.drop_zero]
    have hlt : w.heap.size < (w.alloc (.cells #[.bool neg, .string (bstr x), .int .i64 e] 38)).drew.heap.size := by
      show w.heap.size < (w.alloc _).heap.size
      simp
    have hHeld : (fun w' : World => w'.cell? ⟨w.heap.size, 1, none⟩ = some (.string (bstr x)) ∧ w'.cell? ⟨w.heap.size, 2, none⟩ = some (.int .i64 e)) (w.alloc (.cells #[.bool neg, .string (bstr x), .int .i64 e] 38)).drew := ⟨c1, c2⟩
    refine wpAny_of_held (S := fun w' : World => w'.cell? ⟨w.heap.size, 1, none⟩ = some (.string (bstr x)) ∧ w'.cell? ⟨w.heap.size, 2, none⟩ = some (.int .i64 e)) _ _ _ _ ?_
    refine tkA 0 ?_
    (try dsimp only [Act.put]); (try go_frame)
    refine tkA 1 ?_
    (try dsimp only [Act.put]); (try go_frame)
    refine tkA 5 ?_
    (try dsimp only [Act.put]); (try go_frame)
    refine tkA 6 ?_
    (try dsimp only [Act.put]); (try go_frame)
    refine wpAnyH_ready (rs := [2]) (by kernel_rfl) (by simp) ?_
    refine AllReadyH.cons rfl (fun K hK => ?_) AllReadyH.nil
    go_simp
    refine (rof_any x _ (by omega)).mono ?_
    rintro r w1 ⟨v, rfl, hown, hb1⟩
    have hB : Below w.heap.size w w1 := hb0.drew.trans (hb1.mono (Nat.le_of_lt hlt))
    obtain ⟨A, c, rfl, hnc, hsl⟩ := hown.slc
    refine hK.out _ _ ?_ (fun hHeld => ?_)
    · exact ⟨(hb1.cell hlt).trans c1, (hb1.cell hlt).trans c2⟩
    clear hK K
    (try dsimp only [Act.put]); (try go_frame)
    refine wpAnyH_ready (rs := [3]) (by kernel_rfl) (by simp) ?_
    refine AllReadyH.cons rfl (fun K hK => ?_) AllReadyH.nil
    go_simp
    refine (rbits_any A _ c x _ rfl (by omega) hsl).mono ?_
    rintro r w3 ⟨rfl, rfl⟩
    refine hK.out _ _ ?_ (fun hHeld => ?_)
    · exact ⟨(hb1.cell hlt).trans c1, (hb1.cell hlt).trans c2⟩
    clear hK K
    (try dsimp only [Act.put]); (try go_frame)
    refine tkA 4 ?_
    (try dsimp only [Act.put]); (try go_frame)
    refine tkA 7 ?_
    (try dsimp only [Act.put]); (try go_frame)
    refine wpAnyH_done (by kernel_rfl) ?_ _
    try simp only [QCut]
    go_wp2
    go_returns
    have h3 : (!decide (x = 0)) = true := by simp [hx2.out]
    refine ⟨?_, hB⟩
    rw [H.out, h3]
    rfl
end Go.Proofs.YtfdnbogbankjjaaGreatDoor

/- The walks over the reference's numbers of any length: cut, at, low. -/
namespace Go.Proofs.YtfdnbogbankjjaaGreatDoor
open Go Go.RowKit Go.PlainAid Fil

/-- a digit to the base 256 as a value -/
def i8 (x j : Nat) : Value := .int .i64 (dg 8 x j)

set_option maxHeartbeats 400000 in
theorem rcut_any (A : Option Addr) (n c x : Nat) (w : World) (hx : x < 2 ^ (8 * n)) (hnc : n ≤ c) (hc : n ≤ 4398046511104) (h : Slc w 3 A n (i8 x)) :
    Calls Tryz.prog 98 #[.slice A n c] w fun e w' => e = .returned (.slice A (Fil.dn 8 x) c) ∧ w = w' := by
  go_enter Tryz.func98, Tryz.ntmps98
  go_wp2
  go_loopg [3] n (fun g s3 wr => w = wr ∧ g ≤ n ∧ s3 = .int .i64 g ∧ x < 2 ^ (8 * g))
  case atStart => exact ⟨rfl, Nat.le_refl _, rfl, hx⟩
  case round =>
    obtain ⟨rfl, hg, rfl, hxg⟩ := hrel
    cases gk with
    | zero =>
      have hz : Fil.dn 8 x = 0 := by have : x = 0 := by simpa using hxg
                                     subst this; exact dn_zero 8
      clear h hx hxg
      go_wp2
      go_ret
      exact ⟨by rw [hz]; rfl, rfl⟩
    | succ k =>
      obtain ⟨b, o, rfl, hb, hcell⟩ := h.cell (by omega)
      have hk := hcell k (by omega)
      simp only [i8] at hk
      have hxx := Lib.hid hxg
      have e1 : ((k + 1 : Nat) : Int) - 1 = k := by omega
      clear h hx hxg hcell
      by_cases hd : dg 8 x k = 0
      · have hd' : ((dg 8 x k : Int) == 0) = true := by simp [hd]
        have hd2 := Lib.hid hd
        clear hd
        go_wp2
        go_roundg k
        case measure => omega
        case rel => exact ⟨rfl, by omega, by go_num, cut_step hxx.out hd2.out⟩
      · have hd' : ((dg 8 x k : Int) == 0) = false := by simpa using hd
        have hd2 := Lib.hid hd
        clear hd
        go_wp2
        go_ret
        exact ⟨by rw [cut_stop (by omega) hxx.out hd2.out]; rfl, rfl⟩

set_option maxHeartbeats 400000 in
theorem rat_any (A : Option Addr) (n c x : Nat) (z : Int) (w : World) (hn : n = Fil.dn 8 x) (h0 : 0 ≤ z) (h8 : n ≤ 4398046511104) (h : Slc w 3 A n (i8 x)) :
    Calls Tryz.prog 125 #[.slice A n c, .int .i64 z] w fun e w' => e = .returned (.int .i64 (dg 8 x z.toNat)) ∧ w = w' := by
  obtain ⟨i, rfl⟩ := Int.eq_ofNat_of_zero_le h0
  rw [Int.toNat_natCast]
  have hx := lt_dn (k := 8) (by omega) x
  rw [← hn] at hx
  by_cases hin : i < n
  · obtain ⟨b, o, rfl, _, hc⟩ := h.cell (by omega)
    have k1 := hc i hin
    simp only [i8] at k1
    clear hc h hn hx
    go_enter Tryz.func125, Tryz.ntmps125
    go_wp2
    go_ret
    exact ⟨rfl, rfl⟩
  · have hz : Hid (dg 8 x i = 0) := Lib.hid (dg_zero_of (Nat.lt_of_lt_of_le hx (pmono (by omega))))
    clear h hn hx
    go_enter Tryz.func125, Tryz.ntmps125
    go_wp2
    go_ret
    exact ⟨by rw [hz.out]; rfl, rfl⟩

/-- a bit by its digit -/
theorem bit_at (x j : Nat) : dg 8 x (j / 8) / 2 ^ (j % 8) % 2 = x / 2 ^ j % 2 := by
  have h1 : (2 : Nat) ^ 8 = 2 ^ (j % 8) * 2 ^ (8 - j % 8) := by rw [← Nat.pow_add]; congr 1; omega
  have h2 : (2 : Nat) ∣ 2 ^ (8 - j % 8) := by
    rw [show 8 - j % 8 = (8 - j % 8 - 1) + 1 by omega, Nat.pow_succ]; exact Nat.dvd_mul_left _ _
  unfold dg
  rw [h1, Nat.mod_mul_right_div_self, Nat.mod_mod_of_dvd _ h2, Nat.div_div_eq_div_mul, ← Nat.pow_add]
  congr 3; omega
theorem bit_tz {x : Nat} (h : x ≠ 0) : x / 2 ^ tz x % 2 = 1 := tz_div h
theorem bit_low {x j : Nat} (hj : j < tz x) : x / 2 ^ j % 2 = 0 := by
  have h1 : x = x / 2 ^ tz x * 2 ^ (tz x - j - 1) * 2 * 2 ^ j := by
    rw [Nat.mul_assoc, Nat.mul_assoc, ← Nat.pow_succ', ← Nat.pow_add, show tz x - j - 1 + (j + 1) = tz x by omega, tz_mul]
  rw [h1, Nat.mul_div_cancel _ (pp j)]
  exact Nat.mul_mod_left _ _

set_option maxHeartbeats 1000000 in
theorem rlow_any (A : Option Addr) (n c x : Nat) (w : World) (hn : n = Fil.dn 8 x) (hx0 : x ≠ 0) (h8 : n ≤ 1048576) (h : Slc w 3 A n (i8 x)) :
    Calls Tryz.prog 88 #[.slice A n c] w fun e w' => e = .returned (.int .i64 (tz x)) ∧ w = w' := by
  have hx := lt_dn (k := 8) (by omega) x
  rw [← hn] at hx
  have ht := tz_le_log hx0
  have hl := (Nat.log2_lt hx0).2 hx
  have htn : tz x < 8 * n := by omega
  have Hb := Lib.hid (bit_tz hx0)
  have Hl := Lib.hid (fun j => @bit_low x j)
  clear hn hx ht hl hx0
  generalize tz x = t at *
  obtain ⟨b, o, rfl, _, hc⟩ := h.cell (by omega)
  have Hc := Lib.hid hc
  clear h hc
  go_enter Tryz.func88, Tryz.ntmps88
  go_wp2
  go_loopg [3] t (fun g s3 wr => w = wr ∧ ∃ j : Nat, j ≤ t ∧ g = t - j ∧ s3 = .int .i64 j)
  case atStart => exact ⟨rfl, 0, by omega, by omega, rfl⟩
  case round =>
    obtain ⟨rfl, j, hj, hg, rfl⟩ := hrel
    have hj8 : j / 8 < n := by omega
    have k1 := Hc.out (j / 8) hj8
    simp only [i8] at k1
    have hd := dg_lt 8 x (j / 8)
    have ha := Go.Proofs.and_one (dg 8 x (j / 8) / 2 ^ (j % 8)) (by have := Nat.div_le_self (dg 8 x (j / 8)) (2 ^ (j % 8)); omega)
    rw [bit_at] at ha
    have hbi := bit_at x j
    have Hg := Lib.hid hg
    clear hg hbi
    rw [← div_cast] at ha
    by_cases hjt : j < t
    · rw [Hl.out j hjt] at ha
      have hq : (bits BinOp.and IntKind.i64 ((dg 8 x (j / 8) : Int) / 2 ^ (j % 8)) 1 == 0) = true := by rw [ha]; rfl
      clear ha
      go_wp2
      go_roundg (t - (j + 1))
      case measure => have := Hg.out; omega
      case rel => exact ⟨rfl, j + 1, by omega, rfl, by go_num⟩
    · obtain rfl : j = t := by omega
      rw [Hb.out] at ha
      have hq : (bits BinOp.and IntKind.i64 ((dg 8 x (j / 8) : Int) / 2 ^ (j % 8)) 1 == 0) = false := by rw [ha]; rfl
      clear ha
      go_wp2
      go_ret
      exact ⟨rfl, rfl⟩
end Go.Proofs.YtfdnbogbankjjaaGreatDoor

/- The walks over the reference's numbers: halved, plus, minus, shifted. -/
namespace Go.Proofs.YtfdnbogbankjjaaGreatDoor
open Go Go.RowKit Go.PlainAid Fil

theorem Own.congr {w : World} {B : Nat} {v : Value} {n : Nat} {f g : Nat → Int} (h : Own w B v n f) (e : ∀ i, i < n → f i = g i) : Own w B v n g := by
  unfold Own at *
  rw [show ((List.range n).map fun i => Value.int .i64 (g i)) = (List.range n).map fun i => Value.int .i64 (f i) from List.map_congr_left fun i hi => by rw [e i (List.mem_range.1 hi)]]
  exact h
theorem own_grow {n : Nat} {f g : Nat → Int} {t : Int} (e : ∀ i, i < n → f i = g i) (ht : t = g n) : (List.range n).map (fun i => Value.int .i64 (f i)) ++ [.int .i64 t] = (List.range (n + 1)).map fun i => Value.int .i64 (g i) := by
  rw [List.range_succ, List.map_append, ht, List.map_congr_left fun i hi => by rw [e i (List.mem_range.1 hi)]]; rfl

/-- an answer that is a number of the reference -/
def BigR (w : World) (y : Nat) (r : Ending) (w' : World) : Prop := ∃ A c, r = .returned (.slice A (Fil.dn 8 y) c) ∧ Fil.dn 8 y ≤ c ∧ Slc w' 3 A (Fil.dn 8 y) (i8 y) ∧ Below w.heap.size w w'

theorem halved_dg (x k j : Nat) : (dg 8 x (k / 8 + j) + 256 * dg 8 x (k / 8 + j + 1)) / 2 ^ (k % 8) % 256 = dg 8 (x / 2 ^ k) j := by
  have h := shr_dg 8 (x / 2 ^ (8 * (k / 8))) (k % 8) j (by omega)
  rw [Nat.div_div_eq_div_mul, ← Nat.pow_add, show 8 * (k / 8) + k % 8 = k by omega, dg_div, dg_div] at h
  rw [h, Nat.mul_comm 256]
  rfl
theorem halved_lt {x k n : Nat} (hx : x < 2 ^ (8 * n)) (h : k / 8 ≤ n) : x / 2 ^ k < 2 ^ (8 * (n - k / 8)) := by
  have h1 := shr_bound hx h
  have e : x / 2 ^ k = x / 2 ^ (8 * (k / 8)) / 2 ^ (k % 8) := by rw [Nat.div_div_eq_div_mul, ← Nat.pow_add]; congr 2; omega
  rw [e]
  exact Nat.lt_of_le_of_lt (Nat.div_le_self _ _) h1

theorem tmod_nat (a b : Nat) : (a : Int).tmod (b : Int) = ((a % b : Nat) : Int) := (Int.ofNat_tmod a b).symm
theorem shift_nat (d0 d1 s : Nat) (hs : s ≤ 64) : Op.shift BinOp.shr IntKind.i64 ((d0 : Int) + 256 * (d1 : Int)) IntKind.i64 ((s : Nat) : Int) = pure (Value.int .i64 (((d0 + 256 * d1) / 2 ^ s : Nat) : Int)) := by
  have h := shift_shr .i64 .i64 ((d0 : Int) + 256 * (d1 : Int)) (s : Int) (by omega) (by show (s : Int) ≤ 64; omega)
  rw [h, Int.toNat_natCast, show ((d0 : Int) + 256 * (d1 : Int)) = ((d0 + 256 * d1 : Nat) : Int) by omega, div_cast]

set_option maxRecDepth 100000 in
set_option maxHeartbeats 2000000 in
theorem rhalved_any (A : Option Addr) (n c x k : Nat) (w : World) (hn : n = Fil.dn 8 x) (hnc : n ≤ c) (h8 : n ≤ 1048576) (hk : k ≤ 1099511627776) (h : Slc w 3 A n (i8 x)) :
    Calls Tryz.prog 89 #[.slice A n c, .int .i64 k] w fun r w' => BigR w (x / 2 ^ k) r w' := by
  have hx := lt_dn (k := 8) (by omega) x
  rw [← hn] at hx
  have Hn := Lib.hid hn
  obtain ⟨i0, hi, hp⟩ := Option.map_eq_some_iff.1 Tryz.info3
  have hz0 : i0.zero = some (.int .i64 0) := congrArg Prod.fst hp
  have hz1 : i0.size = 1 := congrArg (fun q => q.2.1) hp
  have hz2 : i0.bytes = 8 := congrArg (fun q => q.2.2) hp
  clear hn hp
  obtain ⟨q, hq⟩ : ∃ q, q = k / 8 := ⟨_, rfl⟩
  have hkq : (k : Int) / 8 = (q : Int) := by omega
  by_cases hqn : n ≤ q
  · have hz : x / 2 ^ k = 0 := Nat.div_eq_of_lt (Nat.lt_of_lt_of_le hx (pmono (by omega)))
    have Hz := Lib.hid hz
    clear hz hx hq
    go_enter Tryz.func89, Tryz.ntmps89
    go_wp2
    go_loopg [5, 6] 0 (fun g s5 s6 wr => s5 = .slice none 0 0 ∧ s6 = .int .i64 q ∧ w = wr)
    case atStart => exact ⟨rfl, rfl, rfl⟩
    case round =>
      obtain ⟨rfl, rfl, rfl⟩ := hrel
      go_wp2_with fail
      refine (rcut_any none 0 0 0 _ (by omega) (by omega) (by omega) (Slc.nil _ _ _ _)).mono ?_
      rintro r w1 ⟨rfl, rfl⟩
      go_wp2
      go_ret
      exact ⟨none, 0, by rw [Hz.out, dn_zero]; rfl, by rw [Hz.out, dn_zero]; omega, by rw [Hz.out, dn_zero]; exact Slc.nil _ _ _ _, Below.refl _ _⟩
  · have Hx := Lib.hid (halved_lt hx (by omega) : x / 2 ^ k < 2 ^ (8 * (n - k / 8)))
    have Hd := Lib.hid (halved_dg x k)
    have Hq := Lib.hid hq
    clear hx hq
    go_enter Tryz.func89, Tryz.ntmps89
    go_wp2
    go_loopg [5, 6] (n - q) (fun g s5 s6 wr => ∃ p : Nat, q ≤ p ∧ p ≤ n ∧ g = n - p ∧ s6 = .int .i64 p ∧ Own wr w.heap.size s5 (p - q) (fun i => (dg 8 (x / 2 ^ k) i : Int)) ∧ Below w.heap.size w wr)
    case atStart => exact ⟨q, by omega, by omega, by omega, rfl, by rw [Nat.sub_self]; exact Own.nil _ _ _, Below.refl _ _⟩
    case round =>
      obtain ⟨p, hqp, hp, hg, rfl, hown, hbel⟩ := hrel
      by_cases hpn : p < n
      · obtain ⟨b, o, rfl, hblt0, hc⟩ := (h.below hbel).cell (by omega)
        have k1 := hc p hpn
        have hblt := hblt0
        simp only [i8] at k1
        have hd0 := dg_lt 8 x p
        have hd1 := dg_lt 8 x (p + 1)
        have HD := Hd.out (p - q)
        rw [← Hq.out, show q + (p - q) = p by omega] at HD
        have ha := fun W (hW : W = wr.drew) => rat_any (some ⟨b, o, none⟩) n c x ((p : Int) + 1) W Hn.out (by omega) (by omega) (by rw [hW]; exact (h.below hbel).drew)
        rw [show (((p : Int) + 1).toNat) = p + 1 by omega] at ha
        obtain ⟨d2, hd2⟩ : ∃ d2, d2 = dg 8 (x / 2 ^ k) (p - q) := ⟨_, rfl⟩
        rw [← hd2] at HD
        have HE := Lib.hid hd2
        have HD2 := Lib.hid HD
        have HA := Lib.hid ha
        clear HD ha hc hd2
        generalize dg 8 x p = d0 at *
        generalize dg 8 x (p + 1) = d1 at *
        have W1 : IntKind.i64.wrap (256 * (d1 : Int)) = 256 * (d1 : Int) := IntWalk.i64_in _ (by omega)
        have W2 : IntKind.i64.wrap ((d0 : Int) + 256 * (d1 : Int)) = (d0 : Int) + 256 * (d1 : Int) := IntWalk.i64_in _ (by omega)
        have W3 : IntKind.i64.wrap ((p : Int) + 1) = (p : Int) + 1 := IntWalk.i64_in _ (by omega)
        obtain ⟨t, ht⟩ : ∃ t, t = (d0 + 256 * d1) / 2 ^ (k % 8) := ⟨_, rfl⟩
        have hsh : Op.shift BinOp.shr IntKind.i64 ((d0 : Int) + 256 * (d1 : Int)) IntKind.i64 ((k : Int).tmod 8) = pure (Value.int .i64 (t : Int)) := by
          rw [show (k : Int).tmod 8 = ((k % 8 : Nat) : Int) from tmod_nat k 8, shift_nat d0 d1 (k % 8) (by omega), ht]
        have hrm : ((t : Nat) : Int).tmod 256 = (d2 : Int) := by
          rw [show ((t : Nat) : Int).tmod 256 = ((t % 256 : Nat) : Int) from tmod_nat t 256, ht, HD2.out]
        clear ht HD2
        have P0 : (0 : Int) ≤ (p : Int) := by omega
        have P1 : (p : Int) < (n : Int) := by omega
        have hb2 := hbel.size
        have HG := Lib.hid (And.intro hg hbel)
        clear hg hbel h
        go_wp2_with fail
        refine wp_region_cut 16 (by kernel_rfl) (by kernel_rfl) ?_
        rintro W rfl
        simp only [List.take_succ_cons, List.take_zero, List.drop_succ_cons, List.drop_zero]
        refine wpAny_of_held (S := fun w' : World => w'.cell? ⟨b, o + p, none⟩ = some (.int .i64 d0)) _ _ _ _ ?_
        have hHeld : (fun w' : World => w'.cell? ⟨b, o + p, none⟩ = some (.int .i64 d0)) wr.drew := k1
        refine tkA 0 ?_
        (try dsimp only [Act.put]); (try go_frame)
        refine tkA 1 ?_
        (try dsimp only [Act.put]); (try go_frame)
        refine tkA 2 ?_
        (try dsimp only [Act.put]); (try go_frame)
        refine tkA 3 ?_
        (try dsimp only [Act.put]); (try go_frame)
        refine tkA 4 ?_
        (try dsimp only [Act.put]); (try go_frame)
        refine tkA 5 ?_
        (try dsimp only [Act.put]); (try go_frame)
        refine tkA 6 ?_
        (try dsimp only [Act.put]); (try go_frame)
        refine tkA 7 ?_
        (try dsimp only [Act.put]); (try go_frame)
        refine tkA 11 ?_
        (try dsimp only [Act.put]); (try go_frame)
        refine tkA 12 ?_
        (try dsimp only [Act.put]); (try go_frame)
        refine wpAnyH_ready (rs := [8]) (by kernel_rfl) (by simp) ?_
        refine AllReadyH.cons rfl (fun K hK => ?_) AllReadyH.nil
        go_simp
        refine (HA.out _ rfl).mono ?_
        rintro r w1 ⟨rfl, rfl⟩
        refine hK.out _ _ ?_ (fun hHeld => ?_)
        · exact k1
        clear hK K
        (try dsimp only [Act.put]); (try go_frame)
        refine tkA 9 ?_
        (try dsimp only [Act.put]); (try go_frame)
        refine tkA 10 ?_
        (try dsimp only [Act.put]); (try go_frame)
        refine tkA 13 ?_
        (try dsimp only [Act.put]); (try go_frame)
        refine tkA 14 ?_
        (try dsimp only [Act.put]); (try go_frame)
        refine wpAnyH_ready (rs := [15]) (by kernel_rfl) (by simp) ?_
        refine AllReadyH.cons rfl (fun K hK => ?_) AllReadyH.nil
        go_simp
        refine hK.out _ _ ?_ (fun hHeld => ?_)
        · exact (((Below.refl wr.heap.size wr).drew.alloc (Nat.le_refl _) _).cell hblt).trans k1
        clear hK K
        (try dsimp only [Act.put]); (try go_frame)
        refine wpAnyH_done (by kernel_rfl) ?_ _
        try simp only [QCut]
        clear hHeld k1 HA W1 W2 W3 hsh hrm
        go_wp2_with (at_builtin; refine wpList_append_own _ rfl _ _ 94 rfl w.heap.size 3 i0 (.int .i64 0) 1 8 Tryz.underlying94 hi hz0 hz1 hz2 rfl (by decide) _ _ _ rfl (by exact hown.alloc _) ⟨wr.heap.size, 0, none⟩ 1 1 [.int .i64 d2] rfl rfl ?c1 ?c2 ?c3 ?c4 ?c5 ?_)
        case c2 => rfl
        case c3 => unfold maxLen; omega
        case c4 => omega
        case c5 => first | omega | (simp; omega)
        · intro v' w1 hown' hgrow _
          rw [own_grow (g := fun i => (dg 8 (x / 2 ^ k) i : Int)) (fun _ _ => rfl) (congrArg Nat.cast HE.out), show p - q + 1 = p + 1 - q by have := HG.out.1; omega] at hown'
          have hb1 := (HG.out.2.drew.alloc hb2 (Obj.cells #[Value.int IntKind.i64 d2] 3)).grown hgrow (by simp; omega) (fun k hk => (hown.lt k hk).1)
          clear hown hgrow
          go_wp2
          go_roundg (n - (p + 1))
          case measure => have := HG.out.1; omega
          case rel => exact ⟨p + 1, by omega, by omega, rfl, by go_num, hown', hb1⟩
      · obtain rfl : p = n := by omega
        obtain ⟨A', c', rfl, hnc', hs'⟩ := hown.slc
        have hle := dn_le (k := 8) (by omega) Hx.out
        rw [← Hq.out] at hle
        have Hle := Lib.hid hle
        have Hx2 := Hx.out
        rw [← Hq.out] at Hx2
        have Hx3 := Lib.hid Hx2
        clear hle Hx2 h hg hown
        go_wp2_with fail
        refine (rcut_any A' (p - q) c' (x / 2 ^ k) _ Hx3.out hnc' (by omega) hs').mono ?_
        rintro r w1 ⟨rfl, rfl⟩
        go_wp2
        go_ret
        exact ⟨A', c', rfl, Nat.le_trans Hle.out hnc', hs'.le Hle.out, hbel⟩
end Go.Proofs.YtfdnbogbankjjaaGreatDoor
