/- Merged: BA BD BJ BK BL -/
import Derived.Test.YtfdnbogbankjjaaGreatDoorB9
import Derived.Test.YtfdnbogbankjjaaGreatDoorB7

/- Shift and Floor, both. -/
/- The walks over dyad.Shift and the reference's. -/
namespace Go.Proofs.YtfdnbogbankjjaaGreatDoor
open Go Go.RowKit Go.PlainAid Fil

theorem okD.odd {neg : Bool} {x : Nat} {e : Int} (h : okD neg x e) (hx : x ≠ 0) : x % 2 = 1 := by
 rcases h with ⟨h, _⟩ | h
 ·exact absurd h hx
 ·exact h.1
theorem okD.nil {neg : Bool} {e : Int} (h : okD neg 0 e) : neg = false ∧ e = 0 := by
 rcases h with ⟨_, h1, h2⟩ | h
 ·exact ⟨h1, h2⟩
 ·omega
end Go.Proofs.YtfdnbogbankjjaaGreatDoor

/- The walks over dyad.Floor and the reference's. -/
namespace Go.Proofs.YtfdnbogbankjjaaGreatDoor
open Go Go.RowKit Go.PlainAid Fil

end Go.Proofs.YtfdnbogbankjjaaGreatDoor

/- The walk over the reference's Floor. -/
namespace Go.Proofs.YtfdnbogbankjjaaGreatDoor
open Go Go.RowKit Go.PlainAid Fil

theorem dn8_one : Fil.dn 8 1 = 1 := by rw [dn8_bl]; decide
theorem slc_one (w : World) : Slc (w.alloc (.cells #[.int .i64 1] 3)) 3 (some ⟨w.heap.size, 0, none⟩) 1 (i8 1) := fun _ =>
 ⟨w.heap.size, 0, _, _, rfl, heap_alloc_new w _, fun j hj => by
  have : j = 0 := by omega
  subst this
  rfl⟩

theorem DyAt.put (w : World) (neg : Bool) (s : ByteArray) (e : Int) : DyAt (w.alloc (.cells #[.bool neg, .string s, .int .i64 e] 38)) w.heap.size neg s e := DyAt.new w _ neg s e rfl (Below.refl _ _)
theorem DyAt.lt {w : World} {b : Nat} {neg : Bool} {s : ByteArray} {e : Int} (h : DyAt w b neg s e) : b < w.heap.size := World.block_lt_of_cell? _ _ h.c0
theorem DyAt.keep {w w' : World} {b : Nat} {neg : Bool} {s : ByteArray} {e : Int} (h : DyAt w b neg s e) (hb : Below w.heap.size w w') : DyAt w' b neg s e := h.below hb h.lt
end Go.Proofs.YtfdnbogbankjjaaGreatDoor

/- dyad.cut, round, Near, Below, Above. -/
/- The walk over dyad.cut, where something is cut off. -/
namespace Go.Proofs.YtfdnbogbankjjaaGreatDoor
open Go Go.RowKit Go.PlainAid Fil

end Go.Proofs.YtfdnbogbankjjaaGreatDoor

/- The walks over dyad.round with its three closures, dyad.Near, Below, Above. -/
namespace Go.Proofs.YtfdnbogbankjjaaGreatDoor
open Go Go.RowKit Go.PlainAid Fil

end Go.Proofs.YtfdnbogbankjjaaGreatDoor

/- The walks over dyad.Near, Below, Above. -/
namespace Go.Proofs.YtfdnbogbankjjaaGreatDoor
open Go Go.RowKit Go.PlainAid Fil

/-- the nearest float's bits, those of the greatest one not above, of the least one not below -/
def nearF (neg : Bool) (x : Nat) (e : Int) : Nat := if x = 0 then 0 else Ieee.double.word neg (rgN x e)
theorem bl_log {x : Nat} (h : x ≠ 0) : bl x = x.log2 + 1 := if_neg h
theorem topZ_tpI {x : Nat} (h : x ≠ 0) (e : Int) : topZ x e = tpI x e := by
 rw [topZ_pos h, bl_log h]; unfold tpI; omega
theorem rdX_yes {x : Nat} {e : Int} (h : rdQ x e ≤ e) : rdX x e = true := decide_eq_true h
theorem rdX_no {x : Nat} {e : Int} (h : ¬ rdQ x e ≤ e) : rdX x e = false := decide_eq_false h
theorem rgX_small {x : Nat} {e : Int} (h : tpI x e < 1024) : rgX x e = rdX x e := by unfold rgX; rw [decide_eq_true h]; rfl
theorem rgX_big {x : Nat} {e : Int} (h : 1024 ≤ tpI x e) : rgX x e = false := by unfold rgX; rw [decide_eq_false (by omega)]; rfl
theorem rgL_small {x : Nat} {e : Int} (h : tpI x e < 1024) : rgL x e = rdR x e := by unfold rgL; rw [if_neg (by omega)]
theorem rgL_big {x : Nat} {e : Int} (h : 1024 ≤ tpI x e) : rgL x e = 9218868437227405311 := by unfold rgL; rw [if_pos h]

end Go.Proofs.YtfdnbogbankjjaaGreatDoor

/- The walks over the reference's numbers of layer 2: made, Of; over dyad.Make, the reference's Make and Of. -/
namespace Go.Proofs.YtfdnbogbankjjaaGreatDoor
open Go Go.RowKit Go.PlainAid Fil

theorem run_backS (w : World) (g x : Nat) (h : w.rowIs g 5 (Fil.dn 8 x) (fun i => b8 x (Fil.dn 8 x - 1 - i))) (c : Nat) :
  (convert 141 9 (.slice (some ⟨g, 0, none⟩) (Fil.dn 8 x) c)).run Tryz.prog w = .ok (.string (bstr x)) w := by
 have := run_convert_bytes_back (P := Tryz.prog) w 141 9 5 ⟨g, 0, none⟩ c (bs x) Tryz.underlying141 Tryz.underlying5 Tryz.underlying9 (fun j hj => by
  have hj' : j < Fil.dn 8 x := by rw [bs_length] at hj; exact hj
  have h1 := h.cell hj'
  have e : (Addr.add ⟨g, 0, none⟩ j) = ⟨g, j, none⟩ := by unfold Addr.add; split <;> simp_all
  rw [e, h1, bs_get]; rfl)
 rw [bs_length] at this
 exact this

set_option maxHeartbeats 4000000 in
theorem r2made_any (A : Option Addr) (n c x : Nat) (w : World) (hn : n = Fil.dn 8 x) (h8 : n ≤ 1048576) (h : Slc w 3 A n (i8 x)) :
  Calls Tryz.prog 46 #[.slice A n c] w fun r w' => r = .returned (.string (bstr x)) ∧ Below w.heap.size w w' := by
 have hmk := run_make_row' (P := Tryz.prog) 141 5 (.int .u8 0) 1 Tryz.underlying141 Tryz.info5 rfl .i64 .i64 n (by omega) (by omega)
 have hlast : 0 < n → ∀ b o, A = some ⟨b, o, none⟩ → (∀ j, j < n → w.cell? ⟨b, o + j, none⟩ = some (i8 x j)) → ((dg 8 x (n - 1) : Int) == 0) = false := fun hp b o _ _ => by
  have hx : x ≠ 0 := by rintro rfl; rw [dn_zero] at hn; omega
  have := dg_top (k := 8) (by omega) hx
  rw [← hn] at this
  rw [beq_eq_false_iff_ne]; omega
 have Hn := Lib.hid hn
 have g0 : 0 ≤ (n : Int) := by omega
 have g1 : (n : Int) ≤ 1048576 := by omega
 by_cases hp : 0 < n
 ·obtain ⟨b, o, rfl, hlt, hc⟩ := h.cell hp
  have hl := hlast hp b o rfl hc
  have hc9 := hc (n - 1) (by omega)
  obtain ⟨m, hm⟩ : ∃ m, m = n - 1 := ⟨_, rfl⟩
  have hmi : (n : Int) - 1 = (m : Int) := by omega
  have hmn : m < n := by omega
  have hm0 : 0 ≤ (m : Int) := by omega
  have hmn' : (m : Int) < (n : Int) := by omega
  have hd0 : decide (0 < n) = true := decide_eq_true hp
  have hd1 : decide (0 < (n : Int)) = true := decide_eq_true (by omega)
  rw [← hm] at hl hc9
  unfold i8 at hc9
  have HS := Lib.hid h
  clear hlast hn hc h hm
  go_enter Tryz.func46, Tryz.ntmps46
  go_wp2
  go_loopg [3] n (fun g s3 wr => w = wr ∧ g = n ∧ s3 = .int .i64 n)
  case atStart => exact ⟨rfl, rfl, rfl⟩
  case round =>
   obtain ⟨rfl, hgk, rfl⟩ := hrel
   clear hgk
   go_wp2
   clear hmk
   go_loopg [5] n (fun g s5 wr => ∃ i : Nat, i ≤ n ∧ g = n - i ∧ s5 = .int .i64 i ∧ wr.rowIs w.heap.size 5 n (fun j => if n - i ≤ j then b8 x (n - 1 - j) else .int .u8 0) ∧ Below w.heap.size w wr)
   case atStart => exact ⟨0, by omega, by omega, rfl, (World.rowIs_made w _ n 5).congr (fun j hj => by simp; omega), (Below.refl _ _).alloc (Nat.le_refl _) _⟩
   case round =>
    obtain ⟨i, hi, hg, rfl, hrow, hbel⟩ := hrel
    have Hg := Lib.hid hg
    clear hg hc9 hl
    by_cases hin : i < n
    ·obtain ⟨b1, o1, hA, _, hc1⟩ := (HS.out.below hbel).cell (by omega)
     injection hA with hA
     injection hA with hA1 hA2 _
     subst hA1 hA2
     have k1 := hc1 i hin
     simp only [i8] at k1
     obtain ⟨k, hk⟩ : ∃ k, k = n - 1 - i := ⟨_, rfl⟩
     have ek : (n : Int) - 1 - (i : Int) = (k : Int) := by omega
     have ek2 : (m : Int) - (i : Int) = (k : Int) := by omega
     have hkm : k < n := by omega
     have Hk : Hid (k = n - 1 - i) := Lib.hid hk
     have k2 := hrow.cell (i := k) (by omega)
     have k3 := hrow.frozen k
     have hdx := dg_lt 8 x i
     have q0 : 0 ≤ (i : Int) := by omega
     have q1 : (i : Int) < (n : Int) := by omega
     have q2 : 0 ≤ (k : Int) := by omega
     have q3 : (k : Int) < (n : Int) := by omega
     clear hc1 hk
     go_wp2
     go_roundg (n - (i + 1))
     case measure => have := Hg.out; omega
     case rel => exact ⟨i + 1, by omega, rfl, by go_num, (hrow.set k _).congr (fun j hj => by_row8 Hk.out hin hj (by rw [b8])), hbel.setCell (Nat.le_refl _) _⟩
    ·obtain rfl : i = n := by omega
     have hrow' := hrow.congr (g := fun j => b8 x (i - 1 - j)) (fun j hj => by rw [if_pos (by omega)])
     rw [Hn.out] at hrow'
     have hrb := run_backS wr w.heap.size x hrow'
     rw [← Hn.out] at hrb
     clear hrow hrow'
     go_wp2
     go_ret
     exact ⟨rfl, hbel⟩
 ·have hd0 : decide (0 < n) = false := decide_eq_false hp
  have hd1 : decide (0 < (n : Int)) = false := decide_eq_false (by omega)
  clear hlast hn h
  go_enter Tryz.func46, Tryz.ntmps46
  go_wp2
  go_loopg [3] n (fun g s3 wr => w = wr ∧ g = n ∧ s3 = .int .i64 n)
  case atStart => exact ⟨rfl, rfl, rfl⟩
  case round =>
   obtain ⟨rfl, hgk, rfl⟩ := hrel
   clear hgk
   go_wp2
   clear hmk
   go_loopg [5] n (fun g s5 wr => ∃ i : Nat, i ≤ n ∧ g = n - i ∧ s5 = .int .i64 i ∧ wr.rowIs w.heap.size 5 n (fun j => if n - i ≤ j then b8 x (n - 1 - j) else .int .u8 0) ∧ Below w.heap.size w wr)
   case atStart => exact ⟨0, by omega, by omega, rfl, (World.rowIs_made w _ n 5).congr (fun j hj => by simp; omega), (Below.refl _ _).alloc (Nat.le_refl _) _⟩
   case round =>
    obtain ⟨i, hi, hg, rfl, hrow, hbel⟩ := hrel
    clear hg
    obtain rfl : i = n := by omega
    have hrow' := hrow.congr (g := fun j => b8 x (i - 1 - j)) (fun j hj => by rw [if_pos (by omega)])
    rw [Hn.out] at hrow'
    have hrb := run_backS wr w.heap.size x hrow'
    rw [← Hn.out] at hrb
    clear hrow hrow'
    go_wp2
    go_ret
    exact ⟨rfl, hbel⟩

set_option maxHeartbeats 2000000 in
theorem r2of_any (x : Nat) (w : World) (hx : x < 18446744073709551616) :
  Calls Tryz.prog 13 #[.int .u64 x] w fun r w' => r = .returned (.string (bstr x)) ∧ Below w.heap.size w w' := by
 have hn8 : Fil.dn 8 x ≤ 8 := dn_le (by omega) (by omega)
 obtain ⟨i0, hi, hp⟩ := Option.map_eq_some_iff.1 Tryz.info3
 have hz0 : i0.zero = some (.int .i64 0) := congrArg Prod.fst hp
 have hz1 : i0.size = 1 := congrArg (fun q => q.2.1) hp
 have hz2 : i0.bytes = 8 := congrArg (fun q => q.2.2) hp
 have Hx := Lib.hid hx
 clear hx
 go_enter Tryz.func13, Tryz.ntmps13
 go_wp2
 go_loopg [0, 3] 8 (fun g s0 v wr => ∃ j : Nat, j ≤ Fil.dn 8 x ∧ g = 8 - j ∧ s0 = .int .u64 ((x / 2 ^ (8 * j) : Nat) : Int) ∧ Own wr w.heap.size v j (fun i => (dg 8 x i : Int)) ∧ Below w.heap.size w wr)
 case atStart => exact ⟨0, by omega, by omega, by simp, Own.nil _ _ _, Below.refl _ _⟩
 case round =>
  obtain ⟨j, hj, hg, rfl, hown, hbel⟩ := hrel
  have hub : x / 2 ^ (8 * j) ≤ x := Nat.div_le_self _ _
  have hxb := Hx.out
  have hst : x / 2 ^ (8 * j) = x / 2 ^ (8 * (j + 1)) * 2 ^ 8 + dg 8 x j := div_step 8 x j
  have hdl := dg_lt 8 x j
  by_cases hjn : j < Fil.dn 8 x
  ·have hpos : 0 < x / 2 ^ (8 * j) := by
    have hx0 : x ≠ 0 := by rintro rfl; rw [dn_zero] at hjn; omega
    have h1 := le_dn (k := 8) x hx0
    have h2 : 2 ^ (8 * j) ≤ x := Nat.le_trans (pmono (by omega)) h1
    exact Nat.div_pos h2 (pp _)
   obtain ⟨y, hy⟩ : ∃ y, y = x / 2 ^ (8 * j) := ⟨_, rfl⟩
   obtain ⟨d, hd⟩ : ∃ d, d = dg 8 x j := ⟨_, rfl⟩
   obtain ⟨z, hz⟩ : ∃ z, z = x / 2 ^ (8 * (j + 1)) := ⟨_, rfl⟩
   rw [← hy]
   rw [← hy, ← hz, ← hd] at hst
   rw [← hy] at hub hpos
   rw [← hd] at hdl
   have e1 : (y : Int) % 256 = (d : Int) := by omega
   have e2 : (y : Int) / 256 = (z : Int) := by omega
   have e5 : IntKind.u64.wrap (z : Int) = (z : Int) := by rw [IntKind.wrap_u64]; omega
   have e3 : decide (0 < y) = true := decide_eq_true hpos
   have e4 : decide (0 < (y : Int)) = true := decide_eq_true (by omega)
   have d0 : 0 ≤ (d : Int) := by omega
   have d1 : (d : Int) < 256 := by omega
   have Hk := Lib.hid (And.intro hz (And.intro hd (And.intro hg (And.intro hjn (And.intro hn8 hbel)))))
   have hbs := hbel.size
   clear hst hub hpos hy hd hz hdl hxb hg hj hjn hn8
   go_wp2_with (at_builtin; refine wpList_append_own _ rfl _ _ 93 rfl w.heap.size 3 i0 (.int .i64 0) 1 8 Tryz.underlying93 hi hz0 hz1 hz2 rfl (by decide) _ _ _ rfl (hown.alloc _) ⟨wr.heap.size, 0, none⟩ 1 1 [.int .i64 (d : Int)] rfl rfl ?c1 ?c2 ?c3 ?c4 ?c5 ?_)
   case c1 =>
    intro j u hj
    match j, hj with
    | 0, hj => simp at hj; subst hj; simp [Addr.add]
   case c2 => intro u hu; simp at hu; subst hu; rfl
   case c3 => have := Hk.out; unfold maxLen; omega
   case c4 => have := Hk.out; omega
   case c5 => simp; omega
   ·intro v' w1 hown' hgrow _
    rw [Hk.out.2.1, range_grow] at hown'
    have hb1 := (hbel.alloc hbs (Obj.cells #[Value.int IntKind.i64 (d : Int)] 3)).grown hgrow (by simp; omega) (fun k hk => (hown.lt k hk).1)
    clear hown hgrow hbel
    go_wp2
    go_roundg (8 - (j + 1))
    case measure => have := Hk.out; omega
    case rel => exact ⟨j + 1, by have := Hk.out; omega, rfl, by rw [← Hk.out.1], hown', hb1⟩
  ·have he : j = Fil.dn 8 x := by omega
   have hz : x / 2 ^ (8 * j) = 0 := by rw [he]; exact Nat.div_eq_of_lt (lt_dn (by omega) x)
   rw [hz]
   obtain ⟨A, c, rfl, hnc, hsl⟩ := Own.slc hown
   have hs0 : Slc wr 3 A j (i8 x) := hsl
   have hmd := fun W (h : Slc W 3 A j (i8 x)) => r2made_any A j c x W he (by omega) h
   have Hs := Lib.hid hs0
   clear hown hsl hs0 hst hub hdl hxb hg hj hjn hz hn8 he
   go_wp2_with fail
   (with_reducible refine (hmd _ Hs.out).mono ?_)
   rintro r w2 ⟨rfl, hb2⟩
   go_wp2
   go_ret
   exact ⟨rfl, hbel.trans (hb2.mono hbel.size)⟩
end Go.Proofs.YtfdnbogbankjjaaGreatDoor

/- The walks over dyad.Make, the reference's Make and Of. -/
namespace Go.Proofs.YtfdnbogbankjjaaGreatDoor
open Go Go.RowKit Go.PlainAid Fil

set_option maxHeartbeats 2000000 in
theorem rmake_ok (neg : Bool) (x : Nat) (e : Int) (w : World) (hx : Fil.dn 8 x ≤ 16384) (he1 : -9223372036854775808 ≤ e) (he2 : e ≤ 9223372036854775807) :
  Calls Tryz.prog 12 #[.bool neg, .string (bstr x), .int .i64 e] w fun r w' => r = .returned (mkV (sz neg x) e) ∧ Below w.heap.size w w' := by
 have hsz := bstr_size x
 have hra := fun W => rof_any x W (by omega)
 have hfi := fun A c W hc (h : Slc W 3 A (Fil.dn 8 x) (i8 x)) => rfit_any neg A (Fil.dn 8 x) c x e W rfl hc (by omega) he1 he2 h
 unfold mkV at hfi ⊢
 unfold dyR at hfi ⊢
 generalize mkN (sz neg x) e = N at *
 generalize bstr (mkX (sz neg x) e) = S at *
 generalize mkE (sz neg x) e = E at *
 generalize mkR (sz neg x) e = R at *
 have hD := DyAt.put w false { data := #[] } 0
 have hB := (Below.refl w.heap.size w).alloc (Nat.le_refl _) (.cells #[.bool false, .string { data := #[] }, .int .i64 0] 38)
 have hb0 : 0 < Fil.dn 8 x → (bt (bstr x) 0 == 0) = false := fun hp => by
  rw [bstr_bt x 0 hp]
  have hx0 : x ≠ 0 := by rintro rfl; rw [dn_zero] at hp; omega
  have ht := dg_top (k := 8) (by omega) hx0
  rw [beq_eq_false_iff_ne, Nat.sub_zero]; omega
 have hgb := get_bt (bstr x)
 have n1 : (Fil.dn 8 x : Int) ≤ 16384 := by omega
 have d1 : decide (16384 < (Fil.dn 8 x : Int)) = false := decide_eq_false (by omega)
 have d2 : decide (16384 < Fil.dn 8 x) = false := decide_eq_false (by omega)
 obtain ⟨n, hn⟩ : ∃ n, n = Fil.dn 8 x := ⟨_, rfl⟩
 rw [← hn] at hsz hra hfi hb0 n1 d1 d2
 obtain ⟨s, hs⟩ : ∃ s, s = bstr x := ⟨_, rfl⟩
 rw [← hs] at hsz hra hb0 hgb ⊢
 clear hn hs hx
 by_cases hp : 0 < n
 ·have k0 := hb0 hp
  have k1 : decide (0 < n) = true := decide_eq_true hp
  have k2 : decide (0 < (n : Int)) = true := decide_eq_true (by omega)
  have k3 : 0 < s.size := by rw [hsz]; exact hp
  clear hb0
  go_enter Tryz.func12, Tryz.ntmps12
  go_wp2_with fail
  (with_reducible refine (hra _).mono ?_)
  rintro r w1 ⟨v, rfl, hown, hb1⟩
  obtain ⟨A, c, rfl, hnc, hsl⟩ := Own.slc hown
  have hs0 : Slc w1 3 A n (i8 x) := hsl
  replace hD := hD.keep hb1
  replace hB := hB.trans (hb1.mono hB.size)
  clear hown hsl hb1 hra
  go_wp2_with fail
  (with_reducible refine (hfi A c w1 hnc hs0).mono ?_)
  rintro r w2 ⟨rfl, hb2⟩
  replace hD := hD.keep hb2
  replace hB := hB.trans (hb2.mono hB.size)
  obtain ⟨c0, c1, c2, f0, f1, f2⟩ := hD
  have hbZ : Below w.heap.size w (((w2.setCell ⟨w.heap.size, 0, none⟩ (.bool N)).setCell ⟨w.heap.size, 1, none⟩ (.string S)).setCell ⟨w.heap.size, 2, none⟩ (.int .i64 E)) := ((hB.setCell (Nat.le_refl _) _).setCell (Nat.le_refl _) _).setCell (Nat.le_refl _) _
  clear hb2 hs0 hB
  go_wp2
  exact bodyPost_ret (v := .tuple #[.agg #[.bool N, .string S, .int .i64 E], .int .i64 R]) (by simp [results, Tryz.results12, go_sem, c0, c1, c2]) rfl ⟨rfl, hbZ⟩
 ·have k1 : decide (0 < n) = false := decide_eq_false hp
  have k2 : decide (0 < (n : Int)) = false := decide_eq_false (by omega)
  clear hb0
  go_enter Tryz.func12, Tryz.ntmps12
  go_wp2_with fail
  (with_reducible refine (hra _).mono ?_)
  rintro r w1 ⟨v, rfl, hown, hb1⟩
  obtain ⟨A, c, rfl, hnc, hsl⟩ := Own.slc hown
  have hs0 : Slc w1 3 A n (i8 x) := hsl
  replace hD := hD.keep hb1
  replace hB := hB.trans (hb1.mono hB.size)
  clear hown hsl hb1 hra
  go_wp2_with fail
  (with_reducible refine (hfi A c w1 hnc hs0).mono ?_)
  rintro r w2 ⟨rfl, hb2⟩
  replace hD := hD.keep hb2
  replace hB := hB.trans (hb2.mono hB.size)
  obtain ⟨c0, c1, c2, f0, f1, f2⟩ := hD
  have hbZ : Below w.heap.size w (((w2.setCell ⟨w.heap.size, 0, none⟩ (.bool N)).setCell ⟨w.heap.size, 1, none⟩ (.string S)).setCell ⟨w.heap.size, 2, none⟩ (.int .i64 E)) := ((hB.setCell (Nat.le_refl _) _).setCell (Nat.le_refl _) _).setCell (Nat.le_refl _) _
  clear hb2 hs0 hB
  go_wp2
  exact bodyPost_ret (v := .tuple #[.agg #[.bool N, .string S, .int .i64 E], .int .i64 R]) (by simp [results, Tryz.results12, go_sem, c0, c1, c2]) rfl ⟨rfl, hbZ⟩

set_option maxHeartbeats 2000000 in
theorem rof2_any (z e : Int) (w : World) (h0 : -9223372036854775808 ≤ z) (h1 : z ≤ 9223372036854775807) (he1 : -9223372036854775808 ≤ e) (he2 : e ≤ 9223372036854775807) :
  Calls Tryz.prog 5 #[.int .i64 z, .int .i64 e] w fun r w' => r = .returned (mkV z e) ∧ Below w.heap.size w w' := by
 obtain ⟨x, hx⟩ : ∃ x, x = z.natAbs := ⟨_, rfl⟩
 have hxb : x < 18446744073709551616 := by omega
 have h8 : Fil.dn 8 x ≤ 16384 := Nat.le_trans (dn_le (n := 8) (by omega) (by omega)) (by omega)
 have h2 := fun W => r2of_any x W hxb
 have hD := DyAt.put w false { data := #[] } 0
 have hB := (Below.refl w.heap.size w).alloc (Nat.le_refl _) (.cells #[.bool false, .string { data := #[] }, .int .i64 0] 38)
 by_cases hz : z < 0
 ·have hm := fun W => rmake_ok true x e W h8 he1 he2
  rw [show sz true x = z by unfold sz; simp; omega] at hm
  have d1 : decide (z < 0) = true := decide_eq_true hz
  have e1 : IntKind.u64.wrap (-IntKind.u64.wrap z) = (x : Int) := by rw [IntKind.wrap_u64, IntKind.wrap_u64]; omega
  unfold mkV at hm ⊢
  unfold dyR at hm ⊢
  generalize mkN z e = N at *
  generalize bstr (mkX z e) = S at *
  generalize mkE z e = E at *
  generalize mkR z e = R at *
  clear hx hxb h8 hz
  go_enter Tryz.func5, Tryz.ntmps5
  go_wp2_with fail
  (with_reducible refine (h2 _).mono ?_)
  rintro r w1 ⟨rfl, hb1⟩
  replace hD := hD.keep hb1
  replace hB := hB.trans (hb1.mono hB.size)
  clear hb1
  go_wp2_with fail
  (with_reducible refine (hm _).mono ?_)
  rintro r w2 ⟨rfl, hb2⟩
  replace hD := hD.keep hb2
  replace hB := hB.trans (hb2.mono hB.size)
  obtain ⟨c0, c1, c2, f0, f1, f2⟩ := hD
  have hbZ : Below w.heap.size w (((w2.setCell ⟨w.heap.size, 0, none⟩ (.bool N)).setCell ⟨w.heap.size, 1, none⟩ (.string S)).setCell ⟨w.heap.size, 2, none⟩ (.int .i64 E)) := ((hB.setCell (Nat.le_refl _) _).setCell (Nat.le_refl _) _).setCell (Nat.le_refl _) _
  clear hb2 hB
  go_wp2
  exact bodyPost_ret (v := .tuple #[.agg #[.bool N, .string S, .int .i64 E], .int .i64 R]) (by simp [results, Tryz.results5, go_sem, c0, c1, c2]) rfl ⟨rfl, hbZ⟩
 ·have hm := fun W => rmake_ok false x e W h8 he1 he2
  rw [show sz false x = z by unfold sz; simp; omega] at hm
  have d1 : decide (z < 0) = false := decide_eq_false hz
  have hzx : z = (x : Int) := by omega
  have e1 : IntKind.u64.wrap (x : Int) = (x : Int) := by rw [IntKind.wrap_u64]; omega
  have x0 : 0 ≤ (x : Int) := by omega
  have x1 : (x : Int) ≤ 9223372036854775807 := by omega
  unfold mkV at hm ⊢
  unfold dyR at hm ⊢
  generalize mkN z e = N at *
  generalize bstr (mkX z e) = S at *
  generalize mkE z e = E at *
  generalize mkR z e = R at *
  subst hzx
  clear hx hxb h8 hz
  go_enter Tryz.func5, Tryz.ntmps5
  go_wp2_with fail
  (with_reducible refine (h2 _).mono ?_)
  rintro r w1 ⟨rfl, hb1⟩
  replace hD := hD.keep hb1
  replace hB := hB.trans (hb1.mono hB.size)
  clear hb1
  go_wp2_with fail
  (with_reducible refine (hm _).mono ?_)
  rintro r w2 ⟨rfl, hb2⟩
  replace hD := hD.keep hb2
  replace hB := hB.trans (hb2.mono hB.size)
  obtain ⟨c0, c1, c2, f0, f1, f2⟩ := hD
  have hbZ : Below w.heap.size w (((w2.setCell ⟨w.heap.size, 0, none⟩ (.bool N)).setCell ⟨w.heap.size, 1, none⟩ (.string S)).setCell ⟨w.heap.size, 2, none⟩ (.int .i64 E)) := ((hB.setCell (Nat.le_refl _) _).setCell (Nat.le_refl _) _).setCell (Nat.le_refl _) _
  clear hb2 hB
  go_wp2
  exact bodyPost_ret (v := .tuple #[.agg #[.bool N, .string S, .int .i64 E], .int .i64 R]) (by simp [results, Tryz.results5, go_sem, c0, c1, c2]) rfl ⟨rfl, hbZ⟩
end Go.Proofs.YtfdnbogbankjjaaGreatDoor

/- The walks over dyad.Float and the reference's FromFloat. -/
namespace Go.Proofs.YtfdnbogbankjjaaGreatDoor
open Go Go.RowKit Go.PlainAid Fil

/-- a float's parts -/
def flQ (b : Nat) : Nat := b / 4503599627370496 % 2048
def flM (b : Nat) : Nat := if flQ b = 0 then b % 4503599627370496 else b % 4503599627370496 + 4503599627370496
def flE (b : Nat) : Int := (if flQ b = 0 then (1 : Int) else (flQ b : Int)) - 1075
/-- the Dyad of a float; of what is none -/
def flD (b : Nat) : Value := if flQ b = 2047 then dyR false 0 0 5 else mkV (sz (fs b) (flM b)) (flE b)

theorem flQ_fr (b : Nat) : flQ b = fr b / 4503599627370496 := by unfold flQ fr; omega
theorem flQ_lt (b : Nat) : flQ b < 2048 := Nat.mod_lt _ (by omega)
theorem flQ_inf {b : Nat} : flQ b = 2047 ↔ 9218868437227405312 ≤ fr b := by rw [flQ_fr]; unfold fr; omega
theorem flM_lt (b : Nat) : flM b < 9007199254740992 := by unfold flM; split <;> omega
theorem flE_bd (b : Nat) : -1074 ≤ flE b ∧ flE b ≤ 972 := by
 have := flQ_lt b
 unfold flE; split <;> omega
theorem fs_ge {b : Nat} (h : b < 18446744073709551616) : fs b = decide (9223372036854775808 ≤ b) := by
 unfold fs
 rcases Nat.lt_or_ge b 9223372036854775808 with h1 | h1
 ·rw [Nat.div_eq_of_lt h1, decide_eq_false (by omega)]; rfl
 ·rw [show b / 9223372036854775808 = 1 by omega, decide_eq_true h1]; rfl
theorem bits_low (b : Nat) (h : b < 18446744073709551616) : bits BinOp.and IntKind.u64 (b : Int) 4503599627370495 = ((b % 4503599627370496 : Nat) : Int) := by
 have h1 := u64_and_nat b 4503599627370495 h (by omega)
 rw [show ((4503599627370495 : Nat) : Int) = 4503599627370495 from rfl] at h1
 rw [h1, show 4503599627370495 = 2 ^ 52 - 1 by rfl, Nat.and_two_pow_sub_one_eq_mod]
theorem bits_exp (q : Nat) (h : q < 18446744073709551616) : bits BinOp.and IntKind.u64 (q : Int) 2047 = ((q % 2048 : Nat) : Int) := by
 have h1 := u64_and_nat q 2047 h (by omega)
 rw [show ((2047 : Nat) : Int) = 2047 from rfl] at h1
 rw [h1, show 2047 = 2 ^ 11 - 1 by rfl, Nat.and_two_pow_sub_one_eq_mod]
set_option maxRecDepth 20000 in
set_option maxHeartbeats 8000000 in
theorem rfromfloat_any (b : Nat) (w : World) (hb : b < 18446744073709551616) :
  Calls Tryz.prog 47 #[.float .f64 b] w fun r w' => r = .returned (flD b) ∧ Below w.heap.size w w' := by
 have h1 := run_f64bits
 have hlow := bits_low b hb
 obtain ⟨q, hq⟩ : ∃ q, q = b / 4503599627370496 := ⟨_, rfl⟩
 have hqd : (b : Int) / 4503599627370496 = (q : Int) := by omega
 have hex := bits_exp q (by omega)
 rw [show q % 2048 = flQ b by rw [hq]; rfl] at hex
 obtain ⟨F, hF⟩ : ∃ F, F = b % 4503599627370496 := ⟨_, rfl⟩
 rw [← hF] at hlow
 obtain ⟨s, hs⟩ : ∃ s, s = b / 9223372036854775808 := ⟨_, rfl⟩
 have hsd : (b : Int) / 9223372036854775808 = (s : Int) := by omega
 have hss : ((s : Int) == 1) = fs b := by
  rw [fs_ge hb, Bool.eq_iff_iff, beq_iff_eq, decide_eq_true_eq]; omega
 have hD := DyAt.put w false { data := #[] } 0
 have hB := (Below.refl w.heap.size w).alloc (Nat.le_refl _) (.cells #[.bool false, .string { data := #[] }, .int .i64 0] 38)
 have F0 : 0 ≤ (F : Int) := by omega
 have F1 : (F : Int) < 4503599627370496 := by omega
 unfold flD
 by_cases h47 : flQ b = 2047
 ·rw [if_pos h47]
  rw [h47] at hex
  clear h47 hb hq hF hs
  go_enter Tryz.func47, Tryz.ntmps47
  go_wp2
  go_returns
  exact ⟨dyR_none ⟨rfl, rfl, rfl, rfl⟩, hB⟩
 ·rw [if_neg h47]
  have hml := flM_lt b
  have heb := flE_bd b
  have h8 : Fil.dn 8 (flM b) ≤ 16384 := Nat.le_trans (dn_le (n := 8) (by omega) (by omega)) (by omega)
  have h2 := fun W => r2of_any (flM b) W (by omega)
  have hm := fun W => rmake_ok (fs b) (flM b) (flE b) W h8 (by omega) (by omega)
  rw [← hss] at hm ⊢
  have hM : flM b = if flQ b = 0 then F else F + 4503599627370496 := by rw [hF]; rfl
  have hE : flE b = (if flQ b = 0 then (1 : Int) else (flQ b : Int)) - 1075 := rfl
  generalize flM b = M at *
  generalize flE b = e at *
  have hQl := flQ_lt b
  have h47b : ((flQ b : Int) == 2047) = false := by
   rw [beq_eq_false_iff_ne]; omega
  have Q0 : 0 ≤ (flQ b : Int) := by omega
  have Q1 : (flQ b : Int) < 2048 := by omega
  unfold mkV at hm ⊢
  unfold dyR at hm ⊢
  generalize mkN (sz ((s : Int) == 1) M) e = VN at *
  generalize bstr (mkX (sz ((s : Int) == 1) M) e) = VS at *
  generalize mkE (sz ((s : Int) == 1) M) e = VE at *
  generalize mkR (sz ((s : Int) == 1) M) e = VR at *
  by_cases hq0 : flQ b = 0
  ·rw [if_pos hq0] at hM hE
   rw [show (1 : Int) - 1075 = -1074 by rfl] at hE
   subst hM
   subst hE
   rw [hq0] at hex
   clear hq0 h47 hss hb hq hF hs h47b Q0 Q1 hQl heb hml
   go_enter Tryz.func47, Tryz.ntmps47
   go_wp2_with fail
   (with_reducible refine (h2 _).mono ?_)
   rintro r w1 ⟨rfl, hb1⟩
   replace hD := hD.keep hb1
   replace hB := hB.trans (hb1.mono hB.size)
   clear hb1 h2
   go_wp2_with fail
   (with_reducible refine (hm _).mono ?_)
   rintro r w2 ⟨rfl, hb2⟩
   replace hD := hD.keep hb2
   replace hB := hB.trans (hb2.mono hB.size)
   obtain ⟨c0, c1, c2, f0, f1, f2⟩ := hD
   have hbZ : Below w.heap.size w (((w2.setCell ⟨w.heap.size, 0, none⟩ (.bool VN)).setCell ⟨w.heap.size, 1, none⟩ (.string VS)).setCell ⟨w.heap.size, 2, none⟩ (.int .i64 VE)) := ((hB.setCell (Nat.le_refl _) _).setCell (Nat.le_refl _) _).setCell (Nat.le_refl _) _
   clear hb2 hB hm
   go_wp2
   exact bodyPost_ret (v := .tuple #[.agg #[.bool VN, .string VS, .int .i64 VE], .int .i64 VR]) (by simp [results, Tryz.results47, go_sem, c0, c1, c2]) rfl ⟨rfl, hbZ⟩
  ·rw [if_neg hq0] at hM hE
   subst hM
   subst hE
   have hq1 : ((flQ b : Int) == 0) = false := by simpa using hq0
   generalize flQ b = qq at *
   rw [show ((F + 4503599627370496 : Nat) : Int) = (F : Int) + 4503599627370496 by omega] at h2
   clear hq0 h47 hss hb hq hF hs hQl heb hml
   go_enter Tryz.func47, Tryz.ntmps47
   go_wp2_with fail
   (with_reducible refine (h2 _).mono ?_)
   rintro r w1 ⟨rfl, hb1⟩
   replace hD := hD.keep hb1
   replace hB := hB.trans (hb1.mono hB.size)
   clear hb1 h2
   go_wp2_with fail
   (with_reducible refine (hm _).mono ?_)
   rintro r w2 ⟨rfl, hb2⟩
   replace hD := hD.keep hb2
   replace hB := hB.trans (hb2.mono hB.size)
   obtain ⟨c0, c1, c2, f0, f1, f2⟩ := hD
   have hbZ : Below w.heap.size w (((w2.setCell ⟨w.heap.size, 0, none⟩ (.bool VN)).setCell ⟨w.heap.size, 1, none⟩ (.string VS)).setCell ⟨w.heap.size, 2, none⟩ (.int .i64 VE)) := ((hB.setCell (Nat.le_refl _) _).setCell (Nat.le_refl _) _).setCell (Nat.le_refl _) _
   clear hb2 hB hm
   go_wp2
   exact bodyPost_ret (v := .tuple #[.agg #[.bool VN, .string VS, .int .i64 VE], .int .i64 VR]) (by simp [results, Tryz.results47, go_sem, c0, c1, c2]) rfl ⟨rfl, hbZ⟩
end Go.Proofs.YtfdnbogbankjjaaGreatDoor
