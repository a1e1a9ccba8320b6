/- Merged: H3 BJ -/
import Derived.Test.YtfbkopepkklkjaaGreatDoorH1
import Derived.Test.YtfbkopepkklkjaaGreatDoorH2
import Derived.Test.YtfbkopepkklkjaaGreatDoorB7
import Derived.Test.YtfbkopepkklkjaaGreatDoorBA

/- Walks of the layer of Gausses, by a program (walk.py): part H3. -/
namespace Go.Proofs.YtfbkopepkklkjaaGreatDoor
open Go Go.RowKit Go.PlainAid Fil

set_option maxRecDepth 10000 in
set_option maxHeartbeats 4000000 in
theorem qnorm_w (a : GY) (p : DY × Int) (E_p : yTwo a.re a.re a.im a.im false = p) (w : World) (ok_a : a.ok)  :
  Calls Tryz.prog 46 #[.agg #[.bool a.re.n, .string (bstr a.re.x), .int .i64 a.re.e, .bool a.im.n, .string (bstr a.im.x), .int .i64 a.im.e]] w fun r w' => r = .returned (.tuple #[.agg #[.bool p.1.n, .string (bstr p.1.x), .int .i64 p.1.e], .int .i64 p.2]) ∧ Below w.heap.size w w' := by
 have h1 := fun W => qtwo a.re a.re a.im a.im false W ok_a.1 ok_a.1 ok_a.2 ok_a.2
 rw [E_p] at h1
 clear E_p ok_a
 obtain ⟨⟨an, aX, ae⟩, ⟨am, aY, af⟩⟩ := a
 obtain ⟨⟨pn, pX, pe⟩, pr⟩ := p
 dsimp only at *
 generalize bstr aX = aS at *
 generalize bstr aY = aT at *
 generalize bstr pX = pS at *
 go_enter Tryz.func46, Tryz.ntmps46
 have B0 := Below.refl w.heap.size w
 have F1 := Blk.put (w) #[.bool an, .string aS, .int .i64 ae, .bool am, .string aT, .int .i64 af] 28
 replace B0 := B0.alloc B0.size (.cells #[.bool an, .string aS, .int .i64 ae, .bool am, .string aT, .int .i64 af] 28)
 have q_w_F2 : Hid (w.heap.size ≤ w.heap.size + 1) := Lib.hid (by omega)
 replace F1 := F1.allocd (.cells #[.bool false, .string { data := #[] }, .int .i64 0] 24)
 have F2 := Blk.put ((w).alloc (.cells #[.bool an, .string aS, .int .i64 ae, .bool am, .string aT, .int .i64 af] 28)) #[.bool false, .string { data := #[] }, .int .i64 0] 24
 rw [show ((w).alloc (.cells #[.bool an, .string aS, .int .i64 ae, .bool am, .string aT, .int .i64 af] 28)).heap.size = w.heap.size + 1 by simp] at F2
 replace B0 := B0.alloc B0.size (.cells #[.bool false, .string { data := #[] }, .int .i64 0] 24)
 obtain ⟨xF10_0, xF10_1, xF10_2, xF10_3, xF10_4, xF10_5⟩ := F1.ce6
 go_wp2_with fail
 (with_reducible refine (h1 _).mono ?_)
 rintro r w1 ⟨rfl, hb1⟩
 clear xF10_0 xF10_1 xF10_2 xF10_3 xF10_4 xF10_5
 replace F1 := F1.keep hb1
 replace F2 := F2.keep hb1
 replace B0 := B0.trans (hb1.mono B0.size)
 clear hb1
 obtain ⟨xF21_0, xF21_1, xF21_2⟩ := F2.ce3
 obtain ⟨xF21_0f, xF21_1f, xF21_2f⟩ := F2.fr3
 clear F1
 replace F2 : Blk ((((w1).setCell ⟨w.heap.size + 1, 0, none⟩ (.bool pn)).setCell ⟨w.heap.size + 1, 1, none⟩ (.string pS)).setCell ⟨w.heap.size + 1, 2, none⟩ (.int .i64 pe)) (w.heap.size + 1) #[.bool pn, .string pS, .int .i64 pe] 24 := (((F2.setAt 0 (.bool pn)).setAt 1 (.string pS)).setAt 2 (.int .i64 pe))
 replace B0 := (((B0.setCell (p := ⟨w.heap.size + 1, 0, none⟩) q_w_F2.out (.bool pn)).setCell (p := ⟨w.heap.size + 1, 1, none⟩) q_w_F2.out (.string pS)).setCell (p := ⟨w.heap.size + 1, 2, none⟩) q_w_F2.out (.int .i64 pe))
 obtain ⟨xF22_0, xF22_1, xF22_2⟩ := F2.ce3
 go_wp2
 exact bodyPost_ret (v := .tuple #[.agg #[.bool pn, .string pS, .int .i64 pe], .int .i64 pr]) (by simp [results, Tryz.results46, go_sem, xF22_0, xF22_1, xF22_2]) rfl ⟨rfl, B0⟩

theorem qnorm (a : GY) (w : World) (ha : a.ok) :
  Calls Tryz.prog 46 #[.agg #[.bool a.re.n, .string (bstr a.re.x), .int .i64 a.re.e, .bool a.im.n, .string (bstr a.im.x), .int .i64 a.im.e]] w fun r w' => r = .returned (.tuple #[.agg #[.bool (gNorm a).1.n, .string (bstr (gNorm a).1.x), .int .i64 (gNorm a).1.e], .int .i64 (gNorm a).2]) ∧ Below w.heap.size w w' := qnorm_w a _ rfl w ha

end Go.Proofs.YtfbkopepkklkjaaGreatDoor

/- The walks over the reference's numbers of layer 2: made, Of; over dyad.Make, the reference's Make and Of. -/
namespace Go.Proofs.YtfbkopepkklkjaaGreatDoor
open Go Go.RowKit Go.PlainAid Fil

theorem run_backS (w : World) (g x : Nat) (h : w.rowIs g 5 (Fil.dn 8 x) (fun i => b8 x (Fil.dn 8 x - 1 - i))) (c : Nat) :
  (convert 157 9 (.slice (some ⟨g, 0, none⟩) (Fil.dn 8 x) c)).run Tryz.prog w = .ok (.string (bstr x)) w := by
 have := run_convert_bytes_back (P := Tryz.prog) w 157 9 5 ⟨g, 0, none⟩ c (bs x) Tryz.underlying157 Tryz.underlying5 Tryz.underlying9 (fun j hj => by
  have hj' : j < Fil.dn 8 x := by rw [bs_length] at hj; exact hj
  have h1 := h.cell hj'
  have e : (Addr.add ⟨g, 0, none⟩ j) = ⟨g, j, none⟩ := by unfold Addr.add; split <;> simp_all
  rw [e, h1, bs_get]; rfl)
 rw [bs_length] at this
 exact this

set_option maxHeartbeats 4000000 in
theorem r2made_any (A : Option Addr) (n c x : Nat) (w : World) (hn : n = Fil.dn 8 x) (h8 : n ≤ 1048576) (h : Slc w 3 A n (i8 x)) :
  Calls Tryz.prog 113 #[.slice A n c] w fun r w' => r = .returned (.string (bstr x)) ∧ Below w.heap.size w w' := by
 have hmk := run_make_row' (P := Tryz.prog) 157 5 (.int .u8 0) 1 Tryz.underlying157 Tryz.info5 rfl .i64 .i64 n (by omega) (by omega)
 have hlast : 0 < n → ∀ b o, A = some ⟨b, o, none⟩ → (∀ j, j < n → w.cell? ⟨b, o + j, none⟩ = some (i8 x j)) → ((dg 8 x (n - 1) : Int) == 0) = false := fun hp b o _ _ => by
  have hx : x ≠ 0 := by rintro rfl; rw [dn_zero] at hn; omega
  have := dg_top (k := 8) (by omega) hx
  rw [← hn] at this
  rw [beq_eq_false_iff_ne]; omega
 have Hn := Lib.hid hn
 have g0 : 0 ≤ (n : Int) := by omega
 have g1 : (n : Int) ≤ 1048576 := by omega
 by_cases hp : 0 < n
 ·obtain ⟨b, o, rfl, hlt, hc⟩ := h.cell hp
  have hl := hlast hp b o rfl hc
  have hc9 := hc (n - 1) (by omega)
  obtain ⟨m, hm⟩ : ∃ m, m = n - 1 := ⟨_, rfl⟩
  have hmi : (n : Int) - 1 = (m : Int) := by omega
  have hmn : m < n := by omega
  have hm0 : 0 ≤ (m : Int) := by omega
  have hmn' : (m : Int) < (n : Int) := by omega
  have hd0 : decide (0 < n) = true := decide_eq_true hp
  have hd1 : decide (0 < (n : Int)) = true := decide_eq_true (by omega)
  rw [← hm] at hl hc9
  unfold i8 at hc9
  have HS := Lib.hid h
  clear hlast hn hc h hm
  go_enter Tryz.func113, Tryz.ntmps113
  go_wp2
  go_loopg [3] n (fun g s3 wr => w = wr ∧ g = n ∧ s3 = .int .i64 n)
  case atStart => exact ⟨rfl, rfl, rfl⟩
  case round =>
   obtain ⟨rfl, hgk, rfl⟩ := hrel
   clear hgk
   go_wp2
   clear hmk
   go_loopg [5] n (fun g s5 wr => ∃ i : Nat, i ≤ n ∧ g = n - i ∧ s5 = .int .i64 i ∧ wr.rowIs w.heap.size 5 n (fun j => if n - i ≤ j then b8 x (n - 1 - j) else .int .u8 0) ∧ Below w.heap.size w wr)
   case atStart => exact ⟨0, by omega, by omega, rfl, (World.rowIs_made w _ n 5).congr (fun j hj => by simp; omega), (Below.refl _ _).alloc (Nat.le_refl _) _⟩
   case round =>
    obtain ⟨i, hi, hg, rfl, hrow, hbel⟩ := hrel
    have Hg := Lib.hid hg
    clear hg hc9 hl
    by_cases hin : i < n
    ·obtain ⟨b1, o1, hA, _, hc1⟩ := (HS.out.below hbel).cell (by omega)
     injection hA with hA
     injection hA with hA1 hA2 _
     subst hA1 hA2
     have k1 := hc1 i hin
     simp only [i8] at k1
     obtain ⟨k, hk⟩ : ∃ k, k = n - 1 - i := ⟨_, rfl⟩
     have ek : (n : Int) - 1 - (i : Int) = (k : Int) := by omega
     have ek2 : (m : Int) - (i : Int) = (k : Int) := by omega
     have hkm : k < n := by omega
     have Hk : Hid (k = n - 1 - i) := Lib.hid hk
     have k2 := hrow.cell (i := k) (by omega)
     have k3 := hrow.frozen k
     have hdx := dg_lt 8 x i
     have q0 : 0 ≤ (i : Int) := by omega
     have q1 : (i : Int) < (n : Int) := by omega
     have q2 : 0 ≤ (k : Int) := by omega
     have q3 : (k : Int) < (n : Int) := by omega
     clear hc1 hk
     go_wp2
     go_roundg (n - (i + 1))
     case measure => have := Hg.out; omega
     case rel => exact ⟨i + 1, by omega, rfl, by go_num, (hrow.set k _).congr (fun j hj => by_row8 Hk.out hin hj (by rw [b8])), hbel.setCell (Nat.le_refl _) _⟩
    ·obtain rfl : i = n := by omega
     have hrow' := hrow.congr (g := fun j => b8 x (i - 1 - j)) (fun j hj => by rw [if_pos (by omega)])
     rw [Hn.out] at hrow'
     have hrb := run_backS wr w.heap.size x hrow'
     rw [← Hn.out] at hrb
     clear hrow hrow'
     go_wp2
     go_ret
     exact ⟨rfl, hbel⟩
 ·have hd0 : decide (0 < n) = false := decide_eq_false hp
  have hd1 : decide (0 < (n : Int)) = false := decide_eq_false (by omega)
  clear hlast hn h
  go_enter Tryz.func113, Tryz.ntmps113
  go_wp2
  go_loopg [3] n (fun g s3 wr => w = wr ∧ g = n ∧ s3 = .int .i64 n)
  case atStart => exact ⟨rfl, rfl, rfl⟩
  case round =>
   obtain ⟨rfl, hgk, rfl⟩ := hrel
   clear hgk
   go_wp2
   clear hmk
   go_loopg [5] n (fun g s5 wr => ∃ i : Nat, i ≤ n ∧ g = n - i ∧ s5 = .int .i64 i ∧ wr.rowIs w.heap.size 5 n (fun j => if n - i ≤ j then b8 x (n - 1 - j) else .int .u8 0) ∧ Below w.heap.size w wr)
   case atStart => exact ⟨0, by omega, by omega, rfl, (World.rowIs_made w _ n 5).congr (fun j hj => by simp; omega), (Below.refl _ _).alloc (Nat.le_refl _) _⟩
   case round =>
    obtain ⟨i, hi, hg, rfl, hrow, hbel⟩ := hrel
    clear hg
    obtain rfl : i = n := by omega
    have hrow' := hrow.congr (g := fun j => b8 x (i - 1 - j)) (fun j hj => by rw [if_pos (by omega)])
    rw [Hn.out] at hrow'
    have hrb := run_backS wr w.heap.size x hrow'
    rw [← Hn.out] at hrb
    clear hrow hrow'
    go_wp2
    go_ret
    exact ⟨rfl, hbel⟩

set_option maxHeartbeats 2000000 in
theorem r2of_any (x : Nat) (w : World) (hx : x < 18446744073709551616) :
  Calls Tryz.prog 69 #[.int .u64 x] w fun r w' => r = .returned (.string (bstr x)) ∧ Below w.heap.size w w' := by
 have hn8 : Fil.dn 8 x ≤ 8 := dn_le (by omega) (by omega)
 obtain ⟨i0, hi, hp⟩ := Option.map_eq_some_iff.1 Tryz.info3
 have hz0 : i0.zero = some (.int .i64 0) := congrArg Prod.fst hp
 have hz1 : i0.size = 1 := congrArg (fun q => q.2.1) hp
 have hz2 : i0.bytes = 8 := congrArg (fun q => q.2.2) hp
 have Hx := Lib.hid hx
 clear hx
 go_enter Tryz.func69, Tryz.ntmps69
 go_wp2
 go_loopg [0, 3] 8 (fun g s0 v wr => ∃ j : Nat, j ≤ Fil.dn 8 x ∧ g = 8 - j ∧ s0 = .int .u64 ((x / 2 ^ (8 * j) : Nat) : Int) ∧ Own wr w.heap.size v j (fun i => (dg 8 x i : Int)) ∧ Below w.heap.size w wr)
 case atStart => exact ⟨0, by omega, by omega, by simp, Own.nil _ _ _, Below.refl _ _⟩
 case round =>
  obtain ⟨j, hj, hg, rfl, hown, hbel⟩ := hrel
  have hub : x / 2 ^ (8 * j) ≤ x := Nat.div_le_self _ _
  have hxb := Hx.out
  have hst : x / 2 ^ (8 * j) = x / 2 ^ (8 * (j + 1)) * 2 ^ 8 + dg 8 x j := div_step 8 x j
  have hdl := dg_lt 8 x j
  by_cases hjn : j < Fil.dn 8 x
  ·have hpos : 0 < x / 2 ^ (8 * j) := by
    have hx0 : x ≠ 0 := by rintro rfl; rw [dn_zero] at hjn; omega
    have h1 := le_dn (k := 8) x hx0
    have h2 : 2 ^ (8 * j) ≤ x := Nat.le_trans (pmono (by omega)) h1
    exact Nat.div_pos h2 (pp _)
   obtain ⟨y, hy⟩ : ∃ y, y = x / 2 ^ (8 * j) := ⟨_, rfl⟩
   obtain ⟨d, hd⟩ : ∃ d, d = dg 8 x j := ⟨_, rfl⟩
   obtain ⟨z, hz⟩ : ∃ z, z = x / 2 ^ (8 * (j + 1)) := ⟨_, rfl⟩
   rw [← hy]
   rw [← hy, ← hz, ← hd] at hst
   rw [← hy] at hub hpos
   rw [← hd] at hdl
   have e1 : (y : Int) % 256 = (d : Int) := by omega
   have e2 : (y : Int) / 256 = (z : Int) := by omega
   have e5 : IntKind.u64.wrap (z : Int) = (z : Int) := by rw [IntKind.wrap_u64]; omega
   have e3 : decide (0 < y) = true := decide_eq_true hpos
   have e4 : decide (0 < (y : Int)) = true := decide_eq_true (by omega)
   have d0 : 0 ≤ (d : Int) := by omega
   have d1 : (d : Int) < 256 := by omega
   have Hk := Lib.hid (And.intro hz (And.intro hd (And.intro hg (And.intro hjn (And.intro hn8 hbel)))))
   have hbs := hbel.size
   clear hst hub hpos hy hd hz hdl hxb hg hj hjn hn8
   go_wp2_with (at_builtin; refine wpList_append_own _ rfl _ _ 125 rfl w.heap.size 3 i0 (.int .i64 0) 1 8 Tryz.underlying125 hi hz0 hz1 hz2 rfl (by decide) _ _ _ rfl (hown.alloc _) ⟨wr.heap.size, 0, none⟩ 1 1 [.int .i64 (d : Int)] rfl rfl ?c1 ?c2 ?c3 ?c4 ?c5 ?_)
   case c1 =>
    intro j u hj
    match j, hj with
    | 0, hj => simp at hj; subst hj; simp [Addr.add]
   case c2 => intro u hu; simp at hu; subst hu; rfl
   case c3 => have := Hk.out; unfold maxLen; omega
   case c4 => have := Hk.out; omega
   case c5 => simp; omega
   ·intro v' w1 hown' hgrow _
    rw [Hk.out.2.1, range_grow] at hown'
    have hb1 := (hbel.alloc hbs (Obj.cells #[Value.int IntKind.i64 (d : Int)] 3)).grown hgrow (by simp; omega) (fun k hk => (hown.lt k hk).1)
    clear hown hgrow hbel
    go_wp2
    go_roundg (8 - (j + 1))
    case measure => have := Hk.out; omega
    case rel => exact ⟨j + 1, by have := Hk.out; omega, rfl, by rw [← Hk.out.1], hown', hb1⟩
  ·have he : j = Fil.dn 8 x := by omega
   have hz : x / 2 ^ (8 * j) = 0 := by rw [he]; exact Nat.div_eq_of_lt (lt_dn (by omega) x)
   rw [hz]
   obtain ⟨A, c, rfl, hnc, hsl⟩ := Own.slc hown
   have hs0 : Slc wr 3 A j (i8 x) := hsl
   have hmd := fun W (h : Slc W 3 A j (i8 x)) => r2made_any A j c x W he (by omega) h
   have Hs := Lib.hid hs0
   clear hown hsl hs0 hst hub hdl hxb hg hj hjn hz hn8 he
   go_wp2_with fail
   (with_reducible refine (hmd _ Hs.out).mono ?_)
   rintro r w2 ⟨rfl, hb2⟩
   go_wp2
   go_ret
   exact ⟨rfl, hbel.trans (hb2.mono hbel.size)⟩
end Go.Proofs.YtfbkopepkklkjaaGreatDoor
