/- Merged: BK U7 -/
import Derived.Test.YtjldfclncipbgaaGreatDoorBJ
import Derived.Test.YtjldfclncipbgaaGreatDoorR9
import Derived.Test.YtjldfclncipbgaaGreatDoorJZ
import Derived.Test.YtjldfclncipbgaaGreatDoorB8
import Derived.Test.YtjldfclncipbgaaGreatDoorB5
import Derived.Laws.FloatArith
import Derived.Laws.BitsAllLaws
import Derived.Test.YtjldfclncipbgaaGreatDoorB1

/- The walks over dyad.Make, the reference's Make and Of. -/
namespace Go.Proofs.YtjldfclncipbgaaGreatDoor
open Go Go.RowKit Go.PlainAid Fil

set_option maxHeartbeats 2000000 in
theorem rmake_ok (neg : Bool) (x : Nat) (e : Int) (w : World) (hx : Fil.dn 8 x ≤ 16384) (he1 : -9223372036854775808 ≤ e) (he2 : e ≤ 9223372036854775807) :
    Calls Tryz.prog 101 #[.bool neg, .string (bstr x), .int .i64 e] w fun r w' => r = .returned (mkV (sz neg x) e) ∧ Below w.heap.size w w' := by
  have hsz := bstr_size x
  have hra := fun W => rof_any x W (by omega)
  have hfi := fun A c W hc (h : Slc W 3 A (Fil.dn 8 x) (i8 x)) => rfit_any neg A (Fil.dn 8 x) c x e W rfl hc (by omega) he1 he2 h
  unfold mkV at hfi ⊢
  unfold dyR at hfi ⊢
  generalize mkN (sz neg x) e = N at *
  generalize bstr (mkX (sz neg x) e) = S at *
  generalize mkE (sz neg x) e = E at *
  generalize mkR (sz neg x) e = R at *
  have hD := DyAt.put w false { data := #[] } 0
  have hB := (Below.refl w.heap.size w).alloc (Nat.le_refl _) (.cells #[.bool false, .string { data := #[] }, .int .i64 0] 24)
  have hb0 : 0 < Fil.dn 8 x → (bt (bstr x) 0 == 0) = false := fun hp => by
    rw [bstr_bt x 0 hp]
    have hx0 : x ≠ 0 := by rintro rfl; rw [dn_zero] at hp; omega
    have ht := dg_top (k := 8) (by omega) hx0
    rw [beq_eq_false_iff_ne, Nat.sub_zero]; omega
  have hgb := get_bt (bstr x)
  have n1 : (Fil.dn 8 x : Int) ≤ 16384 := by omega
  have d1 : decide (16384 < (Fil.dn 8 x : Int)) = false := decide_eq_false (by omega)
  have d2 : decide (16384 < Fil.dn 8 x) = false := decide_eq_false (by omega)
  obtain ⟨n, hn⟩ : ∃ n, n = Fil.dn 8 x := ⟨_, rfl⟩
  rw [← hn] at hsz hra hfi hb0 n1 d1 d2
  obtain ⟨s, hs⟩ : ∃ s, s = bstr x := ⟨_, rfl⟩
  rw [← hs] at hsz hra hb0 hgb ⊢
  clear hn hs hx
  by_cases hp : 0 < n
  · have k0 := hb0 hp
    have k1 : decide (0 < n) = true := decide_eq_true hp
    have k2 : decide (0 < (n : Int)) = true := decide_eq_true (by omega)
    have k3 : 0 < s.size := by rw [hsz]; exact hp
    clear hb0
    go_enter Tryz.func101, Tryz.ntmps101
    go_wp2_with fail
    (with_reducible refine (hra _).mono ?_)
    rintro r w1 ⟨v, rfl, hown, hb1⟩
    obtain ⟨A, c, rfl, hnc, hsl⟩ := Own.slc hown
    have hs0 : Slc w1 3 A n (i8 x) := hsl
    replace hD := hD.keep hb1
    replace hB := hB.trans (hb1.mono hB.size)
    clear hown hsl hb1 hra
    go_wp2_with fail
    (with_reducible refine (hfi A c w1 hnc hs0).mono ?_)
    rintro r w2 ⟨rfl, hb2⟩
    replace hD := hD.keep hb2
    replace hB := hB.trans (hb2.mono hB.size)
    obtain ⟨c0, c1, c2, f0, f1, f2⟩ := hD
    have hbZ : Below w.heap.size w (((w2.setCell ⟨w.heap.size, 0, none⟩ (.bool N)).setCell ⟨w.heap.size, 1, none⟩ (.string S)).setCell ⟨w.heap.size, 2, none⟩ (.int .i64 E)) := ((hB.setCell (Nat.le_refl _) _).setCell (Nat.le_refl _) _).setCell (Nat.le_refl _) _
    clear hb2 hs0 hB
    go_wp2
    exact bodyPost_ret (v := .tuple #[.agg #[.bool N, .string S, .int .i64 E], .int .i64 R]) (by simp [results, Tryz.results101, go_sem, c0, c1, c2]) rfl ⟨rfl, hbZ⟩
  · have k1 : decide (0 < n) = false := decide_eq_false hp
    have k2 : decide (0 < (n : Int)) = false := decide_eq_false (by omega)
    clear hb0
    go_enter Tryz.func101, Tryz.ntmps101
    go_wp2_with fail
    (with_reducible refine (hra _).mono ?_)
    rintro r w1 ⟨v, rfl, hown, hb1⟩
    obtain ⟨A, c, rfl, hnc, hsl⟩ := Own.slc hown
    have hs0 : Slc w1 3 A n (i8 x) := hsl
    replace hD := hD.keep hb1
    replace hB := hB.trans (hb1.mono hB.size)
    clear hown hsl hb1 hra
    go_wp2_with fail
    (with_reducible refine (hfi A c w1 hnc hs0).mono ?_)
    rintro r w2 ⟨rfl, hb2⟩
    replace hD := hD.keep hb2
    replace hB := hB.trans (hb2.mono hB.size)
    obtain ⟨c0, c1, c2, f0, f1, f2⟩ := hD
    have hbZ : Below w.heap.size w (((w2.setCell ⟨w.heap.size, 0, none⟩ (.bool N)).setCell ⟨w.heap.size, 1, none⟩ (.string S)).setCell ⟨w.heap.size, 2, none⟩ (.int .i64 E)) := ((hB.setCell (Nat.le_refl _) _).setCell (Nat.le_refl _) _).setCell (Nat.le_refl _) _
    clear hb2 hs0 hB
    go_wp2
    exact bodyPost_ret (v := .tuple #[.agg #[.bool N, .string S, .int .i64 E], .int .i64 R]) (by simp [results, Tryz.results101, go_sem, c0, c1, c2]) rfl ⟨rfl, hbZ⟩

set_option maxHeartbeats 2000000 in
theorem rof2_any (z e : Int) (w : World) (h0 : -9223372036854775808 ≤ z) (h1 : z ≤ 9223372036854775807) (he1 : -9223372036854775808 ≤ e) (he2 : e ≤ 9223372036854775807) :
    Calls Tryz.prog 70 #[.int .i64 z, .int .i64 e] w fun r w' => r = .returned (mkV z e) ∧ Below w.heap.size w w' := by
  obtain ⟨x, hx⟩ : ∃ x, x = z.natAbs := ⟨_, rfl⟩
  have hxb : x < 18446744073709551616 := by omega
  have h8 : Fil.dn 8 x ≤ 16384 := Nat.le_trans (dn_le (n := 8) (by omega) (by omega)) (by omega)
  have h2 := fun W => r2of_any x W hxb
  have hD := DyAt.put w false { data := #[] } 0
  have hB := (Below.refl w.heap.size w).alloc (Nat.le_refl _) (.cells #[.bool false, .string { data := #[] }, .int .i64 0] 24)
  by_cases hz : z < 0
  · have hm := fun W => rmake_ok true x e W h8 he1 he2
    rw [show sz true x = z by unfold sz; simp; omega] at hm
    have d1 : decide (z < 0) = true := decide_eq_true hz
    have e1 : IntKind.u64.wrap (-IntKind.u64.wrap z) = (x : Int) := by rw [IntKind.wrap_u64, IntKind.wrap_u64]; omega
    unfold mkV at hm ⊢
    unfold dyR at hm ⊢
    generalize mkN z e = N at *
    generalize bstr (mkX z e) = S at *
    generalize mkE z e = E at *
    generalize mkR z e = R at *
    clear hx hxb h8 hz
    go_enter Tryz.func70, Tryz.ntmps70
    go_wp2_with fail
    (with_reducible refine (h2 _).mono ?_)
    rintro r w1 ⟨rfl, hb1⟩
    replace hD := hD.keep hb1
    replace hB := hB.trans (hb1.mono hB.size)
    clear hb1
    go_wp2_with fail
    (with_reducible refine (hm _).mono ?_)
    rintro r w2 ⟨rfl, hb2⟩
    replace hD := hD.keep hb2
    replace hB := hB.trans (hb2.mono hB.size)
    obtain ⟨c0, c1, c2, f0, f1, f2⟩ := hD
    have hbZ : Below w.heap.size w (((w2.setCell ⟨w.heap.size, 0, none⟩ (.bool N)).setCell ⟨w.heap.size, 1, none⟩ (.string S)).setCell ⟨w.heap.size, 2, none⟩ (.int .i64 E)) := ((hB.setCell (Nat.le_refl _) _).setCell (Nat.le_refl _) _).setCell (Nat.le_refl _) _
    clear hb2 hB
    go_wp2
    exact bodyPost_ret (v := .tuple #[.agg #[.bool N, .string S, .int .i64 E], .int .i64 R]) (by simp [results, Tryz.results70, go_sem, c0, c1, c2]) rfl ⟨rfl, hbZ⟩
  · have hm := fun W => rmake_ok false x e W h8 he1 he2
    rw [show sz false x = z by unfold sz; simp; omega] at hm
    have d1 : decide (z < 0) = false := decide_eq_false hz
    have hzx : z = (x : Int) := by omega
    have e1 : IntKind.u64.wrap (x : Int) = (x : Int) := by rw [IntKind.wrap_u64]; omega
    have x0 : 0 ≤ (x : Int) := by omega
    have x1 : (x : Int) ≤ 9223372036854775807 := by omega
    unfold mkV at hm ⊢
    unfold dyR at hm ⊢
    generalize mkN z e = N at *
    generalize bstr (mkX z e) = S at *
    generalize mkE z e = E at *
    generalize mkR z e = R at *
    subst hzx
    clear hx hxb h8 hz
    go_enter Tryz.func70, Tryz.ntmps70
    go_wp2_with fail
    (with_reducible refine (h2 _).mono ?_)
    rintro r w1 ⟨rfl, hb1⟩
    replace hD := hD.keep hb1
    replace hB := hB.trans (hb1.mono hB.size)
    clear hb1
    go_wp2_with fail
    (with_reducible refine (hm _).mono ?_)
    rintro r w2 ⟨rfl, hb2⟩
    replace hD := hD.keep hb2
    replace hB := hB.trans (hb2.mono hB.size)
    obtain ⟨c0, c1, c2, f0, f1, f2⟩ := hD
    have hbZ : Below w.heap.size w (((w2.setCell ⟨w.heap.size, 0, none⟩ (.bool N)).setCell ⟨w.heap.size, 1, none⟩ (.string S)).setCell ⟨w.heap.size, 2, none⟩ (.int .i64 E)) := ((hB.setCell (Nat.le_refl _) _).setCell (Nat.le_refl _) _).setCell (Nat.le_refl _) _
    clear hb2 hB
    go_wp2
    exact bodyPost_ret (v := .tuple #[.agg #[.bool N, .string S, .int .i64 E], .int .i64 R]) (by simp [results, Tryz.results70, go_sem, c0, c1, c2]) rfl ⟨rfl, hbZ⟩
end Go.Proofs.YtjldfclncipbgaaGreatDoor

/- The reference of layer 2: Small; of layer 4: around. -/
namespace Go.Proofs.YtjldfclncipbgaaGreatDoor
open Go Go.RowKit Go.PlainAid Fil

theorem div_step (x k : Nat) : x / 2 ^ (8 * (k + 1)) * 256 + dg 8 x k = x / 2 ^ (8 * k) := by
  unfold dg
  rw [show 8 * (k + 1) = 8 * k + 8 by omega, Nat.pow_add, ← Nat.div_div_eq_div_mul]
  have := Nat.div_add_mod (x / 2 ^ (8 * k)) 256
  rw [show (2 : Nat) ^ 8 = 256 by decide]
  omega
set_option maxHeartbeats 2000000 in
theorem r2small_any (x : Nat) (w : World) (hx : Fil.dn 8 x ≤ 16384) :
    Calls Tryz.prog 32 #[.string (bstr x)] w fun r w' => r = .returned (.tuple #[.int .u64 ((if Fil.dn 8 x ≤ 8 then x else 0 : Nat) : Int), .bool (decide (Fil.dn 8 x ≤ 8))]) ∧ w = w' := by
  have hsz := bstr_size x
  have hm := fun W => r2May_any (bstr x) W (by omega)
  rw [natB_bstr hx] at hm
  have hgb := get_bt (bstr x)
  have hbt := fun k h => bstr_bt x k h
  have hlt := lt_dn (k := 8) (by omega) x
  obtain ⟨n, hn⟩ : ∃ n, n = Fil.dn 8 x := ⟨_, rfl⟩
  simp only [← hn] at hsz hx hbt hlt ⊢
  by_cases h8 : n ≤ 8
  · rw [if_pos h8, decide_eq_true h8]
    have hx64 : x < 18446744073709551616 := Nat.lt_of_lt_of_le hlt (Nat.le_trans (pmono (show 8 * n ≤ 64 by omega)) (by decide))
    have HX := Lib.hid (And.intro hbt hlt)
    have h8i : ¬ 8 < (n : Int) := by omega
    clear hbt hlt hn
    go_enter Tryz.func32, Tryz.ntmps32
    go_wp2_with fail
    refine (hm _).mono ?_
    rintro r w1 ⟨rfl, rfl⟩
    clear hm
    go_wp2
    go_loopg [4, 5] n (fun g s4 s5 wr => w = wr ∧ ∃ i : Nat, i ≤ n ∧ g = n - i ∧ s4 = .int .u64 ((x / 2 ^ (8 * (n - i)) : Nat) : Int) ∧ s5 = .int .i64 (i : Int))
    case atStart => exact ⟨rfl, 0, by omega, by omega, by rw [Nat.sub_zero, Nat.div_eq_of_lt HX.out.2]; rfl, rfl⟩
    case round =>
      obtain ⟨rfl, i, hi, hg, rfl, rfl⟩ := hrel
      by_cases hin : i < n
      · have hb : bt (bstr x) i = (dg 8 x (n - 1 - i) : Int) := HX.out.1 i hin
        have hst := div_step x (n - 1 - i)
        rw [show n - 1 - i + 1 = n - i by omega] at hst
        have hle := Nat.div_le_self x (2 ^ (8 * (n - 1 - i)))
        have hd := dg_lt 8 x (n - 1 - i)
        obtain ⟨u, hu⟩ : ∃ u, u = x / 2 ^ (8 * (n - i)) := ⟨_, rfl⟩
        obtain ⟨d, hdd⟩ : ∃ d, d = dg 8 x (n - 1 - i) := ⟨_, rfl⟩
        obtain ⟨v, hv⟩ : ∃ v, v = x / 2 ^ (8 * (n - 1 - i)) := ⟨_, rfl⟩
        rw [← hu, ← hdd, ← hv] at hst
        rw [← hv] at hle
        rw [← hdd] at hb hd
        rw [← hu]
        have e1 : 256 * (u : Int) + (d : Int) = (v : Int) := by omega
        have w1 : IntKind.u64.wrap (d : Int) = (d : Int) := IntWalk.u64_in _ ⟨by omega, by omega⟩
        have hu1 : 256 * (u : Int) < 18446744073709551616 := by omega
        have his : i < (bstr x).size := by omega
        have hv64 : v < 18446744073709551616 := by omega
        have HV := Lib.hid (And.intro hv hg)
        clear hu hdd hv hst hle hg
        go_wp2
        go_roundg (n - (i + 1))
        case measure => have := HV.out.2; omega
        case rel => exact ⟨rfl, i + 1, by omega, rfl, by rw [show n - (i + 1) = n - 1 - i by omega, ← HV.out.1], by go_num⟩
      · obtain rfl : i = n := by omega
        rw [Nat.sub_self, Nat.mul_zero, Nat.pow_zero, Nat.div_one]
        clear hg hi
        go_wp2
        go_returns
        exact ⟨rfl, rfl⟩
  · rw [if_neg h8, decide_eq_false h8]
    have h8i : 8 < (n : Int) := by omega
    clear hbt hlt hn h8
    go_enter Tryz.func32, Tryz.ntmps32
    go_wp2_with fail
    refine (hm _).mono ?_
    rintro r w1 ⟨rfl, rfl⟩
    clear hm
    go_wp2
    go_returns
    exact ⟨rfl, rfl⟩
def aX (n : Nat) (q : Int) : Nat := n * 2 ^ (-q).toNat
def aY (d : Nat) (q : Int) : Nat := d * 2 ^ q.toNat
end Go.Proofs.YtjldfclncipbgaaGreatDoor
