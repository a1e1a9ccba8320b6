/- package gauss: radii, far, In, Within, Apart; and each function where a number may not be. -/
import Derived.Test.YtppebjnmollojaaGreatDoorH8
namespace Go.Proofs.YtppebjnmollojaaGreatDoor
open Go Go.RowKit Go.PlainAid Fil

/-- a Dyad, that may be or not -/
structure DRw where
  n : Bool
  s : ByteArray
  e : Int
def DRw.may (d : DRw) : Bool := mayB d.n d.s d.e
def DRw.fit (d : DRw) : Prop := d.s.size ≤ 9223372036854775807
/-- may it be a radius? -/
def DRw.rad (d : DRw) : Bool := d.may && !d.n
def DY.raw (a : DY) : DRw := ⟨a.n, bstr a.x, a.e⟩
theorem DY.raw_fit {a : DY} (h : a.ok) : a.raw.fit := bstr_len h
theorem DY.raw_may {a : DY} (h : a.ok) : a.raw.may = true := mayB_ok h
theorem DY.raw_rad {a : DY} (h : a.ok) (h0 : a.n = false) : a.raw.rad = true := by
  unfold DRw.rad; rw [DY.raw_may h, show a.raw.n = false from h0]; rfl
/-- the sign, as radii asks it -/
theorem rad_sign (d : DRw) (hm : d.may = true) : ∃ z : Int, (d.n = true → z < 0) ∧ (d.n = false → 0 ≤ z) ∧ ∀ w, Calls Tryz.prog 78 #[.agg #[.bool d.n, .string d.s, .int .i64 d.e]] w fun r w' => r = .returned (.int .i64 z) ∧ Below w.heap.size w w' := by
  obtain ⟨x, hx, hk⟩ := ok_of_may hm
  refine ⟨(sz d.n x).sign, fun h => ?_, fun h => ?_, fun w => by rw [hx]; exact dsign_ok d.n x d.e w hk⟩
  · rw [h] at hk ⊢
    have h0 : x ≠ 0 := by
      rintro rfl
      have := (okD.nil hk).1
      cases this
    rw [sz_sign h0]; decide
  · rw [h]
    unfold sz
    by_cases h0 : x = 0
    · subst h0; decide
    · rw [show (if false = true then -(x : Int) else (x : Int)) = (x : Int) from rfl, Int.sign_eq_one_of_pos (by omega)]; decide

set_option maxHeartbeats 4000000 in
theorem gradii_any (A : Option Addr) (n c : Nat) (R : Nat → DRw) (w : World) (hn : n ≤ 4611686018427387903) (h : Dys w A n (fun i => (R i).n) (fun i => (R i).s) (fun i => (R i).e)) (hs : ∀ i, i < n → (R i).fit) :
    Calls Tryz.prog 150 #[.slice A n c] w fun r w' => r = .returned (.bool (allB n fun i => (R i).rad)) ∧ Below w.heap.size w w' := by
  go_enter Tryz.func150, Tryz.ntmps150
  go_wp2
  go_loopg [7] n (fun g s7 wr => ∃ i : Nat, i ≤ n ∧ g = n - i ∧ s7 = .int .i64 i ∧ (∀ j, j < i → (R j).rad = true) ∧ Below w.heap.size w wr)
  case atStart => exact ⟨0, by omega, by omega, rfl, fun j hj => absurd hj (by omega), Below.refl _ _⟩
  case round =>
    obtain ⟨i, hi, hg, rfl, hall, hbel⟩ := hrel
    have Hg := Lib.hid hg
    have Hall := Lib.hid hall
    clear hg hall
    by_cases hin : i < n
    · obtain ⟨b, o, rfl, hlt, hc⟩ := h.below hbel (by omega)
      obtain ⟨k1, k2, k3⟩ := hc i hin
      dsimp only at k1 k2 k3
      have H := Lib.hid h
      have hcon := fun W => check_any (R i).n (R i).s (R i).e W (hs i hin)
      have hmay : mayB (R i).n (R i).s (R i).e = (R i).may := rfl
      have hrad : (R i).rad = ((R i).may && !(R i).n) := rfl
      rw [hmay] at hcon
      have hbel1 := hbel.alloc hbel.size (.cells #[.bool (R i).n, .string (R i).s, .int .i64 (R i).e] 24)
      have F := Blk.put wr #[.bool (R i).n, .string (R i).s, .int .i64 (R i).e] 24
      cases hm : (R i).may
      · rw [hm, Bool.false_and] at hrad
        have Hm := Lib.hid hrad
        rw [hm, okE_f] at hcon
        clear hm hrad hmay hc h hs F
        go_wp2_with fail
        (with_reducible refine (hcon _).mono ?_)
        rintro r w1 ⟨rfl, hb1⟩
        go_wp2
        go_ret
        exact ⟨by rw [allB_no hin Hm.out]; rfl, hbel1.trans (hb1.mono hbel1.size)⟩
      · rw [hm, Bool.true_and] at hrad
        obtain ⟨z, z1, z2, hsg⟩ := rad_sign (R i) hm
        rw [hm, okE_t] at hcon
        clear hm hmay hc h hs
        cases hneg : (R i).n
        · rw [hneg, Bool.not_false] at hrad
          have Hm := Lib.hid hrad
          have hz := z2 hneg
          rw [hneg] at hcon hsg k1 F hbel1
          have hd : decide (z < 0) = false := decide_eq_false (by omega)
          clear z1 z2 hneg hrad hz
          go_wp2_with fail
          (with_reducible refine (hcon _).mono ?_)
          rintro r w1 ⟨rfl, hb1⟩
          replace F := F.keep hb1
          have hbel2 := hbel1.trans (hb1.mono hbel1.size)
          obtain ⟨y0, y1, y2⟩ := F.ce3
          clear hbel1 hb1 F k1 k2 k3
          go_wp2_with fail
          (with_reducible refine (hsg _).mono ?_)
          rintro r w2 ⟨rfl, hb1⟩
          go_wp2
          go_roundg (n - (i + 1))
          case measure => have := Hg.out; omega
          case rel => exact ⟨i + 1, by omega, rfl, by go_num, fun j hj => by
            by_cases e : j = i
            · subst e; exact Hm.out
            · exact Hall.out j (by omega), hbel2.trans (hb1.mono hbel2.size)⟩
        · rw [hneg, Bool.not_true] at hrad
          have Hm := Lib.hid hrad
          have hz := z1 hneg
          rw [hneg] at hcon hsg k1 F hbel1
          have hd : decide (z < 0) = true := decide_eq_true (by omega)
          clear z1 z2 hneg hrad hz
          go_wp2_with fail
          (with_reducible refine (hcon _).mono ?_)
          rintro r w1 ⟨rfl, hb1⟩
          replace F := F.keep hb1
          have hbel2 := hbel1.trans (hb1.mono hbel1.size)
          obtain ⟨y0, y1, y2⟩ := F.ce3
          clear hbel1 hb1 F k1 k2 k3
          go_wp2_with fail
          (with_reducible refine (hsg _).mono ?_)
          rintro r w2 ⟨rfl, hb1⟩
          go_wp2
          go_ret
          exact ⟨by rw [allB_no hin Hm.out]; rfl, hbel2.trans (hb1.mono hbel2.size)⟩
    · obtain rfl : i = n := by omega
      go_wp2
      go_ret
      exact ⟨by rw [allB_yes Hall.out]; rfl, hbel⟩
theorem dys_one (W : World) (d : DRw) : Dys (W.alloc (.cells #[.bool d.n, .string d.s, .int .i64 d.e] 24)) (some ⟨W.heap.size, 0, none⟩) 1 (fun _ => d.n) (fun _ => d.s) (fun _ => d.e) := fun _ => by
  refine ⟨W.heap.size, 0, rfl, by simp, fun i hi => ?_⟩
  have hc := heap_alloc_new W (.cells #[.bool d.n, .string d.s, .int .i64 d.e] 24)
  obtain rfl : i = 0 := by omega
  exact ⟨by rw [cell_of_row _ W.heap.size _ _ 24 (0, 0) hc]; rfl, by rw [cell_of_row _ W.heap.size _ _ 24 (0, 0) hc]; rfl, by rw [cell_of_row _ W.heap.size _ _ 24 (0, 0) hc]; rfl⟩
theorem grad1 (a : DRw) (Bk : Nat) (W : World) (h : W.heap.size = Bk) (ha : a.fit) :
    Calls Tryz.prog 150 #[.slice (some ⟨Bk, 0, none⟩) 1 1] (W.alloc (.cells #[.bool a.n, .string a.s, .int .i64 a.e] 24)) fun r w' => r = .returned (.bool a.rad) ∧ Below W.heap.size W w' := by
  subst h
  refine (gradii_any _ 1 1 (fun _ => a) _ (by omega) (dys_one W a) (fun _ _ => ha)).mono ?_
  rintro r w' ⟨rfl, hb⟩
  exact ⟨by rw [allB_1], ((Below.refl W.heap.size W).alloc (Nat.le_refl _) _).trans (hb.mono (by simp))⟩
theorem grad2 (a b : DRw) (Bk : Nat) (W : World) (h : W.heap.size = Bk) (ha : a.fit) (hb : b.fit) :
    Calls Tryz.prog 150 #[.slice (some ⟨Bk, 0, none⟩) 2 2] (W.alloc (.cells #[.bool a.n, .string a.s, .int .i64 a.e, .bool b.n, .string b.s, .int .i64 b.e] 24)) fun r w' => r = .returned (.bool (a.rad && b.rad)) ∧ Below W.heap.size W w' := by
  subst h
  have hd := dys_two W W.heap.size rfl a.n a.s a.e b.n b.s b.e
  have H := gradii_any (some ⟨W.heap.size, 0, none⟩) 2 2 (fun i => if i = 0 then a else b) (W.alloc (.cells #[.bool a.n, .string a.s, .int .i64 a.e, .bool b.n, .string b.s, .int .i64 b.e] 24)) (by omega) (fun h0 => by
    obtain ⟨bb, o, hA, hlt, hc⟩ := hd h0
    refine ⟨bb, o, hA, hlt, fun i hi => ?_⟩
    have := hc i hi
    by_cases e : i = 0 <;> simp only [e, if_true, if_false] at this ⊢ <;> exact this) (fun i _ => by by_cases e : i = 0 <;> simp only [e, if_true, if_false] <;> assumption)
  refine H.mono ?_
  rintro r w' ⟨rfl, hb⟩
  exact ⟨by rw [allB_2]; rfl, ((Below.refl W.heap.size W).alloc (Nat.le_refl _) _).trans (hb.mono (by simp))⟩
theorem grad1_ok (a : DY) (Bk : Nat) (W : World) (h : W.heap.size = Bk) (ha : a.ok) (h0 : a.n = false) :
    Calls Tryz.prog 150 #[.slice (some ⟨Bk, 0, none⟩) 1 1] (W.alloc (.cells #[.bool a.n, .string (bstr a.x), .int .i64 a.e] 24)) fun r w' => r = .returned (.bool true) ∧ Below W.heap.size W w' := by
  have H := grad1 a.raw Bk W h (DY.raw_fit ha)
  rw [DY.raw_rad ha h0] at H
  exact H
theorem grad2_ok (a b : DY) (Bk : Nat) (W : World) (h : W.heap.size = Bk) (ha : a.ok) (hb : b.ok) (h0 : a.n = false) (h1 : b.n = false) :
    Calls Tryz.prog 150 #[.slice (some ⟨Bk, 0, none⟩) 2 2] (W.alloc (.cells #[.bool a.n, .string (bstr a.x), .int .i64 a.e, .bool b.n, .string (bstr b.x), .int .i64 b.e] 24)) fun r w' => r = .returned (.bool true) ∧ Below W.heap.size W w' := by
  have H := grad2 a.raw b.raw Bk W h (DY.raw_fit ha) (DY.raw_fit hb)
  rw [DY.raw_rad ha h0, DY.raw_rad hb h1] at H
  exact H

/-- far, In, Within, Apart -/
def gFar (a b : GY) (r : DY) : Int × Int :=
  if (gSub a b).2 = 0 then (if (gNorm (gSub a b).1).2 = 0 then (if (yMul r r).2 = 0 then (yCmp (gNorm (gSub a b).1).1 (yMul r r).1, 0) else (0, 4)) else (0, 4)) else (0, 4)
def gIn (a c : GY) (r : DY) : Bool × Int := if (gFar a c r).2 = 0 then (decide ((gFar a c r).1 ≤ 0), 0) else (false, (gFar a c r).2)
def gWithin (c : GY) (r : DY) (d : GY) (s : DY) : Bool × Int := if 0 < yCmp r s then (false, 0) else if (ySub s r).2 = 0 then gIn c d (ySub s r).1 else (false, (ySub s r).2)
def gOut (a c : GY) (r : DY) : Bool × Int := if (gFar a c r).2 = 0 then (decide (0 < (gFar a c r).1), 0) else (false, (gFar a c r).2)
def gApart (c : GY) (r : DY) (d : GY) (s : DY) : Bool × Int := if (yAdd r s).2 = 0 then gOut c d (yAdd r s).1 else (false, (yAdd r s).2)

end Go.Proofs.YtppebjnmollojaaGreatDoor
