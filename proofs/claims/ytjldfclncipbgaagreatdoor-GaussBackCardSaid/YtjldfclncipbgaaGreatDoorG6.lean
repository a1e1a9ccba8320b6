/- Merged: H8 G6 -/
import Derived.Test.YtjldfclncipbgaaGreatDoorH6

/- Walks of the layer of Gausses, by a program (walk.py): part H8. -/
namespace Go.Proofs.YtjldfclncipbgaaGreatDoor
open Go Go.RowKit Go.PlainAid Fil

theorem gNorm_dot (a : GY) : gDot a a = gNorm a := rfl

set_option maxRecDepth 10000 in
set_option maxHeartbeats 4000000 in
theorem gnorm_w (a : GY) (p : DY × Int) (E_p : gNorm a = p) (w : World) (ok_a : a.ok)  (hT : Tab w) :
    Calls Tryz.prog 103 #[.agg #[.bool a.re.n, .string (bstr a.re.x), .int .i64 a.re.e, .bool a.im.n, .string (bstr a.im.x), .int .i64 a.im.e]] w fun r w' => r = .returned (.tuple #[.agg #[.bool p.1.n, .string (bstr p.1.x), .int .i64 p.1.e], .int .i64 p.2]) ∧ Below w.heap.size w w' := by
  have h1 := fun W hW => gdot a a W ok_a ok_a hW
  rw [gNorm_dot] at h1
  rw [E_p] at h1
  clear E_p ok_a
  obtain ⟨⟨an, aX, ae⟩, ⟨am, aY, af⟩⟩ := a
  obtain ⟨⟨pn, pX, pe⟩, pr⟩ := p
  dsimp only at *
  generalize bstr aX = aS at *
  generalize bstr aY = aT at *
  generalize bstr pX = pS at *
  go_enter Tryz.func103, Tryz.ntmps103
  have B0 := Below.refl w.heap.size w
  have F1 := Blk.put (w) #[.bool an, .string aS, .int .i64 ae, .bool am, .string aT, .int .i64 af] 38
  replace B0 := B0.alloc B0.size (.cells #[.bool an, .string aS, .int .i64 ae, .bool am, .string aT, .int .i64 af] 38)
  have q_w_F2 : Hid (w.heap.size ≤ w.heap.size + 1) := Lib.hid (by omega)
  replace F1 := F1.allocd (.cells #[.bool false, .string { data := #[] }, .int .i64 0] 24)
  have F2 := Blk.put ((w).alloc (.cells #[.bool an, .string aS, .int .i64 ae, .bool am, .string aT, .int .i64 af] 38)) #[.bool false, .string { data := #[] }, .int .i64 0] 24
  rw [show ((w).alloc (.cells #[.bool an, .string aS, .int .i64 ae, .bool am, .string aT, .int .i64 af] 38)).heap.size = w.heap.size + 1 by simp] at F2
  replace B0 := B0.alloc B0.size (.cells #[.bool false, .string { data := #[] }, .int .i64 0] 24)
  obtain ⟨xF10_0, xF10_1, xF10_2, xF10_3, xF10_4, xF10_5⟩ := F1.ce6
  go_wp2_with fail
  (with_reducible refine (h1 _ (hT.below B0)).mono ?_)
  rintro r w1 ⟨rfl, hb1⟩
  clear xF10_0 xF10_1 xF10_2 xF10_3 xF10_4 xF10_5
  replace F1 := F1.keep hb1
  replace F2 := F2.keep hb1
  replace B0 := B0.trans (hb1.mono B0.size)
  clear hb1
  obtain ⟨xF21_0, xF21_1, xF21_2⟩ := F2.ce3
  obtain ⟨xF21_0f, xF21_1f, xF21_2f⟩ := F2.fr3
  clear F1
  replace F2 : Blk ((((w1).setCell ⟨w.heap.size + 1, 0, none⟩ (.bool pn)).setCell ⟨w.heap.size + 1, 1, none⟩ (.string pS)).setCell ⟨w.heap.size + 1, 2, none⟩ (.int .i64 pe)) (w.heap.size + 1) #[.bool pn, .string pS, .int .i64 pe] 24 := (((F2.setAt 0 (.bool pn)).setAt 1 (.string pS)).setAt 2 (.int .i64 pe))
  replace B0 := (((B0.setCell (p := ⟨w.heap.size + 1, 0, none⟩) q_w_F2.out (.bool pn)).setCell (p := ⟨w.heap.size + 1, 1, none⟩) q_w_F2.out (.string pS)).setCell (p := ⟨w.heap.size + 1, 2, none⟩) q_w_F2.out (.int .i64 pe))
  obtain ⟨xF22_0, xF22_1, xF22_2⟩ := F2.ce3
  go_wp2
  exact bodyPost_ret (v := .tuple #[.agg #[.bool pn, .string pS, .int .i64 pe], .int .i64 pr]) (by simp [results, Tryz.results103, go_sem, xF22_0, xF22_1, xF22_2]) rfl ⟨rfl, B0⟩

theorem gnorm (a : GY) (w : World) (ha : a.ok) (hT : Tab w) :
    Calls Tryz.prog 103 #[.agg #[.bool a.re.n, .string (bstr a.re.x), .int .i64 a.re.e, .bool a.im.n, .string (bstr a.im.x), .int .i64 a.im.e]] w fun r w' => r = .returned (.tuple #[.agg #[.bool (gNorm a).1.n, .string (bstr (gNorm a).1.x), .int .i64 (gNorm a).1.e], .int .i64 (gNorm a).2]) ∧ Below w.heap.size w w' := gnorm_w a _ rfl w ha hT

theorem gB_e (p q : DY × Int) : (gB p q).2 = 0 ∨ gB p q = (GY.zero, 4) := by
  unfold gB; split
  · exact .inl rfl
  · exact .inr rfl
theorem gSub_e (a b : GY) : (gSub a b).2 = 0 ∨ gSub a b = (GY.zero, 4) := gB_e _ _
theorem err4 {α : Type} {z : α} {p : α × Int} (h : p.2 = 0 ∨ p = (z, 4)) (h0 : ¬ p.2 = 0) : p.2 = 4 := by
  rcases h with h | h
  · exact absurd h h0
  · rw [h]
end Go.Proofs.YtjldfclncipbgaaGreatDoor

/- package gauss: radii, far, In, Within, Apart; and each function where a number may not be. -/
namespace Go.Proofs.YtjldfclncipbgaaGreatDoor
open Go Go.RowKit Go.PlainAid Fil

/-- a Dyad, that may be or not -/
structure DRw where
  n : Bool
  s : ByteArray
  e : Int
def DRw.may (d : DRw) : Bool := mayB d.n d.s d.e
def DRw.fit (d : DRw) : Prop := d.s.size ≤ 9223372036854775807
/-- may it be a radius? -/
def DRw.rad (d : DRw) : Bool := d.may && !d.n
def DY.raw (a : DY) : DRw := ⟨a.n, bstr a.x, a.e⟩
theorem DY.raw_fit {a : DY} (h : a.ok) : a.raw.fit := bstr_len h
theorem DY.raw_may {a : DY} (h : a.ok) : a.raw.may = true := mayB_ok h
theorem DY.raw_rad {a : DY} (h : a.ok) (h0 : a.n = false) : a.raw.rad = true := by
  unfold DRw.rad; rw [DY.raw_may h, show a.raw.n = false from h0]; rfl
/-- the sign, as radii asks it -/
theorem rad_sign (d : DRw) (hm : d.may = true) : ∃ z : Int, (d.n = true → z < 0) ∧ (d.n = false → 0 ≤ z) ∧ ∀ w, Calls Tryz.prog 23 #[.agg #[.bool d.n, .string d.s, .int .i64 d.e]] w fun r w' => r = .returned (.int .i64 z) ∧ Below w.heap.size w w' := by
  obtain ⟨x, hx, hk⟩ := ok_of_may hm
  refine ⟨(sz d.n x).sign, fun h => ?_, fun h => ?_, fun w => by rw [hx]; exact dsign_ok d.n x d.e w hk⟩
  · rw [h] at hk ⊢
    have h0 : x ≠ 0 := by
      rintro rfl
      have := (okD.nil hk).1
      cases this
    rw [sz_sign h0]; decide
  · rw [h]
    unfold sz
    by_cases h0 : x = 0
    · subst h0; decide
    · rw [show (if false = true then -(x : Int) else (x : Int)) = (x : Int) from rfl, Int.sign_eq_one_of_pos (by omega)]; decide

set_option maxHeartbeats 4000000 in
theorem gradii_any (A : Option Addr) (n c : Nat) (R : Nat → DRw) (w : World) (hn : n ≤ 4611686018427387903) (h : Dys w A n (fun i => (R i).n) (fun i => (R i).s) (fun i => (R i).e)) (hs : ∀ i, i < n → (R i).fit) :
    Calls Tryz.prog 71 #[.slice A n c] w fun r w' => r = .returned (.bool (allB n fun i => (R i).rad)) ∧ Below w.heap.size w w' := by
  go_enter Tryz.func71, Tryz.ntmps71
  go_wp2
  go_loopg [7] n (fun g s7 wr => ∃ i : Nat, i ≤ n ∧ g = n - i ∧ s7 = .int .i64 i ∧ (∀ j, j < i → (R j).rad = true) ∧ Below w.heap.size w wr)
  case atStart => exact ⟨0, by omega, by omega, rfl, fun j hj => absurd hj (by omega), Below.refl _ _⟩
  case round =>
    obtain ⟨i, hi, hg, rfl, hall, hbel⟩ := hrel
    have Hg := Lib.hid hg
    have Hall := Lib.hid hall
    clear hg hall
    by_cases hin : i < n
    · obtain ⟨b, o, rfl, hlt, hc⟩ := h.below hbel (by omega)
      obtain ⟨k1, k2, k3⟩ := hc i hin
      dsimp only at k1 k2 k3
      have H := Lib.hid h
      have hcon := fun W => check_any (R i).n (R i).s (R i).e W (hs i hin)
      have hmay : mayB (R i).n (R i).s (R i).e = (R i).may := rfl
      have hrad : (R i).rad = ((R i).may && !(R i).n) := rfl
      rw [hmay] at hcon
      have hbel1 := hbel.alloc hbel.size (.cells #[.bool (R i).n, .string (R i).s, .int .i64 (R i).e] 24)
      have F := Blk.put wr #[.bool (R i).n, .string (R i).s, .int .i64 (R i).e] 24
      cases hm : (R i).may
      · rw [hm, Bool.false_and] at hrad
        have Hm := Lib.hid hrad
        rw [hm, okE_f] at hcon
        clear hm hrad hmay hc h hs F
        go_wp2_with fail
        (with_reducible refine (hcon _).mono ?_)
        rintro r w1 ⟨rfl, hb1⟩
        go_wp2
        go_ret
        exact ⟨by rw [allB_no hin Hm.out]; rfl, hbel1.trans (hb1.mono hbel1.size)⟩
      · rw [hm, Bool.true_and] at hrad
        obtain ⟨z, z1, z2, hsg⟩ := rad_sign (R i) hm
        rw [hm, okE_t] at hcon
        clear hm hmay hc h hs
        cases hneg : (R i).n
        · rw [hneg, Bool.not_false] at hrad
          have Hm := Lib.hid hrad
          have hz := z2 hneg
          rw [hneg] at hcon hsg k1 F hbel1
          have hd : decide (z < 0) = false := decide_eq_false (by omega)
          clear z1 z2 hneg hrad hz
          go_wp2_with fail
          (with_reducible refine (hcon _).mono ?_)
          rintro r w1 ⟨rfl, hb1⟩
          replace F := F.keep hb1
          have hbel2 := hbel1.trans (hb1.mono hbel1.size)
          obtain ⟨y0, y1, y2⟩ := F.ce3
          clear hbel1 hb1 F k1 k2 k3
          go_wp2_with fail
          (with_reducible refine (hsg _).mono ?_)
          rintro r w2 ⟨rfl, hb1⟩
          go_wp2
          go_roundg (n - (i + 1))
          case measure => have := Hg.out; omega
          case rel => exact ⟨i + 1, by omega, rfl, by go_num, fun j hj => by
            by_cases e : j = i
            · subst e; exact Hm.out
            · exact Hall.out j (by omega), hbel2.trans (hb1.mono hbel2.size)⟩
        · rw [hneg, Bool.not_true] at hrad
          have Hm := Lib.hid hrad
          have hz := z1 hneg
          rw [hneg] at hcon hsg k1 F hbel1
          have hd : decide (z < 0) = true := decide_eq_true (by omega)
          clear z1 z2 hneg hrad hz
          go_wp2_with fail
          (with_reducible refine (hcon _).mono ?_)
          rintro r w1 ⟨rfl, hb1⟩
          replace F := F.keep hb1
          have hbel2 := hbel1.trans (hb1.mono hbel1.size)
          obtain ⟨y0, y1, y2⟩ := F.ce3
          clear hbel1 hb1 F k1 k2 k3
          go_wp2_with fail
          (with_reducible refine (hsg _).mono ?_)
          rintro r w2 ⟨rfl, hb1⟩
          go_wp2
          go_ret
          exact ⟨by rw [allB_no hin Hm.out]; rfl, hbel2.trans (hb1.mono hbel2.size)⟩
    · obtain rfl : i = n := by omega
      go_wp2
      go_ret
      exact ⟨by rw [allB_yes Hall.out]; rfl, hbel⟩
theorem dys_one (W : World) (d : DRw) : Dys (W.alloc (.cells #[.bool d.n, .string d.s, .int .i64 d.e] 24)) (some ⟨W.heap.size, 0, none⟩) 1 (fun _ => d.n) (fun _ => d.s) (fun _ => d.e) := fun _ => by
  refine ⟨W.heap.size, 0, rfl, by simp, fun i hi => ?_⟩
  have hc := heap_alloc_new W (.cells #[.bool d.n, .string d.s, .int .i64 d.e] 24)
  obtain rfl : i = 0 := by omega
  exact ⟨by rw [cell_of_row _ W.heap.size _ _ 24 (0, 0) hc]; rfl, by rw [cell_of_row _ W.heap.size _ _ 24 (0, 0) hc]; rfl, by rw [cell_of_row _ W.heap.size _ _ 24 (0, 0) hc]; rfl⟩
theorem grad1 (a : DRw) (Bk : Nat) (W : World) (h : W.heap.size = Bk) (ha : a.fit) :
    Calls Tryz.prog 71 #[.slice (some ⟨Bk, 0, none⟩) 1 1] (W.alloc (.cells #[.bool a.n, .string a.s, .int .i64 a.e] 24)) fun r w' => r = .returned (.bool a.rad) ∧ Below W.heap.size W w' := by
  subst h
  refine (gradii_any _ 1 1 (fun _ => a) _ (by omega) (dys_one W a) (fun _ _ => ha)).mono ?_
  rintro r w' ⟨rfl, hb⟩
  exact ⟨by rw [allB_1], ((Below.refl W.heap.size W).alloc (Nat.le_refl _) _).trans (hb.mono (by simp))⟩
theorem grad1_ok (a : DY) (Bk : Nat) (W : World) (h : W.heap.size = Bk) (ha : a.ok) (h0 : a.n = false) :
    Calls Tryz.prog 71 #[.slice (some ⟨Bk, 0, none⟩) 1 1] (W.alloc (.cells #[.bool a.n, .string (bstr a.x), .int .i64 a.e] 24)) fun r w' => r = .returned (.bool true) ∧ Below W.heap.size W w' := by
  have H := grad1 a.raw Bk W h (DY.raw_fit ha)
  rw [DY.raw_rad ha h0] at H
  exact H
/-- far, In, Within, Apart -/
def gFar (a b : GY) (r : DY) : Int × Int :=
  if (gSub a b).2 = 0 then (if (gNorm (gSub a b).1).2 = 0 then (if (yMul r r).2 = 0 then (yCmp (gNorm (gSub a b).1).1 (yMul r r).1, 0) else (0, 4)) else (0, 4)) else (0, 4)
def gIn (a c : GY) (r : DY) : Bool × Int := if (gFar a c r).2 = 0 then (decide ((gFar a c r).1 ≤ 0), 0) else (false, (gFar a c r).2)
end Go.Proofs.YtjldfclncipbgaaGreatDoor
