/- The walks over dyad.Sign, Top, Neg, Abs. -/
import Derived.Test.YtgcifpjhhoalmaaDoorDe
namespace Go.Proofs.YtgcifpjhhoalmaaDoor
open Go Go.RowKit Go.PlainAid Fil

theorem bstr_ne {x : Nat} (h : x ≠ 0) : (bstr x).toList.isEmpty = false ∧ (bstr x).toList ≠ [] := by
  have h1 := str_cons (s := bstr x) (by rw [bstr_size]; exact dn_pos h)
  exact ⟨h1, fun h2 => by rw [h2] at h1; cases h1⟩
theorem bstr_nil : (bstr 0).toList = [] := by rw [bstr_toList, bs_zero]
theorem bstr_len {neg : Bool} {x : Nat} {e : Int} (h : okD neg x e) : (bstr x).size ≤ 9223372036854775807 := by rw [bstr_size]; have := h.dn; omega
theorem box_below (w : World) (neg : Bool) (s : ByteArray) (e : Int) : Below w.heap.size w (w.alloc (.cells #[.bool neg, .string s, .int .i64 e] 24)) := (Below.refl _ _).alloc (Nat.le_refl _) _

set_option maxHeartbeats 1000000 in
theorem dsign_ok (neg : Bool) (x : Nat) (e : Int) (w : World) (h : okD neg x e) :
    Calls Tryd.prog 33 #[.agg #[.bool neg, .string (bstr x), .int .i64 e]] w fun r w' => r = .returned (.int .i64 (sz neg x).sign) ∧ Below w.heap.size w w' := by
  have hb0 := box_below w neg (bstr x) e
  have hm := mayB_ok h
  have hl := bstr_len h
  rcases h with ⟨rfl, rfl, rfl⟩ | h
  · have h1 := bstr_nil
    clear hm hl
    go_enter Tryd.func33, Tryd.ntmps33
    go_wp2
    go_ret
    exact ⟨rfl, hb0⟩
  · have hx : x ≠ 0 := by omega
    obtain ⟨h1, h2⟩ := bstr_ne hx
    have Hm := Lib.hid hm
    have Hx := Lib.hid hx
    clear hm hx h
    have cc := fun (w1 : World) hb => box_cells w neg (bstr x) e (w' := w1) hb
    cases neg
    · go_enter Tryd.func33, Tryd.ntmps33
      go_wp2_with (go_at_call 32; go_must (refine (check_any false (bstr x) e _ hl).mono ?_); rintro r w1 ⟨rfl, hb1⟩; rw [Hm.out, okE_t]; obtain ⟨c0, c1, c2⟩ := cc _ hb1)
      go_ret
      exact ⟨by rw [Int.sign_eq_one_of_pos (show 0 < sz false x by have := Hx.out; simp [sz]; omega)]; rfl, hb0.trans (hb1.mono (by simp))⟩
    · go_enter Tryd.func33, Tryd.ntmps33
      go_wp2_with (go_at_call 32; go_must (refine (check_any true (bstr x) e _ hl).mono ?_); rintro r w1 ⟨rfl, hb1⟩; rw [Hm.out, okE_t]; obtain ⟨c0, c1, c2⟩ := cc _ hb1)
      go_ret
      exact ⟨by rw [Int.sign_eq_neg_one_of_neg (show sz true x < 0 by have := Hx.out; simp [sz]; omega)]; rfl, hb0.trans (hb1.mono (by simp))⟩

set_option maxHeartbeats 1000000 in
theorem dsign_bad (neg : Bool) (s : ByteArray) (e : Int) (w : World) (h : mayB neg s e = false) (hs : s.size ≤ 9223372036854775807) :
    Calls Tryd.prog 33 #[.agg #[.bool neg, .string s, .int .i64 e]] w fun r w' => r = .returned (.int .i64 0) ∧ Below w.heap.size w w' := by
  have hb0 := box_below w neg s e
  have Hm := Lib.hid h
  by_cases h0 : s.size = 0
  · have h1 := str_nil h0
    unfold mayB at h
    rw [if_pos h0] at h
    cases neg
    · have he : (e == 0) = false := by simpa using h
      clear h h0
      go_enter Tryd.func33, Tryd.ntmps33
      go_wp2_with (go_at_call 32; go_must (refine (check_any false s e _ hs).mono ?_); rintro r w1 ⟨rfl, hb1⟩; rw [Hm.out, okE_f])
      go_ret
      exact ⟨rfl, hb0.trans (hb1.mono (by simp))⟩
    · clear h h0
      go_enter Tryd.func33, Tryd.ntmps33
      go_wp2_with (go_at_call 32; go_must (refine (check_any true s e _ hs).mono ?_); rintro r w1 ⟨rfl, hb1⟩; rw [Hm.out, okE_f])
      go_ret
      exact ⟨rfl, hb0.trans (hb1.mono (by simp))⟩
  · have h1 := str_cons (s := s) (by omega)
    have h2 : s.toList ≠ [] := fun h2 => by rw [h2] at h1; cases h1
    clear h h0
    go_enter Tryd.func33, Tryd.ntmps33
    go_wp2_with (go_at_call 32; go_must (refine (check_any neg s e _ hs).mono ?_); rintro r w1 ⟨rfl, hb1⟩; rw [Hm.out, okE_f])
    go_ret
    exact ⟨rfl, hb0.trans (hb1.mono (by simp))⟩

/-- the answer of Neg and Abs -/
def dyN (neg : Bool) (x : Nat) (e : Int) : Value := .agg #[.bool neg, .string (bstr x), .int .i64 e]
theorem dyN_eq {neg neg' : Bool} {x x' : Nat} {e e' : Int} (h : neg = neg' ∧ x = x' ∧ e = e') : dyN neg x e = dyN neg' x' e' := by
  obtain ⟨rfl, rfl, rfl⟩ := h; rfl
theorem dyN_zero : Ending.returned (.agg #[.bool false, .string { data := #[] }, .int .i64 0]) = .returned (dyN false 0 0) := by rw [← bstr_zero]; rfl

/-- a Dyad in a block of its own -/
structure DyAt (w : World) (b : Nat) (neg : Bool) (s : ByteArray) (e : Int) : Prop where
  c0 : w.cell? ⟨b, 0, none⟩ = some (.bool neg)
  c1 : w.cell? ⟨b, 1, none⟩ = some (.string s)
  c2 : w.cell? ⟨b, 2, none⟩ = some (.int .i64 e)
  f0 : w.frozen? ⟨b, 0, none⟩ = false
  f1 : w.frozen? ⟨b, 1, none⟩ = false
  f2 : w.frozen? ⟨b, 2, none⟩ = false
theorem DyAt.below {w w' : World} {b B : Nat} {neg : Bool} {s : ByteArray} {e : Int} (h : DyAt w b neg s e) (hb : Below B w w') (hB : b < B) : DyAt w' b neg s e :=
  ⟨(hb.cell hB).trans h.c0, (hb.cell hB).trans h.c1, (hb.cell hB).trans h.c2, (hb.frozen hB).trans h.f0, (hb.frozen hB).trans h.f1, (hb.frozen hB).trans h.f2⟩
theorem DyAt.new (w : World) (b : Nat) (neg : Bool) (s : ByteArray) (e : Int) {w' : World} (hs : w.heap.size = b) (h : Below (b + 1) (w.alloc (.cells #[.bool neg, .string s, .int .i64 e] 24)) w') : DyAt w' b neg s e := by
  subst hs
  have h' : Below (w.alloc (.cells #[.bool neg, .string s, .int .i64 e] 24)).heap.size (w.alloc (.cells #[.bool neg, .string s, .int .i64 e] 24)) w' := h.mono (by simp)
  obtain ⟨c0, c1, c2⟩ := box_cells w neg s e h'
  exact ⟨c0, c1, c2, box_free w neg s e h' 0, box_free w neg s e h' 1, box_free w neg s e h' 2⟩

/-- a call of one Dyad and one Dyad to answer: its two blocks -/
theorem dy_two (w : World) (neg : Bool) (s : ByteArray) (e : Int) {w' : World} (h : Below ((w.alloc (.cells #[.bool neg, .string s, .int .i64 e] 24)).alloc (.cells #[.bool false, .string { data := #[] }, .int .i64 0] 24)).heap.size ((w.alloc (.cells #[.bool neg, .string s, .int .i64 e] 24)).alloc (.cells #[.bool false, .string { data := #[] }, .int .i64 0] 24)) w') :
    DyAt w' w.heap.size neg s e ∧ DyAt w' (w.heap.size + 1) false { data := #[] } 0 ∧ Below w.heap.size w w' := by
  have hs : (w.alloc (.cells #[.bool neg, .string s, .int .i64 e] 24)).heap.size = w.heap.size + 1 := by simp
  have h2 : Below (w.heap.size + 1 + 1) ((w.alloc (.cells #[.bool neg, .string s, .int .i64 e] 24)).alloc (.cells #[.bool false, .string { data := #[] }, .int .i64 0] 24)) w' := h.mono (by simp)
  have h3 : Below (w.heap.size + 1) (w.alloc (.cells #[.bool neg, .string s, .int .i64 e] 24)) w' := ((Below.refl _ _).alloc (by rw [hs]; exact Nat.le_refl _) _).trans (h2.mono (by omega))
  exact ⟨DyAt.new w _ neg s e rfl h3, DyAt.new _ _ false _ 0 hs h2, ((Below.refl _ _).alloc (Nat.le_refl _) _).trans (h3.mono (by omega))⟩

set_option maxHeartbeats 1000000 in
theorem dneg_bad (neg : Bool) (s : ByteArray) (e : Int) (w : World) (h : mayB neg s e = false) (hs : s.size ≤ 9223372036854775807) :
    Calls Tryd.prog 34 #[.agg #[.bool neg, .string s, .int .i64 e]] w fun r w' => r = .returned (dyN false 0 0) ∧ Below w.heap.size w w' := by
  go_enter Tryd.func34, Tryd.ntmps34
  go_wp2_with fail
  refine (dsign_bad neg s e _ h hs).mono ?_
  rintro r w1 ⟨rfl, hb1⟩
  obtain ⟨_, ⟨c0, c1, c2, f0, f1, f2⟩, hb⟩ := dy_two w neg s e hb1
  have hbZ : Below w.heap.size w (((w1.setCell ⟨w.heap.size + 1, 0, none⟩ (.bool false)).setCell ⟨w.heap.size + 1, 1, none⟩ (.string { data := #[] })).setCell ⟨w.heap.size + 1, 2, none⟩ (.int .i64 0)) := ((hb.setCell (Nat.le_succ _) _).setCell (Nat.le_succ _) _).setCell (Nat.le_succ _) _
  clear hb1 hb
  go_wp2
  exact bodyPost_ret (v := .agg #[.bool false, .string { data := #[] }, .int .i64 0]) (by simp [results, Tryd.results34, go_sem, c0, c1, c2]) rfl ⟨dyN_zero, hbZ⟩

set_option maxHeartbeats 1000000 in
theorem dabs_bad (neg : Bool) (s : ByteArray) (e : Int) (w : World) (h : mayB neg s e = false) (hs : s.size ≤ 9223372036854775807) :
    Calls Tryd.prog 35 #[.agg #[.bool neg, .string s, .int .i64 e]] w fun r w' => r = .returned (dyN false 0 0) ∧ Below w.heap.size w w' := by
  go_enter Tryd.func35, Tryd.ntmps35
  go_wp2_with fail
  refine (dsign_bad neg s e _ h hs).mono ?_
  rintro r w1 ⟨rfl, hb1⟩
  obtain ⟨_, ⟨c0, c1, c2, f0, f1, f2⟩, hb⟩ := dy_two w neg s e hb1
  have hbZ : Below w.heap.size w (((w1.setCell ⟨w.heap.size + 1, 0, none⟩ (.bool false)).setCell ⟨w.heap.size + 1, 1, none⟩ (.string { data := #[] })).setCell ⟨w.heap.size + 1, 2, none⟩ (.int .i64 0)) := ((hb.setCell (Nat.le_succ _) _).setCell (Nat.le_succ _) _).setCell (Nat.le_succ _) _
  clear hb1 hb
  go_wp2
  exact bodyPost_ret (v := .agg #[.bool false, .string { data := #[] }, .int .i64 0]) (by simp [results, Tryd.results35, go_sem, c0, c1, c2]) rfl ⟨dyN_zero, hbZ⟩

theorem sz_sign_ne {neg : Bool} {x : Nat} (h : x ≠ 0) : ((sz neg x).sign == 0) = false := by
  have : sz neg x ≠ 0 := by unfold sz; cases neg <;> simp <;> omega
  have h2 : (sz neg x).sign ≠ 0 := fun h3 => this (Int.sign_eq_zero_iff_zero.1 h3)
  rw [beq_eq_false_iff_ne]; exact h2
theorem sz_sign_zero (neg : Bool) : (sz neg 0).sign = 0 := by cases neg <;> rfl

set_option maxHeartbeats 1000000 in
theorem dneg_ok (neg : Bool) (x : Nat) (e : Int) (w : World) (h : okD neg x e) :
    Calls Tryd.prog 34 #[.agg #[.bool neg, .string (bstr x), .int .i64 e]] w fun r w' => r = .returned (dyN (!neg && decide (x ≠ 0)) x e) ∧ Below w.heap.size w w' := by
  by_cases hx : x = 0
  · have ha : neg = false ∧ e = 0 := by
      rcases h with ⟨_, h1, h2⟩ | h
      · exact ⟨h1, h2⟩
      · omega
    obtain ⟨rfl, rfl⟩ := ha
    subst hx
    have hz := sz_sign_zero false
    go_enter Tryd.func34, Tryd.ntmps34
    go_wp2_with fail
    refine (dsign_ok false 0 0 _ h).mono ?_
    rw [hz]
    rintro r w1 ⟨rfl, hb1⟩
    obtain ⟨_, ⟨c0, c1, c2, f0, f1, f2⟩, hb⟩ := dy_two w false (bstr 0) 0 hb1
    have hbZ : Below w.heap.size w (((w1.setCell ⟨w.heap.size + 1, 0, none⟩ (.bool false)).setCell ⟨w.heap.size + 1, 1, none⟩ (.string { data := #[] })).setCell ⟨w.heap.size + 1, 2, none⟩ (.int .i64 0)) := ((hb.setCell (Nat.le_succ _) _).setCell (Nat.le_succ _) _).setCell (Nat.le_succ _) _
    clear hb1 hb
    go_wp2
    exact bodyPost_ret (v := .agg #[.bool false, .string { data := #[] }, .int .i64 0]) (by simp [results, Tryd.results34, go_sem, c0, c1, c2]) rfl ⟨dyN_zero, hbZ⟩
  · have hz := sz_sign_ne (neg := neg) hx
    have hx2 := Lib.hid hx
    clear hx
    go_enter Tryd.func34, Tryd.ntmps34
    go_wp2_with fail
    refine (dsign_ok neg x e _ h).mono ?_
    rintro r w1 ⟨rfl, hb1⟩
    obtain ⟨⟨d0, d1, d2, g0, g1, g2⟩, ⟨c0, c1, c2, f0, f1, f2⟩, hb⟩ := dy_two w neg (bstr x) e hb1
    clear hb1 h
    go_wp2
    have hbZ : Below w.heap.size w ((((w1.setCell ⟨w.heap.size, 0, none⟩ (.bool !neg)).setCell ⟨w.heap.size + 1, 0, none⟩ (.bool !neg)).setCell ⟨w.heap.size + 1, 1, none⟩ (.string (bstr x))).setCell ⟨w.heap.size + 1, 2, none⟩ (.int .i64 e)) := (((hb.setCell (Nat.le_refl _) _).setCell (Nat.le_succ _) _).setCell (Nat.le_succ _) _).setCell (Nat.le_succ _) _
    refine bodyPost_ret (v := .agg #[.bool !neg, .string (bstr x), .int .i64 e]) (by simp [results, Tryd.results34, go_sem, c0, c1, c2]) rfl ⟨?_, hbZ⟩
    have : (!neg && decide (x ≠ 0)) = !neg := by rw [decide_eq_true hx2.out, Bool.and_true]
    rw [this]; rfl

set_option maxHeartbeats 1000000 in
theorem dabs_ok (neg : Bool) (x : Nat) (e : Int) (w : World) (h : okD neg x e) :
    Calls Tryd.prog 35 #[.agg #[.bool neg, .string (bstr x), .int .i64 e]] w fun r w' => r = .returned (dyN false x e) ∧ Below w.heap.size w w' := by
  by_cases hx : x = 0
  · have ha : neg = false ∧ e = 0 := by
      rcases h with ⟨_, h1, h2⟩ | h
      · exact ⟨h1, h2⟩
      · omega
    obtain ⟨rfl, rfl⟩ := ha
    subst hx
    have hz := sz_sign_zero false
    go_enter Tryd.func35, Tryd.ntmps35
    go_wp2_with fail
    refine (dsign_ok false 0 0 _ h).mono ?_
    rw [hz]
    rintro r w1 ⟨rfl, hb1⟩
    obtain ⟨_, ⟨c0, c1, c2, f0, f1, f2⟩, hb⟩ := dy_two w false (bstr 0) 0 hb1
    have hbZ : Below w.heap.size w (((w1.setCell ⟨w.heap.size + 1, 0, none⟩ (.bool false)).setCell ⟨w.heap.size + 1, 1, none⟩ (.string { data := #[] })).setCell ⟨w.heap.size + 1, 2, none⟩ (.int .i64 0)) := ((hb.setCell (Nat.le_succ _) _).setCell (Nat.le_succ _) _).setCell (Nat.le_succ _) _
    clear hb1 hb
    go_wp2
    exact bodyPost_ret (v := .agg #[.bool false, .string { data := #[] }, .int .i64 0]) (by simp [results, Tryd.results35, go_sem, c0, c1, c2]) rfl ⟨dyN_zero, hbZ⟩
  · have hz := sz_sign_ne (neg := neg) hx
    have hx2 := Lib.hid hx
    clear hx
    go_enter Tryd.func35, Tryd.ntmps35
    go_wp2_with fail
    refine (dsign_ok neg x e _ h).mono ?_
    rintro r w1 ⟨rfl, hb1⟩
    obtain ⟨⟨d0, d1, d2, g0, g1, g2⟩, ⟨c0, c1, c2, f0, f1, f2⟩, hb⟩ := dy_two w neg (bstr x) e hb1
    clear hb1 h
    go_wp2
    have hbZ : Below w.heap.size w ((((w1.setCell ⟨w.heap.size, 0, none⟩ (.bool false)).setCell ⟨w.heap.size + 1, 0, none⟩ (.bool false)).setCell ⟨w.heap.size + 1, 1, none⟩ (.string (bstr x))).setCell ⟨w.heap.size + 1, 2, none⟩ (.int .i64 e)) := (((hb.setCell (Nat.le_refl _) _).setCell (Nat.le_succ _) _).setCell (Nat.le_succ _) _).setCell (Nat.le_succ _) _
    refine bodyPost_ret (v := .agg #[.bool false, .string (bstr x), .int .i64 e]) (by simp [results, Tryd.results35, go_sem, c0, c1, c2]) rfl ⟨rfl, hbZ⟩

/-- the highest bit's place of a Dyad that may be -/
def topZ (x : Nat) (e : Int) : Int := if x = 0 then 0 else (bl x : Int) - 1 + e

set_option maxHeartbeats 1000000 in
theorem dtop_bad (neg : Bool) (s : ByteArray) (e : Int) (w : World) (h : mayB neg s e = false) (hs : s.size ≤ 9223372036854775807) :
    Calls Tryd.prog 31 #[.agg #[.bool neg, .string s, .int .i64 e]] w fun r w' => r = .returned (.tuple #[.int .i64 0, .bool false]) ∧ Below w.heap.size w w' := by
  have hb0 := box_below w neg s e
  go_enter Tryd.func31, Tryd.ntmps31
  go_wp2_with fail
  refine (dsign_bad neg s e _ h hs).mono ?_
  rintro r w1 ⟨rfl, hb1⟩
  go_wp2
  go_returns
  exact ⟨rfl, hb0.trans (hb1.mono (by simp))⟩

theorem topZ_zero (e : Int) : topZ 0 e = 0 := rfl
theorem topZ_pos {x : Nat} (h : x ≠ 0) (e : Int) : topZ x e = (bl x : Int) - 1 + e := if_neg h

set_option maxHeartbeats 1000000 in
theorem dtop_ok (neg : Bool) (x : Nat) (e : Int) (w : World) (h : okD neg x e) :
    Calls Tryd.prog 31 #[.agg #[.bool neg, .string (bstr x), .int .i64 e]] w fun r w' => r = .returned (.tuple #[.int .i64 (topZ x e), .bool (decide (x ≠ 0))]) ∧ Below w.heap.size w w' := by
  have hb0 := box_below w neg (bstr x) e
  by_cases hx : x = 0
  · subst hx
    have hz := sz_sign_zero neg
    go_enter Tryd.func31, Tryd.ntmps31
    go_wp2_with fail
    refine (dsign_ok neg 0 e _ h).mono ?_
    rw [hz]
    rintro r w1 ⟨rfl, hb1⟩
    go_wp2
    go_returns
    exact ⟨rfl, hb0.trans (hb1.mono (by simp))⟩
  · have hz := sz_sign_ne (neg := neg) hx
    have hx2 := Lib.hid hx
    have h2 := Lib.hid h
    have hsz : dn 32 x ≤ 1099511627776 := by have := h.dn; have := dn8_32 x (Fil.dn 8 x) (lt_dn (by omega) x); omega
    have he : -1048576 ≤ e ∧ e ≤ 1048576 := ⟨h.e1, h.e2⟩
    have hbl : bl x ≤ 1048576 := by have := h.dn; have := dn8_bl x; omega
    have hbl0 : 0 ≤ (bl x : Int) := by omega
    have H := Lib.hid (topZ_pos hx e)
    clear hx h
    go_enter Tryd.func31, Tryd.ntmps31
    go_wp2_with fail
    refine (dsign_ok neg x e _ h2.out).mono ?_
    rintro r w1 ⟨rfl, hb1⟩
    obtain ⟨c0, c1, c2⟩ := box_cells w neg (bstr x) e hb1
    have hB : Below w.heap.size w w1 := hb0.trans (hb1.mono (by simp))
    have hlt : w.heap.size < w1.heap.size := by have := hb1.size; simp at this; omega
    clear hb1
    have W1 : IntKind.i64.wrap ((bl x : Int) - 1) = (bl x : Int) - 1 := IntWalk.i64_in _ (by omega)
    have W2 : IntKind.i64.wrap ((bl x : Int) - 1 + e) = (bl x : Int) - 1 + e := IntWalk.i64_in _ (by omega)
    go_wp2
    refine wp_region_cut 7 (by kernel_rfl) (by kernel_rfl) ?_
    rintro W rfl
    simp only [List.take_succ_cons, List.take_zero, List.drop_succ_cons, List.drop_zero]
    have hHeld : (fun w' : World => w'.cell? ⟨w.heap.size, 0, none⟩ = some (.bool neg) ∧ w'.cell? ⟨w.heap.size, 1, none⟩ = some (.string (bstr x)) ∧ w'.cell? ⟨w.heap.size, 2, none⟩ = some (.int .i64 e)) w1.drew := ⟨c0, c1, c2⟩
    refine wpAny_of_held (S := fun w' : World => w'.cell? ⟨w.heap.size, 0, none⟩ = some (.bool neg) ∧ w'.cell? ⟨w.heap.size, 1, none⟩ = some (.string (bstr x)) ∧ w'.cell? ⟨w.heap.size, 2, none⟩ = some (.int .i64 e)) _ _ _ _ ?_
    refine wpAnyH_take (i := 0) (v := _) (by first | (simp only [List.getElem?_toArray, List.getElem?_cons_zero]; rfl) | rfl) (by kernel_rfl) (by kernel_rfl) (by kernel_rfl) (by exact fun _ _ _ h => h) (Or.inl ⟨by rfl, by (intro w hSw; (try dsimp only at hSw); go_simp; try with_reducible rfl)⟩) (by assumption) ?_
    (try dsimp only [Act.put]); (try go_frame)
    refine wpAnyH_take (i := 4) (v := _) (by first | (simp only [List.getElem?_toArray, List.getElem?_cons_zero, List.getElem?_cons_succ]; rfl) | rfl) (by kernel_rfl) (by kernel_rfl) (by kernel_rfl) (by exact fun _ _ _ h => h) (Or.inl ⟨by rfl, by (intro w hSw; (try dsimp only at hSw); go_simp; try with_reducible rfl)⟩) (by assumption) ?_
    (try dsimp only [Act.put]); (try go_frame)
    refine wpAnyH_take (i := 5) (v := _) (by first | (simp only [List.getElem?_toArray, List.getElem?_cons_zero, List.getElem?_cons_succ]; rfl) | rfl) (by kernel_rfl) (by kernel_rfl) (by kernel_rfl) (by exact fun _ _ _ h => h) (Or.inl ⟨by rfl, by (intro w hSw; (try dsimp only at hSw); go_simp; try with_reducible rfl)⟩) (by assumption) ?_
    (try dsimp only [Act.put]); (try go_frame)
    refine wpAnyH_ready (rs := [1]) (by kernel_rfl) (by simp) ?_
    refine AllReadyH.cons rfl (fun K hK => ?_) AllReadyH.nil
    go_simp
    refine (whole_any neg x e _ h2.out).mono ?_
    rintro r w2 ⟨rfl, hI, hb2⟩
    have hB2 := hB.drew.trans (hb2.mono hB.drew.size)
    refine hK.out _ _ ?_ (fun hHeld => ?_)
    · exact ⟨(hb2.cell hlt).trans c0, (hb2.cell hlt).trans c1, (hb2.cell hlt).trans c2⟩
    clear hK K
    (try dsimp only [Act.put]); (try go_frame)
    refine wpAnyH_ready (rs := [2]) (by kernel_rfl) (by simp) ?_
    refine AllReadyH.cons rfl (fun K hK => ?_) AllReadyH.nil
    go_simp
    refine (bitlen_any _ 0 _ _ hI (by rw [sz_abs]; exact hsz)).mono ?_
    rw [sz_abs]
    rintro r w3 ⟨rfl, rfl⟩
    refine hK.out _ _ ?_ (fun hHeld => ?_)
    · exact ⟨(hb2.cell hlt).trans c0, (hb2.cell hlt).trans c1, (hb2.cell hlt).trans c2⟩
    clear hK K
    (try dsimp only [Act.put]); (try go_frame)
    refine wpAnyH_take (i := 3) (v := _) (by first | (simp only [List.getElem?_toArray, List.getElem?_cons_zero, List.getElem?_cons_succ]; rfl) | rfl) (by kernel_rfl) (by kernel_rfl) (by kernel_rfl) (by exact fun _ _ _ h => h) (Or.inl ⟨by rfl, by (intro w hSw; (try dsimp only at hSw); go_simp; try with_reducible rfl)⟩) (by assumption) ?_
    (try dsimp only [Act.put]); (try go_frame)
    refine wpAnyH_take (i := 6) (v := _) (by first | (simp only [List.getElem?_toArray, List.getElem?_cons_zero, List.getElem?_cons_succ]; rfl) | rfl) (by kernel_rfl) (by kernel_rfl) (by kernel_rfl) (by exact fun _ _ _ h => h) (Or.inl ⟨by rfl, by (intro w hSw; (try dsimp only at hSw); go_simp; try with_reducible rfl)⟩) (by assumption) ?_
    (try dsimp only [Act.put]); (try go_frame)
    refine wpAnyH_done (by kernel_rfl) ?_ _
    try simp only [QCut]
    go_wp2
    go_returns
    have h3 : (!decide (x = 0)) = true := by simp [hx2.out]
    refine ⟨?_, hB2⟩
    rw [H.out, h3]
    rfl
end Go.Proofs.YtgcifpjhhoalmaaDoor
