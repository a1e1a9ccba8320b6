/- The walk over filigreelaw03.DyadShifts. -/
import Derived.Test.YtgcifpjhhoalmaaDoorSc
namespace Go.Proofs.YtgcifpjhhoalmaaDoor
open Go Go.RowKit Go.PlainAid Fil

set_option maxHeartbeats 1000000 in
theorem nothing_yes (w : World) : Calls Tryd.prog 29 #[.agg #[.bool false, .string { data := #[] }, .int .i64 0], .int .i64 2] w fun r w' => r = .returned (.bool true) ∧ Below w.heap.size w w' := by
  go_enter Tryd.func29, Tryd.ntmps29
  go_wp2
  go_ret
  exact ⟨rfl, (Below.refl _ _).alloc (Nat.le_refl _) _⟩
theorem dyR_nil (r : Int) : dyR false 0 0 r = .tuple #[.agg #[.bool false, .string { data := #[] }, .int .i64 0], .int .i64 r] := by unfold dyR; rw [bstr_zero]
theorem DyAt.put (w : World) (neg : Bool) (s : ByteArray) (e : Int) : DyAt (w.alloc (.cells #[.bool neg, .string s, .int .i64 e] 24)) w.heap.size neg s e := DyAt.new w _ neg s e rfl (Below.refl _ _)
theorem DyAt.lt {w : World} {b : Nat} {neg : Bool} {s : ByteArray} {e : Int} (h : DyAt w b neg s e) : b < w.heap.size := World.block_lt_of_cell? _ _ h.c0
theorem DyAt.keep {w w' : World} {b : Nat} {neg : Bool} {s : ByteArray} {e : Int} (h : DyAt w b neg s e) (hb : Below w.heap.size w w') : DyAt w' b neg s e := h.below hb h.lt
theorem DyAt.allocd {w : World} {b : Nat} {neg : Bool} {s : ByteArray} {e : Int} (h : DyAt w b neg s e) (o : Obj) : DyAt (w.alloc o) b neg s e := h.keep ((Below.refl _ _).alloc (Nat.le_refl _) _)
theorem flV_form (neg : Bool) (x : Nat) (e f : Int) : ∃ n y g r, flV neg x e f = dyR n y g r := by
  unfold flV
  split
  · exact ⟨_, _, _, _, rfl⟩
  · split
    · exact ⟨_, _, _, _, rfl⟩
    · exact ⟨_, _, _, _, rfl⟩

set_option maxHeartbeats 4000000 in
theorem shifts_bad (neg : Bool) (s : ByteArray) (e k f : Int) (w : World) (hT : Tab w) (h : mayB neg s e = false) (hs : s.size ≤ 9223372036854775807) :
    Calls Tryd.prog 6 #[.agg #[.bool neg, .string s, .int .i64 e], .int .i64 k, .int .i64 f] w fun r w' => r = .returned (.bool true) ∧ Below w.heap.size w w' := by
  have hm := fun W => rmay_any neg s e W hs
  rw [h] at hm
  have hsh := fun W => dshift_bad neg s e k W h hs
  have hfl := fun W => dfloor_bad neg s e f W h hs
  have hno := nothing_yes
  clear h hs
  simp only [dyR_nil] at hsh hfl
  have D0 := DyAt.put w (neg) (s) (e)
  have B0 := (Below.refl w.heap.size w).alloc (by first | exact Nat.le_refl _ | (simp; done) | (simp; omega)) (.cells #[.bool neg, .string s, .int .i64 e] 24)
  go_enter Tryd.func6, Tryd.ntmps6
  obtain ⟨x00, x01, x02, -, -, -⟩ := id D0
  go_wp2_with fail
  (with_reducible refine (hsh _).mono ?_)
  rintro r w1 ⟨rfl, hb1⟩
  clear x00 x01 x02
  replace D0 := D0.keep hb1
  replace B0 := B0.trans (hb1.mono B0.size)
  clear hb1
  have l1_0 := D0.lt
  replace D0 := D0.allocd (.cells #[.bool false, .string { data := #[] }, .int .i64 0] 24)
  have D1 := DyAt.put w1 (false) ({ data := #[] }) (0)
  replace B0 := B0.alloc B0.size (.cells #[.bool false, .string { data := #[] }, .int .i64 0] 24)
  obtain ⟨x00, x01, x02, -, -, -⟩ := id D0
  go_wp2_with fail
  (with_reducible refine (hfl _).mono ?_)
  rintro r w2 ⟨rfl, hb2⟩
  clear x00 x01 x02
  replace D0 := D0.keep hb2
  replace D1 := D1.keep hb2
  replace B0 := B0.trans (hb2.mono B0.size)
  clear hb2
  have l2_0 := D0.lt
  have l2_1 := D1.lt
  replace D0 := D0.allocd (.cells #[.bool false, .string { data := #[] }, .int .i64 0] 24)
  replace D1 := D1.allocd (.cells #[.bool false, .string { data := #[] }, .int .i64 0] 24)
  have D2 := DyAt.put w2 (false) ({ data := #[] }) (0)
  replace B0 := B0.alloc B0.size (.cells #[.bool false, .string { data := #[] }, .int .i64 0] 24)
  obtain ⟨x00, x01, x02, -, -, -⟩ := id D0
  go_wp2_with fail
  (with_reducible refine (hm _).mono ?_)
  rintro r w3 ⟨rfl, hb3⟩
  clear x00 x01 x02
  replace D0 := D0.keep hb3
  replace D1 := D1.keep hb3
  replace D2 := D2.keep hb3
  replace B0 := B0.trans (hb3.mono B0.size)
  clear hb3
  have l3_0 := D0.lt
  have l3_1 := D1.lt
  have l3_2 := D2.lt
  obtain ⟨x10, x11, x12, -, -, -⟩ := id D1
  go_wp2_with fail
  (with_reducible refine (hno _).mono ?_)
  rintro r w4 ⟨rfl, hb4⟩
  clear x10 x11 x12
  replace D0 := D0.keep hb4
  replace D1 := D1.keep hb4
  replace D2 := D2.keep hb4
  replace B0 := B0.trans (hb4.mono B0.size)
  clear hb4
  have l4_0 := D0.lt
  have l4_1 := D1.lt
  have l4_2 := D2.lt
  obtain ⟨x20, x21, x22, -, -, -⟩ := id D2
  go_wp2_with fail
  (with_reducible refine (hno _).mono ?_)
  rintro r w5 ⟨rfl, hb5⟩
  clear x20 x21 x22
  replace D0 := D0.keep hb5
  replace D1 := D1.keep hb5
  replace D2 := D2.keep hb5
  replace B0 := B0.trans (hb5.mono B0.size)
  clear hb5
  have l5_0 := D0.lt
  have l5_1 := D1.lt
  have l5_2 := D2.lt
  go_wp2_with fail
  (with_reducible refine (awake_any _ (hT.below B0)).mono ?_)
  rintro r w6 ⟨rfl, hb6⟩
  replace D0 := D0.keep hb6
  replace D1 := D1.keep hb6
  replace D2 := D2.keep hb6
  replace B0 := B0.trans (hb6.mono B0.size)
  clear hb6
  have l6_0 := D0.lt
  have l6_1 := D1.lt
  have l6_2 := D2.lt
  go_wp2
  go_ret
  exact ⟨rfl, B0⟩

set_option maxHeartbeats 4000000 in
theorem shifts_ok (neg : Bool) (x : Nat) (e k f : Int) (w : World) (hT : Tab w) (h : okD neg x e) (hk1 : -9223372036854775808 ≤ k) (hk2 : k ≤ 9223372036854775807) :
    Calls Tryd.prog 6 #[.agg #[.bool neg, .string (bstr x), .int .i64 e], .int .i64 k, .int .i64 f] w fun r w' => r = .returned (.bool true) ∧ Below w.heap.size w w' := by
  have hm := fun W => rmay_any neg (bstr x) e W (bstr_len h)
  rw [mayB_ok h] at hm
  have hsh := fun W => dshift_ok neg x e k W h hk1 hk2
  have hrs := fun W => rshift_ok neg x e k W h hk1 hk2
  have hfl := fun W hT => dfloor_ok neg x e f W h hT
  have hrf := fun W => rfloor_ok neg x e f W h
  obtain ⟨m2, y2, i2, r2, hf⟩ := flV_form neg x e f
  rw [hf] at hfl hrf
  unfold mkV at hsh hrs
  unfold dyR at hsh hrs hfl hrf
  generalize mkN (sz neg x) (e + k) = n1 at *
  generalize bstr (mkX (sz neg x) (e + k)) = s1 at *
  generalize mkE (sz neg x) (e + k) = e1 at *
  generalize mkR (sz neg x) (e + k) = r1 at *
  obtain ⟨n2, hn2⟩ : ∃ n, n = m2 := ⟨_, rfl⟩
  rw [← hn2] at hfl hrf
  obtain ⟨s2, hs2⟩ : ∃ n, n = bstr y2 := ⟨_, rfl⟩
  rw [← hs2] at hfl hrf
  obtain ⟨e2, he2⟩ : ∃ n, n = i2 := ⟨_, rfl⟩
  rw [← he2] at hfl hrf
  clear h hk1 hk2 hf hn2 hs2 he2
  have D0 := DyAt.put w (neg) ((bstr x)) (e)
  have B0 := (Below.refl w.heap.size w).alloc (by first | exact Nat.le_refl _ | (simp; done) | (simp; omega)) (.cells #[.bool neg, .string (bstr x), .int .i64 e] 24)
  go_enter Tryd.func6, Tryd.ntmps6
  obtain ⟨x00, x01, x02, -, -, -⟩ := id D0
  go_wp2_with fail
  (with_reducible refine (hsh _).mono ?_)
  rintro r w1 ⟨rfl, hb1⟩
  clear x00 x01 x02
  replace D0 := D0.keep hb1
  replace B0 := B0.trans (hb1.mono B0.size)
  clear hb1
  have l1_0 := D0.lt
  replace D0 := D0.allocd (.cells #[.bool n1, .string s1, .int .i64 e1] 24)
  have D1 := DyAt.put w1 (n1) (s1) (e1)
  replace B0 := B0.alloc B0.size (.cells #[.bool n1, .string s1, .int .i64 e1] 24)
  obtain ⟨x00, x01, x02, -, -, -⟩ := id D0
  go_wp2_with fail
  (with_reducible refine (hfl _ (hT.below B0)).mono ?_)
  rintro r w2 ⟨rfl, hb2⟩
  clear x00 x01 x02
  replace D0 := D0.keep hb2
  replace D1 := D1.keep hb2
  replace B0 := B0.trans (hb2.mono B0.size)
  clear hb2
  have l2_0 := D0.lt
  have l2_1 := D1.lt
  replace D0 := D0.allocd (.cells #[.bool n2, .string s2, .int .i64 e2] 24)
  replace D1 := D1.allocd (.cells #[.bool n2, .string s2, .int .i64 e2] 24)
  have D2 := DyAt.put w2 (n2) (s2) (e2)
  replace B0 := B0.alloc B0.size (.cells #[.bool n2, .string s2, .int .i64 e2] 24)
  obtain ⟨x00, x01, x02, -, -, -⟩ := id D0
  go_wp2_with fail
  (with_reducible refine (hm _).mono ?_)
  rintro r w3 ⟨rfl, hb3⟩
  clear x00 x01 x02
  replace D0 := D0.keep hb3
  replace D1 := D1.keep hb3
  replace D2 := D2.keep hb3
  replace B0 := B0.trans (hb3.mono B0.size)
  clear hb3
  have l3_0 := D0.lt
  have l3_1 := D1.lt
  have l3_2 := D2.lt
  obtain ⟨x00, x01, x02, -, -, -⟩ := id D0
  go_wp2_with fail
  (with_reducible refine (hrs _).mono ?_)
  rintro r w4 ⟨rfl, hb4⟩
  clear x00 x01 x02
  replace D0 := D0.keep hb4
  replace D1 := D1.keep hb4
  replace D2 := D2.keep hb4
  replace B0 := B0.trans (hb4.mono B0.size)
  clear hb4
  have l4_0 := D0.lt
  have l4_1 := D1.lt
  have l4_2 := D2.lt
  replace D0 := D0.allocd (.cells #[.bool n1, .string s1, .int .i64 e1] 24)
  replace D1 := D1.allocd (.cells #[.bool n1, .string s1, .int .i64 e1] 24)
  replace D2 := D2.allocd (.cells #[.bool n1, .string s1, .int .i64 e1] 24)
  have D3 := DyAt.put w4 (n1) (s1) (e1)
  replace B0 := B0.alloc B0.size (.cells #[.bool n1, .string s1, .int .i64 e1] 24)
  obtain ⟨x00, x01, x02, -, -, -⟩ := id D0
  go_wp2_with fail
  (with_reducible refine (hrf _).mono ?_)
  rintro r w5 ⟨rfl, hb5⟩
  clear x00 x01 x02
  replace D0 := D0.keep hb5
  replace D1 := D1.keep hb5
  replace D2 := D2.keep hb5
  replace D3 := D3.keep hb5
  replace B0 := B0.trans (hb5.mono B0.size)
  clear hb5
  have l5_0 := D0.lt
  have l5_1 := D1.lt
  have l5_2 := D2.lt
  have l5_3 := D3.lt
  replace D0 := D0.allocd (.cells #[.bool n2, .string s2, .int .i64 e2] 24)
  replace D1 := D1.allocd (.cells #[.bool n2, .string s2, .int .i64 e2] 24)
  replace D2 := D2.allocd (.cells #[.bool n2, .string s2, .int .i64 e2] 24)
  replace D3 := D3.allocd (.cells #[.bool n2, .string s2, .int .i64 e2] 24)
  have D4 := DyAt.put w5 (n2) (s2) (e2)
  replace B0 := B0.alloc B0.size (.cells #[.bool n2, .string s2, .int .i64 e2] 24)
  obtain ⟨x10, x11, x12, -, -, -⟩ := id D1
  obtain ⟨x20, x21, x22, -, -, -⟩ := id D2
  obtain ⟨x30, x31, x32, -, -, -⟩ := id D3
  obtain ⟨x40, x41, x42, -, -, -⟩ := id D4
  go_wp2_with fail
  (with_reducible refine (awake_any _ (hT.below B0)).mono ?_)
  rintro r w6 ⟨rfl, hb6⟩
  clear x10 x11 x12
  clear x20 x21 x22
  clear x30 x31 x32
  clear x40 x41 x42
  replace D0 := D0.keep hb6
  replace D1 := D1.keep hb6
  replace D2 := D2.keep hb6
  replace D3 := D3.keep hb6
  replace D4 := D4.keep hb6
  replace B0 := B0.trans (hb6.mono B0.size)
  clear hb6
  have l6_0 := D0.lt
  have l6_1 := D1.lt
  have l6_2 := D2.lt
  have l6_3 := D3.lt
  have l6_4 := D4.lt
  go_wp2
  go_ret
  exact ⟨rfl, B0⟩

theorem shifts_any (neg : Bool) (s : ByteArray) (e k f : Int) (w : World) (hT : Tab w) (hs : s.size ≤ 9223372036854775807) (hk1 : -9223372036854775808 ≤ k) (hk2 : k ≤ 9223372036854775807) (_ : -9223372036854775808 ≤ f) (_ : f ≤ 9223372036854775807) :
    Calls Tryd.prog 6 #[.agg #[.bool neg, .string s, .int .i64 e], .int .i64 k, .int .i64 f] w fun r w' => r = .returned (.bool true) ∧ Below w.heap.size w w' := by
  cases h : mayB neg s e
  · exact shifts_bad neg s e k f w hT h hs
  · obtain ⟨x, rfl, hk⟩ := ok_of_may h
    exact shifts_ok neg x e k f w hT hk hk1 hk2
end Go.Proofs.YtgcifpjhhoalmaaDoor
