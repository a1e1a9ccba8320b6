/- Dyads that may be; the walk over dyad.whole. -/
import Derived.Test.YtgcifpjhhoalmaaDoorDc
namespace Go.Proofs.YtgcifpjhhoalmaaDoor
open Go Go.RowKit Go.PlainAid Fil

/-- a number's bytes as a string -/
def bstr (x : Nat) : ByteArray := ⟨(bs x).toArray⟩
theorem bstr_size (x : Nat) : (bstr x).size = dn 8 x := by
  have : (bstr x).size = (bs x).length := by simp [bstr, ByteArray.size]
  rw [this, bs_length]
theorem bstr_toList (x : Nat) : (bstr x).toList = bs x := by unfold bstr; simp
theorem bstr_bt (x k : Nat) (h : k < dn 8 x) : bt (bstr x) k = (dg 8 x (dn 8 x - 1 - k) : Int) := by
  have h1 : k < (bstr x).size := by rw [bstr_size]; exact h
  rw [← get_bt _ k h1]
  have h2 : k < (bs x).length := by rw [bs_length]; exact h
  have : (bstr x)[k] = (bs x)[k] := by simp [bstr, ByteArray.getElem_eq_getElem_data]
  exact (congrArg (fun b : UInt8 => ((b.toNat : Nat) : Int)) this).trans (by rw [bs_get])
/-- a Dyad that may be: its sign, its magnitude, its power -/
def okD (neg : Bool) (x : Nat) (e : Int) : Prop := (x = 0 ∧ neg = false ∧ e = 0) ∨ (x % 2 = 1 ∧ dn 8 x ≤ 16384 ∧ -1048576 ≤ e ∧ e ≤ 1048576)
theorem okD.dn {neg : Bool} {x : Nat} {e : Int} (h : okD neg x e) : dn 8 x ≤ 16384 := by
  rcases h with ⟨rfl, _⟩ | h
  · rw [dn_zero]; omega
  · exact h.2.1
theorem okD.e1 {neg : Bool} {x : Nat} {e : Int} (h : okD neg x e) : -1048576 ≤ e := by rcases h with h | h <;> omega
theorem okD.e2 {neg : Bool} {x : Nat} {e : Int} (h : okD neg x e) : e ≤ 1048576 := by rcases h with h | h <;> omega
theorem okD.zero : okD false 0 0 := .inl ⟨rfl, rfl, rfl⟩
theorem mayB_ok {neg : Bool} {x : Nat} {e : Int} (h : okD neg x e) : mayB neg (bstr x) e = true := by
  rcases h with ⟨rfl, rfl, rfl⟩ | ⟨h1, h2, h3, h4⟩
  · unfold mayB; rw [bstr_size, dn_zero]; rfl
  · have hx : x ≠ 0 := by omega
    have hp := dn_pos (k := 8) hx
    refine mayB_yes (by rw [bstr_size]; omega) ?_ ?_ h3 h4
    · unfold natB
      rw [bstr_size, bstr_bt x 0 hp]
      have ht := dg_top (k := 8) (by omega) hx
      have d1 : decide (Fil.dn 8 x ≤ 16384) = true := decide_eq_true h2
      have d2 : ((dg 8 x (Fil.dn 8 x - 1 - 0) : Int) == 0) = false := by
        rw [beq_eq_false_iff_ne, Nat.sub_zero]; omega
      rw [d1, d2]; simp
    · rw [bstr_size, bstr_bt x _ (by omega), show Fil.dn 8 x - 1 - (Fil.dn 8 x - 1) = 0 by omega]
      have : dg 8 x 0 = x % 256 := by simp [dg]
      rw [this, beq_iff_eq]; omega
theorem bt_get {s : ByteArray} {k : Nat} (h : k < s.size) : bt s k = (s[k].toNat : Int) := (get_bt s k h).symm
theorem ok_of_may {neg : Bool} {s : ByteArray} {e : Int} (h : mayB neg s e = true) : ∃ x, s = bstr x ∧ okD neg x e := by
  by_cases h0 : s.size = 0
  · unfold mayB at h
    rw [if_pos h0] at h
    simp only [Bool.and_eq_true, Bool.not_eq_true', beq_iff_eq] at h
    refine ⟨0, ?_, .inl ⟨rfl, h.1, h.2⟩⟩
    apply ByteArray.ext
    rw [Array.eq_empty_of_size_eq_zero h0]
    simp [bstr, bs_zero]
  · have hl : s.data.toList.length = s.size := Array.length_toList
    unfold mayB at h
    rw [if_neg h0] at h
    simp only [Bool.and_eq_true, decide_eq_true_eq, beq_iff_eq] at h
    obtain ⟨⟨⟨hn, ho⟩, h1⟩, h2⟩ := h
    unfold natB at hn
    simp only [Bool.and_eq_true, Bool.or_eq_true, decide_eq_true_eq, Bool.not_eq_true', beq_eq_false_iff_ne] at hn
    have hc : cano s.data.toList := by
      intro hp h00
      rcases hn.2 with h3 | h3
      · exact h0 h3
      · apply h3
        rw [bt_get (by omega)]
        have : s[0] = s.data.toList[0] := by simp [ByteArray.getElem_eq_getElem_data]
        rw [this, h00]; rfl
    have hb := bs_nb hc
    refine ⟨nb s.data.toList, ?_, .inr ⟨?_, ?_, h1, h2⟩⟩
    · unfold bstr; rw [hb]
    · rw [nb_odd (by omega)]
      rw [bt_get (by omega)] at ho
      have : s[s.size - 1] = s.data.toList[s.data.toList.length - 1] := by simp [ByteArray.getElem_eq_getElem_data, hl]
      rw [this] at ho
      omega
    · rw [dn_nb hc, hl]; exact hn.1

/-- a string made a slice of bytes: the world behind it, its capacity -/
def convW (W : World) (s : ByteArray) : World := W.drew.alloc (.cells (bytesRow s (grownCap W s.size 0 5)) 5 ((bytesRow s (grownCap W s.size 0 5)).size, (bytesRow s (grownCap W s.size 0 5)).size + 1))
def convC (W : World) (s : ByteArray) : Nat := grownCap W s.size 0 5
theorem run_conv (W : World) (s : ByteArray) : (convert 22 148 (.string s)).run Tryd.prog W = .ok (.slice (some ⟨W.heap.size, 0, none⟩) s.size (convC W s)) (convW W s) :=
  run_bytes_of_string W 22 148 5 s Tryd.underlying22 Tryd.underlying148 Tryd.underlying5
theorem convW_below (W : World) (s : ByteArray) : Below W.heap.size W (convW W s) := ((Below.refl _ _).drew).alloc (Nat.le_refl _) _
theorem convW_size (W : World) (s : ByteArray) : (convW W s).heap.size = W.heap.size + 1 := by simp [convW]
theorem convW_slc (W : World) (x : Nat) : Slc (convW W (bstr x)) 5 (some ⟨W.heap.size, 0, none⟩) (Fil.dn 8 x) (fun i => b8 x (Fil.dn 8 x - 1 - i)) := fun _ => by
  refine ⟨W.heap.size, 0, _, _, rfl, heap_alloc_new W.drew _, fun j hj => ?_⟩
  have h1 : j < (bstr x).data.size := by have := bstr_size x; have h2 : (bstr x).size = (bstr x).data.size := rfl; omega
  have h2 : j < (bs x).length := by rw [bs_length]; exact hj
  rw [Nat.zero_add, bytesRow_at _ _ _ h1]
  have : (bstr x).data[j] = (bs x)[j] := by simp [bstr]
  refine (congrArg (fun b : UInt8 => some (Value.int .u8 ((b.toNat : Nat) : Int))) this).trans ?_
  rw [bs_get]; rfl

/-- a Dyad's box: its cells -/
theorem box_cells (w : World) (neg : Bool) (s : ByteArray) (e : Int) {w' : World} (h : Below (w.alloc (.cells #[.bool neg, .string s, .int .i64 e] 24)).heap.size (w.alloc (.cells #[.bool neg, .string s, .int .i64 e] 24)) w') :
    w'.cell? ⟨w.heap.size, 0, none⟩ = some (.bool neg) ∧ w'.cell? ⟨w.heap.size, 1, none⟩ = some (.string s) ∧ w'.cell? ⟨w.heap.size, 2, none⟩ = some (.int .i64 e) :=
  ⟨(h.cell (p := ⟨w.heap.size, 0, none⟩) (by simp)).trans (by rw [cell_of_row _ w.heap.size 0 _ 24 (0, 0) (heap_alloc_new w _)]; rfl), (h.cell (p := ⟨w.heap.size, 1, none⟩) (by simp)).trans (by rw [cell_of_row _ w.heap.size 1 _ 24 (0, 0) (heap_alloc_new w _)]; rfl), (h.cell (p := ⟨w.heap.size, 2, none⟩) (by simp)).trans (by rw [cell_of_row _ w.heap.size 2 _ 24 (0, 0) (heap_alloc_new w _)]; rfl)⟩
theorem box_free (w : World) (neg : Bool) (s : ByteArray) (e : Int) {w' : World} (h : Below (w.alloc (.cells #[.bool neg, .string s, .int .i64 e] 24)).heap.size (w.alloc (.cells #[.bool neg, .string s, .int .i64 e] 24)) w') (j : Nat) : w'.frozen? ⟨w.heap.size, j, none⟩ = false :=
  (h.frozen (p := ⟨w.heap.size, j, none⟩) (by simp)).trans ((World.frozen?_alloc_mark w _ _ 0 0 j).trans (by simp))

set_option maxHeartbeats 2000000 in
theorem whole_any (neg : Bool) (x : Nat) (e : Int) (w : World) (h : okD neg x e) :
    Calls Tryd.prog 106 #[.agg #[.bool neg, .string (bstr x), .int .i64 e]] w fun r w' => r = .returned (.pointer (some ⟨w.heap.size + 1, 0, none⟩)) ∧ IntAt w' (w.heap.size + 1) 0 (sz neg x) ∧ Below w.heap.size w w' := by
  have hsz := bstr_size x
  have hdn := h.dn
  have hrc := run_conv
  clear h
  go_enter Tryd.func106, Tryd.ntmps106
  go_wp2_with fail
  have hb0 : Below w.heap.size w (w.alloc (.cells #[.bool neg, .string (bstr x), .int .i64 e] 24)) := (Below.refl _ _).alloc (Nat.le_refl _) _
  have hbx : Below (w.alloc (.cells #[.bool neg, .string (bstr x), .int .i64 e] 24)).heap.size (w.alloc (.cells #[.bool neg, .string (bstr x), .int .i64 e] 24)) ((w.alloc (.cells #[.bool neg, .string (bstr x), .int .i64 e] 24)).alloc (Obj.cells #[Value.bool false, Value.slice none 0 0] 146)) := (Below.refl _ _).alloc (Nat.le_refl _) _
  have hr0 : Room ((w.alloc (.cells #[.bool neg, .string (bstr x), .int .i64 e] 24)).alloc (Obj.cells #[Value.bool false, Value.slice none 0 0] 146)) (w.alloc (.cells #[.bool neg, .string (bstr x), .int .i64 e] 24)).heap.size 0 := Room.new _ 146 _ (by decide) (by simp)
  have hsz1 : (w.alloc (.cells #[.bool neg, .string (bstr x), .int .i64 e] 24)).heap.size = w.heap.size + 1 := by simp
  rw [hsz1] at hr0
  have hsz2 : ((w.alloc (.cells #[.bool neg, .string (bstr x), .int .i64 e] 24)).alloc (Obj.cells #[Value.bool false, Value.slice none 0 0] 146)).heap.size = w.heap.size + 1 + 1 := by simp
  have hslc := convW_slc ((w.alloc (.cells #[.bool neg, .string (bstr x), .int .i64 e] 24)).alloc (Obj.cells #[Value.bool false, Value.slice none 0 0] 146)) x
  have hcb := convW_below ((w.alloc (.cells #[.bool neg, .string (bstr x), .int .i64 e] 24)).alloc (Obj.cells #[Value.bool false, Value.slice none 0 0] 146)) (bstr x)
  rw [hsz2] at hslc
  have hr1 := hr0.below hcb
  refine (setbytes_any (w.heap.size + 1) 0 _ (Fil.dn 8 x) _ x _ hr1 (lt_dn (by omega) x) (by omega) hslc).mono ?_
  rintro r w1 ⟨rfl, hI, hB⟩
  have hb2 := hbx.trans (hcb.mono (by rw [hsz1, hsz2]; omega))
  have hb3 := hb2.trans (hB.below (B := w.heap.size + 1) (Nat.le_refl _) (by have := hcb.size; omega) |>.mono (by rw [hsz1]; omega))
  obtain ⟨c1, _, _⟩ := box_cells w neg (bstr x) e hb3
  have hb4 : Below w.heap.size w w1 := hb0.trans (hb3.mono (by rw [hsz1]; omega))
  clear hb2 hb3 hB hr0 hr1 hslc hcb hbx hb0 hsz1 hsz2 hrc hsz
  cases neg
  · go_wp2
    go_ret
    exact ⟨rfl, hI, hb4⟩
  · go_wp2_with (go_at_call 127; go_must (refine (neg_any (w.heap.size + 1) 0 (w.heap.size + 1) 0 (x : Int) _ hI.room hI (by have := dn8_32 x (Fil.dn 8 x) (lt_dn (by omega) x); simp only [Int.natAbs_natCast]; omega)).mono ?_); rintro r w2 ⟨rfl, hI2, hB2⟩)
    go_ret
    exact ⟨rfl, hI2, hb4.trans (hB2.below (by omega) hb4.size)⟩
end Go.Proofs.YtgcifpjhhoalmaaDoor
