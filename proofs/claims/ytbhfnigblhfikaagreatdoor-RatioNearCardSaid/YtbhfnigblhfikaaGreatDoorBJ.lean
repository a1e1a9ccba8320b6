/- Merged: B4 B5 B8 B9 B6 B7 BA BJ -/
import Derived.Test.YtbhfnigblhfikaaGreatDoorB3
import Derived.Test.YtbhfnigblhfikaaGreatDoorB1
import Derived.Lib.RabinKarpLaws
import Derived.Laws.FloatArith
import Derived.Laws.BitsAllLaws

/- The walks of dyad's first functions. -/
/- The walks over nat.Check and dyad.Check. -/
namespace Go.Proofs.YtbhfnigblhfikaaGreatDoor
open Go Go.RowKit Go.PlainAid Fil

theorem str_nil {s : ByteArray} (h : s.size = 0) : s.toList = [] := by
  rw [ByteArray.toList_eq]; apply List.eq_nil_of_length_eq_zero; simpa using h
theorem str_cons {s : ByteArray} (h : 0 < s.size) : s.toList.isEmpty = false := by
  rw [ByteArray.toList_eq]
  cases hl : s.data.toList with
  | nil =>
    have h1 : s.data.toList.length = 0 := by rw [hl]; rfl
    have h2 : s.data.toList.length = s.size := Array.length_toList
    omega
  | cons _ _ => rfl

/-- may a Nat be? -/
def natB (s : ByteArray) : Bool := decide (s.size ≤ 16384) && (decide (s.size = 0) || !(bt s 0 == 0))

set_option maxHeartbeats 1000000 in
theorem natmay_one (s : ByteArray) (g : Nat) (w : World) (hc : w.cell? ⟨g, 0, none⟩ = some (.string s)) (hs : s.size ≤ 9223372036854775807) :
    Calls Tryz.prog 50 #[.slice (some ⟨g, 0, none⟩) 1 1] w fun e w' => e = .returned (.bool (natB s)) ∧ w = w' := by
  by_cases h1 : s.size ≤ 16384
  · by_cases h2 : s.size = 0
    · have hB : natB s = true := by simp [natB, h2]
      have h3 := str_nil h2
      have HB := Lib.hid hB
      have h4 : (s.size : Int) ≤ 16384 := by omega
      clear h2 hB h1
      go_enter Tryz.func50, Tryz.ntmps50
      go_wp2
      refine wp_loop_rounds 2 ?_
      rw [rounds_succ]
      go_wp2
      rw [rounds_succ]
      go_wp2
      go_ret
      exact ⟨by rw [HB.out]; rfl, rfl⟩
    · have h3 := str_cons (s := s) (by omega)
      have h4 : (s.size : Int) ≤ 16384 := by omega
      have h5 : 0 < s.size := by omega
      have hb := get_bt s
      cases h6 : (bt s 0 == 0)
      · have HB : Hid (natB s = true) := Lib.hid (by simp [natB, h1, h6])
        clear h1 h2
        go_enter Tryz.func50, Tryz.ntmps50
        go_wp2
        refine wp_loop_rounds 2 ?_
        rw [rounds_succ]
        go_wp2
        rw [rounds_succ]
        go_wp2
        go_ret
        exact ⟨by rw [HB.out]; rfl, rfl⟩
      · have HB : Hid (natB s = false) := Lib.hid (by simp [natB, h2, h6])
        clear h1 h2
        go_enter Tryz.func50, Tryz.ntmps50
        go_wp2
        refine wp_loop_rounds 2 ?_
        rw [rounds_succ]
        go_wp2
        go_ret
        exact ⟨by rw [HB.out]; rfl, rfl⟩
  · have HB : Hid (natB s = false) := Lib.hid (by simp [natB, h1])
    have h4 : (16384 : Int) < (s.size : Int) := by omega
    clear h1
    go_enter Tryz.func50, Tryz.ntmps50
    go_wp2
    refine wp_loop_rounds 2 ?_
    rw [rounds_succ]
    go_wp2
    go_ret
    exact ⟨by rw [HB.out]; rfl, rfl⟩

/-- the error beside an answer -/
def okE (b : Bool) : Int := if b then 0 else 2
theorem okE_t : okE true = 0 := rfl
theorem okE_f : okE false = 2 := rfl
theorem one_cell (w : World) (v : Value) (t : TypeId) : (w.alloc (.cells #[v] t)).cell? ⟨w.heap.size, 0, none⟩ = some v := by
  rw [cell_of_row _ w.heap.size 0 #[v] t (0, 0) (heap_alloc_new w _)]; rfl

set_option maxHeartbeats 1000000 in
theorem natcheck_any (s : ByteArray) (w : World) (hs : s.size ≤ 9223372036854775807) :
    Calls Tryz.prog 26 #[.string s] w fun e w' => e = .returned (.int .i64 (okE (natB s))) ∧ Below w.heap.size w w' := by
  have hc := one_cell w (.string s) 22
  cases hB : natB s
  · have HB := Lib.hid hB
    clear hB
    go_enter Tryz.func26, Tryz.ntmps26
    go_wp2_with (go_at_call 50; go_must (refine (natmay_one s w.heap.size _ hc hs).mono ?_); rintro e w' ⟨rfl, rfl⟩; rw [HB.out])
    go_ret
    exact ⟨rfl, (Below.refl _ _).alloc (Nat.le_refl _) _⟩
  · have HB := Lib.hid hB
    clear hB
    go_enter Tryz.func26, Tryz.ntmps26
    go_wp2_with (go_at_call 50; go_must (refine (natmay_one s w.heap.size _ hc hs).mono ?_); rintro e w' ⟨rfl, rfl⟩; rw [HB.out])
    go_ret
    exact ⟨rfl, (Below.refl _ _).alloc (Nat.le_refl _) _⟩
end Go.Proofs.YtbhfnigblhfikaaGreatDoor

/- The walk over dyad.Check. -/
namespace Go.Proofs.YtbhfnigblhfikaaGreatDoor
open Go Go.RowKit Go.PlainAid Fil

/-- may a Dyad be? -/
def mayB (neg : Bool) (s : ByteArray) (e : Int) : Bool :=
  if s.size = 0 then !neg && (e == 0) else natB s && (bt s (s.size - 1) % 2 == 1) && decide (-1048576 ≤ e) && decide (e ≤ 1048576)
theorem mayB_low {neg : Bool} {s : ByteArray} {e : Int} (h0 : ¬ s.size = 0) (h : e < -1048576) : mayB neg s e = false := by
  have d : decide (-1048576 ≤ e) = false := by
    rw [decide_eq_false_iff_not]; omega
  unfold mayB; rw [if_neg h0, d]; simp
theorem mayB_high {neg : Bool} {s : ByteArray} {e : Int} (h0 : ¬ s.size = 0) (h : 1048576 < e) : mayB neg s e = false := by
  have d : decide (e ≤ 1048576) = false := by
    rw [decide_eq_false_iff_not]; omega
  unfold mayB; rw [if_neg h0, d]; simp
theorem mayB_yes {neg : Bool} {s : ByteArray} {e : Int} (h0 : ¬ s.size = 0) (hn : natB s = true) (ho : (bt s (s.size - 1) % 2 == 1) = true) (h1 : -1048576 ≤ e) (h2 : e ≤ 1048576) : mayB neg s e = true := by
  unfold mayB; rw [if_neg h0, hn, ho, decide_eq_true h1, decide_eq_true h2]; rfl
set_option maxHeartbeats 2000000 in
theorem check_any (neg : Bool) (s : ByteArray) (e : Int) (w : World) (hs : s.size ≤ 9223372036854775807) :
    Calls Tryz.prog 40 #[.agg #[.bool neg, .string s, .int .i64 e]] w fun r w' => r = .returned (.int .i64 (okE (mayB neg s e))) ∧ Below w.heap.size w w' := by
  have hb0 : Below w.heap.size w (w.alloc (.cells #[.bool neg, .string s, .int .i64 e] 44)) := (Below.refl _ _).alloc (Nat.le_refl _) _
  by_cases h0 : s.size = 0
  · have h1 := str_nil h0
    cases neg
    · by_cases he : e = 0
      · subst he
        have HB : Hid (mayB false s 0 = true) := Lib.hid (by simp [mayB, h0])
        clear h0
        go_enter Tryz.func40, Tryz.ntmps40
        go_wp2
        go_ret
        exact ⟨by rw [HB.out]; rfl, hb0⟩
      · have he' : (e == 0) = false := by simpa using he
        have HB : Hid (mayB false s e = false) := Lib.hid (by simp [mayB, h0, he'])
        clear h0 he
        go_enter Tryz.func40, Tryz.ntmps40
        go_wp2
        go_ret
        exact ⟨by rw [HB.out]; rfl, hb0⟩
    · have HB : Hid (mayB true s e = false) := Lib.hid (by simp [mayB, h0])
      clear h0
      go_enter Tryz.func40, Tryz.ntmps40
      go_wp2
      go_ret
      exact ⟨by rw [HB.out]; rfl, hb0⟩
  · have h3 := str_cons (s := s) (by omega)
    have h4 : s.toList ≠ [] := by intro h; rw [h] at h3; cases h3
    have h5 : 0 < s.size := by omega
    have hb := get_bt s
    have hle := bt_le s (s.size - 1)
    have hge := bt_nonneg s (s.size - 1)
    cases hn : natB s
    · have HB : Hid (mayB neg s e = false) := Lib.hid (by simp [mayB, h0, hn])
      have Hn := Lib.hid hn
      clear hn h0 hb hle hge
      go_enter Tryz.func40, Tryz.ntmps40
      go_wp2_with (go_at_call 26; go_must (refine (natcheck_any s _ hs).mono ?_); rintro r w1 ⟨rfl, hb1⟩; rw [Hn.out, okE_f])
      go_ret
      exact ⟨by rw [HB.out]; rfl, hb0.trans (hb1.mono (by simp))⟩
    · have Hn := Lib.hid hn
      have cc : ∀ w1, Below (w.alloc (.cells #[.bool neg, .string s, .int .i64 e] 44)).heap.size (w.alloc (.cells #[.bool neg, .string s, .int .i64 e] 44)) w1 → w1.cell? ⟨w.heap.size, 1, none⟩ = some (.string s) ∧ w1.cell? ⟨w.heap.size, 2, none⟩ = some (.int .i64 e) := fun w1 h =>
        ⟨(h.cell (p := ⟨w.heap.size, 1, none⟩) (by simp)).trans (by rw [cell_of_row _ w.heap.size 1 _ 44 (0, 0) (heap_alloc_new w _)]; rfl), (h.cell (p := ⟨w.heap.size, 2, none⟩) (by simp)).trans (by rw [cell_of_row _ w.heap.size 2 _ 44 (0, 0) (heap_alloc_new w _)]; rfl)⟩
      cases ho : (bt s (s.size - 1) % 2 == 0)
      · have hodd : (bt s (s.size - 1) % 2 == 1) = true := by simp at ho ⊢; omega
        by_cases h7 : e < -1048576
        · have HB : Hid (mayB neg s e = false) := Lib.hid (mayB_low h0 h7)
          clear hn h0 hodd
          go_enter Tryz.func40, Tryz.ntmps40
          go_wp2_with (go_at_call 26; go_must (refine (natcheck_any s _ hs).mono ?_); rintro r w1 ⟨rfl, hb1⟩; rw [Hn.out, okE_t]; obtain ⟨c1, c2⟩ := cc _ hb1)
          go_ret
          exact ⟨by rw [HB.out]; rfl, hb0.trans (hb1.mono (by simp))⟩
        · by_cases h8 : 1048576 < e
          · have HB : Hid (mayB neg s e = false) := Lib.hid (mayB_high h0 h8)
            clear hn h0 hodd
            go_enter Tryz.func40, Tryz.ntmps40
            go_wp2_with (go_at_call 26; go_must (refine (natcheck_any s _ hs).mono ?_); rintro r w1 ⟨rfl, hb1⟩; rw [Hn.out, okE_t]; obtain ⟨c1, c2⟩ := cc _ hb1)
            go_ret
            exact ⟨by rw [HB.out]; rfl, hb0.trans (hb1.mono (by simp))⟩
          · have HB : Hid (mayB neg s e = true) := Lib.hid (mayB_yes h0 hn hodd (by omega) (by omega))
            clear hn h0 hodd
            go_enter Tryz.func40, Tryz.ntmps40
            go_wp2_with (go_at_call 26; go_must (refine (natcheck_any s _ hs).mono ?_); rintro r w1 ⟨rfl, hb1⟩; rw [Hn.out, okE_t]; obtain ⟨c1, c2⟩ := cc _ hb1)
            go_ret
            exact ⟨by rw [HB.out]; rfl, hb0.trans (hb1.mono (by simp))⟩
      · have hodd : (bt s (s.size - 1) % 2 == 1) = false := by simp at ho ⊢; omega
        have HB : Hid (mayB neg s e = false) := Lib.hid (by simp [mayB, h0, hodd])
        clear hn h0 hodd
        go_enter Tryz.func40, Tryz.ntmps40
        go_wp2_with (go_at_call 26; go_must (refine (natcheck_any s _ hs).mono ?_); rintro r w1 ⟨rfl, hb1⟩; rw [Hn.out, okE_t]; obtain ⟨c1, c2⟩ := cc _ hb1)
        go_ret
        exact ⟨by rw [HB.out]; rfl, hb0.trans (hb1.mono (by simp))⟩
end Go.Proofs.YtbhfnigblhfikaaGreatDoor

/- The walk over dyad.all: Dyads in a slice. -/
namespace Go.Proofs.YtbhfnigblhfikaaGreatDoor
open Go Go.RowKit Go.PlainAid Fil

/-- Dyads in a slice, by place -/
def Dys (w : World) (A : Option Addr) (n : Nat) (N : Nat → Bool) (S : Nat → ByteArray) (E : Nat → Int) : Prop :=
  0 < n → ∃ b o, A = some ⟨b, o, none⟩ ∧ b < w.heap.size ∧ ∀ i, i < n → w.cell? ⟨b, o + i * 3, none⟩ = some (.bool (N i)) ∧ w.cell? ⟨b, o + i * 3 + 1, none⟩ = some (.string (S i)) ∧ w.cell? ⟨b, o + i * 3 + 2, none⟩ = some (.int .i64 (E i))
theorem Dys.below {w w' : World} {A : Option Addr} {n : Nat} {N : Nat → Bool} {S : Nat → ByteArray} {E : Nat → Int} (h : Dys w A n N S E) (hb : Below w.heap.size w w') : Dys w' A n N S E := fun hn => by
  obtain ⟨b, o, hA, hlt, hc⟩ := h hn
  exact ⟨b, o, hA, Nat.lt_of_lt_of_le hlt hb.size, fun i hi => ⟨(hb.cell (p := ⟨b, _, none⟩) hlt).trans (hc i hi).1, (hb.cell (p := ⟨b, _, none⟩) hlt).trans (hc i hi).2.1, (hb.cell (p := ⟨b, _, none⟩) hlt).trans (hc i hi).2.2⟩⟩
end Go.Proofs.YtbhfnigblhfikaaGreatDoor

/- Dyads that may be; the walk over dyad.whole. -/
namespace Go.Proofs.YtbhfnigblhfikaaGreatDoor
open Go Go.RowKit Go.PlainAid Fil

/-- a number's bytes as a string -/
def bstr (x : Nat) : ByteArray := ⟨(bs x).toArray⟩
theorem bstr_size (x : Nat) : (bstr x).size = dn 8 x := by
  have : (bstr x).size = (bs x).length := by simp [bstr, ByteArray.size]
  rw [this, bs_length]
theorem bstr_toList (x : Nat) : (bstr x).toList = bs x := by unfold bstr; simp
theorem bstr_bt (x k : Nat) (h : k < dn 8 x) : bt (bstr x) k = (dg 8 x (dn 8 x - 1 - k) : Int) := by
  have h1 : k < (bstr x).size := by rw [bstr_size]; exact h
  rw [← get_bt _ k h1]
  have h2 : k < (bs x).length := by rw [bs_length]; exact h
  have : (bstr x)[k] = (bs x)[k] := by simp [bstr, ByteArray.getElem_eq_getElem_data]
  exact (congrArg (fun b : UInt8 => ((b.toNat : Nat) : Int)) this).trans (by rw [bs_get])
/-- a Dyad that may be: its sign, its magnitude, its power -/
def okD (neg : Bool) (x : Nat) (e : Int) : Prop := (x = 0 ∧ neg = false ∧ e = 0) ∨ (x % 2 = 1 ∧ dn 8 x ≤ 16384 ∧ -1048576 ≤ e ∧ e ≤ 1048576)
theorem okD.dn {neg : Bool} {x : Nat} {e : Int} (h : okD neg x e) : dn 8 x ≤ 16384 := by
  rcases h with ⟨rfl, _⟩ | h
  · rw [dn_zero]; omega
  · exact h.2.1
theorem okD.e1 {neg : Bool} {x : Nat} {e : Int} (h : okD neg x e) : -1048576 ≤ e := by rcases h with h | h <;> omega
theorem okD.e2 {neg : Bool} {x : Nat} {e : Int} (h : okD neg x e) : e ≤ 1048576 := by rcases h with h | h <;> omega
theorem okD.zero : okD false 0 0 := .inl ⟨rfl, rfl, rfl⟩
theorem mayB_ok {neg : Bool} {x : Nat} {e : Int} (h : okD neg x e) : mayB neg (bstr x) e = true := by
  rcases h with ⟨rfl, rfl, rfl⟩ | ⟨h1, h2, h3, h4⟩
  · unfold mayB; rw [bstr_size, dn_zero]; rfl
  · have hx : x ≠ 0 := by omega
    have hp := dn_pos (k := 8) hx
    refine mayB_yes (by rw [bstr_size]; omega) ?_ ?_ h3 h4
    · unfold natB
      rw [bstr_size, bstr_bt x 0 hp]
      have ht := dg_top (k := 8) (by omega) hx
      have d1 : decide (Fil.dn 8 x ≤ 16384) = true := decide_eq_true h2
      have d2 : ((dg 8 x (Fil.dn 8 x - 1 - 0) : Int) == 0) = false := by
        rw [beq_eq_false_iff_ne, Nat.sub_zero]; omega
      rw [d1, d2]; simp
    · rw [bstr_size, bstr_bt x _ (by omega), show Fil.dn 8 x - 1 - (Fil.dn 8 x - 1) = 0 by omega]
      have : dg 8 x 0 = x % 256 := by simp [dg]
      rw [this, beq_iff_eq]; omega
theorem bt_get {s : ByteArray} {k : Nat} (h : k < s.size) : bt s k = (s[k].toNat : Int) := (get_bt s k h).symm
/-- a string made a slice of bytes: the world behind it, its capacity -/
def convW (W : World) (s : ByteArray) : World := W.drew.alloc (.cells (bytesRow s (grownCap W s.size 0 5)) 5 ((bytesRow s (grownCap W s.size 0 5)).size, (bytesRow s (grownCap W s.size 0 5)).size + 1))
def convC (W : World) (s : ByteArray) : Nat := grownCap W s.size 0 5
theorem run_conv (W : World) (s : ByteArray) : (convert 22 92 (.string s)).run Tryz.prog W = .ok (.slice (some ⟨W.heap.size, 0, none⟩) s.size (convC W s)) (convW W s) :=
  run_bytes_of_string W 22 92 5 s Tryz.underlying22 Tryz.underlying92 Tryz.underlying5
theorem convW_below (W : World) (s : ByteArray) : Below W.heap.size W (convW W s) := ((Below.refl _ _).drew).alloc (Nat.le_refl _) _
theorem convW_slc (W : World) (x : Nat) : Slc (convW W (bstr x)) 5 (some ⟨W.heap.size, 0, none⟩) (Fil.dn 8 x) (fun i => b8 x (Fil.dn 8 x - 1 - i)) := fun _ => by
  refine ⟨W.heap.size, 0, _, _, rfl, heap_alloc_new W.drew _, fun j hj => ?_⟩
  have h1 : j < (bstr x).data.size := by have := bstr_size x; have h2 : (bstr x).size = (bstr x).data.size := rfl; omega
  have h2 : j < (bs x).length := by rw [bs_length]; exact hj
  rw [Nat.zero_add, bytesRow_at _ _ _ h1]
  have : (bstr x).data[j] = (bs x)[j] := by simp [bstr]
  refine (congrArg (fun b : UInt8 => some (Value.int .u8 ((b.toNat : Nat) : Int))) this).trans ?_
  rw [bs_get]; rfl

/-- a Dyad's box: its cells -/
theorem box_cells (w : World) (neg : Bool) (s : ByteArray) (e : Int) {w' : World} (h : Below (w.alloc (.cells #[.bool neg, .string s, .int .i64 e] 44)).heap.size (w.alloc (.cells #[.bool neg, .string s, .int .i64 e] 44)) w') :
    w'.cell? ⟨w.heap.size, 0, none⟩ = some (.bool neg) ∧ w'.cell? ⟨w.heap.size, 1, none⟩ = some (.string s) ∧ w'.cell? ⟨w.heap.size, 2, none⟩ = some (.int .i64 e) :=
  ⟨(h.cell (p := ⟨w.heap.size, 0, none⟩) (by simp)).trans (by rw [cell_of_row _ w.heap.size 0 _ 44 (0, 0) (heap_alloc_new w _)]; rfl), (h.cell (p := ⟨w.heap.size, 1, none⟩) (by simp)).trans (by rw [cell_of_row _ w.heap.size 1 _ 44 (0, 0) (heap_alloc_new w _)]; rfl), (h.cell (p := ⟨w.heap.size, 2, none⟩) (by simp)).trans (by rw [cell_of_row _ w.heap.size 2 _ 44 (0, 0) (heap_alloc_new w _)]; rfl)⟩
theorem box_free (w : World) (neg : Bool) (s : ByteArray) (e : Int) {w' : World} (h : Below (w.alloc (.cells #[.bool neg, .string s, .int .i64 e] 44)).heap.size (w.alloc (.cells #[.bool neg, .string s, .int .i64 e] 44)) w') (j : Nat) : w'.frozen? ⟨w.heap.size, j, none⟩ = false :=
  (h.frozen (p := ⟨w.heap.size, j, none⟩) (by simp)).trans ((World.frozen?_alloc_mark w _ _ 0 0 j).trans (by simp))

end Go.Proofs.YtbhfnigblhfikaaGreatDoor

/- The walk over dyad.made. -/
namespace Go.Proofs.YtbhfnigblhfikaaGreatDoor
open Go Go.RowKit Go.PlainAid Fil

/-- what made answers: is there such a Dyad? its sign, magnitude, power; the error -/
def mkOk (z e : Int) : Bool := decide (z = 0) || (decide (Fil.dn 8 (z.natAbs / 2 ^ tz z.natAbs) ≤ 16384) && decide (-1048576 ≤ e + tz z.natAbs) && decide (e + tz z.natAbs ≤ 1048576))
def mkN (z e : Int) : Bool := mkOk z e && sg z
def mkX (z e : Int) : Nat := if mkOk z e then z.natAbs / 2 ^ tz z.natAbs else 0
def mkE (z e : Int) : Int := if mkOk z e && decide (z ≠ 0) then e + tz z.natAbs else 0
def mkR (z e : Int) : Int := if mkOk z e then 0 else 4
theorem mk_zero (e : Int) : mkOk 0 e = true ∧ mkN 0 e = false ∧ mkX 0 e = 0 ∧ mkE 0 e = 0 ∧ mkR 0 e = 0 := by
  have h : mkOk 0 e = true := by simp [mkOk]
  refine ⟨h, by simp [mkN, h, sg], by simp [mkX, h], by simp [mkE], by simp [mkR, h]⟩
theorem mk_bad {z e : Int} (h : mkOk z e = false) : mkN z e = false ∧ mkX z e = 0 ∧ mkE z e = 0 ∧ mkR z e = 4 := by
  refine ⟨by simp [mkN, h], by simp [mkX, h], by simp [mkE, h], by simp [mkR, h]⟩
theorem mk_good {z e : Int} (h : mkOk z e = true) (hz : z ≠ 0) : mkN z e = sg z ∧ mkX z e = z.natAbs / 2 ^ tz z.natAbs ∧ mkE z e = e + tz z.natAbs ∧ mkR z e = 0 := by
  refine ⟨by simp [mkN, h], by simp [mkX, h], by simp [mkE, h, hz], by simp [mkR, h]⟩
theorem mkOk_no1 {z e : Int} (hz : z ≠ 0) (h : ¬ Fil.dn 8 (z.natAbs / 2 ^ tz z.natAbs) ≤ 16384) : mkOk z e = false := by
  unfold mkOk; rw [decide_eq_false hz, decide_eq_false h]; rfl
theorem mkOk_no2 {z e : Int} (hz : z ≠ 0) (h : ¬ -1048576 ≤ e + tz z.natAbs) : mkOk z e = false := by
  unfold mkOk; rw [decide_eq_false hz, decide_eq_false h]; simp
theorem mkOk_no3 {z e : Int} (hz : z ≠ 0) (h : ¬ e + tz z.natAbs ≤ 1048576) : mkOk z e = false := by
  unfold mkOk; rw [decide_eq_false hz, decide_eq_false h]; simp
theorem mkOk_yes {z e : Int} (h1 : Fil.dn 8 (z.natAbs / 2 ^ tz z.natAbs) ≤ 16384) (h2 : -1048576 ≤ e + tz z.natAbs) (h3 : e + tz z.natAbs ≤ 1048576) : mkOk z e = true := by
  unfold mkOk; rw [decide_eq_true h1, decide_eq_true h2, decide_eq_true h3]; simp
theorem run_back (w : World) (g x : Nat) (h : w.rowIs g 5 (Fil.dn 8 x) (fun i => b8 x (Fil.dn 8 x - 1 - i))) (c : Nat) :
    (convert 92 22 (.slice (some ⟨g, 0, none⟩) (Fil.dn 8 x) c)).run Tryz.prog w = .ok (.string (bstr x)) w := by
  have := run_convert_bytes_back (P := Tryz.prog) w 92 22 5 ⟨g, 0, none⟩ c (bs x) Tryz.underlying92 Tryz.underlying5 Tryz.underlying22 (fun j hj => by
    have hj' : j < Fil.dn 8 x := by rw [bs_length] at hj; exact hj
    have h1 := h.cell hj'
    have e : (Addr.add ⟨g, 0, none⟩ j) = ⟨g, j, none⟩ := by unfold Addr.add; split <;> simp_all
    rw [e, h1, bs_get]; rfl)
  rw [bs_length] at this
  exact this

theorem tz_small {x : Nat} (h : Fil.dn 32 x ≤ 1048576) : tz x ≤ 33554432 := by
  by_cases h0 : x = 0
  · subst h0; rw [tz_zero]; omega
  · have h1 := tz_le_log h0
    have h2 := lt_of_dn (k := 32) (by omega) h
    have := (Nat.log2_lt h0).2 h2
    omega

theorem shrZ_nat (x k : Nat) : shrZ (x : Int) k = ((x / 2 ^ k : Nat) : Int) := by
  unfold shrZ sz sg
  have h : ¬ ((x : Int) < 0) := by omega
  simp [h]
theorem sign_sg (z : Int) : decide (z.sign < 0) = sg z := by
  unfold sg
  rcases Int.lt_trichotomy z 0 with h | h | h
  · rw [Int.sign_eq_neg_one_of_neg h]; simp [h]
  · subst h; rfl
  · rw [Int.sign_eq_one_of_pos h]; simp; omega
theorem bstr_zero : bstr 0 = { data := #[] } := by unfold bstr; rw [bs_zero]
/-- an answer of a Dyad and an error -/
def dyR (neg : Bool) (x : Nat) (e r : Int) : Value := .tuple #[.agg #[.bool neg, .string (bstr x), .int .i64 e], .int .i64 r]
theorem dyR_eq {neg neg' : Bool} {x x' : Nat} {e e' r r' : Int} (h : neg = neg' ∧ x = x' ∧ e = e' ∧ r = r') : Ending.returned (dyR neg x e r) = .returned (dyR neg' x' e' r') := by
  obtain ⟨rfl, rfl, rfl, rfl⟩ := h; rfl
theorem dyR_none {neg : Bool} {x : Nat} {e r r' : Int} (h : neg = false ∧ x = 0 ∧ e = 0 ∧ r = r') : Ending.returned (.tuple #[.agg #[.bool false, .string { data := #[] }, .int .i64 0], .int .i64 r']) = .returned (dyR neg x e r) := by
  obtain ⟨rfl, rfl, rfl, rfl⟩ := h; rw [← bstr_zero]; rfl

set_option maxHeartbeats 4000000 in
theorem made_any (b o : Nat) (z e : Int) (w : World) (h : IntAt w b o z) (hz : Fil.dn 32 z.natAbs ≤ 1048576) (hT : Tab w) (he1 : -9223372036854775808 ≤ e) (he2 : e ≤ 9223372036854775807) :
    Calls Tryz.prog 63 #[.pointer (some ⟨b, o, none⟩), .int .i64 e] w fun r w' => r = .returned (dyR (mkN z e) (mkX z e) (mkE z e) (mkR z e)) ∧ Below w.heap.size w w' := by
  have hb0 : Below w.heap.size w (w.alloc (.cells #[.bool false, .string ByteArray.empty, .int .i64 0] 44)) := (Below.refl _ _).alloc (Nat.le_refl _) _
  have l0 := h.lt
  by_cases h0 : z = 0
  · subst h0
    obtain ⟨_, m1, m2, m3, m4⟩ := mk_zero e
    have H := Lib.hid (And.intro m1 (And.intro m2 (And.intro m3 m4)))
    clear m1 m2 m3 m4 he1 he2
    go_enter Tryz.func63, Tryz.ntmps63
    go_wp2_with (go_at_call 54; go_must (refine (sign_any b o 0 _ (h.alloc _)).mono ?_); rintro r w1 ⟨rfl, rfl⟩)
    go_returns
    exact ⟨dyR_none H.out, (Below.refl _ _).alloc (Nat.le_refl _) _⟩
  · have hzs : (z.sign == 0) = false := by
      rcases Int.lt_or_gt_of_ne h0 with h1 | h1
      · rw [Int.sign_eq_neg_one_of_neg h1]; rfl
      · rw [Int.sign_eq_one_of_pos h1]; rfl
    have ht := tz_small hz
    have ht0 : 0 ≤ (tz z.natAbs : Int) := by omega
    by_cases hf : 1099511627776 < e
    · have hk : mkOk z e = false := mkOk_no3 h0 (by omega)
      obtain ⟨m1, m2, m3, m4⟩ := mk_bad hk
      have H := Lib.hid (And.intro m1 (And.intro m2 (And.intro m3 m4)))
      clear m1 m2 m3 m4 hk ht0 ht
      go_enter Tryz.func63, Tryz.ntmps63
      go_wp2_with (go_at_call 54; go_must (refine (sign_any b o z _ (h.alloc _)).mono ?_); rintro r w1 ⟨rfl, rfl⟩)
      go_returns
      exact ⟨dyR_none H.out, (Below.refl _ _).alloc (Nat.le_refl _) _⟩
    · by_cases hf2 : e < -1099511627776
      · have hk : mkOk z e = false := mkOk_no2 h0 (by omega)
        obtain ⟨m1, m2, m3, m4⟩ := mk_bad hk
        have H := Lib.hid (And.intro m1 (And.intro m2 (And.intro m3 m4)))
        clear m1 m2 m3 m4 hk ht0 ht
        go_enter Tryz.func63, Tryz.ntmps63
        go_wp2_with (go_at_call 54; go_must (refine (sign_any b o z _ (h.alloc _)).mono ?_); rintro r w1 ⟨rfl, rfl⟩)
        go_returns
        exact ⟨dyR_none H.out, (Below.refl _ _).alloc (Nat.le_refl _) _⟩
      · have hT1 := Lib.hid (hT.alloc (.cells #[.bool false, .string { data := #[] }, .int .i64 0] 44))
        have hd := Nat.le_trans hz (show 1048576 ≤ 1099511627776 by omega)
        have hle := Nat.div_le_self z.natAbs (2 ^ tz z.natAbs)
        have hz2 : Fil.dn 32 (z.natAbs / 2 ^ tz z.natAbs) ≤ 1048576 := Nat.le_trans (dn_mono (by omega) hle) hz
        have hHT := Lib.hid hT
        have H0 := Lib.hid h0
        clear hT hle h0
        go_enter Tryz.func63, Tryz.ntmps63
        go_wp2_with (first
          | (go_at_call 54; go_must (refine (sign_any b o z _ (h.alloc _)).mono ?_); rintro r w1 ⟨rfl, rfl⟩)
          | (go_at_call 88; go_must (refine (tzb_any b o z _ (h.alloc _) hd hT1.out).mono ?_); rintro r w1 ⟨rfl, rfl⟩))
        have hbA : Below w.heap.size w ((w.alloc (Obj.cells #[Value.bool false, Value.string { data := #[] }, Value.int IntKind.i64 0] 44)).alloc (Obj.cells #[Value.bool false, Value.slice none 0 0] 58)) := ((Below.refl _ _).alloc (Nat.le_refl _) _).alloc (by simp) _
        have hrA := Room.new (o := 0) (w.alloc (Obj.cells #[Value.bool false, Value.string { data := #[] }, Value.int IntKind.i64 0] 44)) 58 #[Value.bool false, Value.slice none 0 0] (by decide) (by simp)
        have hrB := Room.new (o := 0) ((w.alloc (Obj.cells #[Value.bool false, Value.string { data := #[] }, Value.int IntKind.i64 0] 44)).alloc (Obj.cells #[Value.bool false, Value.slice none 0 0] 58)) 58 #[Value.bool false, Value.slice none 0 0] (by decide) (by simp)
        have hxA : Below (w.alloc (Obj.cells #[Value.bool false, Value.string { data := #[] }, Value.int IntKind.i64 0] 44)).heap.size (w.alloc (Obj.cells #[Value.bool false, Value.string { data := #[] }, Value.int IntKind.i64 0] 44)) _ := ((Below.refl _ _).alloc (Nat.le_refl _) (Obj.cells #[Value.bool false, Value.slice none 0 0] 58)).alloc (by simp) (Obj.cells #[Value.bool false, Value.slice none 0 0] 58)
        have hbB := hbA.alloc hbA.size (Obj.cells #[Value.bool false, Value.slice none 0 0] 58)
        have hs1 : (w.alloc (Obj.cells #[Value.bool false, Value.string { data := #[] }, Value.int IntKind.i64 0] 44)).heap.size = w.heap.size + 1 := by simp
        have hs2 : ((w.alloc (Obj.cells #[Value.bool false, Value.string { data := #[] }, Value.int IntKind.i64 0] 44)).alloc (Obj.cells #[Value.bool false, Value.slice none 0 0] 58)).heap.size = w.heap.size + 1 + 1 := by simp
        rw [hs1] at hrA
        rw [hs2] at hrB
        have hrA2 := hrA.alloc (Obj.cells #[Value.bool false, Value.slice none 0 0] 58)
        have hI0 := h.below hbB
        have hT2 := hHT.out.below hbB
        refine (abs_any (w.heap.size + 1 + 1) 0 b o z _ hrB hI0 hd).mono ?_
        rintro r w1 ⟨rfl, hI1, hB1⟩
        have hx1 := hxA.trans (hB1.below (by rw [hs1]; omega) hxA.size)
        have hb1 : Below w.heap.size w w1 := hbB.trans (hB1.below (by omega) hbB.size)
        have hrA3 := hrA2.but hB1
        have hT3 := Lib.hid (hHT.out.below hb1)
        clear hrA hrB hrA2 hI0 hT2 hbA hbB hs2 hb0 hxA
        have Hs1 := Lib.hid hs1
        have Hx1 := Lib.hid hx1
        clear hs1 hx1
        go_wp2_with fail
        refine (rsh_any (w.heap.size + 1) 0 (w.heap.size + 1 + 1) 0 (tz z.natAbs) (z.natAbs : Int) _ hrA3 hI1 (by rw [Int.natAbs_natCast]; omega) (by omega) hT3.out).mono ?_
        rintro r w2 ⟨rfl, hI2, hB2⟩
        rw [shrZ_nat] at hI2
        have hx2 := Lib.hid (Hx1.out.trans (hB2.below (by rw [Hs1.out]; omega) Hx1.out.size))
        have hb2 : Below w.heap.size w w2 := hb1.trans (hB2.below (by omega) hb1.size)
        go_wp2_with fail
        refine (bytes_any (w.heap.size + 1) 0 _ _ hI2 (by rw [Int.natAbs_natCast]; omega)).mono ?_
        rintro r w3 ⟨rfl, hrow, hb3⟩
        rw [Int.natAbs_natCast] at hrow ⊢
        have hb4 : Below w.heap.size w w3 := hb2.trans (hb3.mono hb2.size)
        have hI4 := h.below hb4
        have hx3 := hx2.out.trans (hb3.mono hx2.out.size)
        obtain ⟨c0, c1, c2⟩ := box_cells w false { data := #[] } 0 hx3
        have f0 := box_free w false { data := #[] } 0 hx3 0
        have f1 := box_free w false { data := #[] } 0 hx3 1
        have f2 := box_free w false { data := #[] } 0 hx3 2
        have hrb := Lib.hid (run_back w3.drew w2.heap.size (z.natAbs / 2 ^ tz z.natAbs) hrow)
        have hz1 := H0.out
        have hbZ : Below w.heap.size w (((w3.setCell ⟨w.heap.size, 0, none⟩ (.bool false)).setCell ⟨w.heap.size, 1, none⟩ (.string { data := #[] })).setCell ⟨w.heap.size, 2, none⟩ (.int .i64 0)) := ((hb4.setCell (Nat.le_refl _) _).setCell (Nat.le_refl _) _).setCell (Nat.le_refl _) _
        have hM : Fil.dn 8 (z.natAbs / 2 ^ tz z.natAbs) ≤ 4294967296 := by
          have h1 := dn8_le32 (z.natAbs / 2 ^ tz z.natAbs)
          omega
        clear hrow hb3 hI2 hB2 hx3 hB1 hI1 Hx1 hx2 Hs1 hT3 hb1 hb2 hHT hT1 hrA3
        have HI4 := Lib.hid hI4
        have HT := Lib.hid ht
        clear hI4 hz2
        by_cases g1 : Fil.dn 8 (z.natAbs / 2 ^ tz z.natAbs) ≤ 16384
        · by_cases g2 : e + (tz z.natAbs : Int) ≤ 1048576
          · by_cases g3 : -1048576 ≤ e + (tz z.natAbs : Int)
            · have H := Lib.hid (mk_good (mkOk_yes g1 g3 g2) hz1)
              clear hz1 hbZ
              go_wp2
              refine wp_region_cut 7 (by kernel_rfl) (by kernel_rfl) ?_
              rintro W rfl
              simp only [List.take_succ_cons, List.take_zero, List.drop_succ_cons, List.drop_zero]
              refine wpAny_of_held (S := fun w' : World => w' = w3.drew) _ _ _ _ ?_
              have hHeld : (fun w' : World => w' = w3.drew) w3.drew := rfl
              have hrb2 := hrb.out
              refine wpAnyH_take (i := 0) (v := _) (by first | (simp only [List.getElem?_toArray, List.getElem?_cons_zero]; rfl) | rfl) (by kernel_rfl) (by kernel_rfl) (by kernel_rfl) (by exact fun _ _ _ h => h) (Or.inl ⟨by rfl, by (intro w hSw; (try dsimp only at hSw); go_simp; try with_reducible rfl)⟩) (by assumption) ?_
              (try dsimp only [Act.put]); (try go_frame)
              refine wpAnyH_take (i := 3) (v := _) (by first | (simp only [List.getElem?_toArray, List.getElem?_cons_zero, List.getElem?_cons_succ]; rfl) | rfl) (by kernel_rfl) (by kernel_rfl) (by kernel_rfl) (by exact fun _ _ _ h => h) (Or.inl ⟨by rfl, by (intro w hSw; (try dsimp only at hSw); go_simp; try with_reducible rfl)⟩) (by assumption) ?_
              (try dsimp only [Act.put]); (try go_frame)
              refine wpAnyH_take (i := 4) (v := _) (by first | (simp only [List.getElem?_toArray, List.getElem?_cons_zero, List.getElem?_cons_succ]; rfl) | rfl) (by kernel_rfl) (by kernel_rfl) (by kernel_rfl) (by exact fun _ _ _ h => h) (Or.inl ⟨by rfl, by (intro w hSw; (try dsimp only at hSw); go_simp; try with_reducible rfl)⟩) (by assumption) ?_
              (try dsimp only [Act.put]); (try go_frame)
              refine wpAnyH_take (i := 5) (v := _) (by first | (simp only [List.getElem?_toArray, List.getElem?_cons_zero, List.getElem?_cons_succ]; rfl) | rfl) (by kernel_rfl) (by kernel_rfl) (by kernel_rfl) (by exact fun _ _ _ h => h) (Or.inl ⟨by rfl, by (intro w hSw; (try dsimp only at hSw); go_simp; try with_reducible rfl)⟩) (by assumption) ?_
              (try dsimp only [Act.put]); (try go_frame)
              refine wpAnyH_ready (rs := [1]) (by kernel_rfl) (by simp) ?_
              refine AllReadyH.cons rfl (fun K hK => ?_) AllReadyH.nil
              go_simp
              refine (sign_any b o z w3.drew (by exact HI4.out)).mono ?_
              rintro r w4 ⟨rfl, rfl⟩
              refine hK.out _ _ ?_ (fun hHeld => ?_)
              · rfl
              clear hK K
              (try dsimp only [Act.put]); (try go_frame)
              refine wpAnyH_take (i := 2) (v := _) (by first | (simp only [List.getElem?_toArray, List.getElem?_cons_zero, List.getElem?_cons_succ]; rfl) | rfl) (by kernel_rfl) (by kernel_rfl) (by kernel_rfl) (by exact fun _ _ _ h => h) (Or.inl ⟨by rfl, by (intro w hSw; (try dsimp only at hSw); go_simp; try with_reducible rfl)⟩) (by assumption) ?_
              (try dsimp only [Act.put]); (try go_frame)
              refine wpAnyH_take (i := 6) (v := _) (by first | (simp only [List.getElem?_toArray, List.getElem?_cons_zero, List.getElem?_cons_succ]; rfl) | rfl) (by kernel_rfl) (by kernel_rfl) (by kernel_rfl) (by exact fun _ _ _ h => h) (Or.inl ⟨by rfl, by (intro w hSw; (try dsimp only at hSw); go_simp; try with_reducible rfl)⟩) (by assumption) ?_
              (try dsimp only [Act.put]); (try go_frame)
              refine wpAnyH_done (by kernel_rfl) ?_ _
              try simp only [QCut]
              go_wp2
              exact bodyPost_ret (v := .tuple #[.agg #[.bool (decide (z.sign < 0)), .string (bstr (z.natAbs / 2 ^ tz z.natAbs)), .int .i64 (e + (tz z.natAbs : Int))], .int .i64 0]) (by simp [results, Tryz.results63, go_sem, c0, c1, c2]) rfl
                ⟨dyR_eq ⟨(sign_sg z).trans H.out.1.symm, H.out.2.1.symm, H.out.2.2.1.symm, H.out.2.2.2.symm⟩, ((hb4.drew.setCell (Nat.le_refl _) _).setCell (Nat.le_refl _) _).setCell (Nat.le_refl _) _⟩
            · have H := Lib.hid (mk_bad (mkOk_no2 hz1 g3))
              clear hz1
              go_wp2
              exact bodyPost_ret (v := .tuple #[.agg #[.bool false, .string { data := #[] }, .int .i64 0], .int .i64 4]) (by simp [results, Tryz.results63, go_sem, c0, c1, c2]) rfl ⟨dyR_none H.out, hbZ⟩
          · have H := Lib.hid (mk_bad (mkOk_no3 hz1 g2))
            clear hz1
            go_wp2
            exact bodyPost_ret (v := .tuple #[.agg #[.bool false, .string { data := #[] }, .int .i64 0], .int .i64 4]) (by simp [results, Tryz.results63, go_sem, c0, c1, c2]) rfl ⟨dyR_none H.out, hbZ⟩
        · have H := Lib.hid (mk_bad (e := e) (mkOk_no1 hz1 g1))
          clear hz1
          go_wp2
          exact bodyPost_ret (v := .tuple #[.agg #[.bool false, .string { data := #[] }, .int .i64 0], .int .i64 4]) (by simp [results, Tryz.results63, go_sem, c0, c1, c2]) rfl ⟨dyR_none H.out, hbZ⟩
end Go.Proofs.YtbhfnigblhfikaaGreatDoor

/- The walks over dyad.Sign, Top, Neg, Abs. -/
namespace Go.Proofs.YtbhfnigblhfikaaGreatDoor
open Go Go.RowKit Go.PlainAid Fil

theorem bstr_ne {x : Nat} (h : x ≠ 0) : (bstr x).toList.isEmpty = false ∧ (bstr x).toList ≠ [] := by
  have h1 := str_cons (s := bstr x) (by rw [bstr_size]; exact dn_pos h)
  exact ⟨h1, fun h2 => by rw [h2] at h1; cases h1⟩
theorem bstr_nil : (bstr 0).toList = [] := by rw [bstr_toList, bs_zero]
/-- a Dyad in a block of its own -/
structure DyAt (w : World) (b : Nat) (neg : Bool) (s : ByteArray) (e : Int) : Prop where
  c0 : w.cell? ⟨b, 0, none⟩ = some (.bool neg)
  c1 : w.cell? ⟨b, 1, none⟩ = some (.string s)
  c2 : w.cell? ⟨b, 2, none⟩ = some (.int .i64 e)
  f0 : w.frozen? ⟨b, 0, none⟩ = false
  f1 : w.frozen? ⟨b, 1, none⟩ = false
  f2 : w.frozen? ⟨b, 2, none⟩ = false
theorem DyAt.below {w w' : World} {b B : Nat} {neg : Bool} {s : ByteArray} {e : Int} (h : DyAt w b neg s e) (hb : Below B w w') (hB : b < B) : DyAt w' b neg s e :=
  ⟨(hb.cell hB).trans h.c0, (hb.cell hB).trans h.c1, (hb.cell hB).trans h.c2, (hb.frozen hB).trans h.f0, (hb.frozen hB).trans h.f1, (hb.frozen hB).trans h.f2⟩
theorem DyAt.new (w : World) (b : Nat) (neg : Bool) (s : ByteArray) (e : Int) {w' : World} (hs : w.heap.size = b) (h : Below (b + 1) (w.alloc (.cells #[.bool neg, .string s, .int .i64 e] 44)) w') : DyAt w' b neg s e := by
  subst hs
  have h' : Below (w.alloc (.cells #[.bool neg, .string s, .int .i64 e] 44)).heap.size (w.alloc (.cells #[.bool neg, .string s, .int .i64 e] 44)) w' := h.mono (by simp)
  obtain ⟨c0, c1, c2⟩ := box_cells w neg s e h'
  exact ⟨c0, c1, c2, box_free w neg s e h' 0, box_free w neg s e h' 1, box_free w neg s e h' 2⟩

end Go.Proofs.YtbhfnigblhfikaaGreatDoor

/- made's law, Dyads' values, dyad.Of, Add, cut where nothing is cut off. -/
/- made's answer, as a law of numbers: no program in sight. -/
namespace Go.Proofs.YtbhfnigblhfikaaGreatDoor
open Go Go.RowKit Go.PlainAid Fil

/-- made's answer as a value -/
def mkV (z e : Int) : Value := dyR (mkN z e) (mkX z e) (mkE z e) (mkR z e)

theorem abs_shl (z : Int) (k : Nat) : (z * 2 ^ k).natAbs = z.natAbs * 2 ^ k := by
  rw [Int.natAbs_mul]
  congr 1
theorem ppi (k : Nat) : (0 : Int) < 2 ^ k := by
  have : ((2 : Int) ^ k) = ((2 ^ k : Nat) : Int) := by push_cast; rfl
  rw [this]; have := pp k; omega
theorem sg_shl (z : Int) (k : Nat) : sg (z * 2 ^ k) = sg z := by
  unfold sg
  have h2 := ppi k
  by_cases h : z < 0
  · rw [decide_eq_true h, decide_eq_true (Int.mul_neg_of_neg_of_pos h h2)]
  · have : ¬ z * 2 ^ k < 0 := by
      have := Int.mul_nonneg (show 0 ≤ z by omega) (Int.le_of_lt h2)
      omega
    rw [decide_eq_false h, decide_eq_false this]
theorem shl_ne (z : Int) (k : Nat) : z * 2 ^ k = 0 ↔ z = 0 := by
  constructor
  · intro h
    rcases Int.mul_eq_zero.1 h with h | h
    · exact h
    · have := ppi k; omega
  · rintro rfl; rw [Int.zero_mul]
theorem odd_part_shl {x : Nat} (k : Nat) (h : x ≠ 0) : x * 2 ^ k / 2 ^ tz (x * 2 ^ k) = x / 2 ^ tz x := by
  rw [tz_shift h, Nat.add_comm, Nat.pow_add, ← Nat.div_div_eq_div_mul, Nat.mul_div_cancel _ (pp k)]
theorem mkOk_shl (z : Int) (k : Nat) (e : Int) : mkOk (z * 2 ^ k) e = mkOk z (e + k) := by
  by_cases h : z = 0
  · subst h; rw [Int.zero_mul]; simp [mkOk]
  · have hx : z.natAbs ≠ 0 := by omega
    have h2 : ¬ z * 2 ^ k = 0 := fun h3 => h ((shl_ne z k).1 h3)
    unfold mkOk
    rw [decide_eq_false h, decide_eq_false h2, abs_shl, odd_part_shl k hx, tz_shift hx, show e + ((tz z.natAbs + k : Nat) : Int) = e + k + tz z.natAbs by omega]
theorem mkN_shl (z : Int) (k : Nat) (e : Int) : mkN (z * 2 ^ k) e = mkN z (e + k) := by unfold mkN; rw [mkOk_shl, sg_shl]
theorem mkX_shl (z : Int) (k : Nat) (e : Int) : mkX (z * 2 ^ k) e = mkX z (e + k) := by
  unfold mkX; rw [mkOk_shl, abs_shl]
  by_cases h : z = 0
  · subst h; simp
  · rw [odd_part_shl k (by omega)]
theorem mkE_shl (z : Int) (k : Nat) (e : Int) : mkE (z * 2 ^ k) e = mkE z (e + k) := by
  unfold mkE; rw [mkOk_shl, abs_shl]
  by_cases h : z = 0
  · subst h; simp
  · have h2 : z * 2 ^ k ≠ 0 := fun h3 => h ((shl_ne z k).1 h3)
    rw [tz_shift (by omega), decide_eq_true h, decide_eq_true h2, show e + ((tz z.natAbs + k : Nat) : Int) = e + k + tz z.natAbs by omega]
theorem mkR_shl (z : Int) (k : Nat) (e : Int) : mkR (z * 2 ^ k) e = mkR z (e + k) := by unfold mkR; rw [mkOk_shl]
theorem mkV_shl (z : Int) (k : Nat) (e : Int) : mkV (z * 2 ^ k) e = mkV z (e + k) := by
  unfold mkV; rw [mkN_shl, mkX_shl, mkE_shl, mkR_shl]
theorem mkV_zero (e : Int) : mkV 0 e = dyR false 0 0 0 := by
  obtain ⟨_, h1, h2, h3, h4⟩ := mk_zero e
  unfold mkV; rw [h1, h2, h3, h4]
theorem sg_sz {neg : Bool} {x : Nat} (h : x ≠ 0) : sg (sz neg x) = neg := by
  unfold sg sz; cases neg <;> simp <;> omega
theorem mkOk_id {neg : Bool} {x : Nat} {e : Int} (h : okD neg x e) : mkOk (sz neg x) e = true := by
  rcases h with ⟨rfl, rfl, rfl⟩ | ⟨h1, h2, h3, h4⟩
  · exact (mk_zero 0).1
  · refine mkOk_yes ?_ ?_ ?_ <;> rw [sz_abs, tz_odd h1]
    · simpa using h2
    · simpa using h3
    · simpa using h4
/-- a Dyad that may be is made's answer of itself -/
theorem mkV_id {neg : Bool} {x : Nat} {e : Int} (h : okD neg x e) : mkV (sz neg x) e = dyR neg x e 0 := by
  have hk := mkOk_id h
  rcases h with ⟨rfl, rfl, rfl⟩ | ⟨h1, h2, h3, h4⟩
  · exact mkV_zero 0
  · have hx : x ≠ 0 := by omega
    have hz : sz neg x ≠ 0 := fun h => hx (by rw [← sz_abs neg x, h]; rfl)
    obtain ⟨m1, m2, m3, m4⟩ := mk_good hk hz
    unfold mkV
    rw [m1, m2, m3, m4, sz_abs, tz_odd h1, sg_sz hx, Nat.pow_zero, Nat.div_one]
    simp

end Go.Proofs.YtbhfnigblhfikaaGreatDoor

/- Dyads' values at one low power: plain arithmetic, no program in sight. -/
namespace Go.Proofs.YtbhfnigblhfikaaGreatDoor
open Go Go.RowKit Go.PlainAid Fil

/-- a power below all that are met -/
def lowM : Nat := 8388608
theorem lowM_ge : (8388608 : Int) ≤ (lowM : Int) := by unfold lowM; omega
/-- the number z times 2^e, as a multiple of the low power -/
def W (z e : Int) : Int := z * 2 ^ (e + lowM).toNat

/-- a Dyad as it stands -/
structure DY where
  n : Bool
  x : Nat
  e : Int
namespace DY
def ok (a : DY) : Prop := okD a.n a.x a.e
def z (a : DY) : Int := sz a.n a.x
/-- the value at the low power -/
def v (a : DY) : Int := W a.z a.e
def zero : DY := ⟨false, 0, 0⟩
end DY
theorem DY.ok.lo {a : DY} (h : a.ok) : -(lowM : Int) ≤ a.e := by have h1 := okD.e1 h; have := lowM_ge; omega
/-- made's Dyad -/
def mkD (z e : Int) : DY := ⟨mkN z e, mkX z e, mkE z e⟩
theorem DY.eta {a b : DY} (h1 : a.n = b.n) (h2 : a.x = b.x) (h3 : a.e = b.e) : a = b := by
  cases a; cases b; simp only at h1 h2 h3; subst h1; subst h2; subst h3; rfl
theorem mkD_id {a : DY} (h : a.ok) : mkD a.z a.e = a := by
  have hk := mkOk_id h
  by_cases hz : a.z = 0
  · have hx : a.x = 0 := by rw [← sz_abs a.n a.x]; unfold DY.z at hz; rw [hz]; rfl
    obtain ⟨_, m1, m2, m3, _⟩ := mk_zero a.e
    rcases h with ⟨h1, h2, h3⟩ | h
    · refine DY.eta ?_ ?_ ?_ <;> simp only [mkD, hz]
      · rw [m1, h2]
      · rw [m2, h1]
      · rw [m3, h3]
    · omega
  · have hx : a.x ≠ 0 := fun h0 => hz (by unfold DY.z; rw [h0]; cases a.n <;> rfl)
    rcases h with ⟨h1, _⟩ | ⟨h1, h2, h3, h4⟩
    · exact absurd h1 hx
    · obtain ⟨m1, m2, m3, _⟩ := mk_good hk hz
      refine DY.eta ?_ ?_ ?_ <;> unfold mkD <;> simp only [DY.z] at *
      · rw [m1, sg_sz hx]
      · rw [m2, sz_abs, tz_odd h1]; simp
      · rw [m3, sz_abs, tz_odd h1]; simp
theorem mkD_W (z : Int) {e : Int} (h : -(lowM : Int) ≤ e) : mkD z e = mkD (W z e) (-(lowM : Int)) := by
  have h1 : -(lowM : Int) + ((e + lowM).toNat : Int) = e := by omega
  unfold mkD W
  rw [mkN_shl, mkX_shl, mkE_shl, h1]
theorem mkD_congr {z z' e e' : Int} (h : W z e = W z' e') (he : -(lowM : Int) ≤ e) (he' : -(lowM : Int) ≤ e') : mkD z e = mkD z' e' := by
  rw [mkD_W z he, mkD_W z' he', h]
/-- one value, one Dyad -/
theorem DY.inj {a b : DY} (ha : a.ok) (hb : b.ok) (h : a.v = b.v) : a = b := by
  rw [← mkD_id ha, ← mkD_id hb]; exact mkD_congr h ha.lo hb.lo
end Go.Proofs.YtbhfnigblhfikaaGreatDoor

/- The walks over dyad.Of, Add. -/
namespace Go.Proofs.YtbhfnigblhfikaaGreatDoor
open Go Go.RowKit Go.PlainAid Fil

set_option maxHeartbeats 1000000 in
theorem dof_any (z e : Int) (w : World) (hT : Tab w) (h0 : -9223372036854775808 ≤ z) (h1 : z ≤ 9223372036854775807) (he1 : -9223372036854775808 ≤ e) (he2 : e ≤ 9223372036854775807) :
    Calls Tryz.prog 39 #[.int .i64 z, .int .i64 e] w fun r w' => r = .returned (mkV z e) ∧ Below w.heap.size w w' := by
  have hT' := hT.alloc (Obj.cells #[.bool false, .string { data := #[] }, .int .i64 0] 44)
  have hd : Fil.dn 32 z.natAbs ≤ 2 := dn_le (by omega) (by omega)
  go_enter Tryz.func39, Tryz.ntmps39
  go_wp2_with fail
  refine (newint_any z _ h0 h1).mono ?_
  rintro r w1 ⟨rfl, hI, hb1⟩
  have hs1 : (w.alloc (Obj.cells #[.bool false, .string { data := #[] }, .int .i64 0] 44)).heap.size = w.heap.size + 1 := by simp
  have hT1 := hT'.below hb1
  rw [hs1] at hI hb1
  go_wp2_with fail
  refine (made_any _ 0 z e w1 hI (by omega) hT1 he1 he2).mono ?_
  rintro r w2 ⟨rfl, hb2⟩
  obtain ⟨c0, c1, c2, f0, f1, f2⟩ := DyAt.new w w.heap.size false { data := #[] } 0 rfl (hb1.trans (hb2.mono hb1.size |>.mono (by omega)))
  have hB : Below w.heap.size w w2 := ((Below.refl _ _).alloc (Nat.le_refl _) _).trans ((hb1.mono (by omega)).trans (hb2.mono (by have := hb1.size; omega)))
  have hbZ : Below w.heap.size w (((w2.setCell ⟨w.heap.size, 0, none⟩ (.bool (mkN z e))).setCell ⟨w.heap.size, 1, none⟩ (.string (bstr (mkX z e)))).setCell ⟨w.heap.size, 2, none⟩ (.int .i64 (mkE z e))) := ((hB.setCell (Nat.le_refl _) _).setCell (Nat.le_refl _) _).setCell (Nat.le_refl _) _
  clear hb1 hb2 hB hI hT1 hT' hd
  unfold dyR
  go_wp2
  exact bodyPost_ret (v := .tuple #[.agg #[.bool (mkN z e), .string (bstr (mkX z e)), .int .i64 (mkE z e)], .int .i64 (mkR z e)]) (by simp [results, Tryz.results39, go_sem, c0, c1, c2]) rfl ⟨rfl, hbZ⟩

theorem sz_zero (neg : Bool) : sz neg 0 = 0 := by cases neg <;> rfl

end Go.Proofs.YtbhfnigblhfikaaGreatDoor

/- The walk over dyad.cut, where nothing is cut off. -/
namespace Go.Proofs.YtbhfnigblhfikaaGreatDoor
open Go Go.RowKit Go.PlainAid Fil

end Go.Proofs.YtbhfnigblhfikaaGreatDoor

/- The reference's first functions. -/
/- The walks over the reference's May, Sign, Neg. -/
namespace Go.Proofs.YtbhfnigblhfikaaGreatDoor
open Go Go.RowKit Go.PlainAid Fil

end Go.Proofs.YtbhfnigblhfikaaGreatDoor

/- The reference's numbers of any length: rows of the call's own; the walk over of. -/
namespace Go.Proofs.YtbhfnigblhfikaaGreatDoor
open Go Go.RowKit Go.PlainAid Fil

/-- a row of whole numbers that the call has made -/
def Own (w : World) (B : Nat) (v : Value) (n : Nat) (f : Nat → Int) : Prop := w.ownsRow B 3 1 v n ((List.range n).map fun i => .int .i64 (f i))
theorem Own.nil (w : World) (B : Nat) (f : Nat → Int) : Own w B (.slice none 0 0) 0 f := World.ownsRow_nil _ _ _ _
end Go.Proofs.YtbhfnigblhfikaaGreatDoor

/- The walks over the reference's bits, Top. -/
namespace Go.Proofs.YtbhfnigblhfikaaGreatDoor
open Go Go.RowKit Go.PlainAid Fil

/-- an owned row, as a slice that can be read -/
theorem Own.slc {w : World} {B : Nat} {v : Value} {n : Nat} {f : Nat → Int} (h : Own w B v n f) : ∃ A c, v = .slice A n c ∧ n ≤ c ∧ Slc w 3 A n (fun j => .int .i64 (f j)) := by
  rcases h.2 with ⟨rfl, rfl⟩ | ⟨g, cap, cur, rfl, _, hh, hc, _, hs, ht⟩
  · exact ⟨none, 0, rfl, Nat.le_refl _, Slc.nil _ _ _ _⟩
  · refine ⟨some ⟨g, 0, none⟩, cap, rfl, hc, fun _ => ⟨g, 0, cur, _, rfl, hh, fun j hj => ?_⟩⟩
    have h1 : (cur.toList.take (n * 1))[j]? = ((List.range n).map fun i => Value.int .i64 (f i))[j]? := by rw [ht]
    rw [List.getElem?_take_of_lt (by omega), List.getElem?_map, List.getElem?_range hj] at h1
    rw [Nat.zero_add, ← Array.getElem?_toList]
    exact h1
end Go.Proofs.YtbhfnigblhfikaaGreatDoor

/- The walks over the reference's numbers of any length: cut, at, low. -/
namespace Go.Proofs.YtbhfnigblhfikaaGreatDoor
open Go Go.RowKit Go.PlainAid Fil

/-- a digit to the base 256 as a value -/
def i8 (x j : Nat) : Value := .int .i64 (dg 8 x j)

end Go.Proofs.YtbhfnigblhfikaaGreatDoor

/- The walks over the reference's numbers: halved, plus, minus, shifted. -/
namespace Go.Proofs.YtbhfnigblhfikaaGreatDoor
open Go Go.RowKit Go.PlainAid Fil

theorem Own.congr {w : World} {B : Nat} {v : Value} {n : Nat} {f g : Nat → Int} (h : Own w B v n f) (e : ∀ i, i < n → f i = g i) : Own w B v n g := by
  unfold Own at *
  rw [show ((List.range n).map fun i => Value.int .i64 (g i)) = (List.range n).map fun i => Value.int .i64 (f i) from List.map_congr_left fun i hi => by rw [e i (List.mem_range.1 hi)]]
  exact h
end Go.Proofs.YtbhfnigblhfikaaGreatDoor

/- The reference's plus, minus, shifted, cmp, times, fit. -/
/- The walks over the reference's numbers: plus, minus. -/
namespace Go.Proofs.YtbhfnigblhfikaaGreatDoor
open Go Go.RowKit Go.PlainAid Fil

end Go.Proofs.YtbhfnigblhfikaaGreatDoor

/- The walks over the reference's numbers: shifted, cmp. -/
namespace Go.Proofs.YtbhfnigblhfikaaGreatDoor
open Go Go.RowKit Go.PlainAid Fil

theorem Own.made (w : World) (q : Nat) (hq : q ≤ maxLen) : Own (w.alloc (.cells (madeCells #[.int .i64 0] q) 3)) w.heap.size (.slice (some ⟨w.heap.size, 0, none⟩) q q) q (fun _ => 0) := by
  refine ⟨by simp, .inr ⟨w.heap.size, q, _, rfl, Nat.le_refl _, heap_alloc_new w _, Nat.le_refl _, hq, by rw [size_madeCells]; simp, ?_⟩⟩
  apply List.ext_getElem?
  intro i
  by_cases hi : i < q
  · rw [List.getElem?_take_of_lt (by omega), List.getElem?_map, List.getElem?_range hi, Array.getElem?_toList]
    simp [madeCells, hi, Nat.mod_one]
  · rw [List.getElem?_take_eq_none (by omega)]
    simp [hi]

end Go.Proofs.YtbhfnigblhfikaaGreatDoor

/- The walk over the reference's numbers: times. -/
namespace Go.Proofs.YtbhfnigblhfikaaGreatDoor
open Go Go.RowKit Go.PlainAid Fil

end Go.Proofs.YtbhfnigblhfikaaGreatDoor

/- The walk over the reference's fit. -/
namespace Go.Proofs.YtbhfnigblhfikaaGreatDoor
open Go Go.RowKit Go.PlainAid Fil

end Go.Proofs.YtbhfnigblhfikaaGreatDoor

/- Floats by rungs and rounding: plain arithmetic, no program in sight. -/
/- Floats by rungs: plain arithmetic, no program in sight. -/
namespace Fil
open Ieee

/-- a rung's magnitude, in units of the least place -/
def mv (r : Nat) : Nat := if r < 4503599627370496 then r else (4503599627370496 + r % 4503599627370496) * 2 ^ (r / 4503599627370496 - 1)
theorem mv_small {r : Nat} (h : r < 4503599627370496) : mv r = r := if_pos h
theorem mv_big {r : Nat} (h : ¬ r < 4503599627370496) : mv r = (4503599627370496 + r % 4503599627370496) * 2 ^ (r / 4503599627370496 - 1) := if_neg h
theorem mv_zero : mv 0 = 0 := rfl
theorem mv_succ (r : Nat) : mv (r + 1) = mv r + 2 ^ (r / 4503599627370496 - 1) := by
  by_cases h1 : r + 1 < 4503599627370496
  · rw [mv_small h1, mv_small (by omega), show r / 4503599627370496 = 0 by omega]
  · by_cases h2 : r < 4503599627370496
    · rw [mv_big h1, mv_small h2, show (r + 1) % 4503599627370496 = 0 by omega, show (r + 1) / 4503599627370496 = 1 by omega, show r / 4503599627370496 = 0 by omega]
      simp only [Nat.sub_self, Nat.pow_zero, Nat.zero_sub]
      omega
    · rw [mv_big h1, mv_big h2]
      by_cases h3 : r % 4503599627370496 + 1 < 4503599627370496
      · rw [show (r + 1) % 4503599627370496 = r % 4503599627370496 + 1 by omega, show (r + 1) / 4503599627370496 = r / 4503599627370496 by omega, ← Nat.add_assoc, Nat.add_mul, Nat.one_mul]
      · obtain ⟨p, hp⟩ : ∃ p, r / 4503599627370496 = p + 1 := ⟨r / 4503599627370496 - 1, by omega⟩
        rw [show (r + 1) % 4503599627370496 = 0 by omega, show (r + 1) / 4503599627370496 = p + 2 by omega, hp, show r % 4503599627370496 = 4503599627370495 by omega, show p + 2 - 1 = p + 1 by omega, show p + 1 - 1 = p by omega, Nat.pow_succ]
        generalize 2 ^ p = t
        omega
theorem mv_lt_succ (r : Nat) : mv r < mv (r + 1) := by rw [mv_succ]; have := Nat.two_pow_pos (r / 4503599627370496 - 1); omega
theorem mv_lt {r s : Nat} (h : r < s) : mv r < mv s := by
  induction s with
  | zero => omega
  | succ s ih =>
    rcases Nat.lt_or_ge r s with h1 | h1
    · exact Nat.lt_trans (ih h1) (mv_lt_succ s)
    · have : r = s := by omega
      subst this; exact mv_lt_succ r
theorem mv_le {r s : Nat} (h : r ≤ s) : mv r ≤ mv s := by
  rcases Nat.lt_or_ge r s with h1 | h1
  · exact Nat.le_of_lt (mv_lt h1)
  · have : r = s := by omega
    subst this; exact Nat.le_refl _
theorem lt_of_mv {r s : Nat} (h : mv r < mv s) : r < s := by
  rcases Nat.lt_or_ge r s with h1 | h1
  · exact h1
  · have := mv_le h1; omega
theorem mv_inj {r s : Nat} (h : mv r = mv s) : r = s := by
  rcases Nat.lt_trichotomy r s with h1 | h1 | h1
  · have := mv_lt h1; omega
  · exact h1
  · have := mv_lt h1; omega
theorem mv_pos {r : Nat} (h : r ≠ 0) : mv r ≠ 0 := by have := mv_lt (show 0 < r by omega); omega

theorem d_sign : double.signWeight = 9223372036854775808 := by decide
theorem d_binade : double.binade = 4503599627370496 := by decide
theorem d_inf : double.infRung = 9218868437227405312 := by decide
theorem d_least : double.leastPlace = -1074 := by decide

/-- a float's sign, its rung -/
def fs (w : Nat) : Bool := w / 9223372036854775808 % 2 == 1
def fr (w : Nat) : Nat := w % 9223372036854775808
theorem fw_eq {w : Nat} (h : w < 18446744073709551616) : w = double.word (fs w) (fr w) := by
  unfold Format.word fs fr
  rw [d_sign]
  by_cases h1 : w / 9223372036854775808 % 2 = 1
  · rw [h1]; simp only [beq_self_eq_true, if_true]; omega
  · rw [beq_eq_false_iff_ne.2 h1]; simp only [Bool.false_eq_true, if_false]; omega

theorem read_num {w : Nat} (h : fr w < 9218868437227405312) : ∃ m p, double.read w = .number (fs w) m p ∧ -1074 ≤ p ∧ p ≤ 971 ∧ mv (fr w) = m * 2 ^ (p + 1074).toNat ∧ m < 9007199254740992 := by
  unfold Format.read
  rw [d_sign, d_binade, d_inf, d_least]
  have e : w % 9223372036854775808 = fr w := rfl
  have e2 : (w / 9223372036854775808 % 2 == 1) = fs w := rfl
  simp only [e, e2]
  by_cases h1 : fr w < 4503599627370496
  · rw [if_pos h1]
    exact ⟨fr w, -1074, rfl, by omega, by omega, by rw [mv_small h1, show ((-1074 : Int) + 1074).toNat = 0 from rfl, Nat.pow_zero, Nat.mul_one], by omega⟩
  · rw [if_neg h1, if_pos h]
    exact ⟨_, _, rfl, by omega, by omega, by rw [mv_big h1]; congr 2; omega, by omega⟩
theorem read_inf {w : Nat} (h : fr w = 9218868437227405312) : double.read w = .infinity (fs w) := by
  unfold Format.read
  rw [d_sign, d_binade, d_inf, d_least]
  have e : w % 9223372036854775808 = fr w := rfl
  have e2 : (w / 9223372036854775808 % 2 == 1) = fs w := rfl
  simp only [e, e2, h]
  rw [if_neg (by omega), if_neg (by omega), if_pos trivial]
theorem read_nan {w : Nat} (h : 9218868437227405312 < fr w) : ∃ t, double.read w = .nan (fs w) t := by
  unfold Format.read
  rw [d_sign, d_binade, d_inf, d_least]
  have e : w % 9223372036854775808 = fr w := rfl
  have e2 : (w / 9223372036854775808 % 2 == 1) = fs w := rfl
  simp only [e, e2]
  rw [if_neg (by omega), if_neg (by omega), if_neg (by omega)]
  exact ⟨_, rfl⟩

/-- a float that is no NaN, by its order: its rung with the sign -/
def fk (w : Nat) : Int := if fs w then -(fr w : Int) else fr w
theorem signed_eq (s : Bool) (m k : Nat) : signed s m k = if s then -((m * 2 ^ k : Nat) : Int) else ((m * 2 ^ k : Nat) : Int) := by
  unfold signed; rw [Nat.shiftLeft_eq]
theorem compare_of {a b c d : Int} (h1 : a < b ↔ c < d) (h2 : b < a ↔ d < c) : compare a b = compare c d := by
  rcases Int.lt_trichotomy a b with h | h | h
  · rw [Int.compare_eq_lt.2 h, Int.compare_eq_lt.2 (h1.1 h)]
  · have : c = d := by omega
    rw [Int.compare_eq_eq.2 h, Int.compare_eq_eq.2 this]
  · rw [Int.compare_eq_gt.2 h, Int.compare_eq_gt.2 (h2.1 h)]
/-- the value in units of the least place -/
def fv (w : Nat) : Int := if fs w then -(mv (fr w) : Int) else mv (fr w)
theorem fv_lt {a b : Nat} : fv a < fv b ↔ fk a < fk b := by
  unfold fv fk
  have h1 := @mv_lt (fr a) (fr b)
  have h2 := @mv_lt (fr b) (fr a)
  have h3 := @lt_of_mv (fr a) (fr b)
  have h4 := @lt_of_mv (fr b) (fr a)
  have h5 : fr a ≠ 0 → mv (fr a) ≠ 0 := mv_pos
  have h6 : fr b ≠ 0 → mv (fr b) ≠ 0 := mv_pos
  have h7 : mv (fr a) ≠ 0 → fr a ≠ 0 := fun h e => h (by rw [e]; rfl)
  have h8 : mv (fr b) ≠ 0 → fr b ≠ 0 := fun h e => h (by rw [e]; rfl)
  cases fs a <;> cases fs b <;> simp only [Bool.false_eq_true, if_true, if_false] <;> constructor <;> intro h <;> omega
theorem signed_base {s : Bool} {m : Nat} {i base : Int} (h1 : -1074 ≤ base) (h2 : base ≤ i) {v : Nat} (hv : v = m * 2 ^ (i + 1074).toNat) :
    signed s m (i - base).toNat * (2 ^ (base + 1074).toNat : Nat) = if s then -(v : Int) else v := by
  have e : m * 2 ^ (i - base).toNat * 2 ^ (base + 1074).toNat = v := by
    rw [hv, Nat.mul_assoc, ← Nat.pow_add]; congr 2; omega
  rw [signed_eq]
  cases s
  · simp only [Bool.false_eq_true, if_false]
    rw [← Int.natCast_mul, e]
  · simp only [if_true]
    rw [Int.neg_mul, ← Int.natCast_mul, e]
/-- the order of two finite floats -/
theorem order_fin {a b : Nat} (ha : fr a < 9218868437227405312) (hb : fr b < 9218868437227405312) : double.order a b = some (compare (fk a) (fk b)) := by
  obtain ⟨m, i, ra, hi, _, va, _⟩ := read_num ha
  obtain ⟨n, j, rb, hj, _, vb, _⟩ := read_num hb
  unfold Format.order
  rw [ra, rb]
  show some (compare _ _) = _
  congr 1
  have hp : (0 : Int) < ((2 ^ (min i j + 1074).toNat : Nat) : Int) := by have := Nat.two_pow_pos (min i j + 1074).toNat; omega
  have e1 := signed_base (s := fs a) (m := m) (i := i) (base := min i j) (by omega) (by omega) va
  have e2 := signed_base (s := fs b) (m := n) (i := j) (base := min i j) (by omega) (by omega) vb
  have f1 : (if fs a then -(mv (fr a) : Int) else mv (fr a)) = fv a := rfl
  have f2 : (if fs b then -(mv (fr b) : Int) else mv (fr b)) = fv b := rfl
  rw [f1] at e1
  rw [f2] at e2
  generalize signed (fs a) m (i - min i j).toNat = x at *
  generalize signed (fs b) n (j - min i j).toNat = y at *
  generalize ((2 ^ (min i j + 1074).toNat : Nat) : Int) = q at *
  refine compare_of ?_ ?_
  · rw [← fv_lt, ← e1, ← e2]; exact (Int.mul_lt_mul_right hp).symm
  · rw [← fv_lt, ← e1, ← e2]; exact (Int.mul_lt_mul_right hp).symm
/-- the order of two floats, neither of them a NaN -/
theorem order_some {a b : Nat} (ha : fr a ≤ 9218868437227405312) (hb : fr b ≤ 9218868437227405312) : double.order a b = some (compare (fk a) (fk b)) := by
  rcases Nat.lt_or_eq_of_le ha with ha1 | ha1 <;> rcases Nat.lt_or_eq_of_le hb with hb1 | hb1
  · exact order_fin ha1 hb1
  · obtain ⟨m, i, ra, _⟩ := read_num ha1
    unfold Format.order
    rw [ra, read_inf hb1]
    show some (if fs b then Ordering.gt else Ordering.lt) = _
    congr 1
    unfold fk
    cases fs b
    · simp only [Bool.false_eq_true, if_false]; symm; rw [Int.compare_eq_lt]; split <;> omega
    · simp only [if_true]; symm; rw [Int.compare_eq_gt]; split <;> omega
  · obtain ⟨m, i, rb, _⟩ := read_num hb1
    unfold Format.order
    rw [rb, read_inf ha1]
    show some (if fs a then Ordering.lt else Ordering.gt) = _
    congr 1
    unfold fk
    cases fs a
    · simp only [Bool.false_eq_true, if_false]; symm; rw [Int.compare_eq_gt]; split <;> omega
    · simp only [if_true]; symm; rw [Int.compare_eq_lt]; split <;> omega
  · unfold Format.order
    rw [read_inf ha1, read_inf hb1]
    show some (compare (fs b).toNat (fs a).toNat) = _
    congr 1
    unfold fk
    rw [ha1, hb1]
    cases fs a <;> cases fs b <;> rfl
end Fil

/- The nearest float of an exact number: plain arithmetic, no program in sight. -/
namespace Fil
open Ieee

theorem cut_drop0 (neg : Bool) (n : Nat) : Toward.even.cut neg n 0 = n := by
  unfold Toward.cut
  rw [Nat.zero_min]
  simp only [Nat.shiftLeft_zero, Nat.div_one, Nat.mod_one]
  simp
theorem log2_shl {a k : Nat} (h : a ≠ 0) : (a * 2 ^ k).log2 = a.log2 + k := by
  have hp := Nat.two_pow_pos k
  have h0 : a * 2 ^ k ≠ 0 := Nat.mul_ne_zero h (by omega)
  have h1 : a < 2 ^ (a.log2 + 1) := (Nat.log2_lt h).1 (by omega)
  have h2 : 2 ^ a.log2 ≤ a := (Nat.le_log2 h).1 (Nat.le_refl _)
  apply Nat.le_antisymm
  · have : (a * 2 ^ k).log2 < a.log2 + k + 1 := (Nat.log2_lt h0).2 (by rw [show a.log2 + k + 1 = a.log2 + 1 + k by omega, Nat.pow_add]; exact Nat.mul_lt_mul_of_pos_right h1 hp)
    omega
  · exact (Nat.le_log2 h0).2 (by rw [Nat.pow_add]; exact Nat.mul_le_mul_right _ h2)
theorem cut_gap (n k : Nat) : (1 <<< min k (n.log2 + 2)) = 2 ^ min k (n.log2 + 2) := by rw [Nat.shiftLeft_eq, Nat.one_mul]
/-- what is cut off is nothing -/
theorem cut_exact (neg : Bool) (a k : Nat) (h : a ≠ 0) : Toward.even.cut neg (a * 2 ^ k) k = a := by
  unfold Toward.cut
  rw [cut_gap, log2_shl h, Nat.min_eq_left (by omega)]
  have hp := Nat.two_pow_pos k
  simp only [Nat.mul_div_cancel _ hp, Nat.mul_mod_left]
  simp
/-- the nearest of a number that is a float's -/
theorem nearest_exact (neg : Bool) {mag r : Nat} {place : Int} (d : Nat) (hr : r < 9218868437227405312) (hp : -1074 ≤ place + d) (h : mag * 2 ^ (place + 1074 + d).toNat = mv r * 2 ^ d) : double.nearest neg mag place = double.word neg r := by
  unfold Format.nearest
  by_cases h0 : mag = 0
  · rw [if_pos h0]
    subst h0
    have : mv r = 0 := by
      rw [Nat.zero_mul] at h
      rcases Nat.mul_eq_zero.1 h.symm with h1 | h1
      · exact h1
      · have := Nat.two_pow_pos d; omega
    have : r = 0 := mv_inj (by rw [this]; rfl)
    rw [this]
  · rw [if_neg h0]
    have hV : mv r ≠ 0 := by
      intro e
      rw [e, Nat.zero_mul] at h
      rcases Nat.mul_eq_zero.1 h with h1 | h1
      · exact h0 h1
      · have := Nat.two_pow_pos (place + 1074 + d).toNat; omega
    have hl : (mag.log2 : Int) + place = (mv r).log2 - 1074 := by
      have e1 := congrArg Nat.log2 h
      rw [log2_shl h0, log2_shl hV] at e1
      omega
    rw [d_least, show ((double.fractionBits : Nat) : Int) = 52 from rfl, d_binade, d_inf]
    have hr0 : r ≠ 0 := fun e => hV (by rw [e]; rfl)
    -- the kept digits and their place
    obtain ⟨K, L, hK, hL, hrL⟩ : ∃ (K L : Nat), mv r = K * 2 ^ L ∧ (L : Int) = max (place + mag.log2 - 52) (-1074) + 1074 ∧ r = L * 4503599627370496 + K := by
      by_cases hs : r < 4503599627370496
      · refine ⟨r, 0, by rw [mv_small hs, Nat.pow_zero, Nat.mul_one], ?_, by omega⟩
        have h1 : (mv r).log2 < 52 := by rw [mv_small hs]; exact (Nat.log2_lt hr0).2 (by omega)
        omega
      · have hb := mv_big hs
        refine ⟨4503599627370496 + r % 4503599627370496, r / 4503599627370496 - 1, hb, ?_, by omega⟩
        have hk0 : 4503599627370496 + r % 4503599627370496 ≠ 0 := by omega
        have h2 : (4503599627370496 + r % 4503599627370496).log2 = 52 := by
          apply Nat.le_antisymm
          · have := (Nat.log2_lt hk0 (k := 53)).2 (by omega)
            omega
          · exact (Nat.le_log2 hk0).2 (by omega)
        have h1 := log2_shl (k := r / 4503599627370496 - 1) hk0
        rw [← hb, h2] at h1
        omega
    rw [← show (L : Int) - 1074 = max (place + mag.log2 - 52) (-1074) by omega]
    have hK0 : K ≠ 0 := fun e => hV (by rw [hK, e, Nat.zero_mul])
    have hcut : Toward.even.cut neg (mag <<< (place - ((L : Int) - 1074)).toNat) ((L : Int) - 1074 - place).toNat = K := by
      rw [Nat.shiftLeft_eq]
      by_cases hc : (L : Int) - 1074 ≤ place
      · rw [show ((L : Int) - 1074 - place).toNat = 0 by omega, cut_drop0]
        apply Nat.eq_of_mul_eq_mul_right (Nat.two_pow_pos (L + d))
        rw [Nat.mul_assoc, ← Nat.pow_add, show (place - ((L : Int) - 1074)).toNat + (L + d) = (place + 1074 + d).toNat by omega, h, hK, Nat.mul_assoc, ← Nat.pow_add]
      · rw [show (place - ((L : Int) - 1074)).toNat = 0 by omega, Nat.pow_zero, Nat.mul_one]
        have e : mag = K * 2 ^ ((L : Int) - 1074 - place).toNat := by
          apply Nat.eq_of_mul_eq_mul_right (Nat.two_pow_pos (place + 1074 + d).toNat)
          rw [h, hK, Nat.mul_assoc, Nat.mul_assoc, ← Nat.pow_add, ← Nat.pow_add]
          congr 2; omega
        conv => lhs; rw [e]
        exact cut_exact neg K _ hK0
    dsimp only
    rw [hcut, show ((L : Int) - 1074 - -1074).toNat = L by omega, ← hrL, Nat.min_eq_left (by omega)]
end Fil

/- Rounding an exact number to a float: plain arithmetic, no program in sight. -/
namespace Fil
open Ieee

/-- the number's highest bit's power -/
def tpI (x : Nat) (e : Int) : Int := (x.log2 : Int) + e
/-- the last place that is kept -/
def rdQ (x : Nat) (e : Int) : Int := max (tpI x e - 52) (-1074)
/-- the digits that are kept -/
def rdM (x : Nat) (e : Int) : Nat := if rdQ x e ≤ e then x * 2 ^ (e - rdQ x e).toNat else x / 2 ^ (rdQ x e - e).toNat
/-- is nothing cut off? -/
def rdX (x : Nat) (e : Int) : Bool := decide (rdQ x e ≤ e)
/-- is what is cut off, by k digits, more than a half, or a half of an odd number? -/
def upB (x k : Nat) : Bool := decide (2 ^ k < 2 * (x % 2 ^ k)) || (decide (2 ^ k = 2 * (x % 2 ^ k)) && decide (x / 2 ^ k % 2 = 1))
def rdUp (x : Nat) (e : Int) : Bool := !rdX x e && upB x (rdQ x e - e).toNat
/-- the rung of what is kept -/
def rdR (x : Nat) (e : Int) : Nat := (rdQ x e + 1074).toNat * 4503599627370496 + rdM x e
/-- the rung of the nearest float -/
def rgN (x : Nat) (e : Int) : Nat := if 1024 ≤ tpI x e then 9218868437227405312 else rdR x e + (rdUp x e).toNat
theorem log_ge {x : Nat} (h : x ≠ 0) : 2 ^ x.log2 ≤ x := (Nat.le_log2 h).1 (Nat.le_refl _)
theorem log_lt {x : Nat} (h : x ≠ 0) : x < 2 ^ (x.log2 + 1) := (Nat.log2_lt h).1 (Nat.lt_succ_self _)

theorem rdM_lt {x : Nat} (h : x ≠ 0) (e : Int) : rdM x e < 9007199254740992 := by
  have h1 := log_lt h
  unfold rdM
  have hq : rdQ x e = max (tpI x e - 52) (-1074) := rfl
  unfold tpI at hq
  split
  · rename_i hc
    have h2 : x * 2 ^ (e - rdQ x e).toNat < 2 ^ (x.log2 + 1) * 2 ^ (e - rdQ x e).toNat := Nat.mul_lt_mul_of_pos_right h1 (Nat.two_pow_pos _)
    rw [← Nat.pow_add] at h2
    have h3 : (2 : Nat) ^ (x.log2 + 1 + (e - rdQ x e).toNat) ≤ 2 ^ 53 := Nat.pow_le_pow_right (by omega) (by omega)
    omega
  · rename_i hc
    refine Nat.div_lt_of_lt_mul ?_
    have h3 : (2 : Nat) ^ (x.log2 + 1) ≤ 2 ^ ((rdQ x e - e).toNat + 53) := Nat.pow_le_pow_right (by omega) (by omega)
    rw [Nat.pow_add 2 (rdQ x e - e).toNat 53] at h3
    omega
theorem rdM_ge {x : Nat} (h : x ≠ 0) {e : Int} (hq0 : -1074 < rdQ x e) : 4503599627370496 ≤ rdM x e := by
  have h1 := log_ge h
  unfold rdM
  have hq : rdQ x e = max (tpI x e - 52) (-1074) := rfl
  unfold tpI at hq
  split
  · rename_i hc
    have h2 : 2 ^ x.log2 * 2 ^ (e - rdQ x e).toNat ≤ x * 2 ^ (e - rdQ x e).toNat := Nat.mul_le_mul_right _ h1
    rw [← Nat.pow_add] at h2
    have h3 : (2 : Nat) ^ 52 ≤ 2 ^ (x.log2 + (e - rdQ x e).toNat) := Nat.pow_le_pow_right (by omega) (by omega)
    omega
  · rename_i hc
    rw [Nat.le_div_iff_mul_le (Nat.two_pow_pos _)]
    have h3 : (2 : Nat) ^ (52 + (rdQ x e - e).toNat) ≤ 2 ^ x.log2 := Nat.pow_le_pow_right (by omega) (by omega)
    rw [Nat.pow_add 2 52] at h3
    omega
theorem rdQ_lo (x : Nat) (e : Int) : -1074 ≤ rdQ x e := by unfold rdQ; omega
theorem rdQ_hi {x : Nat} {e : Int} (h : tpI x e < 1024) : rdQ x e ≤ 971 := by unfold rdQ; omega
theorem rdR_lt {x : Nat} (h0 : x ≠ 0) {e : Int} (h : tpI x e < 1024) : rdR x e < 9218868437227405312 := by
  have h1 := rdM_lt h0 e
  have h2 := rdQ_hi h
  have h3 := rdQ_lo x e
  unfold rdR
  omega
/-- the rung of m times 2^q and its magnitude -/
theorem mv_rung {m : Nat} {q : Int} (_h0 : -1074 ≤ q) (h1 : -1074 < q → 4503599627370496 ≤ m) (hm : m ≤ 9007199254740992) : mv ((q + 1074).toNat * 4503599627370496 + m) = m * 2 ^ (q + 1074).toNat := by
  obtain ⟨L, hL⟩ : ∃ L, L = (q + 1074).toNat := ⟨_, rfl⟩
  rw [← hL]
  by_cases hs : m < 4503599627370496
  · have : L = 0 := by omega
    subst this
    rw [Nat.zero_mul, Nat.zero_add, mv_small hs, Nat.pow_zero, Nat.mul_one]
  · rw [mv_big (by omega)]
    by_cases ht : m = 9007199254740992
    · subst ht
      rw [show (L * 4503599627370496 + 9007199254740992) % 4503599627370496 = 0 by omega, show (L * 4503599627370496 + 9007199254740992) / 4503599627370496 - 1 = L + 1 by omega, Nat.pow_succ]
      omega
    · rw [show (L * 4503599627370496 + m) % 4503599627370496 = m - 4503599627370496 by omega, show (L * 4503599627370496 + m) / 4503599627370496 - 1 = L by omega, show 4503599627370496 + (m - 4503599627370496) = m by omega]

/-- a whole number up to 2^53 by its highest bit -/
theorem int_parts {m : Nat} (h0 : m ≠ 0) (h : m ≤ 9007199254740992) : ∃ L F, L ≤ 53 ∧ L = m.log2 ∧ F < 4503599627370496 ∧ (4503599627370496 + F) * 2 ^ L = m * 4503599627370496 ∧ (L = 53 → m = 9007199254740992) := by
  have h1 := log_lt h0
  have h2 := log_ge h0
  by_cases ht : m = 9007199254740992
  · refine ⟨53, 0, by omega, ?_, by omega, by omega, fun _ => ht⟩
    subst ht; decide
  · have hL : m.log2 < 53 := (Nat.log2_lt h0).2 (by omega)
    obtain ⟨L, hl⟩ : ∃ L, L = m.log2 := ⟨_, rfl⟩
    rw [← hl] at h1 h2 hL
    have hp : (2 : Nat) ^ (52 - L) * 2 ^ L = 4503599627370496 := by rw [← Nat.pow_add, show 52 - L + L = 52 by omega]
    have e1 : m * 2 ^ (52 - L) * 2 ^ L = m * 4503599627370496 := by rw [Nat.mul_assoc, hp]
    have e2 : 4503599627370496 ≤ m * 2 ^ (52 - L) := by
      have := Nat.mul_le_mul_right (2 ^ (52 - L)) h2
      rw [Nat.mul_comm, hp] at this; exact this
    have e3 : m * 2 ^ (52 - L) < 9007199254740992 := by
      have := Nat.mul_lt_mul_of_pos_right h1 (Nat.two_pow_pos (52 - L))
      rw [Nat.pow_succ, Nat.mul_right_comm, Nat.mul_comm (2 ^ L), hp] at this; exact this
    exact ⟨L, m * 2 ^ (52 - L) - 4503599627370496, by omega, hl, by omega, by rw [show 4503599627370496 + (m * 2 ^ (52 - L) - 4503599627370496) = m * 2 ^ (52 - L) by omega]; exact e1, fun h => by omega⟩

theorem fr_lt {w : Nat} (h : w < 9223372036854775808) : fr w = w := Nat.mod_eq_of_lt h
theorem fs_lt {w : Nat} (h : w < 9223372036854775808) : fs w = false := by unfold fs; rw [Nat.div_eq_of_lt h]; rfl
theorem d_word (r : Nat) : double.word false r = r := rfl

/-- the float of a whole number -/
theorem float_int {m L F : Nat} (hL : L ≤ 53) (hF : F < 4503599627370496) (h : (4503599627370496 + F) * 2 ^ L = m * 4503599627370496) : double.nearest false m 0 = (L + 1023) * 4503599627370496 + F := by
  rw [nearest_exact false (r := (L + 1023) * 4503599627370496 + F) 0 (by omega) (by omega), d_word]
  have h1 := mv_rung (m := 4503599627370496 + F) (q := (L : Int) - 52) (by omega) (by omega) (by omega)
  rw [show ((L : Int) - 52 + 1074).toNat = L + 1022 by omega, show (L + 1022) * 4503599627370496 + (4503599627370496 + F) = (L + 1023) * 4503599627370496 + F by omega] at h1
  rw [h1, Nat.pow_zero, Nat.mul_one]
  have key : ∀ K : Nat, K = 1022 → m * 2 ^ ((0 : Int) + 1074 + ((0 : Nat) : Int)).toNat = (4503599627370496 + F) * 2 ^ (L + K) := fun K hK => by
    rw [show ((0 : Int) + 1074 + ((0 : Nat) : Int)).toNat = 52 + K by omega, Nat.pow_add 2 52 K, Nat.pow_add 2 L K, ← Nat.mul_assoc, ← Nat.mul_assoc, h, show (2 : Nat) ^ 52 = 4503599627370496 by rfl]
  exact key 1022 rfl

/-- a product that is a float's -/
theorem mul_exact {a b r : Nat} (ha : fr a < 9218868437227405312) (hb : fr b < 9218868437227405312) (hr : r < 9218868437227405312) (h : mv (fr a) * mv (fr b) = mv r * 2 ^ 1074) : double.mul a b = some (double.word (fs a ^^ fs b) r) := by
  obtain ⟨m, p, ra, p1, p2, va, -⟩ := read_num ha
  obtain ⟨n, q, rb, q1, q2, vb, -⟩ := read_num hb
  have hn := nearest_exact (fs a ^^ fs b) (mag := m * n) (place := p + q) 1074 hr (by omega) (by
    rw [← h, va, vb, show (p + q + 1074 + (1074 : Nat)).toNat = (p + 1074).toNat + (q + 1074).toNat by omega, Nat.pow_add, Nat.mul_mul_mul_comm])
  unfold Format.mul
  rw [ra, rb]
  show some (double.nearest (fs a ^^ fs b) (m * n) (p + q)) = _
  rw [hn]
end Fil

/- The walks of math's functions, of filigreelaw03.awake. -/
/- The walks over math.IsNaN, Abs, IsInf, normalize, Ldexp at a positive float that is neither subnormal nor infinite. -/
namespace Go.Proofs.YtbhfnigblhfikaaGreatDoor
open Go Go.RowKit Go.PlainAid Fil

theorem run_f64bits (b : Nat) (w : World) : (callFunc 18 #[.float .f64 b]).run Tryz.prog w = .ok (.value (.int .u64 b)) w := by
  rw [run_callFunc_extern (e := Extern.MathFloatBits.float64bits) Tryz.func18 (by kernel_rfl) (by kernel_rfl) (by kernel_rfl) (by kernel_rfl)]
  rfl
theorem run_f64from (n : Int) (w : World) : (callFunc 4 #[.int .u64 n]).run Tryz.prog w = .ok (.value (.float .f64 n.toNat)) w := by
  rw [run_callFunc_extern (e := Extern.MathFloatBits.float64frombits) Tryz.func4 (by kernel_rfl) (by kernel_rfl) (by kernel_rfl) (by kernel_rfl)]
  rfl

set_option maxHeartbeats 1000000 in
theorem isnan_any (b : Nat) (w : World) : Calls Tryz.prog 38 #[.float .f64 b] w fun r w' => r = .returned (.bool (FloatKind.f64.format.order b b != some .eq)) ∧ w = w' := by
  go_enter Tryz.func38, Tryz.ntmps38
  go_wp2
  go_ret
  exact ⟨rfl, rfl⟩
/-- a float's bits without the sign -/
def magB (b : Nat) : Nat := b % 9223372036854775808
theorem magB_bits (b : Nat) (h : b < 18446744073709551616) : bits BinOp.andNot IntKind.u64 (b : Int) 9223372036854775808 = ((magB b : Nat) : Int) := by
  have h1 := u64_andNot_nat b 9223372036854775808 h (by omega)
  rw [show ((9223372036854775808 : Nat) : Int) = 9223372036854775808 from rfl] at h1
  rw [h1, show 18446744073709551615 - 9223372036854775808 = 2 ^ 63 - 1 by rfl, Nat.and_two_pow_sub_one_eq_mod]
  rfl
set_option maxRecDepth 20000 in
set_option maxHeartbeats 1000000 in
theorem mabs_any (b : Nat) (w : World) (h : b < 18446744073709551616) : Calls Tryz.prog 60 #[.float .f64 b] w fun r w' => r = .returned (.float .f64 (magB b)) ∧ w = w' := by
  have h1 := run_f64bits
  have h2 := run_f64from
  have h3 := magB_bits b h
  clear h
  go_enter Tryz.func60, Tryz.ntmps60
  go_wp2
  go_ret
  exact ⟨rfl, rfl⟩

set_option maxRecDepth 20000 in
set_option maxHeartbeats 1000000 in
/-- IsInf(x, 0) -/
theorem isinf_any (b : Nat) (w : World) (h : b < 18446744073709551616) : Calls Tryz.prog 34 #[.float .f64 b, .int .i64 0] w fun r w' => r = .returned (.bool (FloatKind.f64.format.order (magB b) 9218868437227405311 == some .gt)) ∧ w = w' := by
  have hm := fun W => mabs_any b W h
  clear h
  go_enter Tryz.func34, Tryz.ntmps34
  go_wp2_with (go_at_call 60; go_must (refine (hm _).mono ?_); rintro r w1 ⟨rfl, rfl⟩)
  go_ret
  exact ⟨rfl, rfl⟩

set_option maxRecDepth 20000 in
set_option maxHeartbeats 1000000 in
/-- normalize, where there is nothing to do -/
theorem normal_any (b : Nat) (w : World) (h : b < 18446744073709551616) (hn : (FloatKind.f64.format.order (magB b) 4503599627370496 == some .lt) = false) : Calls Tryz.prog 102 #[.float .f64 b] w fun r w' => r = .returned (.tuple #[.float .f64 b, .int .i64 0]) ∧ w = w' := by
  have hm := fun W => mabs_any b W h
  clear h
  go_enter Tryz.func102, Tryz.ntmps102
  go_wp2_with (go_at_call 60; go_must (refine (hm _).mono ?_); rintro r w1 ⟨rfl, rfl⟩)
  go_returns
  exact ⟨rfl, rfl⟩

theorem exp_bits (E : Nat) (hE : E < 2048) : bits BinOp.and IntKind.i64 (E : Int) 2047 = (E : Int) := by
  have hx : E &&& 2047 = E := by rw [show 2047 = 2 ^ 11 - 1 by rfl, Nat.and_two_pow_sub_one_eq_mod, Nat.mod_eq_of_lt hE]
  show IntKind.i64.wrap ((BitVec.ofInt 64 (E : Int) &&& BitVec.ofInt 64 2047).toNat : Int) = _
  have h2 : (BitVec.ofInt 64 (E : Int) &&& BitVec.ofInt 64 2047).toNat = E := by
    rw [BitVec.toNat_and, BitVec.ofInt_natCast, BitVec.toNat_ofNat, Nat.mod_eq_of_lt (by omega)]
    exact hx
  rw [h2]
  rw [IntKind.wrap_i64]
  omega
theorem frac_bits (E F x : Nat) (hx : x = E * 4503599627370496 + F) (hE : E < 2048) (hF : F < 4503599627370496) : bits BinOp.andNot IntKind.u64 (x : Int) 9218868437227405312 = (F : Int) := by
  have h1 := u64_andNot_nat x 9218868437227405312 (by omega) (by omega)
  rw [show ((9218868437227405312 : Nat) : Int) = 9218868437227405312 from rfl] at h1
  have h2 : x &&& 2 ^ 63 = 0 := by
    apply Nat.eq_of_testBit_eq
    intro i
    rw [Nat.testBit_and, Nat.testBit_two_pow, Nat.zero_testBit]
    by_cases h : 63 = i
    · subst h; rw [Nat.testBit_lt_two_pow (by omega)]; rfl
    · rw [decide_eq_false h, Bool.and_false]
  rw [h1, show 18446744073709551615 - 9218868437227405312 = 2 ^ 63 ||| (2 ^ 52 - 1) by rfl, Nat.and_or_distrib_left, h2, Nat.and_two_pow_sub_one_eq_mod, Nat.zero_or]
  congr 1
  omega
theorem pack_bits (K F : Nat) (hK : K < 2048) (hF : F < 4503599627370496) : bits BinOp.or IntKind.u64 (F : Int) ((K : Int) * 4503599627370496) = ((K * 4503599627370496 + F : Nat) : Int) := by
  have h1 := u64_or_nat F (K * 4503599627370496) (by omega) (by omega)
  rw [show ((K * 4503599627370496 : Nat) : Int) = (K : Int) * 4503599627370496 from Int.natCast_mul _ _] at h1
  rw [h1]
  have := or_add' (s := 52) (a := K) (b := F) hF
  rw [show 2 ^ 52 = 4503599627370496 by rfl] at this
  rw [this, Nat.add_comm]

set_option maxRecDepth 20000 in
set_option maxHeartbeats 2000000 in
theorem ldexp_norm (E F K : Nat) (e k : Int) (x y z : Nat) (w : World) (hx : x = E * 4503599627370496 + F) (hE : E < 2047) (hF : F < 4503599627370496)
    (o0 : (FloatKind.f64.format.order x 0 == some .eq) = false) (o1 : (FloatKind.f64.format.order (magB x) 9218868437227405311 == some .gt) = false) (o2 : (FloatKind.f64.format.order x x != some .eq) = false)
    (o3 : (FloatKind.f64.format.order (magB x) 4503599627370496 == some .lt) = false) (he1 : -5000 ≤ e) (he2 : e ≤ 5000) (hk : k = e + E - 1023) (hk1 : -1022 ≤ k) (hk2 : k ≤ 1023)
    (hK : K = k + 1023) (hy : y = K * 4503599627370496 + F) (hz : floatBits .mul .f64 4607182418800017408 y = some z) :
    Calls Tryz.prog 95 #[.float .f64 x, .int .i64 e] w fun r w' => r = .returned (.float .f64 z) ∧ w = w' := by
  have hxb : x < 18446744073709551616 := by omega
  have hi := fun W => isinf_any x W hxb
  have hn := fun W => isnan_any x W
  have hm := fun W => normal_any x W hxb o3
  rw [o1] at hi
  rw [o2] at hn
  have h1 := run_f64bits
  have h2 := run_f64from
  have hE0 : 0 ≤ (E : Int) := by omega
  have hE1 : (E : Int) < 2047 := by omega
  have hd : (x : Int) / 4503599627370496 = (E : Int) := by omega
  have ha := exp_bits E (by omega)
  have hf := frac_bits E F x hx (by omega) hF
  have hp := pack_bits K F (by omega) hF
  have hk' : e + ((E : Int) - 1023) = k := by omega
  have hK' : k + 1023 = (K : Int) := by omega
  have hK0 : 0 ≤ (K : Int) := by omega
  have hK1 : (K : Int) < 2047 := by omega
  have ht : ((K * 4503599627370496 + F : Nat) : Int).toNat = y := by rw [hy]; exact Int.toNat_natCast _
  have hmul := fun W => run_float_arith (P := Tryz.prog) W .mul 26 .f64 4607182418800017408 y z hz
  rw [← hy] at hp
  have Hx := Lib.hid (And.intro hx (And.intro hF (And.intro hE (And.intro hK hy))))
  clear hx hxb o1 o2 o3 hF hE hk hy hz hK ht
  go_enter Tryz.func95, Tryz.ntmps95
  go_wp2_with (first
    | (go_at_call 34; go_must (refine (hi _).mono ?_); rintro r w1 ⟨rfl, rfl⟩)
    | (go_at_call 38; go_must (refine (hn _).mono ?_); rintro r w1 ⟨rfl, rfl⟩)
    | (go_at_call 102; go_must (refine (hm _).mono ?_); rintro r w1 ⟨rfl, rfl⟩))
  go_ret
  exact ⟨rfl, rfl⟩
end Go.Proofs.YtbhfnigblhfikaaGreatDoor

/- The walk over dyad.Near at the number 3 (awake). -/
namespace Go.Proofs.YtbhfnigblhfikaaGreatDoor
open Go Go.RowKit Go.PlainAid Fil

end Go.Proofs.YtbhfnigblhfikaaGreatDoor

/- The walk over filigreelaw03.awake: it answers true. -/
namespace Go.Proofs.YtbhfnigblhfikaaGreatDoor
open Go Go.RowKit Go.PlainAid Fil

end Go.Proofs.YtbhfnigblhfikaaGreatDoor

/- The walks over math.Ldexp at whole numbers up to 2^53, where the answer is a float or the infinity. -/
namespace Go.Proofs.YtbhfnigblhfikaaGreatDoor
open Go Go.RowKit Go.PlainAid Fil

theorem f64_double : FloatKind.f64.format = Ieee.double := rfl
theorem order_pos {a b : Nat} (ha : a ≤ 9218868437227405312) (hb : b ≤ 9218868437227405312) : FloatKind.f64.format.order a b = some (compare (a : Int) (b : Int)) := by
  rw [f64_double, order_some (by rw [fr_lt (by omega)]; exact ha) (by rw [fr_lt (by omega)]; exact hb)]
  unfold fk
  rw [fs_lt (by omega), fs_lt (by omega), fr_lt (by omega), fr_lt (by omega)]
  rfl
theorem cmp_lt {a b : Int} (h : a < b) : compare a b = .lt := by
  rw [Int.compare_eq_lt]; exact h
theorem cmp_gt {a b : Int} (h : b < a) : compare a b = .gt := by
  rw [Int.compare_eq_gt]; exact h
theorem magB_lt {a : Nat} (h : a < 9223372036854775808) : magB a = a := Nat.mod_eq_of_lt h
theorem ord_zero {x : Nat} (h0 : x ≠ 0) (h : x < 9218868437227405312) : (FloatKind.f64.format.order x 0 == some .eq) = false := by
  rw [order_pos (by omega) (by omega), cmp_gt (by omega)]; rfl
theorem ord_big {x : Nat} (h : x < 9218868437227405312) : (FloatKind.f64.format.order (magB x) 9218868437227405311 == some .gt) = false := by
  rw [magB_lt (by omega), order_pos (by omega) (by omega)]
  rcases Nat.lt_or_ge x 9218868437227405311 with h1 | h1
  · rw [cmp_lt (by omega)]; rfl
  · obtain rfl : x = 9218868437227405311 := by omega
    rw [show compare ((9218868437227405311 : Nat) : Int) ((9218868437227405311 : Nat) : Int) = .eq from Int.compare_eq_eq.2 rfl]; rfl
theorem ord_self {x : Nat} (h : x ≤ 9218868437227405312) : (FloatKind.f64.format.order x x != some .eq) = false := by
  rw [order_pos h h, show compare (x : Int) (x : Int) = .eq from Int.compare_eq_eq.2 rfl]; rfl
theorem ord_norm {x : Nat} (h1 : 4503599627370496 ≤ x) (h : x < 9218868437227405312) : (FloatKind.f64.format.order (magB x) 4503599627370496 == some .lt) = false := by
  rw [magB_lt (by omega), order_pos (by omega) (by omega)]
  rcases Nat.lt_or_ge 4503599627370496 x with h2 | h2
  · rw [cmp_gt (by omega)]; rfl
  · obtain rfl : x = 4503599627370496 := by omega
    rw [show compare ((4503599627370496 : Nat) : Int) ((4503599627370496 : Nat) : Int) = .eq from Int.compare_eq_eq.2 rfl]; rfl

set_option maxRecDepth 20000 in
set_option maxHeartbeats 2000000 in
theorem ldexp_sub (E F K : Nat) (e k : Int) (x y z : Nat) (w : World) (hx : x = E * 4503599627370496 + F) (hE : E < 2047) (hF : F < 4503599627370496)
    (o0 : (FloatKind.f64.format.order x 0 == some .eq) = false) (o1 : (FloatKind.f64.format.order (magB x) 9218868437227405311 == some .gt) = false) (o2 : (FloatKind.f64.format.order x x != some .eq) = false)
    (o3 : (FloatKind.f64.format.order (magB x) 4503599627370496 == some .lt) = false) (he1 : -5000 ≤ e) (he2 : e ≤ 5000) (hk : k = e + E - 1023) (hk1 : -1075 ≤ k) (hk2 : k < -1022)
    (hK : K = k + 53 + 1023) (hy : y = K * 4503599627370496 + F) (hz : floatBits .mul .f64 4368491638549381120 y = some z) :
    Calls Tryz.prog 95 #[.float .f64 x, .int .i64 e] w fun r w' => r = .returned (.float .f64 z) ∧ w = w' := by
  have hxb : x < 18446744073709551616 := by omega
  have hi := fun W => isinf_any x W hxb
  have hn := fun W => isnan_any x W
  have hm := fun W => normal_any x W hxb o3
  rw [o1] at hi
  rw [o2] at hn
  have h1 := run_f64bits
  have h2 := run_f64from
  have hE0 : 0 ≤ (E : Int) := by omega
  have hE1 : (E : Int) < 2047 := by omega
  have hd : (x : Int) / 4503599627370496 = (E : Int) := by omega
  have ha := exp_bits E (by omega)
  have hf := frac_bits E F x hx (by omega) hF
  have hp := pack_bits K F (by omega) hF
  have hk' : e + ((E : Int) - 1023) = k := by omega
  have hK' : k + 53 + 1023 = (K : Int) := by omega
  have hK0 : 0 ≤ (K : Int) := by omega
  have hK1 : (K : Int) < 2047 := by omega
  have ht : ((K * 4503599627370496 + F : Nat) : Int).toNat = y := by rw [hy]; exact Int.toNat_natCast _
  have hmul := fun W => run_float_arith (P := Tryz.prog) W .mul 26 .f64 4368491638549381120 y z hz
  rw [← hy] at hp
  have Hx := Lib.hid (And.intro hx (And.intro hF (And.intro hE (And.intro hK hy))))
  clear hx hxb o1 o2 o3 hF hE hk hy hz hK ht
  go_enter Tryz.func95, Tryz.ntmps95
  go_wp2_with (first
    | (go_at_call 34; go_must (refine (hi _).mono ?_); rintro r w1 ⟨rfl, rfl⟩)
    | (go_at_call 38; go_must (refine (hn _).mono ?_); rintro r w1 ⟨rfl, rfl⟩)
    | (go_at_call 102; go_must (refine (hm _).mono ?_); rintro r w1 ⟨rfl, rfl⟩))
  go_ret
  exact ⟨rfl, rfl⟩

set_option maxRecDepth 20000 in
set_option maxHeartbeats 1000000 in
theorem minf_pos (w : World) : Calls Tryz.prog 103 #[.int .i64 1] w fun r w' => r = .returned (.float .f64 9218868437227405312) ∧ w = w' := by
  have h2 := run_f64from
  go_enter Tryz.func103, Tryz.ntmps103
  go_wp2
  go_ret
  exact ⟨rfl, rfl⟩
set_option maxRecDepth 20000 in
set_option maxHeartbeats 1000000 in
/-- 2^53 times 2^971 -/
theorem ldexp_over (w : World) : Calls Tryz.prog 95 #[.float .f64 4845873199050653696, .int .i64 971] w fun r w' => r = .returned (.float .f64 9218868437227405312) ∧ w = w' := by
  have o0 := ord_zero (x := 4845873199050653696) (by omega) (by omega)
  have hi := fun W => isinf_any 4845873199050653696 W (by omega)
  have hn := fun W => isnan_any 4845873199050653696 W
  have hm := fun W => normal_any 4845873199050653696 W (by omega) (ord_norm (by omega) (by omega))
  rw [ord_big (by omega)] at hi
  rw [ord_self (by omega)] at hn
  have h1 := run_f64bits
  have h2 := run_f64from
  have hE : bits BinOp.and IntKind.i64 1076 2047 = 1076 := exp_bits 1076 (by omega)
  have o4 : (FloatKind.f64.format.order 4845873199050653696 0 == some .lt) = false := by
    rw [order_pos (by omega) (by omega), cmp_gt (by omega)]; rfl
  go_enter Tryz.func95, Tryz.ntmps95
  go_wp2_with (first
    | (go_at_call 34; go_must (refine (hi _).mono ?_); rintro r w1 ⟨rfl, rfl⟩)
    | (go_at_call 38; go_must (refine (hn _).mono ?_); rintro r w1 ⟨rfl, rfl⟩)
    | (go_at_call 103; go_must (refine (minf_pos _).mono ?_); rintro r w1 ⟨rfl, rfl⟩)
    | (go_at_call 102; go_must (refine (hm _).mono ?_); rintro r w1 ⟨rfl, rfl⟩))
  go_ret
  exact ⟨rfl, rfl⟩

theorem fmul_ok {a b r M : Nat} (hM : M = 1074) (ha : a < 9218868437227405312) (hb : b < 9218868437227405312) (hr : r < 9218868437227405312) (h : mv a * mv b = mv r * 2 ^ M) : floatBits .mul .f64 a b = some r := by
  subst hM
  have := mul_exact (a := a) (b := b) (r := r) (by rw [fr_lt (by omega)]; exact ha) (by rw [fr_lt (by omega)]; exact hb) hr (by rw [fr_lt (by omega), fr_lt (by omega)]; exact h)
  rw [fs_lt (by omega), fs_lt (by omega)] at this
  exact this
theorem int_high {m L F : Nat} {q : Int} (hn : 52 ≤ L) (hL : L ≤ 53) (_hF : F < 4503599627370496) (hv : (4503599627370496 + F) * 2 ^ L = m * 4503599627370496) (hq0 : -1074 ≤ q) (h53 : L = 53 → m = 9007199254740992) :
    (q + 1074).toNat * 4503599627370496 + m = (q + L + 1023).toNat * 4503599627370496 + F := by
  rcases (show L = 52 ∨ L = 53 by omega) with rfl | rfl
  · rw [show (2 : Nat) ^ 52 = 4503599627370496 by rfl] at hv
    have hv2 := Nat.eq_of_mul_eq_mul_right (by decide) hv
    clear h53 hv
    omega
  · have := h53 rfl
    rw [show (2 : Nat) ^ 53 = 2 * 4503599627370496 by rfl, ← Nat.mul_assoc] at hv
    have hv2 := Nat.eq_of_mul_eq_mul_right (by decide) hv
    clear h53 hv
    omega
theorem mv_parts {K F : Nat} (hF : F < 4503599627370496) : mv ((K + 1) * 4503599627370496 + F) = (4503599627370496 + F) * 2 ^ K := by
  rw [mv_big (by omega), show ((K + 1) * 4503599627370496 + F) % 4503599627370496 = F by omega, show ((K + 1) * 4503599627370496 + F) / 4503599627370496 - 1 = K by omega]

theorem mul_one_rung {z : Nat} (hz : z < 9218868437227405312) : floatBits .mul .f64 4607182418800017408 z = some z := by
  have key : ∀ K : Nat, K = 1022 → mv ((K + 1) * 4503599627370496 + 0) * mv z = mv z * 2 ^ (52 + K) := fun K _ => by
    rw [mv_parts (by omega), Nat.mul_comm, Nat.pow_add, show (2 : Nat) ^ 52 = 4503599627370496 by rfl]
  exact fmul_ok (M := 52 + 1022) rfl (by omega) hz hz (key 1022 rfl)
theorem mul_small {m L F y : Nat} (hF : F < 4503599627370496) (hm : m < 4503599627370496) (hL : L < 52) (hv : (4503599627370496 + F) * 2 ^ L = m * 4503599627370496) (hy : y = (L + 2) * 4503599627370496 + F) : floatBits .mul .f64 4368491638549381120 y = some m := by
  have key : ∀ K : Nat, K = 969 → mv ((K + 1) * 4503599627370496 + 0) * mv y = mv m * 2 ^ (52 + (53 + K)) := fun K _ => by
    rw [mv_parts (by omega), hy, show L + 2 = L + 1 + 1 by omega, mv_parts hF, mv_small hm, Nat.pow_add 2 52, Nat.pow_add 2 53, show (2 : Nat) ^ 52 = 4503599627370496 by rfl, Nat.pow_succ]
    generalize 2 ^ L = l at *
    generalize 2 ^ K = p
    rw [show (4503599627370496 + 0) * p * ((4503599627370496 + F) * (l * 2)) = (4503599627370496 + F) * l * (9007199254740992 * p) by
      generalize 4503599627370496 + F = f
      rw [show (9007199254740992 : Nat) = 4503599627370496 * 2 by rfl, Nat.add_zero]
      simp only [Nat.mul_assoc, Nat.mul_comm, Nat.mul_left_comm], hv, Nat.mul_assoc]
  have k2 := key 969 rfl
  clear key hv
  exact fmul_ok (M := 52 + (53 + 969)) (by omega) (by omega) (by omega) (by omega) k2

set_option maxRecDepth 20000 in
set_option maxHeartbeats 2000000 in
theorem ldexp_fin (m : Nat) (q : Int) (w : World) (hm : m ≤ 9007199254740992) (hq0 : -1074 ≤ q) (hq1 : q ≤ 971) (hq : -1074 < q → 4503599627370496 ≤ m) :
    Calls Tryz.prog 95 #[.float .f64 (floatOfInt .f64 (m : Int)), .int .i64 q] w fun r w' => r = .returned (.float .f64 ((q + 1074).toNat * 4503599627370496 + m)) ∧ w = w' := by
  by_cases h0 : m = 0
  · subst h0
    obtain rfl : q = -1074 := by omega
    have hf : floatOfInt .f64 ((0 : Nat) : Int) = 0 := by kernel_rfl
    rw [hf]
    have o0 : (FloatKind.f64.format.order 0 0 == some .eq) = true := by kernel_rfl
    clear hf hm hq0 hq1 hq
    go_enter Tryz.func95, Tryz.ntmps95
    go_wp2
    go_ret
    exact ⟨rfl, rfl⟩
  · obtain ⟨L, F, hL, hl, hF, hv, h53⟩ := int_parts h0 hm
    have hf : floatOfInt .f64 (m : Int) = (L + 1023) * 4503599627370496 + F := by
      rw [← float_int hL hF hv]
      show Ieee.double.nearest (decide ((m : Int) < 0)) (m : Int).natAbs 0 = _
      rw [decide_eq_false (by omega), Int.natAbs_natCast]
    obtain ⟨x, hx⟩ : ∃ x, x = (L + 1023) * 4503599627370496 + F := ⟨_, rfl⟩
    rw [hf, ← hx]
    have o0 := ord_zero (x := x) (by omega) (by omega)
    have o1 := ord_big (x := x) (by omega)
    have o2 := ord_self (x := x) (by omega)
    have o3 := ord_norm (x := x) (by omega) (by omega)
    have h52 : 52 ≤ L ↔ 4503599627370496 ≤ m := by
      constructor
      · intro h
        have := log_ge h0
        rw [← hl] at this
        exact Nat.le_trans (show (2 : Nat) ^ 52 ≤ 2 ^ L from Nat.pow_le_pow_right (by omega) h) this
      · intro h
        rw [hl]; exact (Nat.le_log2 h0).2 h
    by_cases hov : q = 971 ∧ L = 53
    · obtain ⟨rfl, rfl⟩ := hov
      obtain rfl := h53 rfl
      have : F = 0 := by omega
      subst this
      subst hx
      exact (ldexp_over w).mono fun r w' h => h
    · obtain ⟨z, hz⟩ : ∃ z, z = (q + 1074).toNat * 4503599627370496 + m := ⟨_, rfl⟩
      rw [← hz]
      by_cases hn : 52 ≤ L
      · have hg := h52.1 hn
        have hF' := int_high (q := q) hn hL hF hv hq0 h53
        have hb := mul_one_rung (z := z) (by
          by_cases h3 : L = 53
          · have := h53 h3; omega
          · omega)
        clear hv h53 h52
        exact ldexp_norm (L + 1023) F (q + L + 1023).toNat q (q + L) x z z w hx (by omega) hF o0 o1 o2 o3 (by omega) (by omega) (by omega) (by omega) (by omega) (by omega) (hz.trans hF') hb
      · have hq2 : q = -1074 := by
          have := h52.2
          omega
        subst hq2
        have hz' : z = m := by omega
        obtain ⟨y, hy⟩ : ∃ y, y = (L + 2) * 4503599627370496 + F := ⟨_, rfl⟩
        have hb : floatBits .mul .f64 4368491638549381120 y = some z := by rw [hz']; exact mul_small hF (by omega) (by omega) hv hy
        clear hv h53 h52 hf
        exact ldexp_sub (L + 1023) F (L + 2) (-1074) (L - 1074) x y z w (by omega) (by omega) hF o0 o1 o2 o3 (by omega) (by omega) (by omega) (by omega) (by omega) (by omega) hy hb

set_option maxHeartbeats 1000000 in
theorem mldexp_fin (m : Nat) (q : Int) (w : World) (hm : m ≤ 9007199254740992) (hq0 : -1074 ≤ q) (hq1 : q ≤ 971) (hq : -1074 < q → 4503599627370496 ≤ m) :
    Calls Tryz.prog 74 #[.float .f64 (floatOfInt .f64 (m : Int)), .int .i64 q] w fun r w' => r = .returned (.float .f64 ((q + 1074).toNat * 4503599627370496 + m)) ∧ w = w' := by
  have h := fun W => ldexp_fin m q W hm hq0 hq1 hq
  generalize (q + 1074).toNat * 4503599627370496 + m = z at *
  generalize floatOfInt .f64 (m : Int) = x at *
  clear hm hq
  go_enter Tryz.func74, Tryz.ntmps74
  go_wp2_with (go_at_call 95; go_must (refine (h _).mono ?_); rintro r w1 ⟨rfl, rfl⟩)
  go_ret
  exact ⟨rfl, rfl⟩
end Go.Proofs.YtbhfnigblhfikaaGreatDoor

/- The walks over math.Copysign, the reference's packed and signed, filigreelaw03.bits. -/
namespace Go.Proofs.YtbhfnigblhfikaaGreatDoor
open Go Go.RowKit Go.PlainAid Fil

theorem d_word_t (r : Nat) : Ieee.double.word true r = 9223372036854775808 + r := rfl
theorem d_word_f (r : Nat) : Ieee.double.word false r = r := rfl

set_option maxRecDepth 20000 in
set_option maxHeartbeats 1000000 in
theorem copysign_neg (b : Nat) (w : World) (h : b < 9223372036854775808) : Calls Tryz.prog 47 #[.float .f64 b, .float .f64 13830554455654793216] w fun r w' => r = .returned (.float .f64 (Ieee.double.word true b)) ∧ w = w' := by
  have h1 := run_f64bits
  have h2 := run_f64from
  have h3 := magB_bits b (by omega)
  rw [magB_lt h] at h3
  have h4 : bits BinOp.and IntKind.u64 13830554455654793216 9223372036854775808 = 9223372036854775808 := by kernel_rfl
  obtain ⟨z, hz⟩ : ∃ z, z = 9223372036854775808 + b := ⟨_, rfl⟩
  have h5 : bits BinOp.or IntKind.u64 (b : Int) 9223372036854775808 = (z : Int) := by
    have h6 := u64_or_nat b 9223372036854775808 (by omega) (by omega)
    rw [show ((9223372036854775808 : Nat) : Int) = 9223372036854775808 from rfl] at h6
    rw [h6]
    have := or_add' (s := 63) (a := 1) (b := b) (by omega)
    rw [show 1 * 2 ^ 63 = 9223372036854775808 by rfl] at this
    rw [this, hz, Nat.add_comm]
  have Hz := Lib.hid hz
  clear h hz
  rw [d_word_t, ← Hz.out]
  go_enter Tryz.func47, Tryz.ntmps47
  go_wp2
  go_ret
  exact ⟨rfl, rfl⟩

end Go.Proofs.YtbhfnigblhfikaaGreatDoor

/- Shift and Floor, both. -/
/- The walks over dyad.Shift and the reference's. -/
namespace Go.Proofs.YtbhfnigblhfikaaGreatDoor
open Go Go.RowKit Go.PlainAid Fil

theorem okD.nil {neg : Bool} {e : Int} (h : okD neg 0 e) : neg = false ∧ e = 0 := by
  rcases h with ⟨_, h1, h2⟩ | h
  · exact ⟨h1, h2⟩
  · omega
end Go.Proofs.YtbhfnigblhfikaaGreatDoor

/- The walks over dyad.Floor and the reference's. -/
namespace Go.Proofs.YtbhfnigblhfikaaGreatDoor
open Go Go.RowKit Go.PlainAid Fil

end Go.Proofs.YtbhfnigblhfikaaGreatDoor

/- The walk over the reference's Floor. -/
namespace Go.Proofs.YtbhfnigblhfikaaGreatDoor
open Go Go.RowKit Go.PlainAid Fil

theorem DyAt.put (w : World) (neg : Bool) (s : ByteArray) (e : Int) : DyAt (w.alloc (.cells #[.bool neg, .string s, .int .i64 e] 44)) w.heap.size neg s e := DyAt.new w _ neg s e rfl (Below.refl _ _)
theorem DyAt.lt {w : World} {b : Nat} {neg : Bool} {s : ByteArray} {e : Int} (h : DyAt w b neg s e) : b < w.heap.size := World.block_lt_of_cell? _ _ h.c0
theorem DyAt.keep {w w' : World} {b : Nat} {neg : Bool} {s : ByteArray} {e : Int} (h : DyAt w b neg s e) (hb : Below w.heap.size w w') : DyAt w' b neg s e := h.below hb h.lt
theorem DyAt.allocd {w : World} {b : Nat} {neg : Bool} {s : ByteArray} {e : Int} (h : DyAt w b neg s e) (o : Obj) : DyAt (w.alloc o) b neg s e := h.keep ((Below.refl _ _).alloc (Nat.le_refl _) _)
end Go.Proofs.YtbhfnigblhfikaaGreatDoor

/- The walks over the reference's numbers of layer 2: made, Of; over dyad.Make, the reference's Make and Of. -/
namespace Go.Proofs.YtbhfnigblhfikaaGreatDoor
open Go Go.RowKit Go.PlainAid Fil

end Go.Proofs.YtbhfnigblhfikaaGreatDoor
