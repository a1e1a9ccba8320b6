/- The walks of dyad's first functions. -/
import Derived.Test.YtfbkopepkklkjaaGreatDoorB3
import Derived.Test.YtfbkopepkklkjaaGreatDoorB1

/- The walks over nat.Check and dyad.Check. -/
namespace Go.Proofs.YtfbkopepkklkjaaGreatDoor
open Go Go.RowKit Go.PlainAid Fil

theorem str_nil {s : ByteArray} (h : s.size = 0) : s.toList = [] := by
 rw [ByteArray.toList_eq]; apply List.eq_nil_of_length_eq_zero; simpa using h
theorem str_cons {s : ByteArray} (h : 0 < s.size) : s.toList.isEmpty = false := by
 rw [ByteArray.toList_eq]
 cases hl : s.data.toList with
 | nil =>
  have h1 : s.data.toList.length = 0 := by rw [hl]; rfl
  have h2 : s.data.toList.length = s.size := Array.length_toList
  omega
 | cons _ _ => rfl

/-- may a Nat be? -/
def natB (s : ByteArray) : Bool := decide (s.size ≤ 16384) && (decide (s.size = 0) || !(bt s 0 == 0))

set_option maxHeartbeats 1000000 in
theorem natmay_one (s : ByteArray) (g : Nat) (w : World) (hc : w.cell? ⟨g, 0, none⟩ = some (.string s)) (hs : s.size ≤ 9223372036854775807) :
  Calls Tryz.prog 107 #[.slice (some ⟨g, 0, none⟩) 1 1] w fun e w' => e = .returned (.bool (natB s)) ∧ w = w' := by
 by_cases h1 : s.size ≤ 16384
 ·by_cases h2 : s.size = 0
  ·have hB : natB s = true := by simp [natB, h2]
   have h3 := str_nil h2
   have HB := Lib.hid hB
   have h4 : (s.size : Int) ≤ 16384 := by omega
   clear h2 hB h1
   go_enter Tryz.func107, Tryz.ntmps107
   go_wp2
   refine wp_loop_rounds 2 ?_
   rw [rounds_succ]
   go_wp2
   rw [rounds_succ]
   go_wp2
   go_ret
   exact ⟨by rw [HB.out]; rfl, rfl⟩
  ·have h3 := str_cons (s := s) (by omega)
   have h4 : (s.size : Int) ≤ 16384 := by omega
   have h5 : 0 < s.size := by omega
   have hb := get_bt s
   cases h6 : (bt s 0 == 0)
   ·have HB : Hid (natB s = true) := Lib.hid (by simp [natB, h1, h6])
    clear h1 h2
    go_enter Tryz.func107, Tryz.ntmps107
    go_wp2
    refine wp_loop_rounds 2 ?_
    rw [rounds_succ]
    go_wp2
    rw [rounds_succ]
    go_wp2
    go_ret
    exact ⟨by rw [HB.out]; rfl, rfl⟩
   ·have HB : Hid (natB s = false) := Lib.hid (by simp [natB, h2, h6])
    clear h1 h2
    go_enter Tryz.func107, Tryz.ntmps107
    go_wp2
    refine wp_loop_rounds 2 ?_
    rw [rounds_succ]
    go_wp2
    go_ret
    exact ⟨by rw [HB.out]; rfl, rfl⟩
 ·have HB : Hid (natB s = false) := Lib.hid (by simp [natB, h1])
  have h4 : (16384 : Int) < (s.size : Int) := by omega
  clear h1
  go_enter Tryz.func107, Tryz.ntmps107
  go_wp2
  refine wp_loop_rounds 2 ?_
  rw [rounds_succ]
  go_wp2
  go_ret
  exact ⟨by rw [HB.out]; rfl, rfl⟩

/-- the error beside an answer -/
def okE (b : Bool) : Int := if b then 0 else 2
theorem okE_t : okE true = 0 := rfl
theorem okE_f : okE false = 2 := rfl
theorem one_cell (w : World) (v : Value) (t : TypeId) : (w.alloc (.cells #[v] t)).cell? ⟨w.heap.size, 0, none⟩ = some v := by
 rw [cell_of_row _ w.heap.size 0 #[v] t (0, 0) (heap_alloc_new w _)]; rfl

set_option maxHeartbeats 1000000 in
theorem natcheck_any (s : ByteArray) (w : World) (hs : s.size ≤ 9223372036854775807) :
  Calls Tryz.prog 62 #[.string s] w fun e w' => e = .returned (.int .i64 (okE (natB s))) ∧ Below w.heap.size w w' := by
 have hc := one_cell w (.string s) 22
 cases hB : natB s
 ·have HB := Lib.hid hB
  clear hB
  go_enter Tryz.func62, Tryz.ntmps62
  go_wp2_with (go_at_call 107; go_must (refine (natmay_one s w.heap.size _ hc hs).mono ?_); rintro e w' ⟨rfl, rfl⟩; rw [HB.out])
  go_ret
  exact ⟨rfl, (Below.refl _ _).alloc (Nat.le_refl _) _⟩
 ·have HB := Lib.hid hB
  clear hB
  go_enter Tryz.func62, Tryz.ntmps62
  go_wp2_with (go_at_call 107; go_must (refine (natmay_one s w.heap.size _ hc hs).mono ?_); rintro e w' ⟨rfl, rfl⟩; rw [HB.out])
  go_ret
  exact ⟨rfl, (Below.refl _ _).alloc (Nat.le_refl _) _⟩
end Go.Proofs.YtfbkopepkklkjaaGreatDoor

/- The walk over dyad.Check. -/
namespace Go.Proofs.YtfbkopepkklkjaaGreatDoor
open Go Go.RowKit Go.PlainAid Fil

/-- may a Dyad be? -/
def mayB (neg : Bool) (s : ByteArray) (e : Int) : Bool :=
 if s.size = 0 then !neg && (e == 0) else natB s && (bt s (s.size - 1) % 2 == 1) && decide (-1048576 ≤ e) && decide (e ≤ 1048576)
theorem mayB_low {neg : Bool} {s : ByteArray} {e : Int} (h0 : ¬ s.size = 0) (h : e < -1048576) : mayB neg s e = false := by
 have d : decide (-1048576 ≤ e) = false := by
  rw [decide_eq_false_iff_not]; omega
 unfold mayB; rw [if_neg h0, d]; simp
theorem mayB_high {neg : Bool} {s : ByteArray} {e : Int} (h0 : ¬ s.size = 0) (h : 1048576 < e) : mayB neg s e = false := by
 have d : decide (e ≤ 1048576) = false := by
  rw [decide_eq_false_iff_not]; omega
 unfold mayB; rw [if_neg h0, d]; simp
theorem mayB_yes {neg : Bool} {s : ByteArray} {e : Int} (h0 : ¬ s.size = 0) (hn : natB s = true) (ho : (bt s (s.size - 1) % 2 == 1) = true) (h1 : -1048576 ≤ e) (h2 : e ≤ 1048576) : mayB neg s e = true := by
 unfold mayB; rw [if_neg h0, hn, ho, decide_eq_true h1, decide_eq_true h2]; rfl
set_option maxHeartbeats 2000000 in
theorem check_any (neg : Bool) (s : ByteArray) (e : Int) (w : World) (hs : s.size ≤ 9223372036854775807) :
  Calls Tryz.prog 28 #[.agg #[.bool neg, .string s, .int .i64 e]] w fun r w' => r = .returned (.int .i64 (okE (mayB neg s e))) ∧ Below w.heap.size w w' := by
 have hb0 : Below w.heap.size w (w.alloc (.cells #[.bool neg, .string s, .int .i64 e] 24)) := (Below.refl _ _).alloc (Nat.le_refl _) _
 by_cases h0 : s.size = 0
 ·have h1 := str_nil h0
  cases neg
  ·by_cases he : e = 0
   ·subst he
    have HB : Hid (mayB false s 0 = true) := Lib.hid (by simp [mayB, h0])
    clear h0
    go_enter Tryz.func28, Tryz.ntmps28
    go_wp2
    go_ret
    exact ⟨by rw [HB.out]; rfl, hb0⟩
   ·have he' : (e == 0) = false := by simpa using he
    have HB : Hid (mayB false s e = false) := Lib.hid (by simp [mayB, h0, he'])
    clear h0 he
    go_enter Tryz.func28, Tryz.ntmps28
    go_wp2
    go_ret
    exact ⟨by rw [HB.out]; rfl, hb0⟩
  ·have HB : Hid (mayB true s e = false) := Lib.hid (by simp [mayB, h0])
   clear h0
   go_enter Tryz.func28, Tryz.ntmps28
   go_wp2
   go_ret
   exact ⟨by rw [HB.out]; rfl, hb0⟩
 ·have h3 := str_cons (s := s) (by omega)
  have h4 : s.toList ≠ [] := by intro h; rw [h] at h3; cases h3
  have h5 : 0 < s.size := by omega
  have hb := get_bt s
  have hle := bt_le s (s.size - 1)
  have hge := bt_nonneg s (s.size - 1)
  cases hn : natB s
  ·have HB : Hid (mayB neg s e = false) := Lib.hid (by simp [mayB, h0, hn])
   have Hn := Lib.hid hn
   clear hn h0 hb hle hge
   go_enter Tryz.func28, Tryz.ntmps28
   go_wp2_with (go_at_call 62; go_must (refine (natcheck_any s _ hs).mono ?_); rintro r w1 ⟨rfl, hb1⟩; rw [Hn.out, okE_f])
   go_ret
   exact ⟨by rw [HB.out]; rfl, hb0.trans (hb1.mono (by simp))⟩
  ·have Hn := Lib.hid hn
   have cc : ∀ w1, Below (w.alloc (.cells #[.bool neg, .string s, .int .i64 e] 24)).heap.size (w.alloc (.cells #[.bool neg, .string s, .int .i64 e] 24)) w1 → w1.cell? ⟨w.heap.size, 1, none⟩ = some (.string s) ∧ w1.cell? ⟨w.heap.size, 2, none⟩ = some (.int .i64 e) := fun w1 h =>
    ⟨(h.cell (p := ⟨w.heap.size, 1, none⟩) (by simp)).trans (by rw [cell_of_row _ w.heap.size 1 _ 24 (0, 0) (heap_alloc_new w _)]; rfl), (h.cell (p := ⟨w.heap.size, 2, none⟩) (by simp)).trans (by rw [cell_of_row _ w.heap.size 2 _ 24 (0, 0) (heap_alloc_new w _)]; rfl)⟩
   cases ho : (bt s (s.size - 1) % 2 == 0)
   ·have hodd : (bt s (s.size - 1) % 2 == 1) = true := by simp at ho ⊢; omega
    by_cases h7 : e < -1048576
    ·have HB : Hid (mayB neg s e = false) := Lib.hid (mayB_low h0 h7)
     clear hn h0 hodd
     go_enter Tryz.func28, Tryz.ntmps28
     go_wp2_with (go_at_call 62; go_must (refine (natcheck_any s _ hs).mono ?_); rintro r w1 ⟨rfl, hb1⟩; rw [Hn.out, okE_t]; obtain ⟨c1, c2⟩ := cc _ hb1)
     go_ret
     exact ⟨by rw [HB.out]; rfl, hb0.trans (hb1.mono (by simp))⟩
    ·by_cases h8 : 1048576 < e
     ·have HB : Hid (mayB neg s e = false) := Lib.hid (mayB_high h0 h8)
      clear hn h0 hodd
      go_enter Tryz.func28, Tryz.ntmps28
      go_wp2_with (go_at_call 62; go_must (refine (natcheck_any s _ hs).mono ?_); rintro r w1 ⟨rfl, hb1⟩; rw [Hn.out, okE_t]; obtain ⟨c1, c2⟩ := cc _ hb1)
      go_ret
      exact ⟨by rw [HB.out]; rfl, hb0.trans (hb1.mono (by simp))⟩
     ·have HB : Hid (mayB neg s e = true) := Lib.hid (mayB_yes h0 hn hodd (by omega) (by omega))
      clear hn h0 hodd
      go_enter Tryz.func28, Tryz.ntmps28
      go_wp2_with (go_at_call 62; go_must (refine (natcheck_any s _ hs).mono ?_); rintro r w1 ⟨rfl, hb1⟩; rw [Hn.out, okE_t]; obtain ⟨c1, c2⟩ := cc _ hb1)
      go_ret
      exact ⟨by rw [HB.out]; rfl, hb0.trans (hb1.mono (by simp))⟩
   ·have hodd : (bt s (s.size - 1) % 2 == 1) = false := by simp at ho ⊢; omega
    have HB : Hid (mayB neg s e = false) := Lib.hid (by simp [mayB, h0, hodd])
    clear hn h0 hodd
    go_enter Tryz.func28, Tryz.ntmps28
    go_wp2_with (go_at_call 62; go_must (refine (natcheck_any s _ hs).mono ?_); rintro r w1 ⟨rfl, hb1⟩; rw [Hn.out, okE_t]; obtain ⟨c1, c2⟩ := cc _ hb1)
    go_ret
    exact ⟨by rw [HB.out]; rfl, hb0.trans (hb1.mono (by simp))⟩
end Go.Proofs.YtfbkopepkklkjaaGreatDoor

/- The walk over dyad.all: Dyads in a slice. -/
namespace Go.Proofs.YtfbkopepkklkjaaGreatDoor
open Go Go.RowKit Go.PlainAid Fil

/-- Dyads in a slice, by place -/
def Dys (w : World) (A : Option Addr) (n : Nat) (N : Nat → Bool) (S : Nat → ByteArray) (E : Nat → Int) : Prop :=
 0 < n → ∃ b o, A = some ⟨b, o, none⟩ ∧ b < w.heap.size ∧ ∀ i, i < n → w.cell? ⟨b, o + i * 3, none⟩ = some (.bool (N i)) ∧ w.cell? ⟨b, o + i * 3 + 1, none⟩ = some (.string (S i)) ∧ w.cell? ⟨b, o + i * 3 + 2, none⟩ = some (.int .i64 (E i))
theorem Dys.below {w w' : World} {A : Option Addr} {n : Nat} {N : Nat → Bool} {S : Nat → ByteArray} {E : Nat → Int} (h : Dys w A n N S E) (hb : Below w.heap.size w w') : Dys w' A n N S E := fun hn => by
 obtain ⟨b, o, hA, hlt, hc⟩ := h hn
 exact ⟨b, o, hA, Nat.lt_of_lt_of_le hlt hb.size, fun i hi => ⟨(hb.cell (p := ⟨b, _, none⟩) hlt).trans (hc i hi).1, (hb.cell (p := ⟨b, _, none⟩) hlt).trans (hc i hi).2.1, (hb.cell (p := ⟨b, _, none⟩) hlt).trans (hc i hi).2.2⟩⟩
/-- all of them -/
def allB (n : Nat) (f : Nat → Bool) : Bool := (List.range n).all f
theorem allB_yes {n : Nat} {f : Nat → Bool} (h : ∀ i, i < n → f i = true) : allB n f = true := by
 unfold allB; rw [List.all_eq_true]; intro i hi; exact h i (List.mem_range.1 hi)
theorem allB_no {n : Nat} {f : Nat → Bool} {i : Nat} (hi : i < n) (h : f i = false) : allB n f = false := by
 unfold allB; rw [List.all_eq_false]; exact ⟨i, List.mem_range.2 hi, by rw [h]; simp⟩
set_option maxHeartbeats 2000000 in
theorem all_any (A : Option Addr) (n c : Nat) (N : Nat → Bool) (S : Nat → ByteArray) (E : Nat → Int) (w : World) (hn : n ≤ 4611686018427387903) (h : Dys w A n N S E) (hs : ∀ i, i < n → (S i).size ≤ 9223372036854775807) :
  Calls Tryz.prog 53 #[.slice A n c] w fun r w' => r = .returned (.bool (allB n fun i => mayB (N i) (S i) (E i))) ∧ Below w.heap.size w w' := by
 go_enter Tryz.func53, Tryz.ntmps53
 go_wp2
 go_loopg [7] n (fun g s7 wr => ∃ i : Nat, i ≤ n ∧ g = n - i ∧ s7 = .int .i64 i ∧ (∀ j, j < i → mayB (N j) (S j) (E j) = true) ∧ Below w.heap.size w wr)
 case atStart => exact ⟨0, by omega, by omega, rfl, fun j hj => absurd hj (by omega), Below.refl _ _⟩
 case round =>
  obtain ⟨i, hi, hg, rfl, hall, hbel⟩ := hrel
  have Hg := Lib.hid hg
  have Hall := Lib.hid hall
  have Hs := Lib.hid hs
  clear hg hall hs
  by_cases hin : i < n
  ·obtain ⟨b, o, rfl, hlt, hc⟩ := h.below hbel (by omega)
   obtain ⟨k1, k2, k3⟩ := hc i hin
   have H := Lib.hid h
   clear hc h
   cases hm : mayB (N i) (S i) (E i)
   ·have Hm := Lib.hid hm
    clear hm
    go_wp2_with (go_at_call 28; go_must (refine (check_any (N i) (S i) (E i) _ (Hs.out i hin)).mono ?_); rintro r w1 ⟨rfl, hb1⟩; rw [Hm.out, okE_f])
    go_ret
    exact ⟨by rw [allB_no hin Hm.out]; rfl, (hbel.alloc hbel.size _).trans (hb1.mono (by have := hbel.size; simp; omega))⟩
   ·have Hm := Lib.hid hm
    clear hm
    go_wp2_with (go_at_call 28; go_must (refine (check_any (N i) (S i) (E i) _ (Hs.out i hin)).mono ?_); rintro r w1 ⟨rfl, hb1⟩; rw [Hm.out, okE_t])
    go_roundg (n - (i + 1))
    case measure => have := Hg.out; omega
    case rel => exact ⟨i + 1, by omega, rfl, by go_num, fun j hj => by
     by_cases e : j = i
     ·subst e; exact Hm.out
     ·exact Hall.out j (by omega), (hbel.alloc hbel.size _).trans (hb1.mono (by have := hbel.size; simp; omega))⟩
  ·obtain rfl : i = n := by omega
   go_wp2
   go_ret
   exact ⟨by rw [allB_yes Hall.out]; rfl, hbel⟩
end Go.Proofs.YtfbkopepkklkjaaGreatDoor

/- Dyads that may be; the walk over dyad.whole. -/
namespace Go.Proofs.YtfbkopepkklkjaaGreatDoor
open Go Go.RowKit Go.PlainAid Fil

/-- a number's bytes as a string -/
def bstr (x : Nat) : ByteArray := ⟨(bs x).toArray⟩
theorem bstr_size (x : Nat) : (bstr x).size = dn 8 x := by
 have : (bstr x).size = (bs x).length := by simp [bstr, ByteArray.size]
 rw [this, bs_length]
theorem bstr_toList (x : Nat) : (bstr x).toList = bs x := by unfold bstr; simp
theorem bstr_bt (x k : Nat) (h : k < dn 8 x) : bt (bstr x) k = (dg 8 x (dn 8 x - 1 - k) : Int) := by
 have h1 : k < (bstr x).size := by rw [bstr_size]; exact h
 rw [← get_bt _ k h1]
 have h2 : k < (bs x).length := by rw [bs_length]; exact h
 have : (bstr x)[k] = (bs x)[k] := by simp [bstr, ByteArray.getElem_eq_getElem_data]
 exact (congrArg (fun b : UInt8 => ((b.toNat : Nat) : Int)) this).trans (by rw [bs_get])
/-- a Dyad that may be: its sign, its magnitude, its power -/
def okD (neg : Bool) (x : Nat) (e : Int) : Prop := (x = 0 ∧ neg = false ∧ e = 0) ∨ (x % 2 = 1 ∧ dn 8 x ≤ 16384 ∧ -1048576 ≤ e ∧ e ≤ 1048576)
theorem okD.dn {neg : Bool} {x : Nat} {e : Int} (h : okD neg x e) : dn 8 x ≤ 16384 := by
 rcases h with ⟨rfl, _⟩ | h
 ·rw [dn_zero]; omega
 ·exact h.2.1
theorem okD.e1 {neg : Bool} {x : Nat} {e : Int} (h : okD neg x e) : -1048576 ≤ e := by rcases h with h | h <;> omega
theorem okD.e2 {neg : Bool} {x : Nat} {e : Int} (h : okD neg x e) : e ≤ 1048576 := by rcases h with h | h <;> omega
theorem okD.zero : okD false 0 0 := .inl ⟨rfl, rfl, rfl⟩
theorem mayB_ok {neg : Bool} {x : Nat} {e : Int} (h : okD neg x e) : mayB neg (bstr x) e = true := by
 rcases h with ⟨rfl, rfl, rfl⟩ | ⟨h1, h2, h3, h4⟩
 ·unfold mayB; rw [bstr_size, dn_zero]; rfl
 ·have hx : x ≠ 0 := by omega
  have hp := dn_pos (k := 8) hx
  refine mayB_yes (by rw [bstr_size]; omega) ?_ ?_ h3 h4
  ·unfold natB
   rw [bstr_size, bstr_bt x 0 hp]
   have ht := dg_top (k := 8) (by omega) hx
   have d1 : decide (Fil.dn 8 x ≤ 16384) = true := decide_eq_true h2
   have d2 : ((dg 8 x (Fil.dn 8 x - 1 - 0) : Int) == 0) = false := by
    rw [beq_eq_false_iff_ne, Nat.sub_zero]; omega
   rw [d1, d2]; simp
  ·rw [bstr_size, bstr_bt x _ (by omega), show Fil.dn 8 x - 1 - (Fil.dn 8 x - 1) = 0 by omega]
   have : dg 8 x 0 = x % 256 := by simp [dg]
   rw [this, beq_iff_eq]; omega
theorem bt_get {s : ByteArray} {k : Nat} (h : k < s.size) : bt s k = (s[k].toNat : Int) := (get_bt s k h).symm
theorem ok_of_may {neg : Bool} {s : ByteArray} {e : Int} (h : mayB neg s e = true) : ∃ x, s = bstr x ∧ okD neg x e := by
 by_cases h0 : s.size = 0
 ·unfold mayB at h
  rw [if_pos h0] at h
  simp only [Bool.and_eq_true, Bool.not_eq_true', beq_iff_eq] at h
  refine ⟨0, ?_, .inl ⟨rfl, h.1, h.2⟩⟩
  apply ByteArray.ext
  rw [Array.eq_empty_of_size_eq_zero h0]
  simp [bstr, bs_zero]
 ·have hl : s.data.toList.length = s.size := Array.length_toList
  unfold mayB at h
  rw [if_neg h0] at h
  simp only [Bool.and_eq_true, decide_eq_true_eq, beq_iff_eq] at h
  obtain ⟨⟨⟨hn, ho⟩, h1⟩, h2⟩ := h
  unfold natB at hn
  simp only [Bool.and_eq_true, Bool.or_eq_true, decide_eq_true_eq, Bool.not_eq_true', beq_eq_false_iff_ne] at hn
  have hc : cano s.data.toList := by
   intro hp h00
   rcases hn.2 with h3 | h3
   ·exact h0 h3
   ·apply h3
    rw [bt_get (by omega)]
    have : s[0] = s.data.toList[0] := by simp [ByteArray.getElem_eq_getElem_data]
    rw [this, h00]; rfl
  have hb := bs_nb hc
  refine ⟨nb s.data.toList, ?_, .inr ⟨?_, ?_, h1, h2⟩⟩
  ·unfold bstr; rw [hb]
  ·rw [nb_odd (by omega)]
   rw [bt_get (by omega)] at ho
   have : s[s.size - 1] = s.data.toList[s.data.toList.length - 1] := by simp [ByteArray.getElem_eq_getElem_data, hl]
   rw [this] at ho
   omega
  ·rw [dn_nb hc, hl]; exact hn.1

/-- a string made a slice of bytes: the world behind it, its capacity -/
def convW (W : World) (s : ByteArray) : World := W.drew.alloc (.cells (bytesRow s (grownCap W s.size 0 5)) 5 ((bytesRow s (grownCap W s.size 0 5)).size, (bytesRow s (grownCap W s.size 0 5)).size + 1))
def convC (W : World) (s : ByteArray) : Nat := grownCap W s.size 0 5
theorem run_conv (W : World) (s : ByteArray) : (convert 22 157 (.string s)).run Tryz.prog W = .ok (.slice (some ⟨W.heap.size, 0, none⟩) s.size (convC W s)) (convW W s) :=
 run_bytes_of_string W 22 157 5 s Tryz.underlying22 Tryz.underlying157 Tryz.underlying5
theorem convW_below (W : World) (s : ByteArray) : Below W.heap.size W (convW W s) := ((Below.refl _ _).drew).alloc (Nat.le_refl _) _
theorem convW_slc (W : World) (x : Nat) : Slc (convW W (bstr x)) 5 (some ⟨W.heap.size, 0, none⟩) (Fil.dn 8 x) (fun i => b8 x (Fil.dn 8 x - 1 - i)) := fun _ => by
 refine ⟨W.heap.size, 0, _, _, rfl, heap_alloc_new W.drew _, fun j hj => ?_⟩
 have h1 : j < (bstr x).data.size := by have := bstr_size x; have h2 : (bstr x).size = (bstr x).data.size := rfl; omega
 have h2 : j < (bs x).length := by rw [bs_length]; exact hj
 rw [Nat.zero_add, bytesRow_at _ _ _ h1]
 have : (bstr x).data[j] = (bs x)[j] := by simp [bstr]
 refine (congrArg (fun b : UInt8 => some (Value.int .u8 ((b.toNat : Nat) : Int))) this).trans ?_
 rw [bs_get]; rfl

/-- a Dyad's box: its cells -/
theorem box_cells (w : World) (neg : Bool) (s : ByteArray) (e : Int) {w' : World} (h : Below (w.alloc (.cells #[.bool neg, .string s, .int .i64 e] 24)).heap.size (w.alloc (.cells #[.bool neg, .string s, .int .i64 e] 24)) w') :
  w'.cell? ⟨w.heap.size, 0, none⟩ = some (.bool neg) ∧ w'.cell? ⟨w.heap.size, 1, none⟩ = some (.string s) ∧ w'.cell? ⟨w.heap.size, 2, none⟩ = some (.int .i64 e) :=
 ⟨(h.cell (p := ⟨w.heap.size, 0, none⟩) (by simp)).trans (by rw [cell_of_row _ w.heap.size 0 _ 24 (0, 0) (heap_alloc_new w _)]; rfl), (h.cell (p := ⟨w.heap.size, 1, none⟩) (by simp)).trans (by rw [cell_of_row _ w.heap.size 1 _ 24 (0, 0) (heap_alloc_new w _)]; rfl), (h.cell (p := ⟨w.heap.size, 2, none⟩) (by simp)).trans (by rw [cell_of_row _ w.heap.size 2 _ 24 (0, 0) (heap_alloc_new w _)]; rfl)⟩
theorem box_free (w : World) (neg : Bool) (s : ByteArray) (e : Int) {w' : World} (h : Below (w.alloc (.cells #[.bool neg, .string s, .int .i64 e] 24)).heap.size (w.alloc (.cells #[.bool neg, .string s, .int .i64 e] 24)) w') (j : Nat) : w'.frozen? ⟨w.heap.size, j, none⟩ = false :=
 (h.frozen (p := ⟨w.heap.size, j, none⟩) (by simp)).trans ((World.frozen?_alloc_mark w _ _ 0 0 j).trans (by simp))

set_option maxHeartbeats 2000000 in
theorem whole_any (neg : Bool) (x : Nat) (e : Int) (w : World) (h : okD neg x e) :
  Calls Tryz.prog 57 #[.agg #[.bool neg, .string (bstr x), .int .i64 e]] w fun r w' => r = .returned (.pointer (some ⟨w.heap.size + 1, 0, none⟩)) ∧ IntAt w' (w.heap.size + 1) 0 (sz neg x) ∧ Below w.heap.size w w' := by
 have hsz := bstr_size x
 have hdn := h.dn
 have hrc := run_conv
 clear h
 go_enter Tryz.func57, Tryz.ntmps57
 go_wp2_with fail
 have hb0 : Below w.heap.size w (w.alloc (.cells #[.bool neg, .string (bstr x), .int .i64 e] 24)) := (Below.refl _ _).alloc (Nat.le_refl _) _
 have hbx : Below (w.alloc (.cells #[.bool neg, .string (bstr x), .int .i64 e] 24)).heap.size (w.alloc (.cells #[.bool neg, .string (bstr x), .int .i64 e] 24)) ((w.alloc (.cells #[.bool neg, .string (bstr x), .int .i64 e] 24)).alloc (Obj.cells #[Value.bool false, Value.slice none 0 0] 155)) := (Below.refl _ _).alloc (Nat.le_refl _) _
 have hr0 : Room ((w.alloc (.cells #[.bool neg, .string (bstr x), .int .i64 e] 24)).alloc (Obj.cells #[Value.bool false, Value.slice none 0 0] 155)) (w.alloc (.cells #[.bool neg, .string (bstr x), .int .i64 e] 24)).heap.size 0 := Room.new _ 155 _ (by decide) (by simp)
 have hsz1 : (w.alloc (.cells #[.bool neg, .string (bstr x), .int .i64 e] 24)).heap.size = w.heap.size + 1 := by simp
 rw [hsz1] at hr0
 have hsz2 : ((w.alloc (.cells #[.bool neg, .string (bstr x), .int .i64 e] 24)).alloc (Obj.cells #[Value.bool false, Value.slice none 0 0] 155)).heap.size = w.heap.size + 1 + 1 := by simp
 have hslc := convW_slc ((w.alloc (.cells #[.bool neg, .string (bstr x), .int .i64 e] 24)).alloc (Obj.cells #[Value.bool false, Value.slice none 0 0] 155)) x
 have hcb := convW_below ((w.alloc (.cells #[.bool neg, .string (bstr x), .int .i64 e] 24)).alloc (Obj.cells #[Value.bool false, Value.slice none 0 0] 155)) (bstr x)
 rw [hsz2] at hslc
 have hr1 := hr0.below hcb
 refine (setbytes_any (w.heap.size + 1) 0 _ (Fil.dn 8 x) _ x _ hr1 (lt_dn (by omega) x) (by omega) hslc).mono ?_
 rintro r w1 ⟨rfl, hI, hB⟩
 have hb2 := hbx.trans (hcb.mono (by rw [hsz1, hsz2]; omega))
 have hb3 := hb2.trans (hB.below (B := w.heap.size + 1) (Nat.le_refl _) (by have := hcb.size; omega) |>.mono (by rw [hsz1]; omega))
 obtain ⟨c1, _, _⟩ := box_cells w neg (bstr x) e hb3
 have hb4 : Below w.heap.size w w1 := hb0.trans (hb3.mono (by rw [hsz1]; omega))
 clear hb2 hb3 hB hr0 hr1 hslc hcb hbx hb0 hsz1 hsz2 hrc hsz
 cases neg
 ·go_wp2
  go_ret
  exact ⟨rfl, hI, hb4⟩
 ·go_wp2_with (go_at_call 97; go_must (refine (neg_any (w.heap.size + 1) 0 (w.heap.size + 1) 0 (x : Int) _ hI.room hI (by have := dn8_32 x (Fil.dn 8 x) (lt_dn (by omega) x); simp only [Int.natAbs_natCast]; omega)).mono ?_); rintro r w2 ⟨rfl, hI2, hB2⟩)
  go_ret
  exact ⟨rfl, hI2, hb4.trans (hB2.below (by omega) hb4.size)⟩
end Go.Proofs.YtfbkopepkklkjaaGreatDoor

/- The walk over dyad.made. -/
namespace Go.Proofs.YtfbkopepkklkjaaGreatDoor
open Go Go.RowKit Go.PlainAid Fil

/-- what made answers: is there such a Dyad? its sign, magnitude, power; the error -/
def mkOk (z e : Int) : Bool := decide (z = 0) || (decide (Fil.dn 8 (z.natAbs / 2 ^ tz z.natAbs) ≤ 16384) && decide (-1048576 ≤ e + tz z.natAbs) && decide (e + tz z.natAbs ≤ 1048576))
def mkN (z e : Int) : Bool := mkOk z e && sg z
def mkX (z e : Int) : Nat := if mkOk z e then z.natAbs / 2 ^ tz z.natAbs else 0
def mkE (z e : Int) : Int := if mkOk z e && decide (z ≠ 0) then e + tz z.natAbs else 0
def mkR (z e : Int) : Int := if mkOk z e then 0 else 4
theorem mk_zero (e : Int) : mkOk 0 e = true ∧ mkN 0 e = false ∧ mkX 0 e = 0 ∧ mkE 0 e = 0 ∧ mkR 0 e = 0 := by
 have h : mkOk 0 e = true := by simp [mkOk]
 refine ⟨h, by simp [mkN, h, sg], by simp [mkX, h], by simp [mkE], by simp [mkR, h]⟩
theorem mk_bad {z e : Int} (h : mkOk z e = false) : mkN z e = false ∧ mkX z e = 0 ∧ mkE z e = 0 ∧ mkR z e = 4 := by
 refine ⟨by simp [mkN, h], by simp [mkX, h], by simp [mkE, h], by simp [mkR, h]⟩
theorem mk_good {z e : Int} (h : mkOk z e = true) (hz : z ≠ 0) : mkN z e = sg z ∧ mkX z e = z.natAbs / 2 ^ tz z.natAbs ∧ mkE z e = e + tz z.natAbs ∧ mkR z e = 0 := by
 refine ⟨by simp [mkN, h], by simp [mkX, h], by simp [mkE, h, hz], by simp [mkR, h]⟩
theorem mkOk_no1 {z e : Int} (hz : z ≠ 0) (h : ¬ Fil.dn 8 (z.natAbs / 2 ^ tz z.natAbs) ≤ 16384) : mkOk z e = false := by
 unfold mkOk; rw [decide_eq_false hz, decide_eq_false h]; rfl
theorem mkOk_no2 {z e : Int} (hz : z ≠ 0) (h : ¬ -1048576 ≤ e + tz z.natAbs) : mkOk z e = false := by
 unfold mkOk; rw [decide_eq_false hz, decide_eq_false h]; simp
theorem mkOk_no3 {z e : Int} (hz : z ≠ 0) (h : ¬ e + tz z.natAbs ≤ 1048576) : mkOk z e = false := by
 unfold mkOk; rw [decide_eq_false hz, decide_eq_false h]; simp
theorem mkOk_yes {z e : Int} (h1 : Fil.dn 8 (z.natAbs / 2 ^ tz z.natAbs) ≤ 16384) (h2 : -1048576 ≤ e + tz z.natAbs) (h3 : e + tz z.natAbs ≤ 1048576) : mkOk z e = true := by
 unfold mkOk; rw [decide_eq_true h1, decide_eq_true h2, decide_eq_true h3]; simp
theorem mk_ok (z e : Int) : okD (mkN z e) (mkX z e) (mkE z e) := by
 cases h : mkOk z e
 ·obtain ⟨h1, h2, h3, _⟩ := mk_bad h
  rw [h1, h2, h3]; exact okD.zero
 ·by_cases hz : z = 0
  ·subst hz
   obtain ⟨_, h1, h2, h3, _⟩ := mk_zero e
   rw [h1, h2, h3]; exact okD.zero
  ·obtain ⟨h1, h2, h3, _⟩ := mk_good h hz
   rw [h1, h2, h3]
   unfold mkOk at h
   rw [decide_eq_false hz] at h
   simp only [Bool.false_or, Bool.and_eq_true, decide_eq_true_eq] at h
   exact .inr ⟨tz_div (by omega), h.1.1, h.1.2, h.2⟩

theorem run_back (w : World) (g x : Nat) (h : w.rowIs g 5 (Fil.dn 8 x) (fun i => b8 x (Fil.dn 8 x - 1 - i))) (c : Nat) :
  (convert 157 22 (.slice (some ⟨g, 0, none⟩) (Fil.dn 8 x) c)).run Tryz.prog w = .ok (.string (bstr x)) w := by
 have := run_convert_bytes_back (P := Tryz.prog) w 157 22 5 ⟨g, 0, none⟩ c (bs x) Tryz.underlying157 Tryz.underlying5 Tryz.underlying22 (fun j hj => by
  have hj' : j < Fil.dn 8 x := by rw [bs_length] at hj; exact hj
  have h1 := h.cell hj'
  have e : (Addr.add ⟨g, 0, none⟩ j) = ⟨g, j, none⟩ := by unfold Addr.add; split <;> simp_all
  rw [e, h1, bs_get]; rfl)
 rw [bs_length] at this
 exact this

theorem tz_small {x : Nat} (h : Fil.dn 32 x ≤ 1048576) : tz x ≤ 33554432 := by
 by_cases h0 : x = 0
 ·subst h0; rw [tz_zero]; omega
 ·have h1 := tz_le_log h0
  have h2 := lt_of_dn (k := 32) (by omega) h
  have := (Nat.log2_lt h0).2 h2
  omega

theorem shrZ_nat (x k : Nat) : shrZ (x : Int) k = ((x / 2 ^ k : Nat) : Int) := by
 unfold shrZ sz sg
 have h : ¬ ((x : Int) < 0) := by omega
 simp [h]
theorem sign_sg (z : Int) : decide (z.sign < 0) = sg z := by
 unfold sg
 rcases Int.lt_trichotomy z 0 with h | h | h
 ·rw [Int.sign_eq_neg_one_of_neg h]; simp [h]
 ·subst h; rfl
 ·rw [Int.sign_eq_one_of_pos h]; simp; omega
theorem bstr_zero : bstr 0 = { data := #[] } := by unfold bstr; rw [bs_zero]
/-- an answer of a Dyad and an error -/
def dyR (neg : Bool) (x : Nat) (e r : Int) : Value := .tuple #[.agg #[.bool neg, .string (bstr x), .int .i64 e], .int .i64 r]
theorem dyR_eq {neg neg' : Bool} {x x' : Nat} {e e' r r' : Int} (h : neg = neg' ∧ x = x' ∧ e = e' ∧ r = r') : Ending.returned (dyR neg x e r) = .returned (dyR neg' x' e' r') := by
 obtain ⟨rfl, rfl, rfl, rfl⟩ := h; rfl
theorem dyR_none {neg : Bool} {x : Nat} {e r r' : Int} (h : neg = false ∧ x = 0 ∧ e = 0 ∧ r = r') : Ending.returned (.tuple #[.agg #[.bool false, .string { data := #[] }, .int .i64 0], .int .i64 r']) = .returned (dyR neg x e r) := by
 obtain ⟨rfl, rfl, rfl, rfl⟩ := h; rw [← bstr_zero]; rfl

set_option maxHeartbeats 4000000 in
theorem made_any (b o : Nat) (z e : Int) (w : World) (h : IntAt w b o z) (hz : Fil.dn 32 z.natAbs ≤ 1048576) (hT : Tab w) (he1 : -9223372036854775808 ≤ e) (he2 : e ≤ 9223372036854775807) :
  Calls Tryz.prog 60 #[.pointer (some ⟨b, o, none⟩), .int .i64 e] w fun r w' => r = .returned (dyR (mkN z e) (mkX z e) (mkE z e) (mkR z e)) ∧ Below w.heap.size w w' := by
 have hb0 : Below w.heap.size w (w.alloc (.cells #[.bool false, .string ByteArray.empty, .int .i64 0] 24)) := (Below.refl _ _).alloc (Nat.le_refl _) _
 have l0 := h.lt
 by_cases h0 : z = 0
 ·subst h0
  obtain ⟨_, m1, m2, m3, m4⟩ := mk_zero e
  have H := Lib.hid (And.intro m1 (And.intro m2 (And.intro m3 m4)))
  clear m1 m2 m3 m4 he1 he2
  go_enter Tryz.func60, Tryz.ntmps60
  go_wp2_with (go_at_call 100; go_must (refine (sign_any b o 0 _ (h.alloc _)).mono ?_); rintro r w1 ⟨rfl, rfl⟩)
  go_returns
  exact ⟨dyR_none H.out, (Below.refl _ _).alloc (Nat.le_refl _) _⟩
 ·have hzs : (z.sign == 0) = false := by
   rcases Int.lt_or_gt_of_ne h0 with h1 | h1
   ·rw [Int.sign_eq_neg_one_of_neg h1]; rfl
   ·rw [Int.sign_eq_one_of_pos h1]; rfl
  have ht := tz_small hz
  have ht0 : 0 ≤ (tz z.natAbs : Int) := by omega
  by_cases hf : 1099511627776 < e
  ·have hk : mkOk z e = false := mkOk_no3 h0 (by omega)
   obtain ⟨m1, m2, m3, m4⟩ := mk_bad hk
   have H := Lib.hid (And.intro m1 (And.intro m2 (And.intro m3 m4)))
   clear m1 m2 m3 m4 hk ht0 ht
   go_enter Tryz.func60, Tryz.ntmps60
   go_wp2_with (go_at_call 100; go_must (refine (sign_any b o z _ (h.alloc _)).mono ?_); rintro r w1 ⟨rfl, rfl⟩)
   go_returns
   exact ⟨dyR_none H.out, (Below.refl _ _).alloc (Nat.le_refl _) _⟩
  ·by_cases hf2 : e < -1099511627776
   ·have hk : mkOk z e = false := mkOk_no2 h0 (by omega)
    obtain ⟨m1, m2, m3, m4⟩ := mk_bad hk
    have H := Lib.hid (And.intro m1 (And.intro m2 (And.intro m3 m4)))
    clear m1 m2 m3 m4 hk ht0 ht
    go_enter Tryz.func60, Tryz.ntmps60
    go_wp2_with (go_at_call 100; go_must (refine (sign_any b o z _ (h.alloc _)).mono ?_); rintro r w1 ⟨rfl, rfl⟩)
    go_returns
    exact ⟨dyR_none H.out, (Below.refl _ _).alloc (Nat.le_refl _) _⟩
   ·have hT1 := Lib.hid (hT.alloc (.cells #[.bool false, .string { data := #[] }, .int .i64 0] 24))
    have hd := Nat.le_trans hz (show 1048576 ≤ 1099511627776 by omega)
    have hle := Nat.div_le_self z.natAbs (2 ^ tz z.natAbs)
    have hz2 : Fil.dn 32 (z.natAbs / 2 ^ tz z.natAbs) ≤ 1048576 := Nat.le_trans (dn_mono (by omega) hle) hz
    have hHT := Lib.hid hT
    have H0 := Lib.hid h0
    clear hT hle h0
    go_enter Tryz.func60, Tryz.ntmps60
    go_wp2_with (first
     | (go_at_call 100; go_must (refine (sign_any b o z _ (h.alloc _)).mono ?_); rintro r w1 ⟨rfl, rfl⟩)
     | (go_at_call 102; go_must (refine (tzb_any b o z _ (h.alloc _) hd hT1.out).mono ?_); rintro r w1 ⟨rfl, rfl⟩))
    have hbA : Below w.heap.size w ((w.alloc (Obj.cells #[Value.bool false, Value.string { data := #[] }, Value.int IntKind.i64 0] 24)).alloc (Obj.cells #[Value.bool false, Value.slice none 0 0] 155)) := ((Below.refl _ _).alloc (Nat.le_refl _) _).alloc (by simp) _
    have hrA := Room.new (o := 0) (w.alloc (Obj.cells #[Value.bool false, Value.string { data := #[] }, Value.int IntKind.i64 0] 24)) 155 #[Value.bool false, Value.slice none 0 0] (by decide) (by simp)
    have hrB := Room.new (o := 0) ((w.alloc (Obj.cells #[Value.bool false, Value.string { data := #[] }, Value.int IntKind.i64 0] 24)).alloc (Obj.cells #[Value.bool false, Value.slice none 0 0] 155)) 155 #[Value.bool false, Value.slice none 0 0] (by decide) (by simp)
    have hxA : Below (w.alloc (Obj.cells #[Value.bool false, Value.string { data := #[] }, Value.int IntKind.i64 0] 24)).heap.size (w.alloc (Obj.cells #[Value.bool false, Value.string { data := #[] }, Value.int IntKind.i64 0] 24)) _ := ((Below.refl _ _).alloc (Nat.le_refl _) (Obj.cells #[Value.bool false, Value.slice none 0 0] 155)).alloc (by simp) (Obj.cells #[Value.bool false, Value.slice none 0 0] 155)
    have hbB := hbA.alloc hbA.size (Obj.cells #[Value.bool false, Value.slice none 0 0] 155)
    have hs1 : (w.alloc (Obj.cells #[Value.bool false, Value.string { data := #[] }, Value.int IntKind.i64 0] 24)).heap.size = w.heap.size + 1 := by simp
    have hs2 : ((w.alloc (Obj.cells #[Value.bool false, Value.string { data := #[] }, Value.int IntKind.i64 0] 24)).alloc (Obj.cells #[Value.bool false, Value.slice none 0 0] 155)).heap.size = w.heap.size + 1 + 1 := by simp
    rw [hs1] at hrA
    rw [hs2] at hrB
    have hrA2 := hrA.alloc (Obj.cells #[Value.bool false, Value.slice none 0 0] 155)
    have hI0 := h.below hbB
    have hT2 := hHT.out.below hbB
    refine (abs_any (w.heap.size + 1 + 1) 0 b o z _ hrB hI0 hd).mono ?_
    rintro r w1 ⟨rfl, hI1, hB1⟩
    have hx1 := hxA.trans (hB1.below (by rw [hs1]; omega) hxA.size)
    have hb1 : Below w.heap.size w w1 := hbB.trans (hB1.below (by omega) hbB.size)
    have hrA3 := hrA2.but hB1
    have hT3 := Lib.hid (hHT.out.below hb1)
    clear hrA hrB hrA2 hI0 hT2 hbA hbB hs2 hb0 hxA
    have Hs1 := Lib.hid hs1
    have Hx1 := Lib.hid hx1
    clear hs1 hx1
    go_wp2_with fail
    refine (rsh_any (w.heap.size + 1) 0 (w.heap.size + 1 + 1) 0 (tz z.natAbs) (z.natAbs : Int) _ hrA3 hI1 (by rw [Int.natAbs_natCast]; omega) (by omega) hT3.out).mono ?_
    rintro r w2 ⟨rfl, hI2, hB2⟩
    rw [shrZ_nat] at hI2
    have hx2 := Lib.hid (Hx1.out.trans (hB2.below (by rw [Hs1.out]; omega) Hx1.out.size))
    have hb2 : Below w.heap.size w w2 := hb1.trans (hB2.below (by omega) hb1.size)
    go_wp2_with fail
    refine (bytes_any (w.heap.size + 1) 0 _ _ hI2 (by rw [Int.natAbs_natCast]; omega)).mono ?_
    rintro r w3 ⟨rfl, hrow, hb3⟩
    rw [Int.natAbs_natCast] at hrow ⊢
    have hb4 : Below w.heap.size w w3 := hb2.trans (hb3.mono hb2.size)
    have hI4 := h.below hb4
    have hx3 := hx2.out.trans (hb3.mono hx2.out.size)
    obtain ⟨c0, c1, c2⟩ := box_cells w false { data := #[] } 0 hx3
    have f0 := box_free w false { data := #[] } 0 hx3 0
    have f1 := box_free w false { data := #[] } 0 hx3 1
    have f2 := box_free w false { data := #[] } 0 hx3 2
    have hrb := Lib.hid (run_back w3.drew w2.heap.size (z.natAbs / 2 ^ tz z.natAbs) hrow)
    have hz1 := H0.out
    have hbZ : Below w.heap.size w (((w3.setCell ⟨w.heap.size, 0, none⟩ (.bool false)).setCell ⟨w.heap.size, 1, none⟩ (.string { data := #[] })).setCell ⟨w.heap.size, 2, none⟩ (.int .i64 0)) := ((hb4.setCell (Nat.le_refl _) _).setCell (Nat.le_refl _) _).setCell (Nat.le_refl _) _
    have hM : Fil.dn 8 (z.natAbs / 2 ^ tz z.natAbs) ≤ 4294967296 := by
     have h1 := dn8_le32 (z.natAbs / 2 ^ tz z.natAbs)
     omega
    clear hrow hb3 hI2 hB2 hx3 hB1 hI1 Hx1 hx2 Hs1 hT3 hb1 hb2 hHT hT1 hrA3
    have HI4 := Lib.hid hI4
    have HT := Lib.hid ht
    clear hI4 hz2
    by_cases g1 : Fil.dn 8 (z.natAbs / 2 ^ tz z.natAbs) ≤ 16384
    ·by_cases g2 : e + (tz z.natAbs : Int) ≤ 1048576
     ·by_cases g3 : -1048576 ≤ e + (tz z.natAbs : Int)
      ·have H := Lib.hid (mk_good (mkOk_yes g1 g3 g2) hz1)
       clear hz1 hbZ
       go_wp2
       refine wp_region_cut 7 (by kernel_rfl) (by kernel_rfl) ?_
       rintro W rfl
       simp only [List.take_succ_cons, List.take_zero, List.drop_succ_cons, List.drop_zero]
       refine wpAny_of_held (S := fun w' : World => w' = w3.drew) _ _ _ _ ?_
       have hHeld : (fun w' : World => w' = w3.drew) w3.drew := rfl
       have hrb2 := hrb.out
       refine tkA 0 ?_
       (try dsimp only [Act.put]); (try go_frame)
       refine tkA 3 ?_
       (try dsimp only [Act.put]); (try go_frame)
       refine tkA 4 ?_
       (try dsimp only [Act.put]); (try go_frame)
       refine tkA 5 ?_
       (try dsimp only [Act.put]); (try go_frame)
       refine wpAnyH_ready (rs := [1]) (by kernel_rfl) (by simp) ?_
       refine AllReadyH.cons rfl (fun K hK => ?_) AllReadyH.nil
       go_simp
       refine (sign_any b o z w3.drew (by exact HI4.out)).mono ?_
       rintro r w4 ⟨rfl, rfl⟩
       refine hK.out _ _ ?_ (fun hHeld => ?_)
       ·rfl
       clear hK K
       (try dsimp only [Act.put]); (try go_frame)
       refine tkA 2 ?_
       (try dsimp only [Act.put]); (try go_frame)
       refine tkA 6 ?_
       (try dsimp only [Act.put]); (try go_frame)
       refine wpAnyH_done (by kernel_rfl) ?_ _
       try simp only [QCut]
       go_wp2
       exact bodyPost_ret (v := .tuple #[.agg #[.bool (decide (z.sign < 0)), .string (bstr (z.natAbs / 2 ^ tz z.natAbs)), .int .i64 (e + (tz z.natAbs : Int))], .int .i64 0]) (by simp [results, Tryz.results60, go_sem, c0, c1, c2]) rfl
        ⟨dyR_eq ⟨(sign_sg z).trans H.out.1.symm, H.out.2.1.symm, H.out.2.2.1.symm, H.out.2.2.2.symm⟩, ((hb4.drew.setCell (Nat.le_refl _) _).setCell (Nat.le_refl _) _).setCell (Nat.le_refl _) _⟩
      ·have H := Lib.hid (mk_bad (mkOk_no2 hz1 g3))
       clear hz1
       go_wp2
       exact bodyPost_ret (v := .tuple #[.agg #[.bool false, .string { data := #[] }, .int .i64 0], .int .i64 4]) (by simp [results, Tryz.results60, go_sem, c0, c1, c2]) rfl ⟨dyR_none H.out, hbZ⟩
     ·have H := Lib.hid (mk_bad (mkOk_no3 hz1 g2))
      clear hz1
      go_wp2
      exact bodyPost_ret (v := .tuple #[.agg #[.bool false, .string { data := #[] }, .int .i64 0], .int .i64 4]) (by simp [results, Tryz.results60, go_sem, c0, c1, c2]) rfl ⟨dyR_none H.out, hbZ⟩
    ·have H := Lib.hid (mk_bad (e := e) (mkOk_no1 hz1 g1))
     clear hz1
     go_wp2
     exact bodyPost_ret (v := .tuple #[.agg #[.bool false, .string { data := #[] }, .int .i64 0], .int .i64 4]) (by simp [results, Tryz.results60, go_sem, c0, c1, c2]) rfl ⟨dyR_none H.out, hbZ⟩
end Go.Proofs.YtfbkopepkklkjaaGreatDoor

/- The walks over dyad.Sign, Top, Neg, Abs. -/
namespace Go.Proofs.YtfbkopepkklkjaaGreatDoor
open Go Go.RowKit Go.PlainAid Fil

theorem bstr_ne {x : Nat} (h : x ≠ 0) : (bstr x).toList.isEmpty = false ∧ (bstr x).toList ≠ [] := by
 have h1 := str_cons (s := bstr x) (by rw [bstr_size]; exact dn_pos h)
 exact ⟨h1, fun h2 => by rw [h2] at h1; cases h1⟩
theorem bstr_nil : (bstr 0).toList = [] := by rw [bstr_toList, bs_zero]
theorem bstr_len {neg : Bool} {x : Nat} {e : Int} (h : okD neg x e) : (bstr x).size ≤ 9223372036854775807 := by rw [bstr_size]; have := h.dn; omega
theorem box_below (w : World) (neg : Bool) (s : ByteArray) (e : Int) : Below w.heap.size w (w.alloc (.cells #[.bool neg, .string s, .int .i64 e] 24)) := (Below.refl _ _).alloc (Nat.le_refl _) _

set_option maxHeartbeats 1000000 in
theorem dsign_ok (neg : Bool) (x : Nat) (e : Int) (w : World) (h : okD neg x e) :
  Calls Tryz.prog 54 #[.agg #[.bool neg, .string (bstr x), .int .i64 e]] w fun r w' => r = .returned (.int .i64 (sz neg x).sign) ∧ Below w.heap.size w w' := by
 have hb0 := box_below w neg (bstr x) e
 have hm := mayB_ok h
 have hl := bstr_len h
 rcases h with ⟨rfl, rfl, rfl⟩ | h
 ·have h1 := bstr_nil
  clear hm hl
  go_enter Tryz.func54, Tryz.ntmps54
  go_wp2
  go_ret
  exact ⟨rfl, hb0⟩
 ·have hx : x ≠ 0 := by omega
  obtain ⟨h1, h2⟩ := bstr_ne hx
  have Hm := Lib.hid hm
  have Hx := Lib.hid hx
  clear hm hx h
  have cc := fun (w1 : World) hb => box_cells w neg (bstr x) e (w' := w1) hb
  cases neg
  ·go_enter Tryz.func54, Tryz.ntmps54
   go_wp2_with (go_at_call 28; go_must (refine (check_any false (bstr x) e _ hl).mono ?_); rintro r w1 ⟨rfl, hb1⟩; rw [Hm.out, okE_t]; obtain ⟨c0, c1, c2⟩ := cc _ hb1)
   go_ret
   exact ⟨by rw [Int.sign_eq_one_of_pos (show 0 < sz false x by have := Hx.out; simp [sz]; omega)]; rfl, hb0.trans (hb1.mono (by simp))⟩
  ·go_enter Tryz.func54, Tryz.ntmps54
   go_wp2_with (go_at_call 28; go_must (refine (check_any true (bstr x) e _ hl).mono ?_); rintro r w1 ⟨rfl, hb1⟩; rw [Hm.out, okE_t]; obtain ⟨c0, c1, c2⟩ := cc _ hb1)
   go_ret
   exact ⟨by rw [Int.sign_eq_neg_one_of_neg (show sz true x < 0 by have := Hx.out; simp [sz]; omega)]; rfl, hb0.trans (hb1.mono (by simp))⟩

/-- the answer of Neg and Abs -/
def dyN (neg : Bool) (x : Nat) (e : Int) : Value := .agg #[.bool neg, .string (bstr x), .int .i64 e]
theorem dyN_zero : Ending.returned (.agg #[.bool false, .string { data := #[] }, .int .i64 0]) = .returned (dyN false 0 0) := by rw [← bstr_zero]; rfl

/-- a Dyad in a block of its own -/
structure DyAt (w : World) (b : Nat) (neg : Bool) (s : ByteArray) (e : Int) : Prop where
 c0 : w.cell? ⟨b, 0, none⟩ = some (.bool neg)
 c1 : w.cell? ⟨b, 1, none⟩ = some (.string s)
 c2 : w.cell? ⟨b, 2, none⟩ = some (.int .i64 e)
 f0 : w.frozen? ⟨b, 0, none⟩ = false
 f1 : w.frozen? ⟨b, 1, none⟩ = false
 f2 : w.frozen? ⟨b, 2, none⟩ = false
theorem DyAt.below {w w' : World} {b B : Nat} {neg : Bool} {s : ByteArray} {e : Int} (h : DyAt w b neg s e) (hb : Below B w w') (hB : b < B) : DyAt w' b neg s e :=
 ⟨(hb.cell hB).trans h.c0, (hb.cell hB).trans h.c1, (hb.cell hB).trans h.c2, (hb.frozen hB).trans h.f0, (hb.frozen hB).trans h.f1, (hb.frozen hB).trans h.f2⟩
theorem DyAt.new (w : World) (b : Nat) (neg : Bool) (s : ByteArray) (e : Int) {w' : World} (hs : w.heap.size = b) (h : Below (b + 1) (w.alloc (.cells #[.bool neg, .string s, .int .i64 e] 24)) w') : DyAt w' b neg s e := by
 subst hs
 have h' : Below (w.alloc (.cells #[.bool neg, .string s, .int .i64 e] 24)).heap.size (w.alloc (.cells #[.bool neg, .string s, .int .i64 e] 24)) w' := h.mono (by simp)
 obtain ⟨c0, c1, c2⟩ := box_cells w neg s e h'
 exact ⟨c0, c1, c2, box_free w neg s e h' 0, box_free w neg s e h' 1, box_free w neg s e h' 2⟩

/-- a call of one Dyad and one Dyad to answer: its two blocks -/
theorem dy_two (w : World) (neg : Bool) (s : ByteArray) (e : Int) {w' : World} (h : Below ((w.alloc (.cells #[.bool neg, .string s, .int .i64 e] 24)).alloc (.cells #[.bool false, .string { data := #[] }, .int .i64 0] 24)).heap.size ((w.alloc (.cells #[.bool neg, .string s, .int .i64 e] 24)).alloc (.cells #[.bool false, .string { data := #[] }, .int .i64 0] 24)) w') :
  DyAt w' w.heap.size neg s e ∧ DyAt w' (w.heap.size + 1) false { data := #[] } 0 ∧ Below w.heap.size w w' := by
 have hs : (w.alloc (.cells #[.bool neg, .string s, .int .i64 e] 24)).heap.size = w.heap.size + 1 := by simp
 have h2 : Below (w.heap.size + 1 + 1) ((w.alloc (.cells #[.bool neg, .string s, .int .i64 e] 24)).alloc (.cells #[.bool false, .string { data := #[] }, .int .i64 0] 24)) w' := h.mono (by simp)
 have h3 : Below (w.heap.size + 1) (w.alloc (.cells #[.bool neg, .string s, .int .i64 e] 24)) w' := ((Below.refl _ _).alloc (by rw [hs]; exact Nat.le_refl _) _).trans (h2.mono (by omega))
 exact ⟨DyAt.new w _ neg s e rfl h3, DyAt.new _ _ false _ 0 hs h2, ((Below.refl _ _).alloc (Nat.le_refl _) _).trans (h3.mono (by omega))⟩

theorem sz_sign_ne {neg : Bool} {x : Nat} (h : x ≠ 0) : ((sz neg x).sign == 0) = false := by
 have : sz neg x ≠ 0 := by unfold sz; cases neg <;> simp <;> omega
 have h2 : (sz neg x).sign ≠ 0 := fun h3 => this (Int.sign_eq_zero_iff_zero.1 h3)
 rw [beq_eq_false_iff_ne]; exact h2
theorem sz_sign_zero (neg : Bool) : (sz neg 0).sign = 0 := by cases neg <;> rfl

set_option maxHeartbeats 1000000 in
theorem dneg_ok (neg : Bool) (x : Nat) (e : Int) (w : World) (h : okD neg x e) :
  Calls Tryz.prog 66 #[.agg #[.bool neg, .string (bstr x), .int .i64 e]] w fun r w' => r = .returned (dyN (!neg && decide (x ≠ 0)) x e) ∧ Below w.heap.size w w' := by
 by_cases hx : x = 0
 ·have ha : neg = false ∧ e = 0 := by
   rcases h with ⟨_, h1, h2⟩ | h
   ·exact ⟨h1, h2⟩
   ·omega
  obtain ⟨rfl, rfl⟩ := ha
  subst hx
  have hz := sz_sign_zero false
  go_enter Tryz.func66, Tryz.ntmps66
  go_wp2_with fail
  refine (dsign_ok false 0 0 _ h).mono ?_
  rw [hz]
  rintro r w1 ⟨rfl, hb1⟩
  obtain ⟨_, ⟨c0, c1, c2, f0, f1, f2⟩, hb⟩ := dy_two w false (bstr 0) 0 hb1
  have hbZ : Below w.heap.size w (((w1.setCell ⟨w.heap.size + 1, 0, none⟩ (.bool false)).setCell ⟨w.heap.size + 1, 1, none⟩ (.string { data := #[] })).setCell ⟨w.heap.size + 1, 2, none⟩ (.int .i64 0)) := ((hb.setCell (Nat.le_succ _) _).setCell (Nat.le_succ _) _).setCell (Nat.le_succ _) _
  clear hb1 hb
  go_wp2
  exact bodyPost_ret (v := .agg #[.bool false, .string { data := #[] }, .int .i64 0]) (by simp [results, Tryz.results66, go_sem, c0, c1, c2]) rfl ⟨dyN_zero, hbZ⟩
 ·have hz := sz_sign_ne (neg := neg) hx
  have hx2 := Lib.hid hx
  clear hx
  go_enter Tryz.func66, Tryz.ntmps66
  go_wp2_with fail
  refine (dsign_ok neg x e _ h).mono ?_
  rintro r w1 ⟨rfl, hb1⟩
  obtain ⟨⟨d0, d1, d2, g0, g1, g2⟩, ⟨c0, c1, c2, f0, f1, f2⟩, hb⟩ := dy_two w neg (bstr x) e hb1
  clear hb1 h
  go_wp2
  have hbZ : Below w.heap.size w ((((w1.setCell ⟨w.heap.size, 0, none⟩ (.bool !neg)).setCell ⟨w.heap.size + 1, 0, none⟩ (.bool !neg)).setCell ⟨w.heap.size + 1, 1, none⟩ (.string (bstr x))).setCell ⟨w.heap.size + 1, 2, none⟩ (.int .i64 e)) := (((hb.setCell (Nat.le_refl _) _).setCell (Nat.le_succ _) _).setCell (Nat.le_succ _) _).setCell (Nat.le_succ _) _
  refine bodyPost_ret (v := .agg #[.bool !neg, .string (bstr x), .int .i64 e]) (by simp [results, Tryz.results66, go_sem, c0, c1, c2]) rfl ⟨?_, hbZ⟩
  have : (!neg && decide (x ≠ 0)) = !neg := by rw [decide_eq_true hx2.out, Bool.and_true]
  rw [this]; rfl

/-- the highest bit's place of a Dyad that may be -/
def topZ (x : Nat) (e : Int) : Int := if x = 0 then 0 else (bl x : Int) - 1 + e

theorem topZ_pos {x : Nat} (h : x ≠ 0) (e : Int) : topZ x e = (bl x : Int) - 1 + e := if_neg h

set_option maxHeartbeats 1000000 in
theorem dtop_ok (neg : Bool) (x : Nat) (e : Int) (w : World) (h : okD neg x e) :
  Calls Tryz.prog 56 #[.agg #[.bool neg, .string (bstr x), .int .i64 e]] w fun r w' => r = .returned (.tuple #[.int .i64 (topZ x e), .bool (decide (x ≠ 0))]) ∧ Below w.heap.size w w' := by
 have hb0 := box_below w neg (bstr x) e
 by_cases hx : x = 0
 ·subst hx
  have hz := sz_sign_zero neg
  go_enter Tryz.func56, Tryz.ntmps56
  go_wp2_with fail
  refine (dsign_ok neg 0 e _ h).mono ?_
  rw [hz]
  rintro r w1 ⟨rfl, hb1⟩
  go_wp2
  go_returns
  exact ⟨rfl, hb0.trans (hb1.mono (by simp))⟩
 ·have hz := sz_sign_ne (neg := neg) hx
  have hx2 := Lib.hid hx
  have h2 := Lib.hid h
  have hsz : dn 32 x ≤ 1099511627776 := by have := h.dn; have := dn8_32 x (Fil.dn 8 x) (lt_dn (by omega) x); omega
  have he : -1048576 ≤ e ∧ e ≤ 1048576 := ⟨h.e1, h.e2⟩
  have hbl : bl x ≤ 1048576 := by have := h.dn; have := dn8_bl x; omega
  have hbl0 : 0 ≤ (bl x : Int) := by omega
  have H := Lib.hid (topZ_pos hx e)
  clear hx h
  go_enter Tryz.func56, Tryz.ntmps56
  go_wp2_with fail
  refine (dsign_ok neg x e _ h2.out).mono ?_
  rintro r w1 ⟨rfl, hb1⟩
  obtain ⟨c0, c1, c2⟩ := box_cells w neg (bstr x) e hb1
  have hB : Below w.heap.size w w1 := hb0.trans (hb1.mono (by simp))
  have hlt : w.heap.size < w1.heap.size := by have := hb1.size; simp at this; omega
  clear hb1
  have W1 : IntKind.i64.wrap ((bl x : Int) - 1) = (bl x : Int) - 1 := IntWalk.i64_in _ (by omega)
  have W2 : IntKind.i64.wrap ((bl x : Int) - 1 + e) = (bl x : Int) - 1 + e := IntWalk.i64_in _ (by omega)
  go_wp2
  refine wp_region_cut 7 (by kernel_rfl) (by kernel_rfl) ?_
  rintro W rfl
  simp only [List.take_succ_cons, List.take_zero, List.drop_succ_cons, List.drop_zero]
  have hHeld : (fun w' : World => w'.cell? ⟨w.heap.size, 0, none⟩ = some (.bool neg) ∧ w'.cell? ⟨w.heap.size, 1, none⟩ = some (.string (bstr x)) ∧ w'.cell? ⟨w.heap.size, 2, none⟩ = some (.int .i64 e)) w1.drew := ⟨c0, c1, c2⟩
  refine wpAny_of_held (S := fun w' : World => w'.cell? ⟨w.heap.size, 0, none⟩ = some (.bool neg) ∧ w'.cell? ⟨w.heap.size, 1, none⟩ = some (.string (bstr x)) ∧ w'.cell? ⟨w.heap.size, 2, none⟩ = some (.int .i64 e)) _ _ _ _ ?_
  refine tkA 0 ?_
  (try dsimp only [Act.put]); (try go_frame)
  refine tkA 4 ?_
  (try dsimp only [Act.put]); (try go_frame)
  refine tkA 5 ?_
  (try dsimp only [Act.put]); (try go_frame)
  refine wpAnyH_ready (rs := [1]) (by kernel_rfl) (by simp) ?_
  refine AllReadyH.cons rfl (fun K hK => ?_) AllReadyH.nil
  go_simp
  refine (whole_any neg x e _ h2.out).mono ?_
  rintro r w2 ⟨rfl, hI, hb2⟩
  have hB2 := hB.drew.trans (hb2.mono hB.drew.size)
  refine hK.out _ _ ?_ (fun hHeld => ?_)
  ·exact ⟨(hb2.cell hlt).trans c0, (hb2.cell hlt).trans c1, (hb2.cell hlt).trans c2⟩
  clear hK K
  (try dsimp only [Act.put]); (try go_frame)
  refine wpAnyH_ready (rs := [2]) (by kernel_rfl) (by simp) ?_
  refine AllReadyH.cons rfl (fun K hK => ?_) AllReadyH.nil
  go_simp
  refine (bitlen_any _ 0 _ _ hI (by rw [sz_abs]; exact hsz)).mono ?_
  rw [sz_abs]
  rintro r w3 ⟨rfl, rfl⟩
  refine hK.out _ _ ?_ (fun hHeld => ?_)
  ·exact ⟨(hb2.cell hlt).trans c0, (hb2.cell hlt).trans c1, (hb2.cell hlt).trans c2⟩
  clear hK K
  (try dsimp only [Act.put]); (try go_frame)
  refine tkA 3 ?_
  (try dsimp only [Act.put]); (try go_frame)
  refine tkA 6 ?_
  (try dsimp only [Act.put]); (try go_frame)
  refine wpAnyH_done (by kernel_rfl) ?_ _
  try simp only [QCut]
  go_wp2
  go_returns
  have h3 : (!decide (x = 0)) = true := by simp [hx2.out]
  refine ⟨?_, hB2⟩
  rw [H.out, h3]
  rfl
end Go.Proofs.YtfbkopepkklkjaaGreatDoor
