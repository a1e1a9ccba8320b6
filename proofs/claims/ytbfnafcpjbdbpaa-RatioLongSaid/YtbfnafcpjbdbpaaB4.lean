/- The walks of dyad's first functions. -/
import Derived.Test.YtbfnafcpjbdbpaaB3
import Derived.Test.YtbfnafcpjbdbpaaB1

/- The walks over nat.Check and dyad.Check. -/
namespace Go.Proofs.Ytbfnafcpjbdbpaa
open Go Go.RowKit Go.PlainAid Fil

theorem str_nil {s : ByteArray} (h : s.size = 0) : s.toList = [] := by
  rw [ByteArray.toList_eq]; apply List.eq_nil_of_length_eq_zero; simpa using h
theorem str_cons {s : ByteArray} (h : 0 < s.size) : s.toList.isEmpty = false := by
  rw [ByteArray.toList_eq]
  cases hl : s.data.toList with
  | nil =>
    have h1 : s.data.toList.length = 0 := by rw [hl]; rfl
    have h2 : s.data.toList.length = s.size := Array.length_toList
    omega
  | cons _ _ => rfl

/-- may a Nat be? -/
def natB (s : ByteArray) : Bool := decide (s.size ≤ 16384) && (decide (s.size = 0) || !(bt s 0 == 0))

set_option maxHeartbeats 1000000 in
theorem natmay_one (s : ByteArray) (g : Nat) (w : World) (hc : w.cell? ⟨g, 0, none⟩ = some (.string s)) (hs : s.size ≤ 9223372036854775807) :
    Calls Try.prog 64 #[.slice (some ⟨g, 0, none⟩) 1 1] w fun e w' => e = .returned (.bool (natB s)) ∧ w = w' := by
  by_cases h1 : s.size ≤ 16384
  · by_cases h2 : s.size = 0
    · have hB : natB s = true := by simp [natB, h2]
      have h3 := str_nil h2
      have HB := Lib.hid hB
      have h4 : (s.size : Int) ≤ 16384 := by omega
      clear h2 hB h1
      go_enter Try.func64, Try.ntmps64
      go_wp2
      refine wp_loop_rounds 2 ?_
      rw [rounds_succ]
      go_wp2
      rw [rounds_succ]
      go_wp2
      go_ret
      exact ⟨by rw [HB.out]; rfl, rfl⟩
    · have h3 := str_cons (s := s) (by omega)
      have h4 : (s.size : Int) ≤ 16384 := by omega
      have h5 : 0 < s.size := by omega
      have hb := get_bt s
      cases h6 : (bt s 0 == 0)
      · have HB : Hid (natB s = true) := Lib.hid (by simp [natB, h1, h6])
        clear h1 h2
        go_enter Try.func64, Try.ntmps64
        go_wp2
        refine wp_loop_rounds 2 ?_
        rw [rounds_succ]
        go_wp2
        rw [rounds_succ]
        go_wp2
        go_ret
        exact ⟨by rw [HB.out]; rfl, rfl⟩
      · have HB : Hid (natB s = false) := Lib.hid (by simp [natB, h2, h6])
        clear h1 h2
        go_enter Try.func64, Try.ntmps64
        go_wp2
        refine wp_loop_rounds 2 ?_
        rw [rounds_succ]
        go_wp2
        go_ret
        exact ⟨by rw [HB.out]; rfl, rfl⟩
  · have HB : Hid (natB s = false) := Lib.hid (by simp [natB, h1])
    have h4 : (16384 : Int) < (s.size : Int) := by omega
    clear h1
    go_enter Try.func64, Try.ntmps64
    go_wp2
    refine wp_loop_rounds 2 ?_
    rw [rounds_succ]
    go_wp2
    go_ret
    exact ⟨by rw [HB.out]; rfl, rfl⟩

/-- the error beside an answer -/
def okE (b : Bool) : Int := if b then 0 else 2
theorem okE_t : okE true = 0 := rfl
theorem okE_f : okE false = 2 := rfl
theorem one_cell (w : World) (v : Value) (t : TypeId) : (w.alloc (.cells #[v] t)).cell? ⟨w.heap.size, 0, none⟩ = some v := by
  rw [cell_of_row _ w.heap.size 0 #[v] t (0, 0) (heap_alloc_new w _)]; rfl

set_option maxHeartbeats 1000000 in
theorem natcheck_any (s : ByteArray) (w : World) (hs : s.size ≤ 9223372036854775807) :
    Calls Try.prog 33 #[.string s] w fun e w' => e = .returned (.int .i64 (okE (natB s))) ∧ Below w.heap.size w w' := by
  have hc := one_cell w (.string s) 23
  cases hB : natB s
  · have HB := Lib.hid hB
    clear hB
    go_enter Try.func33, Try.ntmps33
    go_wp2_with (go_at_call 64; go_must (refine (natmay_one s w.heap.size _ hc hs).mono ?_); rintro e w' ⟨rfl, rfl⟩; rw [HB.out])
    go_ret
    exact ⟨rfl, (Below.refl _ _).alloc (Nat.le_refl _) _⟩
  · have HB := Lib.hid hB
    clear hB
    go_enter Try.func33, Try.ntmps33
    go_wp2_with (go_at_call 64; go_must (refine (natmay_one s w.heap.size _ hc hs).mono ?_); rintro e w' ⟨rfl, rfl⟩; rw [HB.out])
    go_ret
    exact ⟨rfl, (Below.refl _ _).alloc (Nat.le_refl _) _⟩
end Go.Proofs.Ytbfnafcpjbdbpaa

/- The walk over dyad.Check. -/
namespace Go.Proofs.Ytbfnafcpjbdbpaa
open Go Go.RowKit Go.PlainAid Fil

/-- may a Dyad be? -/
def mayB (neg : Bool) (s : ByteArray) (e : Int) : Bool :=
  if s.size = 0 then !neg && (e == 0) else natB s && (bt s (s.size - 1) % 2 == 1) && decide (-1048576 ≤ e) && decide (e ≤ 1048576)
theorem mayB_low {neg : Bool} {s : ByteArray} {e : Int} (h0 : ¬ s.size = 0) (h : e < -1048576) : mayB neg s e = false := by
  have d : decide (-1048576 ≤ e) = false := by
    rw [decide_eq_false_iff_not]; omega
  unfold mayB; rw [if_neg h0, d]; simp
theorem mayB_high {neg : Bool} {s : ByteArray} {e : Int} (h0 : ¬ s.size = 0) (h : 1048576 < e) : mayB neg s e = false := by
  have d : decide (e ≤ 1048576) = false := by
    rw [decide_eq_false_iff_not]; omega
  unfold mayB; rw [if_neg h0, d]; simp
theorem mayB_yes {neg : Bool} {s : ByteArray} {e : Int} (h0 : ¬ s.size = 0) (hn : natB s = true) (ho : (bt s (s.size - 1) % 2 == 1) = true) (h1 : -1048576 ≤ e) (h2 : e ≤ 1048576) : mayB neg s e = true := by
  unfold mayB; rw [if_neg h0, hn, ho, decide_eq_true h1, decide_eq_true h2]; rfl
set_option maxHeartbeats 2000000 in
theorem check_any (neg : Bool) (s : ByteArray) (e : Int) (w : World) (hs : s.size ≤ 9223372036854775807) :
    Calls Try.prog 57 #[.agg #[.bool neg, .string s, .int .i64 e]] w fun r w' => r = .returned (.int .i64 (okE (mayB neg s e))) ∧ Below w.heap.size w w' := by
  have hb0 : Below w.heap.size w (w.alloc (.cells #[.bool neg, .string s, .int .i64 e] 44)) := (Below.refl _ _).alloc (Nat.le_refl _) _
  by_cases h0 : s.size = 0
  · have h1 := str_nil h0
    cases neg
    · by_cases he : e = 0
      · subst he
        have HB : Hid (mayB false s 0 = true) := Lib.hid (by simp [mayB, h0])
        clear h0
        go_enter Try.func57, Try.ntmps57
        go_wp2
        go_ret
        exact ⟨by rw [HB.out]; rfl, hb0⟩
      · have he' : (e == 0) = false := by simpa using he
        have HB : Hid (mayB false s e = false) := Lib.hid (by simp [mayB, h0, he'])
        clear h0 he
        go_enter Try.func57, Try.ntmps57
        go_wp2
        go_ret
        exact ⟨by rw [HB.out]; rfl, hb0⟩
    · have HB : Hid (mayB true s e = false) := Lib.hid (by simp [mayB, h0])
      clear h0
      go_enter Try.func57, Try.ntmps57
      go_wp2
      go_ret
      exact ⟨by rw [HB.out]; rfl, hb0⟩
  · have h3 := str_cons (s := s) (by omega)
    have h4 : s.toList ≠ [] := by intro h; rw [h] at h3; cases h3
    have h5 : 0 < s.size := by omega
    have hb := get_bt s
    have hle := bt_le s (s.size - 1)
    have hge := bt_nonneg s (s.size - 1)
    cases hn : natB s
    · have HB : Hid (mayB neg s e = false) := Lib.hid (by simp [mayB, h0, hn])
      have Hn := Lib.hid hn
      clear hn h0 hb hle hge
      go_enter Try.func57, Try.ntmps57
      go_wp2_with (go_at_call 33; go_must (refine (natcheck_any s _ hs).mono ?_); rintro r w1 ⟨rfl, hb1⟩; rw [Hn.out, okE_f])
      go_ret
      exact ⟨by rw [HB.out]; rfl, hb0.trans (hb1.mono (by simp))⟩
    · have Hn := Lib.hid hn
      have cc : ∀ w1, Below (w.alloc (.cells #[.bool neg, .string s, .int .i64 e] 44)).heap.size (w.alloc (.cells #[.bool neg, .string s, .int .i64 e] 44)) w1 → w1.cell? ⟨w.heap.size, 1, none⟩ = some (.string s) ∧ w1.cell? ⟨w.heap.size, 2, none⟩ = some (.int .i64 e) := fun w1 h =>
        ⟨(h.cell (p := ⟨w.heap.size, 1, none⟩) (by simp)).trans (by rw [cell_of_row _ w.heap.size 1 _ 44 (0, 0) (heap_alloc_new w _)]; rfl), (h.cell (p := ⟨w.heap.size, 2, none⟩) (by simp)).trans (by rw [cell_of_row _ w.heap.size 2 _ 44 (0, 0) (heap_alloc_new w _)]; rfl)⟩
      cases ho : (bt s (s.size - 1) % 2 == 0)
      · have hodd : (bt s (s.size - 1) % 2 == 1) = true := by simp at ho ⊢; omega
        by_cases h7 : e < -1048576
        · have HB : Hid (mayB neg s e = false) := Lib.hid (mayB_low h0 h7)
          clear hn h0 hodd
          go_enter Try.func57, Try.ntmps57
          go_wp2_with (go_at_call 33; go_must (refine (natcheck_any s _ hs).mono ?_); rintro r w1 ⟨rfl, hb1⟩; rw [Hn.out, okE_t]; obtain ⟨c1, c2⟩ := cc _ hb1)
          go_ret
          exact ⟨by rw [HB.out]; rfl, hb0.trans (hb1.mono (by simp))⟩
        · by_cases h8 : 1048576 < e
          · have HB : Hid (mayB neg s e = false) := Lib.hid (mayB_high h0 h8)
            clear hn h0 hodd
            go_enter Try.func57, Try.ntmps57
            go_wp2_with (go_at_call 33; go_must (refine (natcheck_any s _ hs).mono ?_); rintro r w1 ⟨rfl, hb1⟩; rw [Hn.out, okE_t]; obtain ⟨c1, c2⟩ := cc _ hb1)
            go_ret
            exact ⟨by rw [HB.out]; rfl, hb0.trans (hb1.mono (by simp))⟩
          · have HB : Hid (mayB neg s e = true) := Lib.hid (mayB_yes h0 hn hodd (by omega) (by omega))
            clear hn h0 hodd
            go_enter Try.func57, Try.ntmps57
            go_wp2_with (go_at_call 33; go_must (refine (natcheck_any s _ hs).mono ?_); rintro r w1 ⟨rfl, hb1⟩; rw [Hn.out, okE_t]; obtain ⟨c1, c2⟩ := cc _ hb1)
            go_ret
            exact ⟨by rw [HB.out]; rfl, hb0.trans (hb1.mono (by simp))⟩
      · have hodd : (bt s (s.size - 1) % 2 == 1) = false := by simp at ho ⊢; omega
        have HB : Hid (mayB neg s e = false) := Lib.hid (by simp [mayB, h0, hodd])
        clear hn h0 hodd
        go_enter Try.func57, Try.ntmps57
        go_wp2_with (go_at_call 33; go_must (refine (natcheck_any s _ hs).mono ?_); rintro r w1 ⟨rfl, hb1⟩; rw [Hn.out, okE_t]; obtain ⟨c1, c2⟩ := cc _ hb1)
        go_ret
        exact ⟨by rw [HB.out]; rfl, hb0.trans (hb1.mono (by simp))⟩
end Go.Proofs.Ytbfnafcpjbdbpaa

/- The walk over dyad.all: Dyads in a slice. -/
namespace Go.Proofs.Ytbfnafcpjbdbpaa
open Go Go.RowKit Go.PlainAid Fil

/-- Dyads in a slice, by place -/
def Dys (w : World) (A : Option Addr) (n : Nat) (N : Nat → Bool) (S : Nat → ByteArray) (E : Nat → Int) : Prop :=
  0 < n → ∃ b o, A = some ⟨b, o, none⟩ ∧ b < w.heap.size ∧ ∀ i, i < n → w.cell? ⟨b, o + i * 3, none⟩ = some (.bool (N i)) ∧ w.cell? ⟨b, o + i * 3 + 1, none⟩ = some (.string (S i)) ∧ w.cell? ⟨b, o + i * 3 + 2, none⟩ = some (.int .i64 (E i))
theorem Dys.below {w w' : World} {A : Option Addr} {n : Nat} {N : Nat → Bool} {S : Nat → ByteArray} {E : Nat → Int} (h : Dys w A n N S E) (hb : Below w.heap.size w w') : Dys w' A n N S E := fun hn => by
  obtain ⟨b, o, hA, hlt, hc⟩ := h hn
  exact ⟨b, o, hA, Nat.lt_of_lt_of_le hlt hb.size, fun i hi => ⟨(hb.cell (p := ⟨b, _, none⟩) hlt).trans (hc i hi).1, (hb.cell (p := ⟨b, _, none⟩) hlt).trans (hc i hi).2.1, (hb.cell (p := ⟨b, _, none⟩) hlt).trans (hc i hi).2.2⟩⟩
end Go.Proofs.Ytbfnafcpjbdbpaa

/- Dyads that may be; the walk over dyad.whole. -/
namespace Go.Proofs.Ytbfnafcpjbdbpaa
open Go Go.RowKit Go.PlainAid Fil

/-- a number's bytes as a string -/
def bstr (x : Nat) : ByteArray := ⟨(bs x).toArray⟩
theorem bstr_size (x : Nat) : (bstr x).size = dn 8 x := by
  have : (bstr x).size = (bs x).length := by simp [bstr, ByteArray.size]
  rw [this, bs_length]
theorem bstr_toList (x : Nat) : (bstr x).toList = bs x := by unfold bstr; simp
theorem bstr_bt (x k : Nat) (h : k < dn 8 x) : bt (bstr x) k = (dg 8 x (dn 8 x - 1 - k) : Int) := by
  have h1 : k < (bstr x).size := by rw [bstr_size]; exact h
  rw [← get_bt _ k h1]
  have h2 : k < (bs x).length := by rw [bs_length]; exact h
  have : (bstr x)[k] = (bs x)[k] := by simp [bstr, ByteArray.getElem_eq_getElem_data]
  exact (congrArg (fun b : UInt8 => ((b.toNat : Nat) : Int)) this).trans (by rw [bs_get])
/-- a Dyad that may be: its sign, its magnitude, its power -/
def okD (neg : Bool) (x : Nat) (e : Int) : Prop := (x = 0 ∧ neg = false ∧ e = 0) ∨ (x % 2 = 1 ∧ dn 8 x ≤ 16384 ∧ -1048576 ≤ e ∧ e ≤ 1048576)
theorem okD.dn {neg : Bool} {x : Nat} {e : Int} (h : okD neg x e) : dn 8 x ≤ 16384 := by
  rcases h with ⟨rfl, _⟩ | h
  · rw [dn_zero]; omega
  · exact h.2.1
theorem okD.e1 {neg : Bool} {x : Nat} {e : Int} (h : okD neg x e) : -1048576 ≤ e := by rcases h with h | h <;> omega
theorem okD.e2 {neg : Bool} {x : Nat} {e : Int} (h : okD neg x e) : e ≤ 1048576 := by rcases h with h | h <;> omega
theorem okD.zero : okD false 0 0 := .inl ⟨rfl, rfl, rfl⟩
theorem mayB_ok {neg : Bool} {x : Nat} {e : Int} (h : okD neg x e) : mayB neg (bstr x) e = true := by
  rcases h with ⟨rfl, rfl, rfl⟩ | ⟨h1, h2, h3, h4⟩
  · unfold mayB; rw [bstr_size, dn_zero]; rfl
  · have hx : x ≠ 0 := by omega
    have hp := dn_pos (k := 8) hx
    refine mayB_yes (by rw [bstr_size]; omega) ?_ ?_ h3 h4
    · unfold natB
      rw [bstr_size, bstr_bt x 0 hp]
      have ht := dg_top (k := 8) (by omega) hx
      have d1 : decide (Fil.dn 8 x ≤ 16384) = true := decide_eq_true h2
      have d2 : ((dg 8 x (Fil.dn 8 x - 1 - 0) : Int) == 0) = false := by
        rw [beq_eq_false_iff_ne, Nat.sub_zero]; omega
      rw [d1, d2]; simp
    · rw [bstr_size, bstr_bt x _ (by omega), show Fil.dn 8 x - 1 - (Fil.dn 8 x - 1) = 0 by omega]
      have : dg 8 x 0 = x % 256 := by simp [dg]
      rw [this, beq_iff_eq]; omega
theorem bt_get {s : ByteArray} {k : Nat} (h : k < s.size) : bt s k = (s[k].toNat : Int) := (get_bt s k h).symm
theorem ok_of_may {neg : Bool} {s : ByteArray} {e : Int} (h : mayB neg s e = true) : ∃ x, s = bstr x ∧ okD neg x e := by
  by_cases h0 : s.size = 0
  · unfold mayB at h
    rw [if_pos h0] at h
    simp only [Bool.and_eq_true, Bool.not_eq_true', beq_iff_eq] at h
    refine ⟨0, ?_, .inl ⟨rfl, h.1, h.2⟩⟩
    apply ByteArray.ext
    rw [Array.eq_empty_of_size_eq_zero h0]
    simp [bstr, bs_zero]
  · have hl : s.data.toList.length = s.size := Array.length_toList
    unfold mayB at h
    rw [if_neg h0] at h
    simp only [Bool.and_eq_true, decide_eq_true_eq, beq_iff_eq] at h
    obtain ⟨⟨⟨hn, ho⟩, h1⟩, h2⟩ := h
    unfold natB at hn
    simp only [Bool.and_eq_true, Bool.or_eq_true, decide_eq_true_eq, Bool.not_eq_true', beq_eq_false_iff_ne] at hn
    have hc : cano s.data.toList := by
      intro hp h00
      rcases hn.2 with h3 | h3
      · exact h0 h3
      · apply h3
        rw [bt_get (by omega)]
        have : s[0] = s.data.toList[0] := by simp [ByteArray.getElem_eq_getElem_data]
        rw [this, h00]; rfl
    have hb := bs_nb hc
    refine ⟨nb s.data.toList, ?_, .inr ⟨?_, ?_, h1, h2⟩⟩
    · unfold bstr; rw [hb]
    · rw [nb_odd (by omega)]
      rw [bt_get (by omega)] at ho
      have : s[s.size - 1] = s.data.toList[s.data.toList.length - 1] := by simp [ByteArray.getElem_eq_getElem_data, hl]
      rw [this] at ho
      omega
    · rw [dn_nb hc, hl]; exact hn.1

/-- a string made a slice of bytes: the world behind it, its capacity -/
def convW (W : World) (s : ByteArray) : World := W.drew.alloc (.cells (bytesRow s (grownCap W s.size 0 5)) 5 ((bytesRow s (grownCap W s.size 0 5)).size, (bytesRow s (grownCap W s.size 0 5)).size + 1))
def convC (W : World) (s : ByteArray) : Nat := grownCap W s.size 0 5
theorem run_conv (W : World) (s : ByteArray) : (convert 23 47 (.string s)).run Try.prog W = .ok (.slice (some ⟨W.heap.size, 0, none⟩) s.size (convC W s)) (convW W s) :=
  run_bytes_of_string W 23 47 5 s Try.underlying23 Try.underlying47 Try.underlying5
theorem convW_below (W : World) (s : ByteArray) : Below W.heap.size W (convW W s) := ((Below.refl _ _).drew).alloc (Nat.le_refl _) _
theorem convW_slc (W : World) (x : Nat) : Slc (convW W (bstr x)) 5 (some ⟨W.heap.size, 0, none⟩) (Fil.dn 8 x) (fun i => b8 x (Fil.dn 8 x - 1 - i)) := fun _ => by
  refine ⟨W.heap.size, 0, _, _, rfl, heap_alloc_new W.drew _, fun j hj => ?_⟩
  have h1 : j < (bstr x).data.size := by have := bstr_size x; have h2 : (bstr x).size = (bstr x).data.size := rfl; omega
  have h2 : j < (bs x).length := by rw [bs_length]; exact hj
  rw [Nat.zero_add, bytesRow_at _ _ _ h1]
  have : (bstr x).data[j] = (bs x)[j] := by simp [bstr]
  refine (congrArg (fun b : UInt8 => some (Value.int .u8 ((b.toNat : Nat) : Int))) this).trans ?_
  rw [bs_get]; rfl

/-- a Dyad's box: its cells -/
theorem box_cells (w : World) (neg : Bool) (s : ByteArray) (e : Int) {w' : World} (h : Below (w.alloc (.cells #[.bool neg, .string s, .int .i64 e] 44)).heap.size (w.alloc (.cells #[.bool neg, .string s, .int .i64 e] 44)) w') :
    w'.cell? ⟨w.heap.size, 0, none⟩ = some (.bool neg) ∧ w'.cell? ⟨w.heap.size, 1, none⟩ = some (.string s) ∧ w'.cell? ⟨w.heap.size, 2, none⟩ = some (.int .i64 e) :=
  ⟨(h.cell (p := ⟨w.heap.size, 0, none⟩) (by simp)).trans (by rw [cell_of_row _ w.heap.size 0 _ 44 (0, 0) (heap_alloc_new w _)]; rfl), (h.cell (p := ⟨w.heap.size, 1, none⟩) (by simp)).trans (by rw [cell_of_row _ w.heap.size 1 _ 44 (0, 0) (heap_alloc_new w _)]; rfl), (h.cell (p := ⟨w.heap.size, 2, none⟩) (by simp)).trans (by rw [cell_of_row _ w.heap.size 2 _ 44 (0, 0) (heap_alloc_new w _)]; rfl)⟩
theorem box_free (w : World) (neg : Bool) (s : ByteArray) (e : Int) {w' : World} (h : Below (w.alloc (.cells #[.bool neg, .string s, .int .i64 e] 44)).heap.size (w.alloc (.cells #[.bool neg, .string s, .int .i64 e] 44)) w') (j : Nat) : w'.frozen? ⟨w.heap.size, j, none⟩ = false :=
  (h.frozen (p := ⟨w.heap.size, j, none⟩) (by simp)).trans ((World.frozen?_alloc_mark w _ _ 0 0 j).trans (by simp))

end Go.Proofs.Ytbfnafcpjbdbpaa

/- The walk over dyad.made. -/
namespace Go.Proofs.Ytbfnafcpjbdbpaa
open Go Go.RowKit Go.PlainAid Fil

/-- what made answers: is there such a Dyad? its sign, magnitude, power; the error -/
def mkOk (z e : Int) : Bool := decide (z = 0) || (decide (Fil.dn 8 (z.natAbs / 2 ^ tz z.natAbs) ≤ 16384) && decide (-1048576 ≤ e + tz z.natAbs) && decide (e + tz z.natAbs ≤ 1048576))
def mkN (z e : Int) : Bool := mkOk z e && sg z
def mkX (z e : Int) : Nat := if mkOk z e then z.natAbs / 2 ^ tz z.natAbs else 0
def mkE (z e : Int) : Int := if mkOk z e && decide (z ≠ 0) then e + tz z.natAbs else 0
def mkR (z e : Int) : Int := if mkOk z e then 0 else 4
theorem mk_zero (e : Int) : mkOk 0 e = true ∧ mkN 0 e = false ∧ mkX 0 e = 0 ∧ mkE 0 e = 0 ∧ mkR 0 e = 0 := by
  have h : mkOk 0 e = true := by simp [mkOk]
  refine ⟨h, by simp [mkN, h, sg], by simp [mkX, h], by simp [mkE], by simp [mkR, h]⟩
theorem mk_good {z e : Int} (h : mkOk z e = true) (hz : z ≠ 0) : mkN z e = sg z ∧ mkX z e = z.natAbs / 2 ^ tz z.natAbs ∧ mkE z e = e + tz z.natAbs ∧ mkR z e = 0 := by
  refine ⟨by simp [mkN, h], by simp [mkX, h], by simp [mkE, h, hz], by simp [mkR, h]⟩
theorem mkOk_yes {z e : Int} (h1 : Fil.dn 8 (z.natAbs / 2 ^ tz z.natAbs) ≤ 16384) (h2 : -1048576 ≤ e + tz z.natAbs) (h3 : e + tz z.natAbs ≤ 1048576) : mkOk z e = true := by
  unfold mkOk; rw [decide_eq_true h1, decide_eq_true h2, decide_eq_true h3]; simp
theorem run_back (w : World) (g x : Nat) (h : w.rowIs g 5 (Fil.dn 8 x) (fun i => b8 x (Fil.dn 8 x - 1 - i))) (c : Nat) :
    (convert 47 23 (.slice (some ⟨g, 0, none⟩) (Fil.dn 8 x) c)).run Try.prog w = .ok (.string (bstr x)) w := by
  have := run_convert_bytes_back (P := Try.prog) w 47 23 5 ⟨g, 0, none⟩ c (bs x) Try.underlying47 Try.underlying5 Try.underlying23 (fun j hj => by
    have hj' : j < Fil.dn 8 x := by rw [bs_length] at hj; exact hj
    have h1 := h.cell hj'
    have e : (Addr.add ⟨g, 0, none⟩ j) = ⟨g, j, none⟩ := by unfold Addr.add; split <;> simp_all
    rw [e, h1, bs_get]; rfl)
  rw [bs_length] at this
  exact this

theorem sign_sg (z : Int) : decide (z.sign < 0) = sg z := by
  unfold sg
  rcases Int.lt_trichotomy z 0 with h | h | h
  · rw [Int.sign_eq_neg_one_of_neg h]; simp [h]
  · subst h; rfl
  · rw [Int.sign_eq_one_of_pos h]; simp; omega
theorem bstr_zero : bstr 0 = { data := #[] } := by unfold bstr; rw [bs_zero]
end Go.Proofs.Ytbfnafcpjbdbpaa

/- The walks over dyad.Sign, Top, Neg, Abs. -/
namespace Go.Proofs.Ytbfnafcpjbdbpaa
open Go Go.RowKit Go.PlainAid Fil

theorem bstr_ne {x : Nat} (h : x ≠ 0) : (bstr x).toList.isEmpty = false ∧ (bstr x).toList ≠ [] := by
  have h1 := str_cons (s := bstr x) (by rw [bstr_size]; exact dn_pos h)
  exact ⟨h1, fun h2 => by rw [h2] at h1; cases h1⟩
theorem bstr_nil : (bstr 0).toList = [] := by rw [bstr_toList, bs_zero]
theorem box_below (w : World) (neg : Bool) (s : ByteArray) (e : Int) : Below w.heap.size w (w.alloc (.cells #[.bool neg, .string s, .int .i64 e] 44)) := (Below.refl _ _).alloc (Nat.le_refl _) _

/-- a Dyad in a block of its own -/
structure DyAt (w : World) (b : Nat) (neg : Bool) (s : ByteArray) (e : Int) : Prop where
  c0 : w.cell? ⟨b, 0, none⟩ = some (.bool neg)
  c1 : w.cell? ⟨b, 1, none⟩ = some (.string s)
  c2 : w.cell? ⟨b, 2, none⟩ = some (.int .i64 e)
  f0 : w.frozen? ⟨b, 0, none⟩ = false
  f1 : w.frozen? ⟨b, 1, none⟩ = false
  f2 : w.frozen? ⟨b, 2, none⟩ = false
theorem DyAt.below {w w' : World} {b B : Nat} {neg : Bool} {s : ByteArray} {e : Int} (h : DyAt w b neg s e) (hb : Below B w w') (hB : b < B) : DyAt w' b neg s e :=
  ⟨(hb.cell hB).trans h.c0, (hb.cell hB).trans h.c1, (hb.cell hB).trans h.c2, (hb.frozen hB).trans h.f0, (hb.frozen hB).trans h.f1, (hb.frozen hB).trans h.f2⟩
theorem DyAt.new (w : World) (b : Nat) (neg : Bool) (s : ByteArray) (e : Int) {w' : World} (hs : w.heap.size = b) (h : Below (b + 1) (w.alloc (.cells #[.bool neg, .string s, .int .i64 e] 44)) w') : DyAt w' b neg s e := by
  subst hs
  have h' : Below (w.alloc (.cells #[.bool neg, .string s, .int .i64 e] 44)).heap.size (w.alloc (.cells #[.bool neg, .string s, .int .i64 e] 44)) w' := h.mono (by simp)
  obtain ⟨c0, c1, c2⟩ := box_cells w neg s e h'
  exact ⟨c0, c1, c2, box_free w neg s e h' 0, box_free w neg s e h' 1, box_free w neg s e h' 2⟩

end Go.Proofs.Ytbfnafcpjbdbpaa
