/- The walks of dyad's first functions. -/
import Derived.Test.YtbhfnigblhfikaaGreatB3
import Derived.Test.YtbhfnigblhfikaaGreatB1

/- The walks over nat.Check and dyad.Check. -/
namespace Go.Proofs.YtbhfnigblhfikaaGreat
open Go Go.RowKit Go.PlainAid Fil

theorem str_nil {s : ByteArray} (h : s.size = 0) : s.toList = [] := by
  rw [ByteArray.toList_eq]; apply List.eq_nil_of_length_eq_zero; simpa using h
theorem str_cons {s : ByteArray} (h : 0 < s.size) : s.toList.isEmpty = false := by
  rw [ByteArray.toList_eq]
  cases hl : s.data.toList with
  | nil =>
    have h1 : s.data.toList.length = 0 := by rw [hl]; rfl
    have h2 : s.data.toList.length = s.size := Array.length_toList
    omega
  | cons _ _ => rfl

/-- may a Nat be? -/
def natB (s : ByteArray) : Bool := decide (s.size ≤ 16384) && (decide (s.size = 0) || !(bt s 0 == 0))

set_option maxHeartbeats 1000000 in
theorem natmay_one (s : ByteArray) (g : Nat) (w : World) (hc : w.cell? ⟨g, 0, none⟩ = some (.string s)) (hs : s.size ≤ 9223372036854775807) :
    Calls Tryz.prog 83 #[.slice (some ⟨g, 0, none⟩) 1 1] w fun e w' => e = .returned (.bool (natB s)) ∧ w = w' := by
  by_cases h1 : s.size ≤ 16384
  · by_cases h2 : s.size = 0
    · have hB : natB s = true := by simp [natB, h2]
      have h3 := str_nil h2
      have HB := Lib.hid hB
      have h4 : (s.size : Int) ≤ 16384 := by omega
      clear h2 hB h1
      go_enter Tryz.func83, Tryz.ntmps83
      go_wp2
      refine wp_loop_rounds 2 ?_
      rw [rounds_succ]
      go_wp2
      rw [rounds_succ]
      go_wp2
      go_ret
      exact ⟨by rw [HB.out]; rfl, rfl⟩
    · have h3 := str_cons (s := s) (by omega)
      have h4 : (s.size : Int) ≤ 16384 := by omega
      have h5 : 0 < s.size := by omega
      have hb := get_bt s
      cases h6 : (bt s 0 == 0)
      · have HB : Hid (natB s = true) := Lib.hid (by simp [natB, h1, h6])
        clear h1 h2
        go_enter Tryz.func83, Tryz.ntmps83
        go_wp2
        refine wp_loop_rounds 2 ?_
        rw [rounds_succ]
        go_wp2
        rw [rounds_succ]
        go_wp2
        go_ret
        exact ⟨by rw [HB.out]; rfl, rfl⟩
      · have HB : Hid (natB s = false) := Lib.hid (by simp [natB, h2, h6])
        clear h1 h2
        go_enter Tryz.func83, Tryz.ntmps83
        go_wp2
        refine wp_loop_rounds 2 ?_
        rw [rounds_succ]
        go_wp2
        go_ret
        exact ⟨by rw [HB.out]; rfl, rfl⟩
  · have HB : Hid (natB s = false) := Lib.hid (by simp [natB, h1])
    have h4 : (16384 : Int) < (s.size : Int) := by omega
    clear h1
    go_enter Tryz.func83, Tryz.ntmps83
    go_wp2
    refine wp_loop_rounds 2 ?_
    rw [rounds_succ]
    go_wp2
    go_ret
    exact ⟨by rw [HB.out]; rfl, rfl⟩

/-- the error beside an answer -/
def okE (b : Bool) : Int := if b then 0 else 2
theorem okE_t : okE true = 0 := rfl
theorem okE_f : okE false = 2 := rfl
theorem one_cell (w : World) (v : Value) (t : TypeId) : (w.alloc (.cells #[v] t)).cell? ⟨w.heap.size, 0, none⟩ = some v := by
  rw [cell_of_row _ w.heap.size 0 #[v] t (0, 0) (heap_alloc_new w _)]; rfl

set_option maxHeartbeats 1000000 in
theorem natcheck_any (s : ByteArray) (w : World) (hs : s.size ≤ 9223372036854775807) :
    Calls Tryz.prog 51 #[.string s] w fun e w' => e = .returned (.int .i64 (okE (natB s))) ∧ Below w.heap.size w w' := by
  have hc := one_cell w (.string s) 22
  cases hB : natB s
  · have HB := Lib.hid hB
    clear hB
    go_enter Tryz.func51, Tryz.ntmps51
    go_wp2_with (go_at_call 83; go_must (refine (natmay_one s w.heap.size _ hc hs).mono ?_); rintro e w' ⟨rfl, rfl⟩; rw [HB.out])
    go_ret
    exact ⟨rfl, (Below.refl _ _).alloc (Nat.le_refl _) _⟩
  · have HB := Lib.hid hB
    clear hB
    go_enter Tryz.func51, Tryz.ntmps51
    go_wp2_with (go_at_call 83; go_must (refine (natmay_one s w.heap.size _ hc hs).mono ?_); rintro e w' ⟨rfl, rfl⟩; rw [HB.out])
    go_ret
    exact ⟨rfl, (Below.refl _ _).alloc (Nat.le_refl _) _⟩
end Go.Proofs.YtbhfnigblhfikaaGreat

/- The walk over dyad.Check. -/
namespace Go.Proofs.YtbhfnigblhfikaaGreat
open Go Go.RowKit Go.PlainAid Fil

/-- may a Dyad be? -/
def mayB (neg : Bool) (s : ByteArray) (e : Int) : Bool :=
  if s.size = 0 then !neg && (e == 0) else natB s && (bt s (s.size - 1) % 2 == 1) && decide (-1048576 ≤ e) && decide (e ≤ 1048576)
theorem mayB_low {neg : Bool} {s : ByteArray} {e : Int} (h0 : ¬ s.size = 0) (h : e < -1048576) : mayB neg s e = false := by
  have d : decide (-1048576 ≤ e) = false := by
    rw [decide_eq_false_iff_not]; omega
  unfold mayB; rw [if_neg h0, d]; simp
theorem mayB_high {neg : Bool} {s : ByteArray} {e : Int} (h0 : ¬ s.size = 0) (h : 1048576 < e) : mayB neg s e = false := by
  have d : decide (e ≤ 1048576) = false := by
    rw [decide_eq_false_iff_not]; omega
  unfold mayB; rw [if_neg h0, d]; simp
theorem mayB_yes {neg : Bool} {s : ByteArray} {e : Int} (h0 : ¬ s.size = 0) (hn : natB s = true) (ho : (bt s (s.size - 1) % 2 == 1) = true) (h1 : -1048576 ≤ e) (h2 : e ≤ 1048576) : mayB neg s e = true := by
  unfold mayB; rw [if_neg h0, hn, ho, decide_eq_true h1, decide_eq_true h2]; rfl
/-- a Dyad by its fields -/
def dyA (neg : Bool) (s : ByteArray) (e : Int) : Value := .agg #[.bool neg, .string s, .int .i64 e]

end Go.Proofs.YtbhfnigblhfikaaGreat

/- The walk over dyad.all: Dyads in a slice. -/
namespace Go.Proofs.YtbhfnigblhfikaaGreat
open Go Go.RowKit Go.PlainAid Fil

/-- Dyads in a slice, by place -/
def Dys (w : World) (A : Option Addr) (n : Nat) (N : Nat → Bool) (S : Nat → ByteArray) (E : Nat → Int) : Prop :=
  0 < n → ∃ b o, A = some ⟨b, o, none⟩ ∧ b < w.heap.size ∧ ∀ i, i < n → w.cell? ⟨b, o + i * 3, none⟩ = some (.bool (N i)) ∧ w.cell? ⟨b, o + i * 3 + 1, none⟩ = some (.string (S i)) ∧ w.cell? ⟨b, o + i * 3 + 2, none⟩ = some (.int .i64 (E i))
theorem Dys.below {w w' : World} {A : Option Addr} {n : Nat} {N : Nat → Bool} {S : Nat → ByteArray} {E : Nat → Int} (h : Dys w A n N S E) (hb : Below w.heap.size w w') : Dys w' A n N S E := fun hn => by
  obtain ⟨b, o, hA, hlt, hc⟩ := h hn
  exact ⟨b, o, hA, Nat.lt_of_lt_of_le hlt hb.size, fun i hi => ⟨(hb.cell (p := ⟨b, _, none⟩) hlt).trans (hc i hi).1, (hb.cell (p := ⟨b, _, none⟩) hlt).trans (hc i hi).2.1, (hb.cell (p := ⟨b, _, none⟩) hlt).trans (hc i hi).2.2⟩⟩
/-- all of them -/
def allB (n : Nat) (f : Nat → Bool) : Bool := (List.range n).all f
theorem allB_yes {n : Nat} {f : Nat → Bool} (h : ∀ i, i < n → f i = true) : allB n f = true := by
  unfold allB; rw [List.all_eq_true]; intro i hi; exact h i (List.mem_range.1 hi)
theorem allB_no {n : Nat} {f : Nat → Bool} {i : Nat} (hi : i < n) (h : f i = false) : allB n f = false := by
  unfold allB; rw [List.all_eq_false]; exact ⟨i, List.mem_range.2 hi, by rw [h]; simp⟩
theorem allB_get {n : Nat} {f : Nat → Bool} (h : allB n f = true) {i : Nat} (hi : i < n) : f i = true := by
  unfold allB at h; rw [List.all_eq_true] at h; exact h i (List.mem_range.2 hi)

end Go.Proofs.YtbhfnigblhfikaaGreat

/- Dyads that may be; the walk over dyad.whole. -/
namespace Go.Proofs.YtbhfnigblhfikaaGreat
open Go Go.RowKit Go.PlainAid Fil

/-- a number's bytes as a string -/
def bstr (x : Nat) : ByteArray := ⟨(bs x).toArray⟩
theorem bstr_size (x : Nat) : (bstr x).size = dn 8 x := by
  have : (bstr x).size = (bs x).length := by simp [bstr, ByteArray.size]
  rw [this, bs_length]
theorem bstr_toList (x : Nat) : (bstr x).toList = bs x := by unfold bstr; simp
theorem bstr_bt (x k : Nat) (h : k < dn 8 x) : bt (bstr x) k = (dg 8 x (dn 8 x - 1 - k) : Int) := by
  have h1 : k < (bstr x).size := by rw [bstr_size]; exact h
  rw [← get_bt _ k h1]
  have h2 : k < (bs x).length := by rw [bs_length]; exact h
  have : (bstr x)[k] = (bs x)[k] := by simp [bstr, ByteArray.getElem_eq_getElem_data]
  exact (congrArg (fun b : UInt8 => ((b.toNat : Nat) : Int)) this).trans (by rw [bs_get])
/-- a Dyad that may be: its sign, its magnitude, its power -/
def okD (neg : Bool) (x : Nat) (e : Int) : Prop := (x = 0 ∧ neg = false ∧ e = 0) ∨ (x % 2 = 1 ∧ dn 8 x ≤ 16384 ∧ -1048576 ≤ e ∧ e ≤ 1048576)
theorem okD.dn {neg : Bool} {x : Nat} {e : Int} (h : okD neg x e) : dn 8 x ≤ 16384 := by
  rcases h with ⟨rfl, _⟩ | h
  · rw [dn_zero]; omega
  · exact h.2.1
theorem okD.e1 {neg : Bool} {x : Nat} {e : Int} (h : okD neg x e) : -1048576 ≤ e := by rcases h with h | h <;> omega
theorem okD.e2 {neg : Bool} {x : Nat} {e : Int} (h : okD neg x e) : e ≤ 1048576 := by rcases h with h | h <;> omega
theorem okD.zero : okD false 0 0 := .inl ⟨rfl, rfl, rfl⟩
theorem mayB_ok {neg : Bool} {x : Nat} {e : Int} (h : okD neg x e) : mayB neg (bstr x) e = true := by
  rcases h with ⟨rfl, rfl, rfl⟩ | ⟨h1, h2, h3, h4⟩
  · unfold mayB; rw [bstr_size, dn_zero]; rfl
  · have hx : x ≠ 0 := by omega
    have hp := dn_pos (k := 8) hx
    refine mayB_yes (by rw [bstr_size]; omega) ?_ ?_ h3 h4
    · unfold natB
      rw [bstr_size, bstr_bt x 0 hp]
      have ht := dg_top (k := 8) (by omega) hx
      have d1 : decide (Fil.dn 8 x ≤ 16384) = true := decide_eq_true h2
      have d2 : ((dg 8 x (Fil.dn 8 x - 1 - 0) : Int) == 0) = false := by
        rw [beq_eq_false_iff_ne, Nat.sub_zero]; omega
      rw [d1, d2]; simp
    · rw [bstr_size, bstr_bt x _ (by omega), show Fil.dn 8 x - 1 - (Fil.dn 8 x - 1) = 0 by omega]
      have : dg 8 x 0 = x % 256 := by simp [dg]
      rw [this, beq_iff_eq]; omega
theorem bt_get {s : ByteArray} {k : Nat} (h : k < s.size) : bt s k = (s[k].toNat : Int) := (get_bt s k h).symm
theorem ok_of_may {neg : Bool} {s : ByteArray} {e : Int} (h : mayB neg s e = true) : ∃ x, s = bstr x ∧ okD neg x e := by
  by_cases h0 : s.size = 0
  · unfold mayB at h
    rw [if_pos h0] at h
    simp only [Bool.and_eq_true, Bool.not_eq_true', beq_iff_eq] at h
    refine ⟨0, ?_, .inl ⟨rfl, h.1, h.2⟩⟩
    apply ByteArray.ext
    rw [Array.eq_empty_of_size_eq_zero h0]
    simp [bstr, bs_zero]
  · have hl : s.data.toList.length = s.size := Array.length_toList
    unfold mayB at h
    rw [if_neg h0] at h
    simp only [Bool.and_eq_true, decide_eq_true_eq, beq_iff_eq] at h
    obtain ⟨⟨⟨hn, ho⟩, h1⟩, h2⟩ := h
    unfold natB at hn
    simp only [Bool.and_eq_true, Bool.or_eq_true, decide_eq_true_eq, Bool.not_eq_true', beq_eq_false_iff_ne] at hn
    have hc : cano s.data.toList := by
      intro hp h00
      rcases hn.2 with h3 | h3
      · exact h0 h3
      · apply h3
        rw [bt_get (by omega)]
        have : s[0] = s.data.toList[0] := by simp [ByteArray.getElem_eq_getElem_data]
        rw [this, h00]; rfl
    have hb := bs_nb hc
    refine ⟨nb s.data.toList, ?_, .inr ⟨?_, ?_, h1, h2⟩⟩
    · unfold bstr; rw [hb]
    · rw [nb_odd (by omega)]
      rw [bt_get (by omega)] at ho
      have : s[s.size - 1] = s.data.toList[s.data.toList.length - 1] := by simp [ByteArray.getElem_eq_getElem_data, hl]
      rw [this] at ho
      omega
    · rw [dn_nb hc, hl]; exact hn.1

/-- a string made a slice of bytes: the world behind it, its capacity -/
def convW (W : World) (s : ByteArray) : World := W.drew.alloc (.cells (bytesRow s (grownCap W s.size 0 5)) 5 ((bytesRow s (grownCap W s.size 0 5)).size, (bytesRow s (grownCap W s.size 0 5)).size + 1))
def convC (W : World) (s : ByteArray) : Nat := grownCap W s.size 0 5
theorem run_conv (W : World) (s : ByteArray) : (convert 22 96 (.string s)).run Tryz.prog W = .ok (.slice (some ⟨W.heap.size, 0, none⟩) s.size (convC W s)) (convW W s) :=
  run_bytes_of_string W 22 96 5 s Tryz.underlying22 Tryz.underlying96 Tryz.underlying5
theorem convW_below (W : World) (s : ByteArray) : Below W.heap.size W (convW W s) := ((Below.refl _ _).drew).alloc (Nat.le_refl _) _
theorem convW_size (W : World) (s : ByteArray) : (convW W s).heap.size = W.heap.size + 1 := by simp [convW]
theorem convW_slc (W : World) (x : Nat) : Slc (convW W (bstr x)) 5 (some ⟨W.heap.size, 0, none⟩) (Fil.dn 8 x) (fun i => b8 x (Fil.dn 8 x - 1 - i)) := fun _ => by
  refine ⟨W.heap.size, 0, _, _, rfl, heap_alloc_new W.drew _, fun j hj => ?_⟩
  have h1 : j < (bstr x).data.size := by have := bstr_size x; have h2 : (bstr x).size = (bstr x).data.size := rfl; omega
  have h2 : j < (bs x).length := by rw [bs_length]; exact hj
  rw [Nat.zero_add, bytesRow_at _ _ _ h1]
  have : (bstr x).data[j] = (bs x)[j] := by simp [bstr]
  refine (congrArg (fun b : UInt8 => some (Value.int .u8 ((b.toNat : Nat) : Int))) this).trans ?_
  rw [bs_get]; rfl

end Go.Proofs.YtbhfnigblhfikaaGreat

/- The walk over dyad.made. -/
namespace Go.Proofs.YtbhfnigblhfikaaGreat
open Go Go.RowKit Go.PlainAid Fil

/-- what made answers: is there such a Dyad? its sign, magnitude, power; the error -/
def mkOk (z e : Int) : Bool := decide (z = 0) || (decide (Fil.dn 8 (z.natAbs / 2 ^ tz z.natAbs) ≤ 16384) && decide (-1048576 ≤ e + tz z.natAbs) && decide (e + tz z.natAbs ≤ 1048576))
def mkN (z e : Int) : Bool := mkOk z e && sg z
def mkX (z e : Int) : Nat := if mkOk z e then z.natAbs / 2 ^ tz z.natAbs else 0
def mkE (z e : Int) : Int := if mkOk z e && decide (z ≠ 0) then e + tz z.natAbs else 0
def mkR (z e : Int) : Int := if mkOk z e then 0 else 4
theorem mk_zero (e : Int) : mkOk 0 e = true ∧ mkN 0 e = false ∧ mkX 0 e = 0 ∧ mkE 0 e = 0 ∧ mkR 0 e = 0 := by
  have h : mkOk 0 e = true := by simp [mkOk]
  refine ⟨h, by simp [mkN, h, sg], by simp [mkX, h], by simp [mkE], by simp [mkR, h]⟩
theorem mk_bad {z e : Int} (h : mkOk z e = false) : mkN z e = false ∧ mkX z e = 0 ∧ mkE z e = 0 ∧ mkR z e = 4 := by
  refine ⟨by simp [mkN, h], by simp [mkX, h], by simp [mkE, h], by simp [mkR, h]⟩
theorem mk_good {z e : Int} (h : mkOk z e = true) (hz : z ≠ 0) : mkN z e = sg z ∧ mkX z e = z.natAbs / 2 ^ tz z.natAbs ∧ mkE z e = e + tz z.natAbs ∧ mkR z e = 0 := by
  refine ⟨by simp [mkN, h], by simp [mkX, h], by simp [mkE, h, hz], by simp [mkR, h]⟩
theorem mkOk_no1 {z e : Int} (hz : z ≠ 0) (h : ¬ Fil.dn 8 (z.natAbs / 2 ^ tz z.natAbs) ≤ 16384) : mkOk z e = false := by
  unfold mkOk; rw [decide_eq_false hz, decide_eq_false h]; rfl
theorem mkOk_no2 {z e : Int} (hz : z ≠ 0) (h : ¬ -1048576 ≤ e + tz z.natAbs) : mkOk z e = false := by
  unfold mkOk; rw [decide_eq_false hz, decide_eq_false h]; simp
theorem mkOk_no3 {z e : Int} (hz : z ≠ 0) (h : ¬ e + tz z.natAbs ≤ 1048576) : mkOk z e = false := by
  unfold mkOk; rw [decide_eq_false hz, decide_eq_false h]; simp
theorem mkOk_yes {z e : Int} (h1 : Fil.dn 8 (z.natAbs / 2 ^ tz z.natAbs) ≤ 16384) (h2 : -1048576 ≤ e + tz z.natAbs) (h3 : e + tz z.natAbs ≤ 1048576) : mkOk z e = true := by
  unfold mkOk; rw [decide_eq_true h1, decide_eq_true h2, decide_eq_true h3]; simp
theorem mk_ok (z e : Int) : okD (mkN z e) (mkX z e) (mkE z e) := by
  cases h : mkOk z e
  · obtain ⟨h1, h2, h3, _⟩ := mk_bad h
    rw [h1, h2, h3]; exact okD.zero
  · by_cases hz : z = 0
    · subst hz
      obtain ⟨_, h1, h2, h3, _⟩ := mk_zero e
      rw [h1, h2, h3]; exact okD.zero
    · obtain ⟨h1, h2, h3, _⟩ := mk_good h hz
      rw [h1, h2, h3]
      unfold mkOk at h
      rw [decide_eq_false hz] at h
      simp only [Bool.false_or, Bool.and_eq_true, decide_eq_true_eq] at h
      exact .inr ⟨tz_div (by omega), h.1.1, h.1.2, h.2⟩

theorem run_back (w : World) (g x : Nat) (h : w.rowIs g 5 (Fil.dn 8 x) (fun i => b8 x (Fil.dn 8 x - 1 - i))) (c : Nat) :
    (convert 96 22 (.slice (some ⟨g, 0, none⟩) (Fil.dn 8 x) c)).run Tryz.prog w = .ok (.string (bstr x)) w := by
  have := run_convert_bytes_back (P := Tryz.prog) w 96 22 5 ⟨g, 0, none⟩ c (bs x) Tryz.underlying96 Tryz.underlying5 Tryz.underlying22 (fun j hj => by
    have hj' : j < Fil.dn 8 x := by rw [bs_length] at hj; exact hj
    have h1 := h.cell hj'
    have e : (Addr.add ⟨g, 0, none⟩ j) = ⟨g, j, none⟩ := by unfold Addr.add; split <;> simp_all
    rw [e, h1, bs_get]; rfl)
  rw [bs_length] at this
  exact this

theorem tz_small {x : Nat} (h : Fil.dn 32 x ≤ 1048576) : tz x ≤ 33554432 := by
  by_cases h0 : x = 0
  · subst h0; rw [tz_zero]; omega
  · have h1 := tz_le_log h0
    have h2 := lt_of_dn (k := 32) (by omega) h
    have := (Nat.log2_lt h0).2 h2
    omega

theorem shrZ_nat (x k : Nat) : shrZ (x : Int) k = ((x / 2 ^ k : Nat) : Int) := by
  unfold shrZ sz sg
  have h : ¬ ((x : Int) < 0) := by omega
  simp [h]
theorem sign_sg (z : Int) : decide (z.sign < 0) = sg z := by
  unfold sg
  rcases Int.lt_trichotomy z 0 with h | h | h
  · rw [Int.sign_eq_neg_one_of_neg h]; simp [h]
  · subst h; rfl
  · rw [Int.sign_eq_one_of_pos h]; simp; omega
theorem bstr_zero : bstr 0 = { data := #[] } := by unfold bstr; rw [bs_zero]
/-- an answer of a Dyad and an error -/
def dyR (neg : Bool) (x : Nat) (e r : Int) : Value := .tuple #[.agg #[.bool neg, .string (bstr x), .int .i64 e], .int .i64 r]
theorem dyR_eq {neg neg' : Bool} {x x' : Nat} {e e' r r' : Int} (h : neg = neg' ∧ x = x' ∧ e = e' ∧ r = r') : Ending.returned (dyR neg x e r) = .returned (dyR neg' x' e' r') := by
  obtain ⟨rfl, rfl, rfl, rfl⟩ := h; rfl
theorem dyR_none {neg : Bool} {x : Nat} {e r r' : Int} (h : neg = false ∧ x = 0 ∧ e = 0 ∧ r = r') : Ending.returned (.tuple #[.agg #[.bool false, .string { data := #[] }, .int .i64 0], .int .i64 r']) = .returned (dyR neg x e r) := by
  obtain ⟨rfl, rfl, rfl, rfl⟩ := h; rw [← bstr_zero]; rfl

end Go.Proofs.YtbhfnigblhfikaaGreat

/- The walks over dyad.Sign, Top, Neg, Abs. -/
namespace Go.Proofs.YtbhfnigblhfikaaGreat
open Go Go.RowKit Go.PlainAid Fil

theorem bstr_ne {x : Nat} (h : x ≠ 0) : (bstr x).toList.isEmpty = false ∧ (bstr x).toList ≠ [] := by
  have h1 := str_cons (s := bstr x) (by rw [bstr_size]; exact dn_pos h)
  exact ⟨h1, fun h2 => by rw [h2] at h1; cases h1⟩
theorem bstr_nil : (bstr 0).toList = [] := by rw [bstr_toList, bs_zero]
theorem bstr_len {neg : Bool} {x : Nat} {e : Int} (h : okD neg x e) : (bstr x).size ≤ 9223372036854775807 := by rw [bstr_size]; have := h.dn; omega
/-- the answer of Neg and Abs -/
def dyN (neg : Bool) (x : Nat) (e : Int) : Value := .agg #[.bool neg, .string (bstr x), .int .i64 e]
theorem dyN_eq {neg neg' : Bool} {x x' : Nat} {e e' : Int} (h : neg = neg' ∧ x = x' ∧ e = e') : dyN neg x e = dyN neg' x' e' := by
  obtain ⟨rfl, rfl, rfl⟩ := h; rfl
theorem dyN_zero : Ending.returned (.agg #[.bool false, .string { data := #[] }, .int .i64 0]) = .returned (dyN false 0 0) := by rw [← bstr_zero]; rfl

/-- a Dyad in a block of its own -/
structure DyAt (w : World) (b : Nat) (neg : Bool) (s : ByteArray) (e : Int) : Prop where
  c0 : w.cell? ⟨b, 0, none⟩ = some (.bool neg)
  c1 : w.cell? ⟨b, 1, none⟩ = some (.string s)
  c2 : w.cell? ⟨b, 2, none⟩ = some (.int .i64 e)
  f0 : w.frozen? ⟨b, 0, none⟩ = false
  f1 : w.frozen? ⟨b, 1, none⟩ = false
  f2 : w.frozen? ⟨b, 2, none⟩ = false
theorem DyAt.below {w w' : World} {b B : Nat} {neg : Bool} {s : ByteArray} {e : Int} (h : DyAt w b neg s e) (hb : Below B w w') (hB : b < B) : DyAt w' b neg s e :=
  ⟨(hb.cell hB).trans h.c0, (hb.cell hB).trans h.c1, (hb.cell hB).trans h.c2, (hb.frozen hB).trans h.f0, (hb.frozen hB).trans h.f1, (hb.frozen hB).trans h.f2⟩
theorem sz_sign_ne {neg : Bool} {x : Nat} (h : x ≠ 0) : ((sz neg x).sign == 0) = false := by
  have : sz neg x ≠ 0 := by unfold sz; cases neg <;> simp <;> omega
  have h2 : (sz neg x).sign ≠ 0 := fun h3 => this (Int.sign_eq_zero_iff_zero.1 h3)
  rw [beq_eq_false_iff_ne]; exact h2
theorem sz_sign_zero (neg : Bool) : (sz neg 0).sign = 0 := by cases neg <;> rfl

/-- the highest bit's place of a Dyad that may be -/
def topZ (x : Nat) (e : Int) : Int := if x = 0 then 0 else (bl x : Int) - 1 + e

theorem topZ_zero (e : Int) : topZ 0 e = 0 := rfl
theorem topZ_pos {x : Nat} (h : x ≠ 0) (e : Int) : topZ x e = (bl x : Int) - 1 + e := if_neg h

end Go.Proofs.YtbhfnigblhfikaaGreat
