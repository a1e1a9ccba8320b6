/- Merged: B4 B5 -/
import Derived.Test.YtfdnbogbankjjaaGreatDoorB3
import Derived.Test.YtfdnbogbankjjaaGreatDoorB1

/- The walks of dyad's first functions. -/
/- The walks over nat.Check and dyad.Check. -/
namespace Go.Proofs.YtfdnbogbankjjaaGreatDoor
open Go Go.RowKit Go.PlainAid Fil

theorem str_cons {s : ByteArray} (h : 0 < s.size) : s.toList.isEmpty = false := by
 rw [ByteArray.toList_eq]
 cases hl : s.data.toList with
 | nil =>
  have h1 : s.data.toList.length = 0 := by rw [hl]; rfl
  have h2 : s.data.toList.length = s.size := Array.length_toList
  omega
 | cons _ _ => rfl

theorem one_cell (w : World) (v : Value) (t : TypeId) : (w.alloc (.cells #[v] t)).cell? ⟨w.heap.size, 0, none⟩ = some v := by
 rw [cell_of_row _ w.heap.size 0 #[v] t (0, 0) (heap_alloc_new w _)]; rfl

end Go.Proofs.YtfdnbogbankjjaaGreatDoor

/- The walk over dyad.Check. -/
namespace Go.Proofs.YtfdnbogbankjjaaGreatDoor
open Go Go.RowKit Go.PlainAid Fil

end Go.Proofs.YtfdnbogbankjjaaGreatDoor

/- The walk over dyad.all: Dyads in a slice. -/
namespace Go.Proofs.YtfdnbogbankjjaaGreatDoor
open Go Go.RowKit Go.PlainAid Fil

end Go.Proofs.YtfdnbogbankjjaaGreatDoor

/- Dyads that may be; the walk over dyad.whole. -/
namespace Go.Proofs.YtfdnbogbankjjaaGreatDoor
open Go Go.RowKit Go.PlainAid Fil

/-- a number's bytes as a string -/
def bstr (x : Nat) : ByteArray := ⟨(bs x).toArray⟩
theorem bstr_size (x : Nat) : (bstr x).size = dn 8 x := by
 have : (bstr x).size = (bs x).length := by simp [bstr, ByteArray.size]
 rw [this, bs_length]
theorem bstr_toList (x : Nat) : (bstr x).toList = bs x := by unfold bstr; simp
theorem bstr_bt (x k : Nat) (h : k < dn 8 x) : bt (bstr x) k = (dg 8 x (dn 8 x - 1 - k) : Int) := by
 have h1 : k < (bstr x).size := by rw [bstr_size]; exact h
 rw [← get_bt _ k h1]
 have h2 : k < (bs x).length := by rw [bs_length]; exact h
 have : (bstr x)[k] = (bs x)[k] := by simp [bstr, ByteArray.getElem_eq_getElem_data]
 exact (congrArg (fun b : UInt8 => ((b.toNat : Nat) : Int)) this).trans (by rw [bs_get])
/-- a Dyad that may be: its sign, its magnitude, its power -/
def okD (neg : Bool) (x : Nat) (e : Int) : Prop := (x = 0 ∧ neg = false ∧ e = 0) ∨ (x % 2 = 1 ∧ dn 8 x ≤ 16384 ∧ -1048576 ≤ e ∧ e ≤ 1048576)
theorem okD.dn {neg : Bool} {x : Nat} {e : Int} (h : okD neg x e) : dn 8 x ≤ 16384 := by
 rcases h with ⟨rfl, _⟩ | h
 ·rw [dn_zero]; omega
 ·exact h.2.1
theorem okD.e1 {neg : Bool} {x : Nat} {e : Int} (h : okD neg x e) : -1048576 ≤ e := by rcases h with h | h <;> omega
theorem okD.e2 {neg : Bool} {x : Nat} {e : Int} (h : okD neg x e) : e ≤ 1048576 := by rcases h with h | h <;> omega
theorem okD.zero : okD false 0 0 := .inl ⟨rfl, rfl, rfl⟩
/-- a Dyad's box: its cells -/
theorem box_cells (w : World) (neg : Bool) (s : ByteArray) (e : Int) {w' : World} (h : Below (w.alloc (.cells #[.bool neg, .string s, .int .i64 e] 38)).heap.size (w.alloc (.cells #[.bool neg, .string s, .int .i64 e] 38)) w') :
  w'.cell? ⟨w.heap.size, 0, none⟩ = some (.bool neg) ∧ w'.cell? ⟨w.heap.size, 1, none⟩ = some (.string s) ∧ w'.cell? ⟨w.heap.size, 2, none⟩ = some (.int .i64 e) :=
 ⟨(h.cell (p := ⟨w.heap.size, 0, none⟩) (by simp)).trans (by rw [cell_of_row _ w.heap.size 0 _ 38 (0, 0) (heap_alloc_new w _)]; rfl), (h.cell (p := ⟨w.heap.size, 1, none⟩) (by simp)).trans (by rw [cell_of_row _ w.heap.size 1 _ 38 (0, 0) (heap_alloc_new w _)]; rfl), (h.cell (p := ⟨w.heap.size, 2, none⟩) (by simp)).trans (by rw [cell_of_row _ w.heap.size 2 _ 38 (0, 0) (heap_alloc_new w _)]; rfl)⟩
theorem box_free (w : World) (neg : Bool) (s : ByteArray) (e : Int) {w' : World} (h : Below (w.alloc (.cells #[.bool neg, .string s, .int .i64 e] 38)).heap.size (w.alloc (.cells #[.bool neg, .string s, .int .i64 e] 38)) w') (j : Nat) : w'.frozen? ⟨w.heap.size, j, none⟩ = false :=
 (h.frozen (p := ⟨w.heap.size, j, none⟩) (by simp)).trans ((World.frozen?_alloc_mark w _ _ 0 0 j).trans (by simp))

end Go.Proofs.YtfdnbogbankjjaaGreatDoor

/- The walk over dyad.made. -/
namespace Go.Proofs.YtfdnbogbankjjaaGreatDoor
open Go Go.RowKit Go.PlainAid Fil

/-- what made answers: is there such a Dyad? its sign, magnitude, power; the error -/
def mkOk (z e : Int) : Bool := decide (z = 0) || (decide (Fil.dn 8 (z.natAbs / 2 ^ tz z.natAbs) ≤ 16384) && decide (-1048576 ≤ e + tz z.natAbs) && decide (e + tz z.natAbs ≤ 1048576))
def mkN (z e : Int) : Bool := mkOk z e && sg z
def mkX (z e : Int) : Nat := if mkOk z e then z.natAbs / 2 ^ tz z.natAbs else 0
def mkE (z e : Int) : Int := if mkOk z e && decide (z ≠ 0) then e + tz z.natAbs else 0
def mkR (z e : Int) : Int := if mkOk z e then 0 else 4
theorem mk_zero (e : Int) : mkOk 0 e = true ∧ mkN 0 e = false ∧ mkX 0 e = 0 ∧ mkE 0 e = 0 ∧ mkR 0 e = 0 := by
 have h : mkOk 0 e = true := by simp [mkOk]
 refine ⟨h, by simp [mkN, h, sg], by simp [mkX, h], by simp [mkE], by simp [mkR, h]⟩
theorem mk_bad {z e : Int} (h : mkOk z e = false) : mkN z e = false ∧ mkX z e = 0 ∧ mkE z e = 0 ∧ mkR z e = 4 := by
 refine ⟨by simp [mkN, h], by simp [mkX, h], by simp [mkE, h], by simp [mkR, h]⟩
theorem mk_good {z e : Int} (h : mkOk z e = true) (hz : z ≠ 0) : mkN z e = sg z ∧ mkX z e = z.natAbs / 2 ^ tz z.natAbs ∧ mkE z e = e + tz z.natAbs ∧ mkR z e = 0 := by
 refine ⟨by simp [mkN, h], by simp [mkX, h], by simp [mkE, h, hz], by simp [mkR, h]⟩
theorem mkOk_no1 {z e : Int} (hz : z ≠ 0) (h : ¬ Fil.dn 8 (z.natAbs / 2 ^ tz z.natAbs) ≤ 16384) : mkOk z e = false := by
 unfold mkOk; rw [decide_eq_false hz, decide_eq_false h]; rfl
theorem mkOk_no2 {z e : Int} (hz : z ≠ 0) (h : ¬ -1048576 ≤ e + tz z.natAbs) : mkOk z e = false := by
 unfold mkOk; rw [decide_eq_false hz, decide_eq_false h]; simp
theorem mkOk_no3 {z e : Int} (hz : z ≠ 0) (h : ¬ e + tz z.natAbs ≤ 1048576) : mkOk z e = false := by
 unfold mkOk; rw [decide_eq_false hz, decide_eq_false h]; simp
theorem mkOk_yes {z e : Int} (h1 : Fil.dn 8 (z.natAbs / 2 ^ tz z.natAbs) ≤ 16384) (h2 : -1048576 ≤ e + tz z.natAbs) (h3 : e + tz z.natAbs ≤ 1048576) : mkOk z e = true := by
 unfold mkOk; rw [decide_eq_true h1, decide_eq_true h2, decide_eq_true h3]; simp
theorem mk_ok (z e : Int) : okD (mkN z e) (mkX z e) (mkE z e) := by
 cases h : mkOk z e
 ·obtain ⟨h1, h2, h3, _⟩ := mk_bad h
  rw [h1, h2, h3]; exact okD.zero
 ·by_cases hz : z = 0
  ·subst hz
   obtain ⟨_, h1, h2, h3, _⟩ := mk_zero e
   rw [h1, h2, h3]; exact okD.zero
  ·obtain ⟨h1, h2, h3, _⟩ := mk_good h hz
   rw [h1, h2, h3]
   unfold mkOk at h
   rw [decide_eq_false hz] at h
   simp only [Bool.false_or, Bool.and_eq_true, decide_eq_true_eq] at h
   exact .inr ⟨tz_div (by omega), h.1.1, h.1.2, h.2⟩

theorem run_back (w : World) (g x : Nat) (h : w.rowIs g 5 (Fil.dn 8 x) (fun i => b8 x (Fil.dn 8 x - 1 - i))) (c : Nat) :
  (convert 141 36 (.slice (some ⟨g, 0, none⟩) (Fil.dn 8 x) c)).run Tryz.prog w = .ok (.string (bstr x)) w := by
 have := run_convert_bytes_back (P := Tryz.prog) w 141 36 5 ⟨g, 0, none⟩ c (bs x) Tryz.underlying141 Tryz.underlying5 Tryz.underlying36 (fun j hj => by
  have hj' : j < Fil.dn 8 x := by rw [bs_length] at hj; exact hj
  have h1 := h.cell hj'
  have e : (Addr.add ⟨g, 0, none⟩ j) = ⟨g, j, none⟩ := by unfold Addr.add; split <;> simp_all
  rw [e, h1, bs_get]; rfl)
 rw [bs_length] at this
 exact this

theorem bstr_zero : bstr 0 = { data := #[] } := by unfold bstr; rw [bs_zero]
/-- an answer of a Dyad and an error -/
def dyR (neg : Bool) (x : Nat) (e r : Int) : Value := .tuple #[.agg #[.bool neg, .string (bstr x), .int .i64 e], .int .i64 r]
theorem dyR_none {neg : Bool} {x : Nat} {e r r' : Int} (h : neg = false ∧ x = 0 ∧ e = 0 ∧ r = r') : Ending.returned (.tuple #[.agg #[.bool false, .string { data := #[] }, .int .i64 0], .int .i64 r']) = .returned (dyR neg x e r) := by
 obtain ⟨rfl, rfl, rfl, rfl⟩ := h; rw [← bstr_zero]; rfl

end Go.Proofs.YtfdnbogbankjjaaGreatDoor

/- The walks over dyad.Sign, Top, Neg, Abs. -/
namespace Go.Proofs.YtfdnbogbankjjaaGreatDoor
open Go Go.RowKit Go.PlainAid Fil

theorem bstr_ne {x : Nat} (h : x ≠ 0) : (bstr x).toList.isEmpty = false ∧ (bstr x).toList ≠ [] := by
 have h1 := str_cons (s := bstr x) (by rw [bstr_size]; exact dn_pos h)
 exact ⟨h1, fun h2 => by rw [h2] at h1; cases h1⟩
theorem bstr_nil : (bstr 0).toList = [] := by rw [bstr_toList, bs_zero]
theorem box_below (w : World) (neg : Bool) (s : ByteArray) (e : Int) : Below w.heap.size w (w.alloc (.cells #[.bool neg, .string s, .int .i64 e] 38)) := (Below.refl _ _).alloc (Nat.le_refl _) _

/-- the answer of Neg and Abs -/
def dyN (neg : Bool) (x : Nat) (e : Int) : Value := .agg #[.bool neg, .string (bstr x), .int .i64 e]
/-- a Dyad in a block of its own -/
structure DyAt (w : World) (b : Nat) (neg : Bool) (s : ByteArray) (e : Int) : Prop where
 c0 : w.cell? ⟨b, 0, none⟩ = some (.bool neg)
 c1 : w.cell? ⟨b, 1, none⟩ = some (.string s)
 c2 : w.cell? ⟨b, 2, none⟩ = some (.int .i64 e)
 f0 : w.frozen? ⟨b, 0, none⟩ = false
 f1 : w.frozen? ⟨b, 1, none⟩ = false
 f2 : w.frozen? ⟨b, 2, none⟩ = false
theorem DyAt.below {w w' : World} {b B : Nat} {neg : Bool} {s : ByteArray} {e : Int} (h : DyAt w b neg s e) (hb : Below B w w') (hB : b < B) : DyAt w' b neg s e :=
 ⟨(hb.cell hB).trans h.c0, (hb.cell hB).trans h.c1, (hb.cell hB).trans h.c2, (hb.frozen hB).trans h.f0, (hb.frozen hB).trans h.f1, (hb.frozen hB).trans h.f2⟩
theorem DyAt.new (w : World) (b : Nat) (neg : Bool) (s : ByteArray) (e : Int) {w' : World} (hs : w.heap.size = b) (h : Below (b + 1) (w.alloc (.cells #[.bool neg, .string s, .int .i64 e] 38)) w') : DyAt w' b neg s e := by
 subst hs
 have h' : Below (w.alloc (.cells #[.bool neg, .string s, .int .i64 e] 38)).heap.size (w.alloc (.cells #[.bool neg, .string s, .int .i64 e] 38)) w' := h.mono (by simp)
 obtain ⟨c0, c1, c2⟩ := box_cells w neg s e h'
 exact ⟨c0, c1, c2, box_free w neg s e h' 0, box_free w neg s e h' 1, box_free w neg s e h' 2⟩

theorem sz_sign_zero (neg : Bool) : (sz neg 0).sign = 0 := by cases neg <;> rfl

/-- the highest bit's place of a Dyad that may be -/
def topZ (x : Nat) (e : Int) : Int := if x = 0 then 0 else (bl x : Int) - 1 + e

theorem topZ_pos {x : Nat} (h : x ≠ 0) (e : Int) : topZ x e = (bl x : Int) - 1 + e := if_neg h

end Go.Proofs.YtfdnbogbankjjaaGreatDoor

/- made's law, Dyads' values, dyad.Of, Add, cut where nothing is cut off. -/
/- made's answer, as a law of numbers: no program in sight. -/
namespace Go.Proofs.YtfdnbogbankjjaaGreatDoor
open Go Go.RowKit Go.PlainAid Fil

/-- made's answer as a value -/
def mkV (z e : Int) : Value := dyR (mkN z e) (mkX z e) (mkE z e) (mkR z e)

theorem abs_shl (z : Int) (k : Nat) : (z * 2 ^ k).natAbs = z.natAbs * 2 ^ k := by
 rw [Int.natAbs_mul]
 congr 1
theorem ppi (k : Nat) : (0 : Int) < 2 ^ k := by
 have : ((2 : Int) ^ k) = ((2 ^ k : Nat) : Int) := by push_cast; rfl
 rw [this]; have := pp k; omega
theorem sg_shl (z : Int) (k : Nat) : sg (z * 2 ^ k) = sg z := by
 unfold sg
 have h2 := ppi k
 by_cases h : z < 0
 ·rw [decide_eq_true h, decide_eq_true (Int.mul_neg_of_neg_of_pos h h2)]
 ·have : ¬ z * 2 ^ k < 0 := by
   have := Int.mul_nonneg (show 0 ≤ z by omega) (Int.le_of_lt h2)
   omega
  rw [decide_eq_false h, decide_eq_false this]
theorem shl_ne (z : Int) (k : Nat) : z * 2 ^ k = 0 ↔ z = 0 := by
 constructor
 ·intro h
  rcases Int.mul_eq_zero.1 h with h | h
  ·exact h
  ·have := ppi k; omega
 ·rintro rfl; rw [Int.zero_mul]
theorem odd_part_shl {x : Nat} (k : Nat) (h : x ≠ 0) : x * 2 ^ k / 2 ^ tz (x * 2 ^ k) = x / 2 ^ tz x := by
 rw [tz_shift h, Nat.add_comm, Nat.pow_add, ← Nat.div_div_eq_div_mul, Nat.mul_div_cancel _ (pp k)]
theorem mkOk_shl (z : Int) (k : Nat) (e : Int) : mkOk (z * 2 ^ k) e = mkOk z (e + k) := by
 by_cases h : z = 0
 ·subst h; rw [Int.zero_mul]; simp [mkOk]
 ·have hx : z.natAbs ≠ 0 := by omega
  have h2 : ¬ z * 2 ^ k = 0 := fun h3 => h ((shl_ne z k).1 h3)
  unfold mkOk
  rw [decide_eq_false h, decide_eq_false h2, abs_shl, odd_part_shl k hx, tz_shift hx, show e + ((tz z.natAbs + k : Nat) : Int) = e + k + tz z.natAbs by omega]
theorem mkN_shl (z : Int) (k : Nat) (e : Int) : mkN (z * 2 ^ k) e = mkN z (e + k) := by unfold mkN; rw [mkOk_shl, sg_shl]
theorem mkX_shl (z : Int) (k : Nat) (e : Int) : mkX (z * 2 ^ k) e = mkX z (e + k) := by
 unfold mkX; rw [mkOk_shl, abs_shl]
 by_cases h : z = 0
 ·subst h; simp
 ·rw [odd_part_shl k (by omega)]
theorem mkE_shl (z : Int) (k : Nat) (e : Int) : mkE (z * 2 ^ k) e = mkE z (e + k) := by
 unfold mkE; rw [mkOk_shl, abs_shl]
 by_cases h : z = 0
 ·subst h; simp
 ·have h2 : z * 2 ^ k ≠ 0 := fun h3 => h ((shl_ne z k).1 h3)
  rw [tz_shift (by omega), decide_eq_true h, decide_eq_true h2, show e + ((tz z.natAbs + k : Nat) : Int) = e + k + tz z.natAbs by omega]
theorem mkR_shl (z : Int) (k : Nat) (e : Int) : mkR (z * 2 ^ k) e = mkR z (e + k) := by unfold mkR; rw [mkOk_shl]
theorem mkV_shl (z : Int) (k : Nat) (e : Int) : mkV (z * 2 ^ k) e = mkV z (e + k) := by
 unfold mkV; rw [mkN_shl, mkX_shl, mkE_shl, mkR_shl]
theorem mkV_zero (e : Int) : mkV 0 e = dyR false 0 0 0 := by
 obtain ⟨_, h1, h2, h3, h4⟩ := mk_zero e
 unfold mkV; rw [h1, h2, h3, h4]
theorem mkV_bad {z e : Int} (h : mkOk z e = false) : mkV z e = dyR false 0 0 4 := by
 obtain ⟨h1, h2, h3, h4⟩ := mk_bad h
 unfold mkV; rw [h1, h2, h3, h4]

theorem sg_sz {neg : Bool} {x : Nat} (h : x ≠ 0) : sg (sz neg x) = neg := by
 unfold sg sz; cases neg <;> simp <;> omega
theorem mkOk_id {neg : Bool} {x : Nat} {e : Int} (h : okD neg x e) : mkOk (sz neg x) e = true := by
 rcases h with ⟨rfl, rfl, rfl⟩ | ⟨h1, h2, h3, h4⟩
 ·exact (mk_zero 0).1
 ·refine mkOk_yes ?_ ?_ ?_ <;> rw [sz_abs, tz_odd h1]
  ·simpa using h2
  ·simpa using h3
  ·simpa using h4
/-- a Dyad that may be is made's answer of itself -/
theorem mkV_id {neg : Bool} {x : Nat} {e : Int} (h : okD neg x e) : mkV (sz neg x) e = dyR neg x e 0 := by
 have hk := mkOk_id h
 rcases h with ⟨rfl, rfl, rfl⟩ | ⟨h1, h2, h3, h4⟩
 ·exact mkV_zero 0
 ·have hx : x ≠ 0 := by omega
  have hz : sz neg x ≠ 0 := fun h => hx (by rw [← sz_abs neg x, h]; rfl)
  obtain ⟨m1, m2, m3, m4⟩ := mk_good hk hz
  unfold mkV
  rw [m1, m2, m3, m4, sz_abs, tz_odd h1, sg_sz hx, Nat.pow_zero, Nat.div_one]
  simp

/-- two Dyads' sum, to the lower power -/
def addZ (za ea zb eb : Int) : Int := za * 2 ^ (ea - min ea eb).toNat + zb * 2 ^ (eb - min ea eb).toNat

theorem far_lt {M g a b : Nat} (hg : M + 9 ≤ g) (ha : 1 ≤ a) (hb : b < 2 ^ M) : 2 ^ (M + 8) + b < a * 2 ^ g := by
 have h1 : 2 ^ (M + 8) + 2 ^ M ≤ 2 ^ (M + 9) := by rw [Nat.pow_add, Nat.pow_add]; omega
 have h2 := pmono hg
 have h3 : 1 * 2 ^ g ≤ a * 2 ^ g := Nat.mul_le_mul_right _ ha
 omega
theorem far_abs {M g : Nat} {a b : Int} (hg : M + 9 ≤ g) (ha : a ≠ 0) (hb : b.natAbs < 2 ^ M) : 2 ^ (M + 8) ≤ (a * 2 ^ g + b).natAbs := by
 have h1 := far_lt hg (show 1 ≤ a.natAbs by omega) hb
 rw [← abs_shl] at h1
 omega
theorem far_bad {g : Nat} {a b e : Int} (hg : 131081 ≤ g) (ha : a ≠ 0) (hb : b.natAbs % 2 = 1) (hd : Fil.dn 8 b.natAbs ≤ 16384) : mkOk (a * 2 ^ g + b) e = false := by
 have h0 := lt_of_dn (k := 8) (by omega) hd
 have h1 : ∃ M : Nat, M = 8 * 16384 := ⟨_, rfl⟩
 obtain ⟨M, hM⟩ := h1
 rw [← hM] at h0
 have h2 := far_abs (M := M) (g := g) (a := a) (by omega) ha h0
 have hz : a * 2 ^ g + b ≠ 0 := by have := pp (M + 8); omega
 have h3 : (a * 2 ^ g + b).natAbs % 2 = 1 := by
  have : ((2 : Int) ^ g) = 2 * 2 ^ (g - 1) := by
   rw [show g = g - 1 + 1 by omega, Int.pow_succ]; rw [Int.mul_comm]; simp
  have h4 : a * 2 ^ g = 2 * (a * 2 ^ (g - 1)) := by rw [this, Int.mul_left_comm]
  omega
 refine mkOk_no1 hz ?_
 rw [tz_odd h3, Nat.pow_zero, Nat.div_one]
 obtain ⟨n, hn⟩ : ∃ n : Nat, n = 16385 := ⟨_, rfl⟩
 have h5 : n < Fil.dn 8 (a * 2 ^ g + b).natAbs := dn_ge (by omega) (Nat.le_trans (pmono (by omega)) h2)
 omega
theorem add_far {na nb : Bool} {xa xb : Nat} {ea eb : Int} (ha : okD na xa ea) (hb : okD nb xb eb) (hxa : xa ≠ 0) (hxb : xb ≠ 0) (hg : 131080 < max ea eb - min ea eb) (e : Int) :
  mkOk (addZ (sz na xa) ea (sz nb xb) eb) e = false := by
 have oa : xa % 2 = 1 := by rcases ha with ⟨h, _⟩ | h; exact absurd h hxa; exact h.1
 have ob : xb % 2 = 1 := by rcases hb with ⟨h, _⟩ | h; exact absurd h hxb; exact h.1
 have za : sz na xa ≠ 0 := fun h => hxa (by rw [← sz_abs na xa, h]; rfl)
 have zb : sz nb xb ≠ 0 := fun h => hxb (by rw [← sz_abs nb xb, h]; rfl)
 unfold addZ
 rcases Int.le_total ea eb with h | h
 ·rw [show min ea eb = ea by omega, Int.sub_self, Int.toNat_zero, Int.pow_zero, Int.mul_one, Int.add_comm]
  exact far_bad (by omega) zb (by rw [sz_abs]; exact oa) (by rw [sz_abs]; exact ha.dn)
 ·rw [show min ea eb = eb by omega, Int.sub_self, Int.toNat_zero, Int.pow_zero, Int.mul_one]
  exact far_bad (by omega) za (by rw [sz_abs]; exact ob) (by rw [sz_abs]; exact hb.dn)
theorem add_zero_left {ea : Int} {nb : Bool} {xb : Nat} {eb : Int} (hb : okD nb xb eb) : mkV (addZ 0 ea (sz nb xb) eb) (min ea eb) = dyR nb xb eb 0 := by
 unfold addZ
 rw [Int.zero_mul, Int.zero_add, mkV_shl, show min ea eb + ((eb - min ea eb).toNat : Int) = eb by omega, mkV_id hb]
theorem add_zero_right {eb : Int} {na : Bool} {xa : Nat} {ea : Int} (ha : okD na xa ea) : mkV (addZ (sz na xa) ea 0 eb) (min ea eb) = dyR na xa ea 0 := by
 unfold addZ
 rw [Int.zero_mul, Int.add_zero, mkV_shl, show min ea eb + ((ea - min ea eb).toNat : Int) = ea by omega, mkV_id ha]

end Go.Proofs.YtfdnbogbankjjaaGreatDoor

/- Dyads' values at one low power: plain arithmetic, no program in sight. -/
namespace Go.Proofs.YtfdnbogbankjjaaGreatDoor
open Go Go.RowKit Go.PlainAid Fil

/-- a power below all that are met -/
def lowM : Nat := 8388608
theorem lowM_ge : (8388608 : Int) ≤ (lowM : Int) := by unfold lowM; omega
/-- the number z times 2^e, as a multiple of the low power -/
def W (z e : Int) : Int := z * 2 ^ (e + lowM).toNat

theorem ipow_add (a b : Nat) : (2 : Int) ^ (a + b) = 2 ^ a * 2 ^ b := Int.pow_add 2 a b
theorem W_shl (z : Int) (k : Nat) {e : Int} (h : -(lowM : Int) ≤ e) : W (z * 2 ^ k) e = W z (e + k) := by
 unfold W
 rw [show (e + k + lowM).toNat = k + (e + lowM).toNat by omega, ipow_add, Int.mul_assoc]
theorem mkOk_W (z : Int) {e : Int} (h : -(lowM : Int) ≤ e) : mkOk z e = mkOk (W z e) (-(lowM : Int)) := by
 unfold W; rw [mkOk_shl]; congr 1; omega
theorem W_zero_left (e : Int) : W 0 e = 0 := Int.zero_mul _
theorem W_neg (z e : Int) : W (-z) e = -W z e := Int.neg_mul _ _
theorem W_sign (z e : Int) : (W z e).sign = z.sign := by
 unfold W
 rw [Int.sign_mul, Int.sign_eq_one_of_pos (ppi _), Int.mul_one]
theorem W_add (za zb : Int) {ea eb : Int} (ha : -(lowM : Int) ≤ ea) (hb : -(lowM : Int) ≤ eb) : W (addZ za ea zb eb) (min ea eb) = W za ea + W zb eb := by
 have h1 : W (za * 2 ^ (ea - min ea eb).toNat) (min ea eb) = W za ea := by
  rw [W_shl _ _ (by omega)]; congr 1; omega
 have h2 : W (zb * 2 ^ (eb - min ea eb).toNat) (min ea eb) = W zb eb := by
  rw [W_shl _ _ (by omega)]; congr 1; omega
 rw [← h1, ← h2]
 unfold addZ W
 rw [Int.add_mul]
theorem W_mul (z z' : Int) {e e' : Int} (h : -(lowM : Int) ≤ e) (h' : -(lowM : Int) ≤ e') (hs : -(lowM : Int) ≤ e + e') : W (z * z') (e + e') * 2 ^ lowM = W z e * W z' e' := by
 unfold W
 have h1 : (2 : Int) ^ (e + e' + lowM).toNat * 2 ^ lowM = 2 ^ (e + lowM).toNat * 2 ^ (e' + lowM).toNat := by
  rw [← ipow_add, ← ipow_add]; congr 1; omega
 rw [Int.mul_assoc, h1]
 generalize (2 : Int) ^ (e + lowM).toNat = p
 generalize (2 : Int) ^ (e' + lowM).toNat = q
 rw [Int.mul_assoc, Int.mul_assoc, Int.mul_left_comm z' p q]

theorem sz_shl (n : Bool) (x k : Nat) : sz n x * 2 ^ k = sz n (x * 2 ^ k) := by
 unfold sz
 cases n
 ·simp
 ·simp [Int.neg_mul]

/-- a Dyad as it stands -/
structure DY where
 n : Bool
 x : Nat
 e : Int
namespace DY
def ok (a : DY) : Prop := okD a.n a.x a.e
def z (a : DY) : Int := sz a.n a.x
/-- the value at the low power -/
def v (a : DY) : Int := W a.z a.e
def zero : DY := ⟨false, 0, 0⟩
end DY
theorem DY.zero_ok : DY.zero.ok := okD.zero
theorem DY.zero_v : DY.zero.v = 0 := W_zero_left _
theorem DY.ok.lo {a : DY} (h : a.ok) : -(lowM : Int) ≤ a.e := by have h1 := okD.e1 h; have := lowM_ge; omega
/-- made's Dyad -/
def mkD (z e : Int) : DY := ⟨mkN z e, mkX z e, mkE z e⟩
theorem mkD_ok (z e : Int) : (mkD z e).ok := mk_ok z e
theorem mkR_eq (z e : Int) : mkR z e = if mkOk z e then 0 else 4 := rfl
/-- its value -/
theorem mkD_v {z e : Int} (h : mkOk z e = true) (he : -(lowM : Int) ≤ e) : (mkD z e).v = W z e := by
 by_cases hz : z = 0
 ·subst hz
  obtain ⟨_, h1, h2, h3, _⟩ := mk_zero e
  unfold mkD DY.v DY.z; rw [h1, h2, h3, W_zero_left]; exact W_zero_left 0
 ·obtain ⟨h1, h2, h3, _⟩ := mk_good h hz
  unfold mkD DY.v DY.z
  simp only [h1, h2, h3]
  rw [← W_shl _ _ he, sz_shl, tz_mul, sz_self]
theorem mkOk_congr {z z' e e' : Int} (h : W z e = W z' e') (he : -(lowM : Int) ≤ e) (he' : -(lowM : Int) ≤ e') : mkOk z e = mkOk z' e' := by
 rw [mkOk_W z he, mkOk_W z' he', h]
/-- sum, difference, product: the Dyad, the error -/
def yAdd (a b : DY) : DY × Int := (mkD (addZ a.z a.e b.z b.e) (min a.e b.e), mkR (addZ a.z a.e b.z b.e) (min a.e b.e))
def yNeg (a : DY) : DY := ⟨!a.n && decide (a.x ≠ 0), a.x, a.e⟩
def yMul (a b : DY) : DY × Int := (mkD (a.z * b.z) (a.e + b.e), mkR (a.z * b.z) (a.e + b.e))
def ySub (a b : DY) : DY × Int := yAdd a (yNeg b)
end Go.Proofs.YtfdnbogbankjjaaGreatDoor

/- The walks over dyad.Of, Add. -/
namespace Go.Proofs.YtfdnbogbankjjaaGreatDoor
open Go Go.RowKit Go.PlainAid Fil

/-- the blocks of a call of two Dyads and one to answer -/
theorem dy_three (w : World) (na : Bool) (sa : ByteArray) (ea : Int) (nb : Bool) (sb : ByteArray) (eb : Int) {w' : World}
  (h : Below (w.heap.size + 1 + 1 + 1) (((w.alloc (.cells #[.bool na, .string sa, .int .i64 ea] 38)).alloc (.cells #[.bool nb, .string sb, .int .i64 eb] 38)).alloc (.cells #[.bool false, .string { data := #[] }, .int .i64 0] 38)) w') :
  DyAt w' w.heap.size na sa ea ∧ DyAt w' (w.heap.size + 1) nb sb eb ∧ DyAt w' (w.heap.size + 1 + 1) false { data := #[] } 0 ∧ Below w.heap.size w w' ∧ w.heap.size + 1 + 1 + 1 ≤ w'.heap.size := by
 have s1 : (w.alloc (.cells #[.bool na, .string sa, .int .i64 ea] 38)).heap.size = w.heap.size + 1 := by simp
 have s2 : ((w.alloc (.cells #[.bool na, .string sa, .int .i64 ea] 38)).alloc (.cells #[.bool nb, .string sb, .int .i64 eb] 38)).heap.size = w.heap.size + 1 + 1 := by simp
 have s3 : (((w.alloc (.cells #[.bool na, .string sa, .int .i64 ea] 38)).alloc (.cells #[.bool nb, .string sb, .int .i64 eb] 38)).alloc (.cells #[.bool false, .string { data := #[] }, .int .i64 0] 38)).heap.size = w.heap.size + 1 + 1 + 1 := by simp
 have h2 := ((Below.refl (w.heap.size + 1 + 1) _).alloc (by rw [s2]; exact Nat.le_refl _) (.cells #[.bool false, .string { data := #[] }, .int .i64 0] 38)).trans (h.mono (by omega))
 have h3 := ((Below.refl (w.heap.size + 1) _).alloc (by rw [s1]; exact Nat.le_refl _) (.cells #[.bool nb, .string sb, .int .i64 eb] 38)).trans (h2.mono (by omega))
 have hs := h.size
 rw [s3] at hs
 exact ⟨DyAt.new w _ na sa ea rfl h3, DyAt.new _ _ nb sb eb s1 h2, DyAt.new _ _ false _ 0 s2 h, ((Below.refl _ _).alloc (Nat.le_refl _) _).trans (h3.mono (by omega)), hs⟩

theorem sz_zero (neg : Bool) : sz neg 0 = 0 := by cases neg <;> rfl

end Go.Proofs.YtfdnbogbankjjaaGreatDoor

/- The walk over dyad.cut, where nothing is cut off. -/
namespace Go.Proofs.YtfdnbogbankjjaaGreatDoor
open Go Go.RowKit Go.PlainAid Fil

end Go.Proofs.YtfdnbogbankjjaaGreatDoor
