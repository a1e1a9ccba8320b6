/- Merged: JE JF JI JM JN JQ JS JT JU JK JZ -/
import Derived.Test.YtjldfclncipbgaaGreatDoorJG
import Derived.Test.YtjldfclncipbgaaGreatDoorJH
import Derived.Laws.RangeAny
import Derived.Test.YtjldfclncipbgaaGreatDoorJP
import Derived.Scope
import Derived.WalkMore
import Derived.Test.YtjldfclncipbgaaGreatDoorB5
import Derived.Laws.FloatArith
import Derived.Laws.BitsAllLaws
import Derived.Test.YtjldfclncipbgaaGreatDoorB1
import Derived.Shelf.Strconv.Itoa0

/- ratio.do; ratio.Add, Sub, Mul, Quo. -/
namespace Go.Proofs.YtjldfclncipbgaaGreatDoor
open Go Go.RowKit Go.PlainAid Fil

theorem Szd.div {K : Nat} {p q : Int} (hq : q ≠ 0) (hp : Fil.dn 32 p.natAbs ≤ K) (hd : Fil.dn 32 q.natAbs ≤ K) : Szd K (Rat.divInt p q) := by
  refine ⟨?_, ?_⟩
  · rw [← norm_num p q hq, sz_abs]
    exact Nat.le_trans (dn_mono (by omega) (Nat.div_le_self _ _)) hp
  · rw [← norm_den p q hq]
    exact Nat.le_trans (dn_mono (by omega) (Nat.div_le_self _ _)) hd
theorem Szd.add {K L : Nat} {x y : Rat} (hx : Szd K x) (hy : Szd L y) : Szd (K + L + 1) (x + y) := by
  rw [← divInt_add]
  exact Szd.div (den_mul_ne x y) (dn_addI (dn_mulI hx.1 hy.den) (by have := dn_mulI hy.1 hx.den; omega)) (Nat.le_trans (dn_mulI hx.den hy.den) (by omega))
theorem Szd.sub {K L : Nat} {x y : Rat} (hx : Szd K x) (hy : Szd L y) : Szd (K + L + 1) (x - y) := by
  rw [Rat.sub_eq_add_neg]; exact hx.add hy.neg
theorem Szd.mul {K L : Nat} {x y : Rat} (hx : Szd K x) (hy : Szd L y) : Szd (K + L) (x * y) := by
  rw [← divInt_mul]
  exact Szd.div (den_mul_ne x y) (dn_mulI hx.1 hy.1) (dn_mulI hx.den hy.den)
end Go.Proofs.YtjldfclncipbgaaGreatDoor

/- ratio.Add, Sub, Mul, Quo, Compare, New. -/
namespace Go.Proofs.YtjldfclncipbgaaGreatDoor
open Go Go.RowKit Go.PlainAid Fil

end Go.Proofs.YtjldfclncipbgaaGreatDoor

/- ratio.New, ratio.Text. -/
namespace Go.Proofs.YtjldfclncipbgaaGreatDoor
open Go Go.RowKit Go.PlainAid Fil

/-- a ratio's text -/
def ktx (x : Rat) : List UInt8 := (if sg x.num then [45] else []) ++ dtx x.num.natAbs ++ (if x.den = 1 then [] else 47 :: dtx x.den)
end Go.Proofs.YtjldfclncipbgaaGreatDoor

/- ratio.Text. -/
namespace Go.Proofs.YtjldfclncipbgaaGreatDoor
open Go Go.RowKit Go.PlainAid Fil

theorem dtx_len {x K : Nat} (h : Fil.dn 32 x ≤ K) : (dtx x).length ≤ 10 * K + 1 := by
  unfold dtx
  split
  · simp
  · rw [List.length_reverse]; have := decs_len h; omega
end Go.Proofs.YtjldfclncipbgaaGreatDoor

/- ratio.digits. -/
namespace Go.Proofs.YtjldfclncipbgaaGreatDoor
open Go Go.RowKit Go.PlainAid Fil

end Go.Proofs.YtjldfclncipbgaaGreatDoor

/- ratio.digits of any text; a scope whose labels are jumped to. -/
namespace Go
section
variable {P : Program} {a : Act} {w : World} {Q : Exit → Act → World → Prop}
end
end Go
namespace Go.Proofs.YtjldfclncipbgaaGreatDoor
open Go Go.RowKit Go.PlainAid Fil

/-- digits without noughts ahead -/
def goodL (l : List UInt8) : Prop := allDec l ∧ bare l
instance (l : List UInt8) : Decidable (allDec l) := by unfold allDec; infer_instance
instance (l : List UInt8) : Decidable (bare l) := by unfold bare; infer_instance
instance (l : List UInt8) : Decidable (goodL l) := by unfold goodL; infer_instance
def goodB (l : List UInt8) : Bool := decide (goodL l)
theorem byte_get {s : ByteArray} {i : Nat} (h : i < s.size) : s.data.toList[i]'(by rw [Array.length_toList]; exact h) = s[i]'h := rfl
theorem good_all {s : ByteArray} (h : goodL s.data.toList) : ∀ (i : Nat) (h : i < s.size), 48 ≤ (s[i]'h).toNat ∧ (s[i]'h).toNat ≤ 57 := fun _ hi =>
  of_decide_eq_true (h.1 _ (byte_get hi ▸ List.getElem_mem _))
theorem good_pos {s : ByteArray} (h : goodL s.data.toList) : 0 < s.size := by
  rcases Nat.eq_zero_or_pos s.size with h0 | h0
  · exact absurd (List.eq_nil_of_length_eq_zero (by rw [Array.length_toList]; exact h0)) h.2.1
  · exact h0
theorem head_get {s : ByteArray} (h : 0 < s.size) : s.data.toList.head? = some (s[0]'h) := by
  rw [List.head?_eq_getElem?, List.getElem?_eq_getElem (by rw [Array.length_toList]; exact h)]; rfl
theorem good_head {s : ByteArray} (h : goodL s.data.toList) : (s[0]'(good_pos h)).toNat = 48 → s.size = 1 := fun h48 => by
  have := h.2.2 (by rw [head_get (good_pos h)]; exact congrArg some (UInt8.toNat_inj.1 h48))
  rwa [Array.length_toList] at this
theorem first_bad {s : ByteArray} (h : ¬ ∀ (i : Nat) (h : i < s.size), 48 ≤ (s[i]'h).toNat ∧ (s[i]'h).toNat ≤ 57) :
    ∃ (i0 : Nat) (h0 : i0 < s.size), (∀ (i : Nat) (h : i < i0), 48 ≤ (s[i]'(by omega)).toNat ∧ (s[i]'(by omega)).toNat ≤ 57) ∧ ¬ (48 ≤ (s[i0]'h0).toNat ∧ (s[i0]'h0).toNat ≤ 57) := by
  have key : ∀ n, n ≤ s.size → (∀ (i : Nat) (h : i < s.size), i < n → 48 ≤ (s[i]'h).toNat ∧ (s[i]'h).toNat ≤ 57) ∨ ∃ (i0 : Nat) (h0 : i0 < s.size), (∀ (i : Nat) (h : i < i0), 48 ≤ (s[i]'(by omega)).toNat ∧ (s[i]'(by omega)).toNat ≤ 57) ∧ ¬ (48 ≤ (s[i0]'h0).toNat ∧ (s[i0]'h0).toNat ≤ 57) := by
    intro n
    induction n with
    | zero => intro _; exact .inl fun i _ hi => absurd hi (by omega)
    | succ n ih =>
      intro hn
      rcases ih (by omega) with h1 | h1
      · by_cases hb : 48 ≤ (s[n]'(by omega)).toNat ∧ (s[n]'(by omega)).toNat ≤ 57
        · left
          intro i hi hin
          rcases Nat.lt_or_ge i n with h2 | h2
          · exact h1 i hi h2
          · obtain rfl : i = n := by omega
            exact hb
        · right
          exact ⟨n, by omega, fun i hi => h1 i (by omega) hi, hb⟩
      · exact .inr h1
  rcases key s.size (Nat.le_refl _) with h1 | h1
  · exact absurd (fun i hi => h1 i hi hi) h
  · exact h1
theorem good_of {s : ByteArray} (h0 : 0 < s.size) (hd : ∀ (i : Nat) (h : i < s.size), 48 ≤ (s[i]'h).toNat ∧ (s[i]'h).toNat ≤ 57) (hh : (s[0]'h0).toNat = 48 → s.size = 1) : goodL s.data.toList := by
  refine ⟨fun c hc => ?_, fun hn => ?_, fun h48 => ?_⟩
  · obtain ⟨i, hi, rfl⟩ := List.getElem_of_mem hc
    exact decide_eq_true (hd i (by rwa [Array.length_toList] at hi))
  · have := congrArg List.length hn
    rw [Array.length_toList] at this
    have h2 : s.data.size = 0 := this
    have h3 : s.size = s.data.size := rfl
    omega
  · rw [head_get h0] at h48
    rw [Array.length_toList]
    exact hh (congrArg UInt8.toNat (Option.some.inj h48))
end Go.Proofs.YtjldfclncipbgaaGreatDoor

/- ratio.split, in plain Lean. -/
namespace Go.Proofs.YtjldfclncipbgaaGreatDoor
open Go Go.RowKit Go.PlainAid Fil

/-- a decimal in its pieces -/
structure Dcm where
  neg : Bool
  down : Bool
  head : ByteArray
  tail : ByteArray
  power : ByteArray
def Dcm.v (d : Dcm) : Value := .agg #[.bool d.neg, .bool d.down, .string d.head, .string d.tail, .string d.power]
/-- the byte at a place; 256 beyond the end -/
def byt (s : ByteArray) (i : Nat) : Nat := if h : i < s.size then (s[i]'h).toNat else 256
theorem byt_in {s : ByteArray} {i : Nat} (h : i < s.size) : byt s i = (s[i]'h).toNat := dif_pos h
theorem byt_out {s : ByteArray} {i : Nat} (h : ¬ i < s.size) : byt s i = 256 := dif_neg h
theorem byt_lt {s : ByteArray} {i : Nat} (h : byt s i < 256) : i < s.size := by
  rcases Nat.lt_or_ge i s.size with h1 | h1
  · exact h1
  · rw [byt_out (by omega)] at h; omega
def dgt (s : ByteArray) (i : Nat) : Prop := 48 ≤ byt s i ∧ byt s i ≤ 57
instance (s : ByteArray) (i : Nat) : Decidable (dgt s i) := by unfold dgt; infer_instance
theorem dgt_lt {s : ByteArray} {i : Nat} (h : dgt s i) : i < s.size := byt_lt (by have := h.2; omega)
/-- from the power's e on -/
def PW (s : ByteArray) (d : Dcm) (j : Nat) : Dcm × Bool :=
  if byt s j ≠ 101 then (d, false) else
  if byt s (j + 1) = 45 then
    if goodB (s.extract (j + 2) s.size).data.toList = false ∨ (s.extract (j + 2) s.size).data.toList = [48] then ({ d with down := true, power := s.extract (j + 2) s.size }, false)
    else ({ d with down := true, power := s.extract (j + 2) s.size }, goodB d.head.data.toList)
  else ({ d with power := s.extract (j + 1) s.size }, goodB (s.extract (j + 1) s.size).data.toList && goodB d.head.data.toList)
/-- behind the point -/
def TL (s : ByteArray) (d : Dcm) (f i : Nat) : Dcm × Bool :=
  if dgt s i then TL s d f (i + 1)
  else if i = f then ({ d with tail := s.extract f i }, false)
  else if i = s.size then ({ d with tail := s.extract f i }, goodB d.head.data.toList)
  else PW s { d with tail := s.extract f i } i
termination_by s.size - i
decreasing_by have := dgt_lt ‹_›; omega
/-- ahead of the point -/
def HD (s : ByteArray) (d : Dcm) (f i : Nat) : Dcm × Bool :=
  if dgt s i then HD s d f (i + 1)
  else if i = s.size then ({ d with head := s.extract f i }, goodB (s.extract f i).data.toList)
  else if byt s i = 46 then TL s { d with head := s.extract f i } (i + 1) (i + 1)
  else PW s { d with head := s.extract f i } i
termination_by s.size - i
decreasing_by have := dgt_lt ‹_›; omega
end Go.Proofs.YtjldfclncipbgaaGreatDoor

/- ratio.split. -/
namespace Go.Proofs.YtjldfclncipbgaaGreatDoor
open Go Go.RowKit Go.PlainAid Fil

def Dcm.cells (d : Dcm) : Array Value := #[.bool d.neg, .bool d.down, .string d.head, .string d.tail, .string d.power]
end Go.Proofs.YtjldfclncipbgaaGreatDoor

/- What split tells, in plain Lean; Rat.SetInt. -/
namespace Go.Proofs.YtjldfclncipbgaaGreatDoor
open Go Go.RowKit Go.PlainAid Fil

/-- what is known of a decimal that split has told -/
structure DcmOk (s : ByteArray) (d : Dcm) : Prop where
  head : goodL d.head.data.toList
  tail : allDec d.tail.data.toList
  power : d.power.size = 0 ∧ d.down = false ∨ goodL d.power.data.toList
  sizes : d.head.size + d.tail.size ≤ s.size
  psize : d.power.size ≤ s.size
end Go.Proofs.YtjldfclncipbgaaGreatDoor

/- The walk over Rat's Float64. -/
namespace Go.Proofs.YtjldfclncipbgaaGreatDoor
open Go Go.RowKit Go.PlainAid Fil

theorem bl_dn {x n : Nat} (h : dn 32 x ≤ n) : bl x ≤ 32 * n := bl_le (lt_of_dn (by omega) h)
end Go.Proofs.YtjldfclncipbgaaGreatDoor

/- filigreelaw04.RatioField. -/
namespace Go.Proofs.YtjldfclncipbgaaGreatDoor
open Go Go.RowKit Go.PlainAid Fil

/-- few bytes -/
def Bts (K : Nat) (x : Rat) : Prop := Fil.dn 8 x.num.natAbs ≤ K ∧ Fil.dn 8 x.den ≤ K
theorem dn8_mul {x y j k : Nat} (hx : Fil.dn 8 x ≤ j) (hy : Fil.dn 8 y ≤ k) : Fil.dn 8 (x * y) ≤ j + k := dn_le (by omega) (by rw [padd]; exact Nat.mul_lt_mul'' (lt_of_dn (by omega) hx) (lt_of_dn (by omega) hy))
theorem dn8_add {x y k : Nat} (hx : Fil.dn 8 x ≤ k) (hy : Fil.dn 8 y ≤ k) : Fil.dn 8 (x + y) ≤ k + 1 := dn_le (by omega) (add_lt_succ (by omega) (lt_of_dn (by omega) hx) (lt_of_dn (by omega) hy))
theorem dn8_mulI {x y : Int} {j k : Nat} (hx : Fil.dn 8 x.natAbs ≤ j) (hy : Fil.dn 8 y.natAbs ≤ k) : Fil.dn 8 (x * y).natAbs ≤ j + k := by rw [Int.natAbs_mul]; exact dn8_mul hx hy
theorem dn8_addI {x y : Int} {k : Nat} (hx : Fil.dn 8 x.natAbs ≤ k) (hy : Fil.dn 8 y.natAbs ≤ k) : Fil.dn 8 (x + y).natAbs ≤ k + 1 :=
  Nat.le_trans (dn_mono (by omega) (Int.natAbs_add_le x y)) (dn8_add hx hy)
theorem bts_div {K : Nat} {p q : Int} (hq : q ≠ 0) (hp : Fil.dn 8 p.natAbs ≤ K) (hd : Fil.dn 8 q.natAbs ≤ K) : Bts K (Rat.divInt p q) := by
  refine ⟨?_, ?_⟩
  · rw [← norm_num p q hq, sz_abs]
    exact Nat.le_trans (dn_mono (by omega) (Nat.div_le_self _ _)) hp
  · rw [← norm_den p q hq]
    exact Nat.le_trans (dn_mono (by omega) (Nat.div_le_self _ _)) hd
theorem Bts.denI {K : Nat} {x : Rat} (h : Bts K x) : Fil.dn 8 ((x.den : Int)).natAbs ≤ K := by rw [Int.natAbs_natCast]; exact h.2
theorem Bts.mono {K L : Nat} {x : Rat} (h : Bts K x) (hL : K ≤ L) : Bts L x := ⟨Nat.le_trans h.1 hL, Nat.le_trans h.2 hL⟩
theorem Bts.mul {J K : Nat} {x y : Rat} (hx : Bts J x) (hy : Bts K y) : Bts (J + K) (x * y) := by
  rw [← divInt_mul]
  exact bts_div (den_mul_ne x y) (dn8_mulI hx.1 hy.1) (dn8_mulI hx.denI hy.denI)
theorem Bts.add {J K : Nat} {x y : Rat} (hx : Bts J x) (hy : Bts K y) : Bts (J + K + 1) (x + y) := by
  rw [← divInt_add]
  exact bts_div (den_mul_ne x y) (dn8_addI (dn8_mulI hx.1 hy.denI) (by rw [Nat.add_comm J K]; exact dn8_mulI hy.1 hx.denI)) (Nat.le_trans (dn8_mulI hx.denI hy.denI) (by omega))
theorem Bts.neg {K : Nat} {x : Rat} (h : Bts K x) : Bts K (-x) := ⟨by rw [Rat.neg_num, Int.natAbs_neg]; exact h.1, h.2⟩
theorem Bts.sub {J K : Nat} {x y : Rat} (hx : Bts J x) (hy : Bts K y) : Bts (J + K + 1) (x - y) := by rw [Rat.sub_eq_add_neg]; exact hx.add hy.neg
end Go.Proofs.YtjldfclncipbgaaGreatDoor
