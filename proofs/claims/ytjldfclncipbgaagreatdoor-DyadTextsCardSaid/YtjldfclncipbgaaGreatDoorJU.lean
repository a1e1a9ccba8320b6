/- Merged: JS JT JU -/
import Derived.Test.YtjldfclncipbgaaGreatDoorJQ
import Derived.Test.YtjldfclncipbgaaGreatDoorJC
import Derived.WalkMore
import Derived.Test.YtjldfclncipbgaaGreatDoorJP
import Derived.Test.YtjldfclncipbgaaGreatDoorJN

/- ratio.split, in plain Lean. -/
namespace Go.Proofs.YtjldfclncipbgaaGreatDoor
open Go Go.RowKit Go.PlainAid Fil

/-- a decimal in its pieces -/
structure Dcm where
  neg : Bool
  down : Bool
  head : ByteArray
  tail : ByteArray
  power : ByteArray
def Dcm.v (d : Dcm) : Value := .agg #[.bool d.neg, .bool d.down, .string d.head, .string d.tail, .string d.power]
/-- the byte at a place; 256 beyond the end -/
def byt (s : ByteArray) (i : Nat) : Nat := if h : i < s.size then (s[i]'h).toNat else 256
theorem byt_in {s : ByteArray} {i : Nat} (h : i < s.size) : byt s i = (s[i]'h).toNat := dif_pos h
theorem byt_out {s : ByteArray} {i : Nat} (h : ¬ i < s.size) : byt s i = 256 := dif_neg h
theorem byt_lt {s : ByteArray} {i : Nat} (h : byt s i < 256) : i < s.size := by
  rcases Nat.lt_or_ge i s.size with h1 | h1
  · exact h1
  · rw [byt_out (by omega)] at h; omega
def dgt (s : ByteArray) (i : Nat) : Prop := 48 ≤ byt s i ∧ byt s i ≤ 57
instance (s : ByteArray) (i : Nat) : Decidable (dgt s i) := by unfold dgt; infer_instance
theorem dgt_lt {s : ByteArray} {i : Nat} (h : dgt s i) : i < s.size := byt_lt (by have := h.2; omega)
/-- from the power's e on -/
def PW (s : ByteArray) (d : Dcm) (j : Nat) : Dcm × Bool :=
  if byt s j ≠ 101 then (d, false) else
  if byt s (j + 1) = 45 then
    if goodB (s.extract (j + 2) s.size).data.toList = false ∨ (s.extract (j + 2) s.size).data.toList = [48] then ({ d with down := true, power := s.extract (j + 2) s.size }, false)
    else ({ d with down := true, power := s.extract (j + 2) s.size }, goodB d.head.data.toList)
  else ({ d with power := s.extract (j + 1) s.size }, goodB (s.extract (j + 1) s.size).data.toList && goodB d.head.data.toList)
/-- behind the point -/
def TL (s : ByteArray) (d : Dcm) (f i : Nat) : Dcm × Bool :=
  if dgt s i then TL s d f (i + 1)
  else if i = f then ({ d with tail := s.extract f i }, false)
  else if i = s.size then ({ d with tail := s.extract f i }, goodB d.head.data.toList)
  else PW s { d with tail := s.extract f i } i
termination_by s.size - i
decreasing_by have := dgt_lt ‹_›; omega
/-- ahead of the point -/
def HD (s : ByteArray) (d : Dcm) (f i : Nat) : Dcm × Bool :=
  if dgt s i then HD s d f (i + 1)
  else if i = s.size then ({ d with head := s.extract f i }, goodB (s.extract f i).data.toList)
  else if byt s i = 46 then TL s { d with head := s.extract f i } (i + 1) (i + 1)
  else PW s { d with head := s.extract f i } i
termination_by s.size - i
decreasing_by have := dgt_lt ‹_›; omega
end Go.Proofs.YtjldfclncipbgaaGreatDoor

/- ratio.split. -/
namespace Go.Proofs.YtjldfclncipbgaaGreatDoor
open Go Go.RowKit Go.PlainAid Fil

def Dcm.cells (d : Dcm) : Array Value := #[.bool d.neg, .bool d.down, .string d.head, .string d.tail, .string d.power]
end Go.Proofs.YtjldfclncipbgaaGreatDoor

/- What split tells, in plain Lean; Rat.SetInt. -/
namespace Go.Proofs.YtjldfclncipbgaaGreatDoor
open Go Go.RowKit Go.PlainAid Fil

/-- what is known of a decimal that split has told -/
structure DcmOk (s : ByteArray) (d : Dcm) : Prop where
  head : goodL d.head.data.toList
  tail : allDec d.tail.data.toList
  power : d.power.size = 0 ∧ d.down = false ∨ goodL d.power.data.toList
  sizes : d.head.size + d.tail.size ≤ s.size
  psize : d.power.size ≤ s.size
end Go.Proofs.YtjldfclncipbgaaGreatDoor
