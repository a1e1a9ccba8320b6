/- ratio.split, in plain Lean. -/
import Derived.Test.YtbhfnigblhfikaaGreatJQ
namespace Go.Proofs.YtbhfnigblhfikaaGreat
open Go Go.RowKit Go.PlainAid Fil

/-- a decimal in its pieces -/
structure Dcm where
  neg : Bool
  down : Bool
  head : ByteArray
  tail : ByteArray
  power : ByteArray
def Dcm.v (d : Dcm) : Value := .agg #[.bool d.neg, .bool d.down, .string d.head, .string d.tail, .string d.power]
/-- the byte at a place; 256 beyond the end -/
def byt (s : ByteArray) (i : Nat) : Nat := if h : i < s.size then (s[i]'h).toNat else 256
theorem byt_in {s : ByteArray} {i : Nat} (h : i < s.size) : byt s i = (s[i]'h).toNat := dif_pos h
theorem byt_out {s : ByteArray} {i : Nat} (h : ¬ i < s.size) : byt s i = 256 := dif_neg h
theorem byt_lt {s : ByteArray} {i : Nat} (h : byt s i < 256) : i < s.size := by
  rcases Nat.lt_or_ge i s.size with h1 | h1
  · exact h1
  · rw [byt_out (by omega)] at h; omega
def dgt (s : ByteArray) (i : Nat) : Prop := 48 ≤ byt s i ∧ byt s i ≤ 57
instance (s : ByteArray) (i : Nat) : Decidable (dgt s i) := by unfold dgt; infer_instance
theorem dgt_lt {s : ByteArray} {i : Nat} (h : dgt s i) : i < s.size := byt_lt (by have := h.2; omega)
/-- from the power's e on -/
def PW (s : ByteArray) (d : Dcm) (j : Nat) : Dcm × Bool :=
  if byt s j ≠ 101 then (d, false) else
  if byt s (j + 1) = 45 then
    if goodB (s.extract (j + 2) s.size).data.toList = false ∨ (s.extract (j + 2) s.size).data.toList = [48] then ({ d with down := true, power := s.extract (j + 2) s.size }, false)
    else ({ d with down := true, power := s.extract (j + 2) s.size }, goodB d.head.data.toList)
  else ({ d with power := s.extract (j + 1) s.size }, goodB (s.extract (j + 1) s.size).data.toList && goodB d.head.data.toList)
/-- behind the point -/
def TL (s : ByteArray) (d : Dcm) (f i : Nat) : Dcm × Bool :=
  if dgt s i then TL s d f (i + 1)
  else if i = f then ({ d with tail := s.extract f i }, false)
  else if i = s.size then ({ d with tail := s.extract f i }, goodB d.head.data.toList)
  else PW s { d with tail := s.extract f i } i
termination_by s.size - i
decreasing_by have := dgt_lt ‹_›; omega
/-- ahead of the point -/
def HD (s : ByteArray) (d : Dcm) (f i : Nat) : Dcm × Bool :=
  if dgt s i then HD s d f (i + 1)
  else if i = s.size then ({ d with head := s.extract f i }, goodB (s.extract f i).data.toList)
  else if byt s i = 46 then TL s { d with head := s.extract f i } (i + 1) (i + 1)
  else PW s { d with head := s.extract f i } i
termination_by s.size - i
decreasing_by have := dgt_lt ‹_›; omega
def dcm0 (neg : Bool) : Dcm := ⟨neg, false, ⟨#[]⟩, ⟨#[]⟩, ⟨#[]⟩⟩
def SP (s : ByteArray) : Dcm × Bool := if byt s 0 = 45 then HD s (dcm0 true) 1 1 else HD s (dcm0 false) 0 0
theorem HD_dig {s : ByteArray} {d : Dcm} {f i : Nat} (h : dgt s i) : HD s d f i = HD s d f (i + 1) := by rw [HD, if_pos h]
theorem HD_end {s : ByteArray} {d : Dcm} {f i : Nat} (h : ¬ dgt s i) (hi : i = s.size) : HD s d f i = ({ d with head := s.extract f i }, goodB (s.extract f i).data.toList) := by rw [HD, if_neg h, if_pos hi]
theorem HD_pt {s : ByteArray} {d : Dcm} {f i : Nat} (h : byt s i = 46) : HD s d f i = TL s { d with head := s.extract f i } (i + 1) (i + 1) := by
  have hl := byt_lt (s := s) (i := i) (by omega)
  rw [HD, if_neg (by unfold dgt; omega), if_neg (by omega), if_pos h]
theorem HD_pw {s : ByteArray} {d : Dcm} {f i : Nat} (h : ¬ dgt s i) (hi : i ≠ s.size) (h46 : byt s i ≠ 46) : HD s d f i = PW s { d with head := s.extract f i } i := by rw [HD, if_neg h, if_neg hi, if_neg h46]
theorem TL_dig {s : ByteArray} {d : Dcm} {f i : Nat} (h : dgt s i) : TL s d f i = TL s d f (i + 1) := by rw [TL, if_pos h]
theorem TL_none {s : ByteArray} {d : Dcm} {f : Nat} (h : ¬ dgt s f) : TL s d f f = ({ d with tail := s.extract f f }, false) := by rw [TL, if_neg h, if_pos rfl]
theorem TL_end {s : ByteArray} {d : Dcm} {f i : Nat} (h : ¬ dgt s i) (hf : i ≠ f) (hi : i = s.size) : TL s d f i = ({ d with tail := s.extract f i }, goodB d.head.data.toList) := by rw [TL, if_neg h, if_neg hf, if_pos hi]
theorem TL_pw {s : ByteArray} {d : Dcm} {f i : Nat} (h : ¬ dgt s i) (hf : i ≠ f) (hi : i ≠ s.size) : TL s d f i = PW s { d with tail := s.extract f i } i := by rw [TL, if_neg h, if_neg hf, if_neg hi]
theorem PW_not {s : ByteArray} {d : Dcm} {j : Nat} (h : byt s j ≠ 101) : PW s d j = (d, false) := if_pos h
theorem PW_up {s : ByteArray} {d : Dcm} {j : Nat} (h : byt s j = 101) (h1 : byt s (j + 1) ≠ 45) : PW s d j = ({ d with power := s.extract (j + 1) s.size }, goodB (s.extract (j + 1) s.size).data.toList && goodB d.head.data.toList) := by
  unfold PW; rw [if_neg (by omega), if_neg h1]
theorem PW_down {s : ByteArray} {d : Dcm} {j : Nat} (h : byt s j = 101) (h1 : byt s (j + 1) = 45) : PW s d j = ({ d with down := true, power := s.extract (j + 2) s.size }, goodB (s.extract (j + 2) s.size).data.toList && !((s.extract (j + 2) s.size).data.toList == [48]) && goodB d.head.data.toList) := by
  unfold PW
  rw [if_neg (by omega), if_pos h1]
  by_cases h2 : goodB (s.extract (j + 2) s.size).data.toList = false
  · rw [if_pos (.inl h2), h2]; rfl
  · rw [Bool.not_eq_false] at h2
    rw [h2]
    by_cases h3 : (s.extract (j + 2) s.size).data.toList = [48]
    · rw [if_pos (.inr h3), h3]; rfl
    · have h5 : ¬ (true = false ∨ (s.extract (j + 2) s.size).data.toList = [48]) := fun h4 => h4.elim (fun h => Bool.noConfusion h) h3
      rw [if_neg h5, beq_eq_false_iff_ne.2 h3]; rfl
end Go.Proofs.YtbhfnigblhfikaaGreat
