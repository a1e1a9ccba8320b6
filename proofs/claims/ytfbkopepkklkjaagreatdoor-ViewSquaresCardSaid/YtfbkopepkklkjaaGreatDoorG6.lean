/- package gauss: radii, far, In, Within, Apart; and each function where a number may not be. -/
import Derived.Test.YtfbkopepkklkjaaGreatDoorH8
namespace Go.Proofs.YtfbkopepkklkjaaGreatDoor
open Go Go.RowKit Go.PlainAid Fil

/-- a Dyad, that may be or not -/
structure DRw where
  n : Bool
  s : ByteArray
  e : Int
def DRw.may (d : DRw) : Bool := mayB d.n d.s d.e
def DRw.fit (d : DRw) : Prop := d.s.size ≤ 9223372036854775807
def DY.raw (a : DY) : DRw := ⟨a.n, bstr a.x, a.e⟩
theorem DY.raw_fit {a : DY} (h : a.ok) : a.raw.fit := bstr_len h
theorem DY.raw_may {a : DY} (h : a.ok) : a.raw.may = true := mayB_ok h
end Go.Proofs.YtfbkopepkklkjaaGreatDoor
