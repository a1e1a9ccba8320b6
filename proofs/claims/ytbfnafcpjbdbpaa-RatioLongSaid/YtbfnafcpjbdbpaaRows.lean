/-
  No cell of these rows narrows 'for every input' (looked for: loops, veiled, ifaces, maps, wideKeys, modest, calm, conditions, laid).
  DERIVED. THE GIVEN ROWS OF THIS SEAT. 4 by the template 'for every input the law returns true; each argument reads behind the call as it read before'; 0 by the template 'total and deterministic' (their statements: YtbfnafcpjbdbpaaTotals.lean).
  GIVEN WITH THE SEED: the statements are not yours to turn. If you find one false, say at which input.
  Laid BY PROGRAM, IN A SANDBOX (cutbox-rows.mjs): the forced cells as the released guide's own fill.sh prints them over the translation 317718dbe64154ec… (all of the seat's roots in one cut). By AI agents, Wed Nov 11 2026. No macro, syntax, notation, axiom, sorry.
-/
import Derived.Test.YtbfnafcpjbdbpaaChecked
import GoSem.Claim
import GoSem.ClaimJoined
import GoSem.ClaimMapViews
import Derived.JoinedTies
import Derived.KernelRfl
namespace Go.Proofs.Ytbfnafcpjbdbpaa
/- THE CELL 'sum', in the pinned program and in every row, IS THE sha256 OF THE DUMP (.gsa) THAT YtbfnafcpjbdbpaaProg.lean LOADS. Nothing in Lean hashes anything: it is a label: what it is worth is what the hold of that sum in a sandbox is worth. -/
noncomputable def Try.pinned : Pinned := { name := "ytbfnafcpjbdbpaa", sum := "317718dbe64154ec4a4990fb0025ed3428e36518aec5a08fda62c8eb7893237a", checked := Try.checked }
namespace Rows
def none {H : Type} : Left H := { results := [], args := [] }

/-- 'filigreelaw04.RatioNames': WHATEVER THE INPUT: true; the input reads as it did. -/
def ratioNamesSpec : ChangeSpec := { name := "ratioNames", fn := fun _ => fun
  | [] => { results := [.lit (.bool true)], args := [] }
  | _ => none }
def ratioNamesRow : OpenClaim := { program := "ytbfnafcpjbdbpaa", sum := "317718dbe64154ec4a4990fb0025ed3428e36518aec5a08fda62c8eb7893237a", func := "filigree/filigreelaw04.RatioNames", spec := "ratioNames", inPlace := ["math.Float64bits", "math.Float64frombits"], apart := false }
def RatioNamesSaid : Prop := ratioNamesRow.holds Try.pinned (OpenSpec.ofChange ratioNamesSpec)

/-- ITS FALSE NEIGHBOUR: 'it returns false'. Refute it at one input. -/
def ratioNamesWrong : ChangeSpec := { name := "ratioNames", fn := fun _ => fun
  | [] => { results := [.lit (.bool false)], args := [] }
  | _ => none }
def RatioNamesWrongFalsely : Prop := ratioNamesRow.holds Try.pinned (OpenSpec.ofChange ratioNamesWrong)

/-- 'filigreelaw04.RatioField': WHATEVER THE INPUT: true; the input reads as it did. -/
def ratioFieldSpec : ChangeSpec := { name := "ratioField", fn := fun _ => fun
  | [d1, d2, d3] => { results := [.lit (.bool true)], args := [d1, d2, d3] }
  | _ => none }
def ratioFieldRow : OpenClaim := { program := "ytbfnafcpjbdbpaa", sum := "317718dbe64154ec4a4990fb0025ed3428e36518aec5a08fda62c8eb7893237a", func := "filigree/filigreelaw04.RatioField", spec := "ratioField", inPlace := ["math.Float64bits", "math.Float64frombits"], unfollowed := true, recurses := true, apart := false }
def RatioFieldSaid : Prop := ratioFieldRow.holds Try.pinned (OpenSpec.ofChange ratioFieldSpec)

/-- ITS FALSE NEIGHBOUR: 'it returns false'. Refute it at one input. -/
def ratioFieldWrong : ChangeSpec := { name := "ratioField", fn := fun _ => fun
  | [d1, d2, d3] => { results := [.lit (.bool false)], args := [d1, d2, d3] }
  | _ => none }
def RatioFieldWrongFalsely : Prop := ratioFieldRow.holds Try.pinned (OpenSpec.ofChange ratioFieldWrong)

/-- 'filigreelaw04.RatioBack': WHATEVER THE INPUT: true; the input reads as it did. -/
def ratioBackSpec : ChangeSpec := { name := "ratioBack", fn := fun _ => fun
  | [d1, d2, d3] => { results := [.lit (.bool true)], args := [d1, d2, d3] }
  | _ => none }
def ratioBackRow : OpenClaim := { program := "ytbfnafcpjbdbpaa", sum := "317718dbe64154ec4a4990fb0025ed3428e36518aec5a08fda62c8eb7893237a", func := "filigree/filigreelaw04.RatioBack", spec := "ratioBack", inPlace := ["math.Float64bits", "math.Float64frombits", "internal/bytealg.IndexByteString", "internal/bytealg.IndexString"], named := ["internal/bytealg.MaxLen"], apart := false }
def RatioBackSaid : Prop := ratioBackRow.holds Try.pinned (OpenSpec.ofChange ratioBackSpec)

/-- ITS FALSE NEIGHBOUR: 'it returns false'. Refute it at one input. -/
def ratioBackWrong : ChangeSpec := { name := "ratioBack", fn := fun _ => fun
  | [d1, d2, d3] => { results := [.lit (.bool false)], args := [d1, d2, d3] }
  | _ => none }
def RatioBackWrongFalsely : Prop := ratioBackRow.holds Try.pinned (OpenSpec.ofChange ratioBackWrong)

/-- 'filigreelaw04.RatioLong': WHATEVER THE INPUT: true; the input reads as it did. -/
def ratioLongSpec : ChangeSpec := { name := "ratioLong", fn := fun _ => fun
  | [d1, d2, d3] => { results := [.lit (.bool true)], args := [d1, d2, d3] }
  | _ => none }
def ratioLongRow : OpenClaim := { program := "ytbfnafcpjbdbpaa", sum := "317718dbe64154ec4a4990fb0025ed3428e36518aec5a08fda62c8eb7893237a", func := "filigree/filigreelaw04.RatioLong", spec := "ratioLong", inPlace := ["math.Float64bits", "math.Float64frombits", "internal/bytealg.IndexByteString", "internal/bytealg.IndexString"], unfollowed := true, recurses := true, named := ["internal/bytealg.MaxLen"], apart := false }
def RatioLongSaid : Prop := ratioLongRow.holds Try.pinned (OpenSpec.ofChange ratioLongSpec)

/-- ITS FALSE NEIGHBOUR: 'it returns false'. Refute it at one input. -/
def ratioLongWrong : ChangeSpec := { name := "ratioLong", fn := fun _ => fun
  | [d1, d2, d3] => { results := [.lit (.bool false)], args := [d1, d2, d3] }
  | _ => none }
def RatioLongWrongFalsely : Prop := ratioLongRow.holds Try.pinned (OpenSpec.ofChange ratioLongWrong)

/- THE SECOND FORM. 'bulk': how many values and letters a reading holds, each counted each time it is reached (what is shared counts as often as it is met; a slice's spare places count too). A statement '..UptoSaid' is the law's where the arguments, and the package variables that the reading takes, are together of bulk at most 1048576: NARROWER than '..Said'. Prove '..Said' where nothing that the law and all that it calls make is longer than what came in: it says more and counts as full. Else prove '..UptoSaid'. A law counts once. -/
mutual
def uptoBulk {H : Type} : DataW H → Nat
  | .lit (.string bytes) => bytes.length + 1
  | .lit _ => 1
  | .nil => 1
  | .ptr d => uptoBulk d + 1
  | .slice elems spare => uptoBulkAll elems + uptoBulkAll spare + 1
  | .agg parts => uptoBulkAll parts + 1
  | .iface _ d => uptoBulk d + 1
  | .map entries => uptoBulkEntries entries + 1
  | .held _ => 1
def uptoBulkAll {H : Type} : List (DataW H) → Nat
  | [] => 0
  | d :: r => uptoBulk d + uptoBulkAll r
def uptoBulkEntries {H : Type} : List (Lit × DataW H) → Nat
  | [] => 0
  | x :: r => uptoBulkEntry x + uptoBulkEntries r
def uptoBulkEntry {H : Type} : Lit × DataW H → Nat
  | (.string bytes, d) => bytes.length + uptoBulk d + 1
  | (_, d) => uptoBulk d + 1
 end
def uptoSmall : (H : Type) → List (DataW H) → Bool := fun _ ds => decide (uptoBulkAll ds ≤ 1048576)
def OpenSpec.upto (s : _root_.Go.ChangeSpec) : _root_.Go.OpenSpec := { _root_.Go.OpenSpec.ofChange s with cond := some uptoSmall }

/-- 'filigreelaw04.RatioNames', WHERE WHAT IT READS IS OF BULK AT MOST 1048576: true; the input reads as it did. -/
def ratioNamesUptoRow : OpenClaim := { program := "ytbfnafcpjbdbpaa", sum := "317718dbe64154ec4a4990fb0025ed3428e36518aec5a08fda62c8eb7893237a", func := "filigree/filigreelaw04.RatioNames", spec := "ratioNames", inPlace := ["math.Float64bits", "math.Float64frombits"], apart := false, narrowed := true }
def RatioNamesUptoSaid : Prop := ratioNamesUptoRow.holds Try.pinned (OpenSpec.upto ratioNamesSpec)

/-- 'filigreelaw04.RatioField', WHERE WHAT IT READS IS OF BULK AT MOST 1048576: true; the input reads as it did. -/
def ratioFieldUptoRow : OpenClaim := { program := "ytbfnafcpjbdbpaa", sum := "317718dbe64154ec4a4990fb0025ed3428e36518aec5a08fda62c8eb7893237a", func := "filigree/filigreelaw04.RatioField", spec := "ratioField", inPlace := ["math.Float64bits", "math.Float64frombits"], unfollowed := true, recurses := true, apart := false, narrowed := true }
def RatioFieldUptoSaid : Prop := ratioFieldUptoRow.holds Try.pinned (OpenSpec.upto ratioFieldSpec)

/-- 'filigreelaw04.RatioBack', WHERE WHAT IT READS IS OF BULK AT MOST 1048576: true; the input reads as it did. -/
def ratioBackUptoRow : OpenClaim := { program := "ytbfnafcpjbdbpaa", sum := "317718dbe64154ec4a4990fb0025ed3428e36518aec5a08fda62c8eb7893237a", func := "filigree/filigreelaw04.RatioBack", spec := "ratioBack", inPlace := ["math.Float64bits", "math.Float64frombits", "internal/bytealg.IndexByteString", "internal/bytealg.IndexString"], named := ["internal/bytealg.MaxLen"], apart := false, narrowed := true }
def RatioBackUptoSaid : Prop := ratioBackUptoRow.holds Try.pinned (OpenSpec.upto ratioBackSpec)

/-- 'filigreelaw04.RatioLong', WHERE WHAT IT READS IS OF BULK AT MOST 1048576: true; the input reads as it did. -/
def ratioLongUptoRow : OpenClaim := { program := "ytbfnafcpjbdbpaa", sum := "317718dbe64154ec4a4990fb0025ed3428e36518aec5a08fda62c8eb7893237a", func := "filigree/filigreelaw04.RatioLong", spec := "ratioLong", inPlace := ["math.Float64bits", "math.Float64frombits", "internal/bytealg.IndexByteString", "internal/bytealg.IndexString"], unfollowed := true, recurses := true, named := ["internal/bytealg.MaxLen"], apart := false, narrowed := true }
def RatioLongUptoSaid : Prop := ratioLongUptoRow.holds Try.pinned (OpenSpec.upto ratioLongSpec)

end Rows
end Go.Proofs.Ytbfnafcpjbdbpaa
