/-
  NARROWER THAN 'FOR EVERY INPUT', by the rows' own cells (each row's printed sentence says how): DyadRounds: laid · DyadLists: laid · DyadChecks: laid · DyadShifts: laid · GaussParts: laid · DyadMakes: laid · GaussSums: laid · DyadSums: laid · GaussField: laid · GaussNorms: laid · DyadOrders: laid · GaussPowers: laid · GaussRound: laid · DyadRing: laid · DyadBetween: laid · DyadGo: laid.
  DERIVED. THE GIVEN ROWS OF THIS SEAT. 16 by the template 'for every input the law returns true; each argument reads behind the call as it read before'; 0 by the template 'total and deterministic' (their statements: YtgcifpjhhoalmaaDoorTotals.lean).
  GIVEN WITH THE SEED: the statements are not yours to turn. If you find one false, say at which input.
  Laid BY PROGRAM, IN A SANDBOX (cutbox-rows.mjs): the forced cells as the released guide's own fill.sh prints them over the translation 6fa1595cb6ace646… (all of the seat's roots in one cut). By AI agents, Wed Nov 11 2026. No macro, syntax, notation, axiom, sorry.
-/
import Derived.Test.YtgcifpjhhoalmaaDoorChecked
import GoSem.Claim
import GoSem.ClaimJoined
import GoSem.ClaimMapViews
import Derived.JoinedTies
import Derived.KernelRfl
namespace Go.Proofs.YtgcifpjhhoalmaaDoor
/- THE CELL 'sum', in the pinned program and in every row, IS THE sha256 OF THE DUMP (.gsa) THAT YtgcifpjhhoalmaaDoorProg.lean LOADS. Nothing in Lean hashes anything: it is a label: what it is worth is what the hold of that sum in a sandbox is worth. -/
noncomputable def Tryd.pinned : Pinned := { name := "ytgcifpjhhoalmaadoor", sum := "6fa1595cb6ace646ae0cbf9ee114b89db8ae2d8e234968391e43cd0d091fd1e2", checked := Tryd.checked }
namespace Rows
def none {H : Type} : Left H := { results := [], args := [] }

/- WHAT THE LISTED PACKAGE-LEVEL VARIABLES READ AS WHEN THE CALL BEGINS. Each datum BY PROGRAM (the guide's laid-datum.mjs) off the statement by which the dump's own 'gosem.cut.vars' lays the variable. In a bare row this is a premise. The card (YtgcifpjhhoalmaaDoorCards.lean) ties it to the program's text. -/
def laid_math_bits_deBruijn32tab {H : Type} : DataW H := .agg [.lit (.int .u8 0), .lit (.int .u8 1), .lit (.int .u8 28), .lit (.int .u8 2), .lit (.int .u8 29), .lit (.int .u8 14), .lit (.int .u8 24), .lit (.int .u8 3), .lit (.int .u8 30), .lit (.int .u8 22), .lit (.int .u8 20), .lit (.int .u8 15), .lit (.int .u8 25), .lit (.int .u8 17), .lit (.int .u8 4), .lit (.int .u8 8), .lit (.int .u8 31), .lit (.int .u8 27), .lit (.int .u8 13), .lit (.int .u8 23), .lit (.int .u8 21), .lit (.int .u8 19), .lit (.int .u8 16), .lit (.int .u8 7), .lit (.int .u8 26), .lit (.int .u8 12), .lit (.int .u8 18), .lit (.int .u8 6), .lit (.int .u8 11), .lit (.int .u8 5), .lit (.int .u8 10), .lit (.int .u8 9)]

/-- 'filigreelaw03.DyadRounds': WHATEVER THE INPUT: true; the input reads as it did. -/
def dyadRoundsSpec : ChangeSpec := { name := "dyadRounds", fn := fun _ => fun
  | [d] => { results := [.lit (.bool true)], args := [d] }
  | _ => none }
def dyadRoundsRow : OpenClaim := { program := "ytgcifpjhhoalmaadoor", sum := "6fa1595cb6ace646ae0cbf9ee114b89db8ae2d8e234968391e43cd0d091fd1e2", func := "filigree/filigreelaw03.DyadRounds", spec := "dyadRounds", inPlace := ["math.Float64bits", "math.Float64frombits"], unfollowed := true, recurses := true, named := ["math/bits.deBruijn32tab"], apart := false, laid := [("math/bits.deBruijn32tab", laid_math_bits_deBruijn32tab)] }
def DyadRoundsSaid : Prop := dyadRoundsRow.holds Tryd.pinned (OpenSpec.ofChange dyadRoundsSpec)

/-- ITS FALSE NEIGHBOUR: 'it returns false'. Refute it at one input. -/
def dyadRoundsWrong : ChangeSpec := { name := "dyadRounds", fn := fun _ => fun
  | [d] => { results := [.lit (.bool false)], args := [d] }
  | _ => none }
def DyadRoundsWrongFalsely : Prop := dyadRoundsRow.holds Tryd.pinned (OpenSpec.ofChange dyadRoundsWrong)

/-- 'filigreelaw03.DyadLists': WHATEVER THE INPUT: true; the input reads as it did. -/
def dyadListsSpec : ChangeSpec := { name := "dyadLists", fn := fun _ => fun
  | [d] => { results := [.lit (.bool true)], args := [d] }
  | _ => none }
def dyadListsRow : OpenClaim := { program := "ytgcifpjhhoalmaadoor", sum := "6fa1595cb6ace646ae0cbf9ee114b89db8ae2d8e234968391e43cd0d091fd1e2", func := "filigree/filigreelaw03.DyadLists", spec := "dyadLists", inPlace := ["math.Float64bits", "math.Float64frombits"], unfollowed := true, recurses := true, named := ["math/bits.deBruijn32tab"], apart := false, laid := [("math/bits.deBruijn32tab", laid_math_bits_deBruijn32tab)] }
def DyadListsSaid : Prop := dyadListsRow.holds Tryd.pinned (OpenSpec.ofChange dyadListsSpec)

/-- ITS FALSE NEIGHBOUR: 'it returns false'. Refute it at one input. -/
def dyadListsWrong : ChangeSpec := { name := "dyadLists", fn := fun _ => fun
  | [d] => { results := [.lit (.bool false)], args := [d] }
  | _ => none }
def DyadListsWrongFalsely : Prop := dyadListsRow.holds Tryd.pinned (OpenSpec.ofChange dyadListsWrong)

/-- 'filigreelaw03.DyadChecks': WHATEVER THE INPUT: true; the input reads as it did. -/
def dyadChecksSpec : ChangeSpec := { name := "dyadChecks", fn := fun _ => fun
  | [d] => { results := [.lit (.bool true)], args := [d] }
  | _ => none }
def dyadChecksRow : OpenClaim := { program := "ytgcifpjhhoalmaadoor", sum := "6fa1595cb6ace646ae0cbf9ee114b89db8ae2d8e234968391e43cd0d091fd1e2", func := "filigree/filigreelaw03.DyadChecks", spec := "dyadChecks", inPlace := ["math.Float64bits", "math.Float64frombits"], unfollowed := true, recurses := true, named := ["math/bits.deBruijn32tab"], apart := false, laid := [("math/bits.deBruijn32tab", laid_math_bits_deBruijn32tab)] }
def DyadChecksSaid : Prop := dyadChecksRow.holds Tryd.pinned (OpenSpec.ofChange dyadChecksSpec)

/-- ITS FALSE NEIGHBOUR: 'it returns false'. Refute it at one input. -/
def dyadChecksWrong : ChangeSpec := { name := "dyadChecks", fn := fun _ => fun
  | [d] => { results := [.lit (.bool false)], args := [d] }
  | _ => none }
def DyadChecksWrongFalsely : Prop := dyadChecksRow.holds Tryd.pinned (OpenSpec.ofChange dyadChecksWrong)

/-- 'filigreelaw03.DyadShifts': WHATEVER THE INPUT: true; the input reads as it did. -/
def dyadShiftsSpec : ChangeSpec := { name := "dyadShifts", fn := fun _ => fun
  | [d1, d2, d3] => { results := [.lit (.bool true)], args := [d1, d2, d3] }
  | _ => none }
def dyadShiftsRow : OpenClaim := { program := "ytgcifpjhhoalmaadoor", sum := "6fa1595cb6ace646ae0cbf9ee114b89db8ae2d8e234968391e43cd0d091fd1e2", func := "filigree/filigreelaw03.DyadShifts", spec := "dyadShifts", inPlace := ["math.Float64bits", "math.Float64frombits"], unfollowed := true, recurses := true, named := ["math/bits.deBruijn32tab"], apart := false, laid := [("math/bits.deBruijn32tab", laid_math_bits_deBruijn32tab)] }
def DyadShiftsSaid : Prop := dyadShiftsRow.holds Tryd.pinned (OpenSpec.ofChange dyadShiftsSpec)

/-- ITS FALSE NEIGHBOUR: 'it returns false'. Refute it at one input. -/
def dyadShiftsWrong : ChangeSpec := { name := "dyadShifts", fn := fun _ => fun
  | [d1, d2, d3] => { results := [.lit (.bool false)], args := [d1, d2, d3] }
  | _ => none }
def DyadShiftsWrongFalsely : Prop := dyadShiftsRow.holds Tryd.pinned (OpenSpec.ofChange dyadShiftsWrong)

/-- 'filigreelaw06.GaussParts': WHATEVER THE INPUT: true; the input reads as it did. -/
def gaussPartsSpec : ChangeSpec := { name := "gaussParts", fn := fun _ => fun
  | [d1, d2] => { results := [.lit (.bool true)], args := [d1, d2] }
  | _ => none }
def gaussPartsRow : OpenClaim := { program := "ytgcifpjhhoalmaadoor", sum := "6fa1595cb6ace646ae0cbf9ee114b89db8ae2d8e234968391e43cd0d091fd1e2", func := "filigree/filigreelaw06.GaussParts", spec := "gaussParts", unfollowed := true, recurses := true, named := ["math/bits.deBruijn32tab"], apart := false, laid := [("math/bits.deBruijn32tab", laid_math_bits_deBruijn32tab)] }
def GaussPartsSaid : Prop := gaussPartsRow.holds Tryd.pinned (OpenSpec.ofChange gaussPartsSpec)

/-- ITS FALSE NEIGHBOUR: 'it returns false'. Refute it at one input. -/
def gaussPartsWrong : ChangeSpec := { name := "gaussParts", fn := fun _ => fun
  | [d1, d2] => { results := [.lit (.bool false)], args := [d1, d2] }
  | _ => none }
def GaussPartsWrongFalsely : Prop := gaussPartsRow.holds Tryd.pinned (OpenSpec.ofChange gaussPartsWrong)

/-- 'filigreelaw03.DyadMakes': WHATEVER THE INPUT: true; the input reads as it did. -/
def dyadMakesSpec : ChangeSpec := { name := "dyadMakes", fn := fun _ => fun
  | [d1, d2, d3, d4, d5] => { results := [.lit (.bool true)], args := [d1, d2, d3, d4, d5] }
  | _ => none }
def dyadMakesRow : OpenClaim := { program := "ytgcifpjhhoalmaadoor", sum := "6fa1595cb6ace646ae0cbf9ee114b89db8ae2d8e234968391e43cd0d091fd1e2", func := "filigree/filigreelaw03.DyadMakes", spec := "dyadMakes", inPlace := ["math.Float64bits", "math.Float64frombits"], unfollowed := true, recurses := true, named := ["math/bits.deBruijn32tab"], apart := false, laid := [("math/bits.deBruijn32tab", laid_math_bits_deBruijn32tab)] }
def DyadMakesSaid : Prop := dyadMakesRow.holds Tryd.pinned (OpenSpec.ofChange dyadMakesSpec)

/-- ITS FALSE NEIGHBOUR: 'it returns false'. Refute it at one input. -/
def dyadMakesWrong : ChangeSpec := { name := "dyadMakes", fn := fun _ => fun
  | [d1, d2, d3, d4, d5] => { results := [.lit (.bool false)], args := [d1, d2, d3, d4, d5] }
  | _ => none }
def DyadMakesWrongFalsely : Prop := dyadMakesRow.holds Tryd.pinned (OpenSpec.ofChange dyadMakesWrong)

/-- 'filigreelaw06.GaussSums': WHATEVER THE INPUT: true; the input reads as it did. -/
def gaussSumsSpec : ChangeSpec := { name := "gaussSums", fn := fun _ => fun
  | [d1, d2, d3] => { results := [.lit (.bool true)], args := [d1, d2, d3] }
  | _ => none }
def gaussSumsRow : OpenClaim := { program := "ytgcifpjhhoalmaadoor", sum := "6fa1595cb6ace646ae0cbf9ee114b89db8ae2d8e234968391e43cd0d091fd1e2", func := "filigree/filigreelaw06.GaussSums", spec := "gaussSums", unfollowed := true, recurses := true, named := ["math/bits.deBruijn32tab"], apart := false, laid := [("math/bits.deBruijn32tab", laid_math_bits_deBruijn32tab)] }
def GaussSumsSaid : Prop := gaussSumsRow.holds Tryd.pinned (OpenSpec.ofChange gaussSumsSpec)

/-- ITS FALSE NEIGHBOUR: 'it returns false'. Refute it at one input. -/
def gaussSumsWrong : ChangeSpec := { name := "gaussSums", fn := fun _ => fun
  | [d1, d2, d3] => { results := [.lit (.bool false)], args := [d1, d2, d3] }
  | _ => none }
def GaussSumsWrongFalsely : Prop := gaussSumsRow.holds Tryd.pinned (OpenSpec.ofChange gaussSumsWrong)

/-- 'filigreelaw03.DyadSums': WHATEVER THE INPUT: true; the input reads as it did. -/
def dyadSumsSpec : ChangeSpec := { name := "dyadSums", fn := fun _ => fun
  | [d1, d2] => { results := [.lit (.bool true)], args := [d1, d2] }
  | _ => none }
def dyadSumsRow : OpenClaim := { program := "ytgcifpjhhoalmaadoor", sum := "6fa1595cb6ace646ae0cbf9ee114b89db8ae2d8e234968391e43cd0d091fd1e2", func := "filigree/filigreelaw03.DyadSums", spec := "dyadSums", inPlace := ["math.Float64bits", "math.Float64frombits"], unfollowed := true, recurses := true, named := ["math/bits.deBruijn32tab"], apart := false, laid := [("math/bits.deBruijn32tab", laid_math_bits_deBruijn32tab)] }
def DyadSumsSaid : Prop := dyadSumsRow.holds Tryd.pinned (OpenSpec.ofChange dyadSumsSpec)

/-- ITS FALSE NEIGHBOUR: 'it returns false'. Refute it at one input. -/
def dyadSumsWrong : ChangeSpec := { name := "dyadSums", fn := fun _ => fun
  | [d1, d2] => { results := [.lit (.bool false)], args := [d1, d2] }
  | _ => none }
def DyadSumsWrongFalsely : Prop := dyadSumsRow.holds Tryd.pinned (OpenSpec.ofChange dyadSumsWrong)

/-- 'filigreelaw06.GaussField': WHATEVER THE INPUT: true; the input reads as it did. -/
def gaussFieldSpec : ChangeSpec := { name := "gaussField", fn := fun _ => fun
  | [d1, d2, d3] => { results := [.lit (.bool true)], args := [d1, d2, d3] }
  | _ => none }
def gaussFieldRow : OpenClaim := { program := "ytgcifpjhhoalmaadoor", sum := "6fa1595cb6ace646ae0cbf9ee114b89db8ae2d8e234968391e43cd0d091fd1e2", func := "filigree/filigreelaw06.GaussField", spec := "gaussField", unfollowed := true, recurses := true, named := ["math/bits.deBruijn32tab"], apart := false, laid := [("math/bits.deBruijn32tab", laid_math_bits_deBruijn32tab)] }
def GaussFieldSaid : Prop := gaussFieldRow.holds Tryd.pinned (OpenSpec.ofChange gaussFieldSpec)

/-- ITS FALSE NEIGHBOUR: 'it returns false'. Refute it at one input. -/
def gaussFieldWrong : ChangeSpec := { name := "gaussField", fn := fun _ => fun
  | [d1, d2, d3] => { results := [.lit (.bool false)], args := [d1, d2, d3] }
  | _ => none }
def GaussFieldWrongFalsely : Prop := gaussFieldRow.holds Tryd.pinned (OpenSpec.ofChange gaussFieldWrong)

/-- 'filigreelaw06.GaussNorms': WHATEVER THE INPUT: true; the input reads as it did. -/
def gaussNormsSpec : ChangeSpec := { name := "gaussNorms", fn := fun _ => fun
  | [d1, d2, d3] => { results := [.lit (.bool true)], args := [d1, d2, d3] }
  | _ => none }
def gaussNormsRow : OpenClaim := { program := "ytgcifpjhhoalmaadoor", sum := "6fa1595cb6ace646ae0cbf9ee114b89db8ae2d8e234968391e43cd0d091fd1e2", func := "filigree/filigreelaw06.GaussNorms", spec := "gaussNorms", unfollowed := true, recurses := true, named := ["math/bits.deBruijn32tab"], apart := false, laid := [("math/bits.deBruijn32tab", laid_math_bits_deBruijn32tab)] }
def GaussNormsSaid : Prop := gaussNormsRow.holds Tryd.pinned (OpenSpec.ofChange gaussNormsSpec)

/-- ITS FALSE NEIGHBOUR: 'it returns false'. Refute it at one input. -/
def gaussNormsWrong : ChangeSpec := { name := "gaussNorms", fn := fun _ => fun
  | [d1, d2, d3] => { results := [.lit (.bool false)], args := [d1, d2, d3] }
  | _ => none }
def GaussNormsWrongFalsely : Prop := gaussNormsRow.holds Tryd.pinned (OpenSpec.ofChange gaussNormsWrong)

/-- 'filigreelaw03.DyadOrders': WHATEVER THE INPUT: true; the input reads as it did. -/
def dyadOrdersSpec : ChangeSpec := { name := "dyadOrders", fn := fun _ => fun
  | [d1, d2, d3] => { results := [.lit (.bool true)], args := [d1, d2, d3] }
  | _ => none }
def dyadOrdersRow : OpenClaim := { program := "ytgcifpjhhoalmaadoor", sum := "6fa1595cb6ace646ae0cbf9ee114b89db8ae2d8e234968391e43cd0d091fd1e2", func := "filigree/filigreelaw03.DyadOrders", spec := "dyadOrders", inPlace := ["math.Float64bits", "math.Float64frombits"], unfollowed := true, recurses := true, named := ["math/bits.deBruijn32tab"], apart := false, laid := [("math/bits.deBruijn32tab", laid_math_bits_deBruijn32tab)] }
def DyadOrdersSaid : Prop := dyadOrdersRow.holds Tryd.pinned (OpenSpec.ofChange dyadOrdersSpec)

/-- ITS FALSE NEIGHBOUR: 'it returns false'. Refute it at one input. -/
def dyadOrdersWrong : ChangeSpec := { name := "dyadOrders", fn := fun _ => fun
  | [d1, d2, d3] => { results := [.lit (.bool false)], args := [d1, d2, d3] }
  | _ => none }
def DyadOrdersWrongFalsely : Prop := dyadOrdersRow.holds Tryd.pinned (OpenSpec.ofChange dyadOrdersWrong)

/-- 'filigreelaw06.GaussPowers': WHATEVER THE INPUT: true; the input reads as it did. -/
def gaussPowersSpec : ChangeSpec := { name := "gaussPowers", fn := fun _ => fun
  | [d1, d2, d3] => { results := [.lit (.bool true)], args := [d1, d2, d3] }
  | _ => none }
def gaussPowersRow : OpenClaim := { program := "ytgcifpjhhoalmaadoor", sum := "6fa1595cb6ace646ae0cbf9ee114b89db8ae2d8e234968391e43cd0d091fd1e2", func := "filigree/filigreelaw06.GaussPowers", spec := "gaussPowers", unfollowed := true, recurses := true, named := ["math/bits.deBruijn32tab"], apart := false, laid := [("math/bits.deBruijn32tab", laid_math_bits_deBruijn32tab)] }
def GaussPowersSaid : Prop := gaussPowersRow.holds Tryd.pinned (OpenSpec.ofChange gaussPowersSpec)

/-- ITS FALSE NEIGHBOUR: 'it returns false'. Refute it at one input. -/
def gaussPowersWrong : ChangeSpec := { name := "gaussPowers", fn := fun _ => fun
  | [d1, d2, d3] => { results := [.lit (.bool false)], args := [d1, d2, d3] }
  | _ => none }
def GaussPowersWrongFalsely : Prop := gaussPowersRow.holds Tryd.pinned (OpenSpec.ofChange gaussPowersWrong)

/-- 'filigreelaw06.GaussRound': WHATEVER THE INPUT: true; the input reads as it did. -/
def gaussRoundSpec : ChangeSpec := { name := "gaussRound", fn := fun _ => fun
  | [d1, d2, d3, d4, d5] => { results := [.lit (.bool true)], args := [d1, d2, d3, d4, d5] }
  | _ => none }
def gaussRoundRow : OpenClaim := { program := "ytgcifpjhhoalmaadoor", sum := "6fa1595cb6ace646ae0cbf9ee114b89db8ae2d8e234968391e43cd0d091fd1e2", func := "filigree/filigreelaw06.GaussRound", spec := "gaussRound", unfollowed := true, recurses := true, named := ["math/bits.deBruijn32tab"], apart := false, laid := [("math/bits.deBruijn32tab", laid_math_bits_deBruijn32tab)] }
def GaussRoundSaid : Prop := gaussRoundRow.holds Tryd.pinned (OpenSpec.ofChange gaussRoundSpec)

/-- ITS FALSE NEIGHBOUR: 'it returns false'. Refute it at one input. -/
def gaussRoundWrong : ChangeSpec := { name := "gaussRound", fn := fun _ => fun
  | [d1, d2, d3, d4, d5] => { results := [.lit (.bool false)], args := [d1, d2, d3, d4, d5] }
  | _ => none }
def GaussRoundWrongFalsely : Prop := gaussRoundRow.holds Tryd.pinned (OpenSpec.ofChange gaussRoundWrong)

/-- 'filigreelaw03.DyadRing': WHATEVER THE INPUT: true; the input reads as it did. -/
def dyadRingSpec : ChangeSpec := { name := "dyadRing", fn := fun _ => fun
  | [d1, d2, d3, d4] => { results := [.lit (.bool true)], args := [d1, d2, d3, d4] }
  | _ => none }
def dyadRingRow : OpenClaim := { program := "ytgcifpjhhoalmaadoor", sum := "6fa1595cb6ace646ae0cbf9ee114b89db8ae2d8e234968391e43cd0d091fd1e2", func := "filigree/filigreelaw03.DyadRing", spec := "dyadRing", inPlace := ["math.Float64bits", "math.Float64frombits"], unfollowed := true, recurses := true, named := ["math/bits.deBruijn32tab"], apart := false, laid := [("math/bits.deBruijn32tab", laid_math_bits_deBruijn32tab)] }
def DyadRingSaid : Prop := dyadRingRow.holds Tryd.pinned (OpenSpec.ofChange dyadRingSpec)

/-- ITS FALSE NEIGHBOUR: 'it returns false'. Refute it at one input. -/
def dyadRingWrong : ChangeSpec := { name := "dyadRing", fn := fun _ => fun
  | [d1, d2, d3, d4] => { results := [.lit (.bool false)], args := [d1, d2, d3, d4] }
  | _ => none }
def DyadRingWrongFalsely : Prop := dyadRingRow.holds Tryd.pinned (OpenSpec.ofChange dyadRingWrong)

/-- 'filigreelaw03.DyadBetween': WHATEVER THE INPUT: true; the input reads as it did. -/
def dyadBetweenSpec : ChangeSpec := { name := "dyadBetween", fn := fun _ => fun
  | [d1, d2, d3] => { results := [.lit (.bool true)], args := [d1, d2, d3] }
  | _ => none }
def dyadBetweenRow : OpenClaim := { program := "ytgcifpjhhoalmaadoor", sum := "6fa1595cb6ace646ae0cbf9ee114b89db8ae2d8e234968391e43cd0d091fd1e2", func := "filigree/filigreelaw03.DyadBetween", spec := "dyadBetween", inPlace := ["math.Float64bits", "math.Float64frombits"], unfollowed := true, recurses := true, named := ["math/bits.deBruijn32tab"], apart := false, laid := [("math/bits.deBruijn32tab", laid_math_bits_deBruijn32tab)] }
def DyadBetweenSaid : Prop := dyadBetweenRow.holds Tryd.pinned (OpenSpec.ofChange dyadBetweenSpec)

/-- ITS FALSE NEIGHBOUR: 'it returns false'. Refute it at one input. -/
def dyadBetweenWrong : ChangeSpec := { name := "dyadBetween", fn := fun _ => fun
  | [d1, d2, d3] => { results := [.lit (.bool false)], args := [d1, d2, d3] }
  | _ => none }
def DyadBetweenWrongFalsely : Prop := dyadBetweenRow.holds Tryd.pinned (OpenSpec.ofChange dyadBetweenWrong)

/-- 'filigreelaw03.DyadGo': WHATEVER THE INPUT: true; the input reads as it did. -/
def dyadGoSpec : ChangeSpec := { name := "dyadGo", fn := fun _ => fun
  | [d1, d2, d3] => { results := [.lit (.bool true)], args := [d1, d2, d3] }
  | _ => none }
def dyadGoRow : OpenClaim := { program := "ytgcifpjhhoalmaadoor", sum := "6fa1595cb6ace646ae0cbf9ee114b89db8ae2d8e234968391e43cd0d091fd1e2", func := "filigree/filigreelaw03.DyadGo", spec := "dyadGo", inPlace := ["math.Float64bits", "math.Float64frombits", "math.FMA"], unfollowed := true, recurses := true, named := ["math/bits.deBruijn32tab"], apart := false, laid := [("math/bits.deBruijn32tab", laid_math_bits_deBruijn32tab)] }
def DyadGoSaid : Prop := dyadGoRow.holds Tryd.pinned (OpenSpec.ofChange dyadGoSpec)

/-- ITS FALSE NEIGHBOUR: 'it returns false'. Refute it at one input. -/
def dyadGoWrong : ChangeSpec := { name := "dyadGo", fn := fun _ => fun
  | [d1, d2, d3] => { results := [.lit (.bool false)], args := [d1, d2, d3] }
  | _ => none }
def DyadGoWrongFalsely : Prop := dyadGoRow.holds Tryd.pinned (OpenSpec.ofChange dyadGoWrong)

/- THE SECOND FORM. 'bulk': how many values and letters a reading holds, each counted each time it is reached (what is shared counts as often as it is met; a slice's spare places count too). A statement '..UptoSaid' is the law's where the arguments, and the package variables that the reading takes, are together of bulk at most 1048576: NARROWER than '..Said'. Prove '..Said' where nothing that the law and all that it calls make is longer than what came in: it says more and counts as full. Else prove '..UptoSaid'. A law counts once. -/
mutual
def uptoBulk {H : Type} : DataW H → Nat
  | .lit (.string bytes) => bytes.length + 1
  | .lit _ => 1
  | .nil => 1
  | .ptr d => uptoBulk d + 1
  | .slice elems spare => uptoBulkAll elems + uptoBulkAll spare + 1
  | .agg parts => uptoBulkAll parts + 1
  | .iface _ d => uptoBulk d + 1
  | .map entries => uptoBulkEntries entries + 1
  | .held _ => 1
def uptoBulkAll {H : Type} : List (DataW H) → Nat
  | [] => 0
  | d :: r => uptoBulk d + uptoBulkAll r
def uptoBulkEntries {H : Type} : List (Lit × DataW H) → Nat
  | [] => 0
  | x :: r => uptoBulkEntry x + uptoBulkEntries r
def uptoBulkEntry {H : Type} : Lit × DataW H → Nat
  | (.string bytes, d) => bytes.length + uptoBulk d + 1
  | (_, d) => uptoBulk d + 1
 end
def uptoSmall : (H : Type) → List (DataW H) → Bool := fun _ ds => decide (uptoBulkAll ds ≤ 1048576)
def OpenSpec.upto (s : _root_.Go.ChangeSpec) : _root_.Go.OpenSpec := { _root_.Go.OpenSpec.ofChange s with cond := some uptoSmall }

/-- 'filigreelaw03.DyadRounds', WHERE WHAT IT READS IS OF BULK AT MOST 1048576: true; the input reads as it did. -/
def dyadRoundsUptoRow : OpenClaim := { program := "ytgcifpjhhoalmaadoor", sum := "6fa1595cb6ace646ae0cbf9ee114b89db8ae2d8e234968391e43cd0d091fd1e2", func := "filigree/filigreelaw03.DyadRounds", spec := "dyadRounds", inPlace := ["math.Float64bits", "math.Float64frombits"], unfollowed := true, recurses := true, named := ["math/bits.deBruijn32tab"], apart := false, laid := [("math/bits.deBruijn32tab", laid_math_bits_deBruijn32tab)], narrowed := true }
def DyadRoundsUptoSaid : Prop := dyadRoundsUptoRow.holds Tryd.pinned (OpenSpec.upto dyadRoundsSpec)

/-- 'filigreelaw03.DyadLists', WHERE WHAT IT READS IS OF BULK AT MOST 1048576: true; the input reads as it did. -/
def dyadListsUptoRow : OpenClaim := { program := "ytgcifpjhhoalmaadoor", sum := "6fa1595cb6ace646ae0cbf9ee114b89db8ae2d8e234968391e43cd0d091fd1e2", func := "filigree/filigreelaw03.DyadLists", spec := "dyadLists", inPlace := ["math.Float64bits", "math.Float64frombits"], unfollowed := true, recurses := true, named := ["math/bits.deBruijn32tab"], apart := false, laid := [("math/bits.deBruijn32tab", laid_math_bits_deBruijn32tab)], narrowed := true }
def DyadListsUptoSaid : Prop := dyadListsUptoRow.holds Tryd.pinned (OpenSpec.upto dyadListsSpec)

/-- 'filigreelaw03.DyadChecks', WHERE WHAT IT READS IS OF BULK AT MOST 1048576: true; the input reads as it did. -/
def dyadChecksUptoRow : OpenClaim := { program := "ytgcifpjhhoalmaadoor", sum := "6fa1595cb6ace646ae0cbf9ee114b89db8ae2d8e234968391e43cd0d091fd1e2", func := "filigree/filigreelaw03.DyadChecks", spec := "dyadChecks", inPlace := ["math.Float64bits", "math.Float64frombits"], unfollowed := true, recurses := true, named := ["math/bits.deBruijn32tab"], apart := false, laid := [("math/bits.deBruijn32tab", laid_math_bits_deBruijn32tab)], narrowed := true }
def DyadChecksUptoSaid : Prop := dyadChecksUptoRow.holds Tryd.pinned (OpenSpec.upto dyadChecksSpec)

/-- 'filigreelaw03.DyadShifts', WHERE WHAT IT READS IS OF BULK AT MOST 1048576: true; the input reads as it did. -/
def dyadShiftsUptoRow : OpenClaim := { program := "ytgcifpjhhoalmaadoor", sum := "6fa1595cb6ace646ae0cbf9ee114b89db8ae2d8e234968391e43cd0d091fd1e2", func := "filigree/filigreelaw03.DyadShifts", spec := "dyadShifts", inPlace := ["math.Float64bits", "math.Float64frombits"], unfollowed := true, recurses := true, named := ["math/bits.deBruijn32tab"], apart := false, laid := [("math/bits.deBruijn32tab", laid_math_bits_deBruijn32tab)], narrowed := true }
def DyadShiftsUptoSaid : Prop := dyadShiftsUptoRow.holds Tryd.pinned (OpenSpec.upto dyadShiftsSpec)

/-- 'filigreelaw06.GaussParts', WHERE WHAT IT READS IS OF BULK AT MOST 1048576: true; the input reads as it did. -/
def gaussPartsUptoRow : OpenClaim := { program := "ytgcifpjhhoalmaadoor", sum := "6fa1595cb6ace646ae0cbf9ee114b89db8ae2d8e234968391e43cd0d091fd1e2", func := "filigree/filigreelaw06.GaussParts", spec := "gaussParts", unfollowed := true, recurses := true, named := ["math/bits.deBruijn32tab"], apart := false, laid := [("math/bits.deBruijn32tab", laid_math_bits_deBruijn32tab)], narrowed := true }
def GaussPartsUptoSaid : Prop := gaussPartsUptoRow.holds Tryd.pinned (OpenSpec.upto gaussPartsSpec)

/-- 'filigreelaw03.DyadMakes', WHERE WHAT IT READS IS OF BULK AT MOST 1048576: true; the input reads as it did. -/
def dyadMakesUptoRow : OpenClaim := { program := "ytgcifpjhhoalmaadoor", sum := "6fa1595cb6ace646ae0cbf9ee114b89db8ae2d8e234968391e43cd0d091fd1e2", func := "filigree/filigreelaw03.DyadMakes", spec := "dyadMakes", inPlace := ["math.Float64bits", "math.Float64frombits"], unfollowed := true, recurses := true, named := ["math/bits.deBruijn32tab"], apart := false, laid := [("math/bits.deBruijn32tab", laid_math_bits_deBruijn32tab)], narrowed := true }
def DyadMakesUptoSaid : Prop := dyadMakesUptoRow.holds Tryd.pinned (OpenSpec.upto dyadMakesSpec)

/-- 'filigreelaw06.GaussSums', WHERE WHAT IT READS IS OF BULK AT MOST 1048576: true; the input reads as it did. -/
def gaussSumsUptoRow : OpenClaim := { program := "ytgcifpjhhoalmaadoor", sum := "6fa1595cb6ace646ae0cbf9ee114b89db8ae2d8e234968391e43cd0d091fd1e2", func := "filigree/filigreelaw06.GaussSums", spec := "gaussSums", unfollowed := true, recurses := true, named := ["math/bits.deBruijn32tab"], apart := false, laid := [("math/bits.deBruijn32tab", laid_math_bits_deBruijn32tab)], narrowed := true }
def GaussSumsUptoSaid : Prop := gaussSumsUptoRow.holds Tryd.pinned (OpenSpec.upto gaussSumsSpec)

/-- 'filigreelaw03.DyadSums', WHERE WHAT IT READS IS OF BULK AT MOST 1048576: true; the input reads as it did. -/
def dyadSumsUptoRow : OpenClaim := { program := "ytgcifpjhhoalmaadoor", sum := "6fa1595cb6ace646ae0cbf9ee114b89db8ae2d8e234968391e43cd0d091fd1e2", func := "filigree/filigreelaw03.DyadSums", spec := "dyadSums", inPlace := ["math.Float64bits", "math.Float64frombits"], unfollowed := true, recurses := true, named := ["math/bits.deBruijn32tab"], apart := false, laid := [("math/bits.deBruijn32tab", laid_math_bits_deBruijn32tab)], narrowed := true }
def DyadSumsUptoSaid : Prop := dyadSumsUptoRow.holds Tryd.pinned (OpenSpec.upto dyadSumsSpec)

/-- 'filigreelaw06.GaussField', WHERE WHAT IT READS IS OF BULK AT MOST 1048576: true; the input reads as it did. -/
def gaussFieldUptoRow : OpenClaim := { program := "ytgcifpjhhoalmaadoor", sum := "6fa1595cb6ace646ae0cbf9ee114b89db8ae2d8e234968391e43cd0d091fd1e2", func := "filigree/filigreelaw06.GaussField", spec := "gaussField", unfollowed := true, recurses := true, named := ["math/bits.deBruijn32tab"], apart := false, laid := [("math/bits.deBruijn32tab", laid_math_bits_deBruijn32tab)], narrowed := true }
def GaussFieldUptoSaid : Prop := gaussFieldUptoRow.holds Tryd.pinned (OpenSpec.upto gaussFieldSpec)

/-- 'filigreelaw06.GaussNorms', WHERE WHAT IT READS IS OF BULK AT MOST 1048576: true; the input reads as it did. -/
def gaussNormsUptoRow : OpenClaim := { program := "ytgcifpjhhoalmaadoor", sum := "6fa1595cb6ace646ae0cbf9ee114b89db8ae2d8e234968391e43cd0d091fd1e2", func := "filigree/filigreelaw06.GaussNorms", spec := "gaussNorms", unfollowed := true, recurses := true, named := ["math/bits.deBruijn32tab"], apart := false, laid := [("math/bits.deBruijn32tab", laid_math_bits_deBruijn32tab)], narrowed := true }
def GaussNormsUptoSaid : Prop := gaussNormsUptoRow.holds Tryd.pinned (OpenSpec.upto gaussNormsSpec)

/-- 'filigreelaw03.DyadOrders', WHERE WHAT IT READS IS OF BULK AT MOST 1048576: true; the input reads as it did. -/
def dyadOrdersUptoRow : OpenClaim := { program := "ytgcifpjhhoalmaadoor", sum := "6fa1595cb6ace646ae0cbf9ee114b89db8ae2d8e234968391e43cd0d091fd1e2", func := "filigree/filigreelaw03.DyadOrders", spec := "dyadOrders", inPlace := ["math.Float64bits", "math.Float64frombits"], unfollowed := true, recurses := true, named := ["math/bits.deBruijn32tab"], apart := false, laid := [("math/bits.deBruijn32tab", laid_math_bits_deBruijn32tab)], narrowed := true }
def DyadOrdersUptoSaid : Prop := dyadOrdersUptoRow.holds Tryd.pinned (OpenSpec.upto dyadOrdersSpec)

/-- 'filigreelaw06.GaussPowers', WHERE WHAT IT READS IS OF BULK AT MOST 1048576: true; the input reads as it did. -/
def gaussPowersUptoRow : OpenClaim := { program := "ytgcifpjhhoalmaadoor", sum := "6fa1595cb6ace646ae0cbf9ee114b89db8ae2d8e234968391e43cd0d091fd1e2", func := "filigree/filigreelaw06.GaussPowers", spec := "gaussPowers", unfollowed := true, recurses := true, named := ["math/bits.deBruijn32tab"], apart := false, laid := [("math/bits.deBruijn32tab", laid_math_bits_deBruijn32tab)], narrowed := true }
def GaussPowersUptoSaid : Prop := gaussPowersUptoRow.holds Tryd.pinned (OpenSpec.upto gaussPowersSpec)

/-- 'filigreelaw06.GaussRound', WHERE WHAT IT READS IS OF BULK AT MOST 1048576: true; the input reads as it did. -/
def gaussRoundUptoRow : OpenClaim := { program := "ytgcifpjhhoalmaadoor", sum := "6fa1595cb6ace646ae0cbf9ee114b89db8ae2d8e234968391e43cd0d091fd1e2", func := "filigree/filigreelaw06.GaussRound", spec := "gaussRound", unfollowed := true, recurses := true, named := ["math/bits.deBruijn32tab"], apart := false, laid := [("math/bits.deBruijn32tab", laid_math_bits_deBruijn32tab)], narrowed := true }
def GaussRoundUptoSaid : Prop := gaussRoundUptoRow.holds Tryd.pinned (OpenSpec.upto gaussRoundSpec)

/-- 'filigreelaw03.DyadRing', WHERE WHAT IT READS IS OF BULK AT MOST 1048576: true; the input reads as it did. -/
def dyadRingUptoRow : OpenClaim := { program := "ytgcifpjhhoalmaadoor", sum := "6fa1595cb6ace646ae0cbf9ee114b89db8ae2d8e234968391e43cd0d091fd1e2", func := "filigree/filigreelaw03.DyadRing", spec := "dyadRing", inPlace := ["math.Float64bits", "math.Float64frombits"], unfollowed := true, recurses := true, named := ["math/bits.deBruijn32tab"], apart := false, laid := [("math/bits.deBruijn32tab", laid_math_bits_deBruijn32tab)], narrowed := true }
def DyadRingUptoSaid : Prop := dyadRingUptoRow.holds Tryd.pinned (OpenSpec.upto dyadRingSpec)

/-- 'filigreelaw03.DyadBetween', WHERE WHAT IT READS IS OF BULK AT MOST 1048576: true; the input reads as it did. -/
def dyadBetweenUptoRow : OpenClaim := { program := "ytgcifpjhhoalmaadoor", sum := "6fa1595cb6ace646ae0cbf9ee114b89db8ae2d8e234968391e43cd0d091fd1e2", func := "filigree/filigreelaw03.DyadBetween", spec := "dyadBetween", inPlace := ["math.Float64bits", "math.Float64frombits"], unfollowed := true, recurses := true, named := ["math/bits.deBruijn32tab"], apart := false, laid := [("math/bits.deBruijn32tab", laid_math_bits_deBruijn32tab)], narrowed := true }
def DyadBetweenUptoSaid : Prop := dyadBetweenUptoRow.holds Tryd.pinned (OpenSpec.upto dyadBetweenSpec)

/-- 'filigreelaw03.DyadGo', WHERE WHAT IT READS IS OF BULK AT MOST 1048576: true; the input reads as it did. -/
def dyadGoUptoRow : OpenClaim := { program := "ytgcifpjhhoalmaadoor", sum := "6fa1595cb6ace646ae0cbf9ee114b89db8ae2d8e234968391e43cd0d091fd1e2", func := "filigree/filigreelaw03.DyadGo", spec := "dyadGo", inPlace := ["math.Float64bits", "math.Float64frombits", "math.FMA"], unfollowed := true, recurses := true, named := ["math/bits.deBruijn32tab"], apart := false, laid := [("math/bits.deBruijn32tab", laid_math_bits_deBruijn32tab)], narrowed := true }
def DyadGoUptoSaid : Prop := dyadGoUptoRow.holds Tryd.pinned (OpenSpec.upto dyadGoSpec)

end Rows
end Go.Proofs.YtgcifpjhhoalmaaDoor
