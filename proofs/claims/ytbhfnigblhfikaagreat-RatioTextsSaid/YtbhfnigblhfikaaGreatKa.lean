/- From a row's hypotheses to what the walks ask: a Ratio among the arguments. -/
import Derived.Test.YtbhfnigblhfikaaGreatRows
import Derived.Test.YtbhfnigblhfikaaGreatB4
import Derived.ProofKit
import Derived.Lib.SmallJoins
import Derived.ChangeMaps5
import Derived.ChangeArms
import Derived.OpenShut
import Derived.Laws.Cover2
namespace Go.Proofs.YtbhfnigblhfikaaGreat
open Go Go.RowKit Go.PlainAid Fil Go.Joins Go.ChangeShapes Go.WideShapes Go.ChangeAt

theorem own : ownKnob Tryz.prog.godebug = none := by kernel_rfl
section
variable {H : Type} {enc : TypeId × Value → H} {w w' : World} {base : Nat} {sp : Nat → Bool} {held : Bool}

set_option maxRecDepth 20000 in
theorem open_ratio {r : Reach} {b0 : Nat} {v : Value} {d : DataW H} {p : List MemPlace} (hv : Value.okWide Tryz.prog w r b0 24 v) (h : DataW.Trod enc Tryz.prog w base sp held 24 v d p) :
    ∃ (neg : Bool) (s t : ByteArray), v = .agg #[.bool neg, .string s, .string t] ∧ d = .agg [.lit (.bool neg), .lit (.string s.data.toList), .lit (.string t.data.toList)] ∧ p = [] ∧ s.size ≤ maxLen ∧ t.size ≤ maxLen := by
  obtain ⟨v0, v1, v2, y0, y1, y2, n, rfl, rfl, rfl, h0, h1, h2⟩ := open_agg3 Tryz.underlying24 (by kernel_rfl) (by kernel_rfl) hv h
  obtain ⟨neg, e0, rfl⟩ := DataW.trod_bool Tryz.underlying4 h0
  obtain ⟨s, e1, rfl, hs⟩ := DataW.trod_string Tryz.underlying22 h1
  obtain ⟨t, e2, rfl, ht⟩ := DataW.trod_string Tryz.underlying22 h2
  obtain rfl := (List.cons.inj e0).1
  obtain rfl := (List.cons.inj e1).1
  obtain rfl := (List.cons.inj e2).1
  exact ⟨neg, s, t, rfl, rfl, rfl, hs, ht⟩
theorem shut_ratio (neg : Bool) (s t : ByteArray) (hs : s.size ≤ maxLen) (ht : t.size ≤ maxLen) : DataW.Trod enc Tryz.prog w base sp held 24 (.agg #[.bool neg, .string s, .string t]) (.agg [.lit (.bool neg), .lit (.string s.data.toList), .lit (.string t.data.toList)]) [] := by
  have h1 : DataW.Trod enc Tryz.prog w base sp held 22 (.string s) (.lit (.string s.data.toList)) [] := Go.ChangeMaps.shut_string Tryz.underlying22 hs
  have h0 : DataW.Trod enc Tryz.prog w base sp held 4 (.bool neg) (.lit (.bool neg)) [] := shut_bool Tryz.underlying4 neg
  have h2 : DataW.Trod enc Tryz.prog w base sp held 22 (.string t) (.lit (.string t.data.toList)) [] := Go.ChangeMaps.shut_string Tryz.underlying22 ht
  obtain ⟨n0, k0⟩ := h0
  obtain ⟨n1, k1⟩ := h1
  obtain ⟨n2, k2⟩ := h2
  exact shut_agg3 (y0 := (_, [])) (y1 := (_, [])) (y2 := (_, [])) Tryz.underlying24 (by kernel_rfl) (by kernel_rfl) ⟨n0, k0⟩ ⟨n1, k1⟩ ⟨n2, k2⟩
end
end Go.Proofs.YtbhfnigblhfikaaGreat
