/- filigreelaw06.GaussParts over whatever comes in. -/
import Derived.Test.YtgcifpjhhoalmaaDoorP1
namespace Go.Proofs.YtgcifpjhhoalmaaDoor
open Go Go.RowKit Go.PlainAid Fil

theorem parts_any (a b : GR) (w : World) (fa : a.fit) (fb : b.fit) (hT : Tab w) :
    Calls Tryd.prog 7 #[.agg #[.bool a.n, .string a.s, .int .i64 a.e, .bool a.m, .string a.t, .int .i64 a.f], .agg #[.bool b.n, .string b.s, .int .i64 b.e, .bool b.m, .string b.t, .int .i64 b.f]] w fun r w' => r = .returned (.bool true) ∧ Below w.heap.size w w' := by
  obtain ⟨o, ho⟩ := rep_of a fa
  obtain ⟨q, hq⟩ := rep_of b fb
  exact parts_w o q a b _ _ _ _ _ _ _ _ _ _ _ _ rfl rfl rfl rfl rfl rfl rfl rfl rfl rfl rfl rfl w ho hq hT
theorem gaussParts_any (n0 : Bool) (s0 : ByteArray) (e0 : Int) (m0 : Bool) (t0 : ByteArray) (f0 : Int) (n1 : Bool) (s1 : ByteArray) (e1 : Int) (m1 : Bool) (t1 : ByteArray) (f1 : Int) (w : World) (hT : Tab w) (hs0 : s0.size ≤ 9223372036854775807) (ht0 : t0.size ≤ 9223372036854775807) (hs1 : s1.size ≤ 9223372036854775807) (ht1 : t1.size ≤ 9223372036854775807) :
    Calls Tryd.prog 7 #[.agg #[.bool n0, .string s0, .int .i64 e0, .bool m0, .string t0, .int .i64 f0], .agg #[.bool n1, .string s1, .int .i64 e1, .bool m1, .string t1, .int .i64 f1]] w fun r w' => r = .returned (.bool true) ∧ Below w.heap.size w w' :=
  parts_any ⟨n0, s0, e0, m0, t0, f0⟩ ⟨n1, s1, e1, m1, t1, f1⟩ w ⟨hs0, ht0⟩ ⟨hs1, ht1⟩ hT
end Go.Proofs.YtgcifpjhhoalmaaDoor
