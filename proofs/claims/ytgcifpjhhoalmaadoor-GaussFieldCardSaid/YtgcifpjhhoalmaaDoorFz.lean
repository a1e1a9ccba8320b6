/- filigreelaw06.GaussField over whatever comes in. -/
import Derived.Test.YtgcifpjhhoalmaaDoorFe
namespace Go.Proofs.YtgcifpjhhoalmaaDoor
open Go Go.RowKit Go.PlainAid Fil

theorem field_any (a b c : GR) (w : World) (fa : a.fit) (fb : b.fit) (fc : c.fit) (hT : Tab w) :
    Calls Tryd.prog 11 #[.agg #[.bool a.n, .string a.s, .int .i64 a.e, .bool a.m, .string a.t, .int .i64 a.f], .agg #[.bool b.n, .string b.s, .int .i64 b.e, .bool b.m, .string b.t, .int .i64 b.f], .agg #[.bool c.n, .string c.s, .int .i64 c.e, .bool c.m, .string c.t, .int .i64 c.f]] w fun r w' => r = .returned (.bool true) ∧ Below w.heap.size w w' := by
  obtain ⟨o, ho⟩ := rep_of a fa
  obtain ⟨p, hp⟩ := rep_of b fb
  obtain ⟨q, hq⟩ := rep_of c fc
  cases o with
  | none => exact field_bad p q a b c _ _ _ _ _ _ _ _ rfl rfl rfl rfl rfl rfl rfl rfl w ho hp hq hT
  | some A =>
    obtain ⟨hA, rfl⟩ := ho
    exact field_ok p q A b c _ _ _ _ _ _ _ _ _ _ _ _ _ _ rfl rfl rfl rfl rfl rfl rfl rfl rfl rfl rfl rfl rfl rfl w hA hp hq hT
theorem gaussField_any (n0 : Bool) (s0 : ByteArray) (e0 : Int) (m0 : Bool) (t0 : ByteArray) (f0 : Int) (n1 : Bool) (s1 : ByteArray) (e1 : Int) (m1 : Bool) (t1 : ByteArray) (f1 : Int) (n2 : Bool) (s2 : ByteArray) (e2 : Int) (m2 : Bool) (t2 : ByteArray) (f2 : Int) (w : World) (hT : Tab w) (hs0 : s0.size ≤ 9223372036854775807) (ht0 : t0.size ≤ 9223372036854775807) (hs1 : s1.size ≤ 9223372036854775807) (ht1 : t1.size ≤ 9223372036854775807) (hs2 : s2.size ≤ 9223372036854775807) (ht2 : t2.size ≤ 9223372036854775807) :
    Calls Tryd.prog 11 #[.agg #[.bool n0, .string s0, .int .i64 e0, .bool m0, .string t0, .int .i64 f0], .agg #[.bool n1, .string s1, .int .i64 e1, .bool m1, .string t1, .int .i64 f1], .agg #[.bool n2, .string s2, .int .i64 e2, .bool m2, .string t2, .int .i64 f2]] w fun r w' => r = .returned (.bool true) ∧ Below w.heap.size w w' :=
  field_any ⟨n0, s0, e0, m0, t0, f0⟩ ⟨n1, s1, e1, m1, t1, f1⟩ ⟨n2, s2, e2, m2, t2, f2⟩ w ⟨hs0, ht0⟩ ⟨hs1, ht1⟩ ⟨hs2, ht2⟩ hT
end Go.Proofs.YtgcifpjhhoalmaaDoor
