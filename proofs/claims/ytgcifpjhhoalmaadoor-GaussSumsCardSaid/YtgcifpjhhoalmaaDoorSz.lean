/- filigreelaw06.GaussSums over whatever comes in. -/
import Derived.Test.YtgcifpjhhoalmaaDoorS2
import Derived.Test.YtgcifpjhhoalmaaDoorS3
import Derived.Test.YtgcifpjhhoalmaaDoorS4
import Derived.Test.YtgcifpjhhoalmaaDoorHD
namespace Go.Proofs.YtgcifpjhhoalmaaDoor
open Go Go.RowKit Go.PlainAid Fil

theorem sums_any (a b : GR) (d : DRw) (w : World) (fa : a.fit) (fb : b.fit) (fd : d.fit) (hT : Tab w) :
    Calls Tryd.prog 9 #[.agg #[.bool a.n, .string a.s, .int .i64 a.e, .bool a.m, .string a.t, .int .i64 a.f], .agg #[.bool b.n, .string b.s, .int .i64 b.e, .bool b.m, .string b.t, .int .i64 b.f], .agg #[.bool d.n, .string d.s, .int .i64 d.e]] w fun r w' => r = .returned (.bool true) ∧ Below w.heap.size w w' := by
  obtain ⟨o, ho⟩ := rep_of a fa
  obtain ⟨p, hp⟩ := rep_of b fb
  obtain ⟨q, hq⟩ := repD_of d fd
  cases o with
  | none => exact sums_1 a b d w fa fb ho.1 hT
  | some A =>
    obtain ⟨hA, rfl⟩ := ho
    cases p with
    | none =>
      cases q with
      | none => exact sums_snn A b d w hA fb fd hp.1 hq.1 hT
      | some D =>
        obtain ⟨hD, rfl⟩ := hq
        exact sums_sns A b D _ rfl w hA fb hD hp.1 hT
    | some B =>
      obtain ⟨hB, rfl⟩ := hp
      cases q with
      | none => exact sums_ssn A B d _ _ _ rfl rfl rfl w hA hB fd hq.1 hT
      | some D =>
        obtain ⟨hD, rfl⟩ := hq
        exact sums_sss A B D _ _ _ _ rfl rfl rfl rfl w hA hB hD hT
theorem gaussSums_any (n0 : Bool) (s0 : ByteArray) (e0 : Int) (m0 : Bool) (t0 : ByteArray) (f0 : Int) (n1 : Bool) (s1 : ByteArray) (e1 : Int) (m1 : Bool) (t1 : ByteArray) (f1 : Int) (n2 : Bool) (s2 : ByteArray) (e2 : Int) (w : World) (hT : Tab w) (hs0 : s0.size ≤ 9223372036854775807) (ht0 : t0.size ≤ 9223372036854775807) (hs1 : s1.size ≤ 9223372036854775807) (ht1 : t1.size ≤ 9223372036854775807) (hs2 : s2.size ≤ 9223372036854775807) :
    Calls Tryd.prog 9 #[.agg #[.bool n0, .string s0, .int .i64 e0, .bool m0, .string t0, .int .i64 f0], .agg #[.bool n1, .string s1, .int .i64 e1, .bool m1, .string t1, .int .i64 f1], .agg #[.bool n2, .string s2, .int .i64 e2]] w fun r w' => r = .returned (.bool true) ∧ Below w.heap.size w w' :=
  sums_any ⟨n0, s0, e0, m0, t0, f0⟩ ⟨n1, s1, e1, m1, t1, f1⟩ ⟨n2, s2, e2⟩ w ⟨hs0, ht0⟩ ⟨hs1, ht1⟩ hs2 hT
end Go.Proofs.YtgcifpjhhoalmaaDoor
