/- filigreelaw06.GaussRound over whatever comes in. -/
import Derived.Test.YtgcifpjhhoalmaaDoorRd
namespace Go.Proofs.YtgcifpjhhoalmaaDoor
open Go Go.RowKit Go.PlainAid Fil

theorem round_any (g c : GR) (r : DRw) (d : GR) (s : DRw) (w : World) (fg : g.fit) (fc : c.fit) (fr : r.fit) (fd : d.fit) (fs : s.fit) (hT : Tab w) :
    Calls Tryd.prog 15 #[.agg #[.bool g.n, .string g.s, .int .i64 g.e, .bool g.m, .string g.t, .int .i64 g.f], .agg #[.bool c.n, .string c.s, .int .i64 c.e, .bool c.m, .string c.t, .int .i64 c.f], .agg #[.bool r.n, .string r.s, .int .i64 r.e], .agg #[.bool d.n, .string d.s, .int .i64 d.e, .bool d.m, .string d.t, .int .i64 d.f], .agg #[.bool s.n, .string s.s, .int .i64 s.e]] w fun r w' => r = .returned (.bool true) ∧ Below w.heap.size w w' := by
  obtain ⟨og, hg⟩ := rep_of g fg
  obtain ⟨oc, hc⟩ := rep_of c fc
  obtain ⟨qr, hr⟩ := repD_of r fr
  obtain ⟨od, hd⟩ := rep_of d fd
  obtain ⟨qs, hs⟩ := repD_of s fs
  exact round_w og oc od qr qs g c r d s _ _ _ _ _ _ _ _ _ rfl rfl rfl rfl rfl rfl rfl rfl rfl w hg hc hr hd hs hT
theorem gaussRound_any (n0 : Bool) (s0 : ByteArray) (e0 : Int) (m0 : Bool) (t0 : ByteArray) (f0 : Int) (n1 : Bool) (s1 : ByteArray) (e1 : Int) (m1 : Bool) (t1 : ByteArray) (f1 : Int) (n2 : Bool) (s2 : ByteArray) (e2 : Int) (n3 : Bool) (s3 : ByteArray) (e3 : Int) (m3 : Bool) (t3 : ByteArray) (f3 : Int) (n4 : Bool) (s4 : ByteArray) (e4 : Int) (w : World) (hT : Tab w) (hs0 : s0.size ≤ 9223372036854775807) (ht0 : t0.size ≤ 9223372036854775807) (hs1 : s1.size ≤ 9223372036854775807) (ht1 : t1.size ≤ 9223372036854775807) (hs2 : s2.size ≤ 9223372036854775807) (hs3 : s3.size ≤ 9223372036854775807) (ht3 : t3.size ≤ 9223372036854775807) (hs4 : s4.size ≤ 9223372036854775807) :
    Calls Tryd.prog 15 #[.agg #[.bool n0, .string s0, .int .i64 e0, .bool m0, .string t0, .int .i64 f0], .agg #[.bool n1, .string s1, .int .i64 e1, .bool m1, .string t1, .int .i64 f1], .agg #[.bool n2, .string s2, .int .i64 e2], .agg #[.bool n3, .string s3, .int .i64 e3, .bool m3, .string t3, .int .i64 f3], .agg #[.bool n4, .string s4, .int .i64 e4]] w fun r w' => r = .returned (.bool true) ∧ Below w.heap.size w w' :=
  round_any ⟨n0, s0, e0, m0, t0, f0⟩ ⟨n1, s1, e1, m1, t1, f1⟩ ⟨n2, s2, e2⟩ ⟨n3, s3, e3, m3, t3, f3⟩ ⟨n4, s4, e4⟩ w ⟨hs0, ht0⟩ ⟨hs1, ht1⟩ hs2 ⟨hs3, ht3⟩ hs4 hT
end Go.Proofs.YtgcifpjhhoalmaaDoor
