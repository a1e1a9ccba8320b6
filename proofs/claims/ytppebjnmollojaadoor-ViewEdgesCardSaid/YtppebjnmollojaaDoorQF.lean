/- filigreelaw24.ViewEdges at every input. -/
import Derived.Test.YtppebjnmollojaaDoorQD
import Derived.Test.YtppebjnmollojaaDoorQE
namespace Go.Proofs.YtppebjnmollojaaDoor
open Go Go.RowKit Go.PlainAid Fil

theorem GR.ok_of (g : GR) (h : g.may = true) : ∃ G : GY, G.ok ∧ g = G.raw := by
  unfold GR.may at h
  rw [Bool.and_eq_true] at h
  obtain ⟨x, hx, kx⟩ := ok_of_may h.1
  obtain ⟨y, hy, ky⟩ := ok_of_may h.2
  refine ⟨⟨⟨g.n, x, g.e⟩, ⟨g.m, y, g.f⟩⟩, ⟨kx, ky⟩, ?_⟩
  obtain ⟨n, s, e, m, t, f⟩ := g
  dsimp only at hx hy
  subst hx; subst hy
  rfl
theorem cmp_raw (x : DRw) (y : DY) (fx : x.fit) (hy : y.ok) : ∃ K E : Int, ∀ W : World, Calls Tryd.prog 12 #[.agg #[.bool x.n, .string x.s, .int .i64 x.e], .agg #[.bool y.n, .string (bstr y.x), .int .i64 y.e]] W fun r w' => r = .returned (.tuple #[.int .i64 K, .int .i64 E]) ∧ Below W.heap.size W w' := by
  cases h : x.may
  · exact ⟨0, 2, fun W => dcmp_bad x.n x.s x.e y.n (bstr y.x) y.e W (by rw [show mayB x.n x.s x.e = false from h]; rfl) fx (bstr_len hy)⟩
  · obtain ⟨z, hz, kz⟩ := ok_of_may h
    exact ⟨_, _, fun W => by rw [hz]; exact ccmp ⟨x.n, z, x.e⟩ y W kz hy⟩
/-- the cell that has d strictly within -/
theorem am_in {d : DY} {n e : Int} {c : Int} (n1 : 1 ≤ n) (n2 : n ≤ 65536) (e1 : -4096 ≤ e) (e2 : e ≤ 4096) (c0 : 0 ≤ c) (c1 : c < n) (h1 : (2 * c - n) * W 1 (e - 1) < d.v) (h2 : d.v < (2 * c - n + 2) * W 1 (e - 1)) : amS d n e = (c, true) := by
  have hq := W_pos (e - 1)
  have m1 : ∀ {a b : Int}, a ≤ b → a * W 1 (e - 1) ≤ b * W 1 (e - 1) := fun h => Int.mul_le_mul_of_nonneg_right h (Int.le_of_lt hq)
  unfold amS
  rw [if_neg]
  · have hl : lst (edB d n e) (n - 1).toNat = c.toNat := by
      refine lst_is (by omega) (fun t ht => ?_) (fun hc => ?_)
      · rw [edB_v (by omega) (by omega) (by omega) (by omega)]
        refine decide_eq_false (fun h => ?_)
        have := m1 (show 2 * ((t : Int) + 1) - n ≤ 2 * c - n by omega)
        omega
      · rw [edB_v (by omega) (by omega) (by omega) (by omega)]
        refine decide_eq_true ?_
        have := m1 (show 2 * c - n + 2 ≤ 2 * ((c.toNat : Int) + 1) - n by omega)
        omega
    rw [hl, Int.toNat_of_nonneg c0]
  · rintro (h | h)
    · rw [yCmp_lt, unit_v (by omega) (by omega) (by omega), W_unit] at h
      have := m1 (show 2 * 0 - n ≤ 2 * c - n by omega)
      omega
    · rw [yCmp_gt, unit_v (by omega) (by omega) (by omega), W_unit] at h
      have := m1 (show 2 * c - n + 2 ≤ 2 * n - n by omega)
      omega
theorem cell_only {x G q n c o : Int} (hq : 0 < q) (h1 : G + (2 * c - n) * q < x) (h2 : x < G + (2 * c - n + 2) * q) (h3 : G + (2 * o - n) * q ≤ x) (h4 : x ≤ G + (2 * o - n + 2) * q) : c = o := by
  have m1 : ∀ {a b : Int}, a ≤ b → a * q ≤ b * q := fun h => Int.mul_le_mul_of_nonneg_right h (Int.le_of_lt hq)
  rcases Int.lt_trichotomy c o with h | h | h
  · have := m1 (show 2 * c - n + 2 ≤ 2 * o - n by omega); omega
  · exact h
  · have := m1 (show 2 * o - n + 2 ≤ 2 * c - n by omega); omega
theorem gSub_v {a b : GY} (ha : a.ok) (hb : b.ok) (h : (gSub a b).2 = 0) : (gSub a b).1.re.v = a.re.v - b.re.v ∧ (gSub a b).1.im.v = a.im.v - b.im.v := by
  have e : gSub a b = gB (ySub a.re b.re) (ySub a.im b.im) := rfl
  rw [e] at h ⊢
  by_cases k : (ySub a.re b.re).2 = 0 ∧ (ySub a.im b.im).2 = 0
  · rw [gB_yes k.1 k.2]
    exact ⟨ySub_v ha.1 hb.1 k.1, ySub_v ha.2 hb.2 k.2⟩
  · rw [gB_no k] at h; exact absurd h (by decide)
theorem cmp_turn (a b : DY) : decide (yCmp a b ≤ 0) = decide (0 ≤ yCmp b a) := by rw [decide_eq_decide, yCmp_le, yCmp_ge]

set_option maxHeartbeats 4000000 in
theorem viewEdges_any (gn : Bool) (gs : ByteArray) (ge : Int) (gm : Bool) (gt : ByteArray) (gf e a d c r o k : Int) (jn : Bool) (js : ByteArray) (je : Int) (jm : Bool) (jt : ByteArray) (jf : Int) (w : World) (hT : Tab w)
    (fg : gs.size ≤ 9223372036854775807) (fg' : gt.size ≤ 9223372036854775807) (fj : js.size ≤ 9223372036854775807) (fj' : jt.size ≤ 9223372036854775807) :
    Calls Tryd.prog 4 #[.agg #[.bool gn, .string gs, .int .i64 ge, .bool gm, .string gt, .int .i64 gf, .int .i64 e, .int .i64 a, .int .i64 d], .int .i64 c, .int .i64 r, .int .i64 o, .int .i64 k, .agg #[.bool jn, .string js, .int .i64 je, .bool jm, .string jt, .int .i64 jf]] w fun r w' => r = .returned (.bool true) ∧ Below w.heap.size w w' := by
  cases hW : winB ⟨gn, gs, ge, gm, gt, gf⟩ e a d
  · exact edges_none c r o k e a d 240 _ _ _ _ _ _ _ _ _ _ _ _ w (fun W _ => vcell_bad ⟨gn, gs, ge, gm, gt, gf⟩ e a d c r W ⟨fg, fg'⟩ hW) (by decide) hT
  unfold winB at hW
  rw [Bool.and_eq_true, Bool.and_eq_true, Bool.and_eq_true, sideB_iff, countB_iff, countB_iff] at hW
  obtain ⟨hmay, ⟨e1, e2⟩, ⟨a1, a2⟩, d1, d2⟩ := hW
  obtain ⟨G, hG, hGe⟩ := GR.ok_of _ hmay
  obtain ⟨rfl, rfl, rfl, rfl, rfl, rfl⟩ : gn = G.re.n ∧ gs = bstr G.re.x ∧ ge = G.re.e ∧ gm = G.im.n ∧ gt = bstr G.im.x ∧ gf = G.im.e := by
    have := congrArg GR.n hGe; have := congrArg GR.s hGe; have := congrArg GR.e hGe; have := congrArg GR.m hGe; have := congrArg GR.t hGe; have := congrArg GR.f hGe
    exact ⟨by assumption, by assumption, by assumption, by assumption, by assumption, by assumption⟩
  clear hGe hmay fg fg'
  by_cases hin : 0 ≤ c ∧ c < a ∧ 0 ≤ r ∧ r < d
  rotate_left
  · exact edges_none c r o k e a d 241 _ _ _ _ _ _ _ _ _ _ _ _ w (fun W _ => vcell_out G e a d c r W hG e1 e2 a1 a2 d1 d2 (by omega)) (by decide) hT
  obtain ⟨c0, c1, r0, r1⟩ := hin
  by_cases hPQ : (vM G.re (2 * c - a) (e - 1)).2 = 0 ∧ (vM G.im (d - 2 * r - 2) (e - 1)).2 = 0
  rotate_left
  · refine edges_none c r o k e a d 4 _ _ _ _ _ _ _ _ _ _ _ _ w (fun W hW => ?_) (by decide) hT
    have h := vcell G e a d c r W hG e1 e2 a1 a2 d1 d2 c0 c1 r0 r1 hW
    rw [sB_no hPQ, show bstr SQ.zero.l.x = { data := #[] } from bstr_zero, show bstr SQ.zero.b.x = { data := #[] } from bstr_zero] at h
    exact h
  have hcell := fun W hW => vcell G e a d c r W hG e1 e2 a1 a2 d1 d2 c0 c1 r0 r1 hW
  rw [sB_yes hPQ.1 hPQ.2] at hcell
  have hlv := vM_v hG.1 (by omega) (by omega) (by omega) hPQ.1
  have hbv := vM_v hG.2 (by omega) (by omega) (by omega) hPQ.2
  have hl2 : vM (vM G.re (2 * c - a) (e - 1)).1 2 (e - 1) = vM G.re (2 * (c + 1) - a) (e - 1) := by rw [vM_vM hG.1 (by omega) (by omega) (by omega) (by omega) hPQ.1]; congr 1; omega
  obtain ⟨l, hl⟩ : ∃ l, (vM G.re (2 * c - a) (e - 1)).1 = l := ⟨_, rfl⟩
  obtain ⟨b, hb⟩ : ∃ b, (vM G.im (d - 2 * r - 2) (e - 1)).1 = b := ⟨_, rfl⟩
  have okl : l.ok := hl ▸ vM_ok _ _ _
  have okb : b.ok := hb ▸ vM_ok _ _ _
  rw [hl] at hcell hlv hl2
  rw [hb] at hcell hbv
  by_cases hp : (vM l 2 (e - 1)).2 = 0
  rotate_left
  · exact edges_corn c r o k e a d _ _ _ _ _ _ _ _ _ _ _ _ _ _ _ _ _ _ w hcell (fun W hW => vcorners_1 l b e W okl okb e1 e2 hp hW) hT
  by_cases hq : (vM b 2 (e - 1)).2 = 0
  rotate_left
  · exact edges_corn c r o k e a d _ _ _ _ _ _ _ _ _ _ _ _ _ _ _ _ _ _ w hcell (fun W hW => vcorners_2 l b e _ rfl W okl okb e1 e2 hp hq hW) hT
  have hpv := vM_v okl (by omega) (by omega) (by omega) hp
  have hqv := vM_v okb (by omega) (by omega) (by omega) hq
  have hcorn := fun W hW => vcorners_0 l b e _ _ rfl rfl W okl okb e1 e2 hp hq hW
  obtain ⟨p, hpe⟩ : ∃ p, (vM l 2 (e - 1)).1 = p := ⟨_, rfl⟩
  obtain ⟨q, hqe⟩ : ∃ q, (vM b 2 (e - 1)).1 = q := ⟨_, rfl⟩
  have okp : p.ok := hpe ▸ vM_ok _ _ _
  have okq : q.ok := hqe ▸ vM_ok _ _ _
  rw [hpe] at hpv hcorn
  rw [hqe] at hqv hcorn
  -- the cell to the right
  obtain ⟨X, Y, rE, er, hright, fr⟩ : ∃ (X Y : DY) (rE er : Int), (∀ W : World, Tab W → Calls Tryd.prog 9 #[.agg #[.bool G.re.n, .string (bstr G.re.x), .int .i64 G.re.e, .bool G.im.n, .string (bstr G.im.x), .int .i64 G.im.e, .int .i64 e, .int .i64 a, .int .i64 d], .int .i64 (c + 1), .int .i64 r] W fun r w' => r = .returned (.tuple #[.agg #[.bool X.n, .string (bstr X.x), .int .i64 X.e, .bool Y.n, .string (bstr Y.x), .int .i64 Y.e, .int .i64 rE], .int .i64 er]) ∧ Below W.heap.size W w') ∧ (er = 0 → p = X ∧ b = Y) := by
    by_cases hc : c + 1 < a
    · refine ⟨p, b, e, 0, fun W hW => ?_, fun _ => ⟨rfl, rfl⟩⟩
      have h := vcell G e a d (c + 1) r W hG e1 e2 a1 a2 d1 d2 (by omega) hc r0 r1 hW
      rw [sB_yes (by rw [← hl2]; exact hp) hPQ.2, ← hl2, hpe, hb] at h
      exact h
    · refine ⟨DY.zero, DY.zero, 0, 241, fun W _ => ?_, fun h => absurd h (by decide)⟩
      have h := vcell_out G e a d (c + 1) r W hG e1 e2 a1 a2 d1 d2 (by omega)
      rw [show bstr DY.zero.x = { data := #[] } from bstr_zero]
      exact h
  -- the cell below
  obtain ⟨U, V, uE, eu, hunder, fu⟩ : ∃ (U V : DY) (uE eu : Int), (∀ W : World, Tab W → Calls Tryd.prog 9 #[.agg #[.bool G.re.n, .string (bstr G.re.x), .int .i64 G.re.e, .bool G.im.n, .string (bstr G.im.x), .int .i64 G.im.e, .int .i64 e, .int .i64 a, .int .i64 d], .int .i64 c, .int .i64 (r + 1)] W fun r w' => r = .returned (.tuple #[.agg #[.bool U.n, .string (bstr U.x), .int .i64 U.e, .bool V.n, .string (bstr V.x), .int .i64 V.e, .int .i64 uE], .int .i64 eu]) ∧ Below W.heap.size W w') ∧
      (eu = 0 → l = U ∧ e = uE ∧ ∀ W : World, Tab W → Calls Tryd.prog 10 #[.agg #[.bool l.n, .string (bstr l.x), .int .i64 l.e, .bool V.n, .string (bstr V.x), .int .i64 V.e, .int .i64 e]] W fun r w' => r = .returned (.tuple #[.agg #[.bool l.n, .string (bstr l.x), .int .i64 l.e, .bool V.n, .string (bstr V.x), .int .i64 V.e, .bool p.n, .string (bstr p.x), .int .i64 p.e, .bool V.n, .string (bstr V.x), .int .i64 V.e, .bool l.n, .string (bstr l.x), .int .i64 l.e, .bool b.n, .string (bstr b.x), .int .i64 b.e, .bool p.n, .string (bstr p.x), .int .i64 p.e, .bool b.n, .string (bstr b.x), .int .i64 b.e], .int .i64 0]) ∧ Below W.heap.size W w') := by
    by_cases hr : r + 1 < d
    · by_cases hv : (vM G.im (d - 2 * (r + 1) - 2) (e - 1)).2 = 0
      · have hv2 : vM (vM G.im (d - 2 * (r + 1) - 2) (e - 1)).1 2 (e - 1) = vM G.im (d - 2 * r - 2) (e - 1) := by rw [vM_vM hG.2 (by omega) (by omega) (by omega) (by omega) hv]; congr 1; omega
        have okv : (vM G.im (d - 2 * (r + 1) - 2) (e - 1)).1.ok := vM_ok _ _ _
        refine ⟨l, (vM G.im (d - 2 * (r + 1) - 2) (e - 1)).1, e, 0, fun W hW => ?_, fun _ => ⟨rfl, rfl, fun W hW => ?_⟩⟩
        · have h := vcell G e a d c (r + 1) W hG e1 e2 a1 a2 d1 d2 c0 c1 (by omega) hr hW
          rw [sB_yes hPQ.1 hv, hl] at h
          exact h
        · exact vcorners_0 l _ e p b hpe (by rw [hv2, hb]) W okl okv e1 e2 hp (by rw [hv2]; exact hPQ.2) hW
      · refine ⟨DY.zero, DY.zero, 0, 4, fun W hW => ?_, fun h => absurd h (by decide)⟩
        have h := vcell G e a d c (r + 1) W hG e1 e2 a1 a2 d1 d2 c0 c1 (by omega) hr hW
        rw [sB_no (fun k => hv k.2)] at h
        exact h
    · refine ⟨DY.zero, DY.zero, 0, 241, fun W _ => ?_, fun h => absurd h (by decide)⟩
      have h := vcell_out G e a d c (r + 1) W hG e1 e2 a1 a2 d1 d2 (by omega)
      rw [show bstr DY.zero.x = { data := #[] } from bstr_zero]
      exact h
  have fr' : er = 0 → p.n = X.n ∧ bstr p.x = bstr X.x ∧ p.e = X.e ∧ b.n = Y.n ∧ bstr b.x = bstr Y.x ∧ b.e = Y.e := fun h => by obtain ⟨rfl, rfl⟩ := fr h; exact ⟨rfl, rfl, rfl, rfl, rfl, rfl⟩
  have fu' := fun h : eu = 0 => (fu h)
  cases hJ : GR.may ⟨jn, js, je, jm, jt, jf⟩
  · obtain ⟨K0, E0, k0⟩ := cmp_raw ⟨jn, js, je⟩ l fj okl
    obtain ⟨K1, E1, k1⟩ := cmp_raw ⟨jn, js, je⟩ p fj okp
    obtain ⟨K2, E2, k2⟩ := cmp_raw ⟨jm, jt, jf⟩ b fj' okb
    obtain ⟨K3, E3, k3⟩ := cmp_raw ⟨jm, jt, jf⟩ q fj' okq
    exact edges_bad c r o k e a d rE uE er eu 2 K0 K1 K2 K3 E0 E1 E2 E3 false _ _ _ _ _ _ _ _ _ _ _ _ _ _ _ _ _ _ _ _ _ _ _ _ _ _ _ _ _ _ _ _ _ _ _ _ w c0 (by omega) r0 (by omega) hcell hcorn hright hunder
      (fun W _ => vholds_bad l b e ⟨jn, js, je, jm, jt, jf⟩ W okl okb ⟨fj, fj'⟩ e1 e2 hJ) k0 k1 k2 k3 fr' (fun h => by obtain ⟨rfl, rfl, h3⟩ := fu h; exact ⟨rfl, rfl, rfl, rfl, h3⟩) (by decide) hT
  obtain ⟨J, okJ, hJe⟩ := GR.ok_of _ hJ
  obtain ⟨rfl, rfl, rfl, rfl, rfl, rfl⟩ : jn = J.re.n ∧ js = bstr J.re.x ∧ je = J.re.e ∧ jm = J.im.n ∧ jt = bstr J.im.x ∧ jf = J.im.e := by
    have := congrArg GR.n hJe; have := congrArg GR.s hJe; have := congrArg GR.e hJe; have := congrArg GR.m hJe; have := congrArg GR.t hJe; have := congrArg GR.f hJe
    exact ⟨by assumption, by assumption, by assumption, by assumption, by assumption, by assumption⟩
  clear hJe hJ fj fj'
  have hq1 := W_pos (e - 1)
  -- strictly within
  have strict : (0 < yCmp J.re l ∧ yCmp J.re p < 0 ∧ 0 < yCmp J.im b ∧ yCmp J.im q < 0) →
      G.re.v + (2 * c - a) * W 1 (e - 1) < J.re.v ∧ J.re.v < G.re.v + (2 * c - a + 2) * W 1 (e - 1) ∧ G.im.v + (d - 2 * r - 2) * W 1 (e - 1) < J.im.v ∧ J.im.v < G.im.v + (d - 2 * r - 2 + 2) * W 1 (e - 1) := by
    rintro ⟨h0, h1, h2, h3⟩
    rw [yCmp_gt, hlv, W_unit] at h0
    rw [yCmp_lt, hpv, hlv, Int.add_assoc, ← W_sum, W_unit] at h1
    rw [yCmp_gt, hbv, W_unit] at h2
    rw [yCmp_lt, hqv, hbv, Int.add_assoc, ← W_sum, W_unit] at h3
    exact ⟨h0, h1, h2, h3⟩
  obtain ⟨fm, fn, ef, hfind, ff⟩ : ∃ fm fn ef : Int, (∀ W : World, Tab W → Calls Tryd.prog 13 #[.agg #[.bool G.re.n, .string (bstr G.re.x), .int .i64 G.re.e, .bool G.im.n, .string (bstr G.im.x), .int .i64 G.im.e, .int .i64 e, .int .i64 a, .int .i64 d], .agg #[.bool J.re.n, .string (bstr J.re.x), .int .i64 J.re.e, .bool J.im.n, .string (bstr J.im.x), .int .i64 J.im.e]] W fun r w' => r = .returned (.tuple #[.int .i64 fm, .int .i64 fn, .int .i64 ef]) ∧ Below W.heap.size W w') ∧
      ((0 < yCmp J.re l ∧ yCmp J.re p < 0 ∧ 0 < yCmp J.im b ∧ yCmp J.im q < 0) → (ef = 0 → c = fm ∧ r = fn) ∧ ef ≠ 241) := by
    by_cases hS : (gSub J G).2 = 0
    · refine ⟨_, _, _, fun W hW => vfind_2 G e a d J _ _ _ _ _ _ rfl rfl rfl rfl rfl rfl W hG okJ e1 e2 a1 a2 d1 d2 hS hW, fun hs => ?_⟩
      obtain ⟨s0, s1, s2, s3⟩ := strict hs
      obtain ⟨v0, v1⟩ := gSub_v okJ hG hS
      have A1 := am_in (d := (gSub J G).1.re) (n := a) (e := e) (c := c) a1 a2 e1 e2 c0 c1 (by omega) (by omega)
      have hn : (yNeg (gSub J G).1.im).v = -((gSub J G).1.im.v) := yNeg_v _
      have t1 : (2 * r - d) * W 1 (e - 1) = -((d - 2 * r - 2 + 2) * W 1 (e - 1)) := by rw [← Int.neg_mul]; congr 1; omega
      have t2 : (2 * r - d + 2) * W 1 (e - 1) = -((d - 2 * r - 2) * W 1 (e - 1)) := by rw [← Int.neg_mul]; congr 1; omega
      have A2 := am_in (d := yNeg (gSub J G).1.im) (n := d) (e := e) (c := r) d1 d2 e1 e2 r0 r1 (by omega) (by omega)
      rw [A1, A2]
      exact ⟨fun _ => ⟨rfl, rfl⟩, by show (if (true && true) = true then (0 : Int) else 241) ≠ 241; decide⟩
    · refine ⟨0, 0, (gSub J G).2, fun W hW => vfind_1 G e a d J _ rfl W hG okJ e1 e2 a1 a2 d1 d2 hS hW, fun _ => ⟨fun h => absurd h hS, ?_⟩⟩
      have := err4 (gSub_e J G) hS
      omega
  obtain ⟨S, T, tE, et, hother, fo⟩ : ∃ (S T : DY) (tE et : Int), (∀ W : World, Tab W → Calls Tryd.prog 9 #[.agg #[.bool G.re.n, .string (bstr G.re.x), .int .i64 G.re.e, .bool G.im.n, .string (bstr G.im.x), .int .i64 G.im.e, .int .i64 e, .int .i64 a, .int .i64 d], .int .i64 o, .int .i64 k] W fun r w' => r = .returned (.tuple #[.agg #[.bool S.n, .string (bstr S.x), .int .i64 S.e, .bool T.n, .string (bstr T.x), .int .i64 T.e, .int .i64 tE], .int .i64 et]) ∧ Below W.heap.size W w') ∧
      (et = 0 → tE = e ∧ S.ok ∧ T.ok ∧ S.v = G.re.v + (2 * o - a) * W 1 (e - 1) ∧ T.v = G.im.v + (d - 2 * k - 2) * W 1 (e - 1)) := by
    by_cases ho : 0 ≤ o ∧ o < a ∧ 0 ≤ k ∧ k < d
    · obtain ⟨o0, o1, k0, k1⟩ := ho
      by_cases h : (vM G.re (2 * o - a) (e - 1)).2 = 0 ∧ (vM G.im (d - 2 * k - 2) (e - 1)).2 = 0
      · refine ⟨(vM G.re (2 * o - a) (e - 1)).1, (vM G.im (d - 2 * k - 2) (e - 1)).1, e, 0, fun W hW => ?_, fun _ => ⟨rfl, vM_ok _ _ _, vM_ok _ _ _, ?_, ?_⟩⟩
        · have hh := vcell G e a d o k W hG e1 e2 a1 a2 d1 d2 o0 o1 k0 k1 hW
          rw [sB_yes h.1 h.2] at hh
          exact hh
        · rw [vM_v hG.1 (by omega) (by omega) (by omega) h.1, W_unit]
        · rw [vM_v hG.2 (by omega) (by omega) (by omega) h.2, W_unit]
      · refine ⟨DY.zero, DY.zero, 0, 4, fun W hW => ?_, fun h => absurd h (by decide)⟩
        have hh := vcell G e a d o k W hG e1 e2 a1 a2 d1 d2 o0 o1 k0 k1 hW
        rw [sB_no h] at hh
        exact hh
    · refine ⟨DY.zero, DY.zero, 0, 241, fun W _ => ?_, fun h => absurd h (by decide)⟩
      have h := vcell_out G e a d o k W hG e1 e2 a1 a2 d1 d2 (by omega)
      rw [show bstr DY.zero.x = { data := #[] } from bstr_zero]
      exact h
  obtain ⟨ht, eq, hheld, fq⟩ : ∃ (ht : Bool) (eq : Int), (et = 0 → ∀ W : World, Tab W → Calls Tryd.prog 11 #[.agg #[.bool S.n, .string (bstr S.x), .int .i64 S.e, .bool T.n, .string (bstr T.x), .int .i64 T.e, .int .i64 tE], .agg #[.bool J.re.n, .string (bstr J.re.x), .int .i64 J.re.e, .bool J.im.n, .string (bstr J.im.x), .int .i64 J.im.e]] W fun r w' => r = .returned (.tuple #[.bool ht, .int .i64 eq]) ∧ Below W.heap.size W w') ∧
      ((0 < yCmp J.re l ∧ yCmp J.re p < 0 ∧ 0 < yCmp J.im b ∧ yCmp J.im q < 0) → et = 0 → ¬ (c = o ∧ r = k) → eq ≠ 0 ∨ ht = false) := by
    by_cases h0 : et = 0
    rotate_left
    · exact ⟨false, 0, fun h => absurd h h0, fun _ _ _ => .inr rfl⟩
    obtain ⟨rfl, okS, okT, vS, vT⟩ := fo h0
    by_cases h1 : (vM S 2 (tE - 1)).2 = 0
    rotate_left
    · exact ⟨false, 4, fun _ W hW => vholds_1 S T tE J W okS okT okJ e1 e2 h1 hW, fun _ _ _ => .inr rfl⟩
    by_cases h2 : (vM T 2 (tE - 1)).2 = 0
    rotate_left
    · exact ⟨false, 4, fun _ W hW => vholds_2 S T tE J W okS okT okJ e1 e2 h1 h2 hW, fun _ _ _ => .inr rfl⟩
    refine ⟨_, 0, fun _ W hW => vholds_w S T tE J _ _ _ _ _ _ rfl rfl rfl rfl rfl rfl W okS okT okJ e1 e2 h1 h2 hW, fun hs _ hne => .inr ?_⟩
    obtain ⟨s0, s1, s2, s3⟩ := strict hs
    have w1 := vM_v okS (by omega) (by omega) (by omega) h1
    have w2 := vM_v okT (by omega) (by omega) (by omega) h2
    rw [vS, Int.add_assoc, W_unit 2, ← Int.add_mul] at w1
    rw [vT, Int.add_assoc, W_unit 2, ← Int.add_mul] at w2
    by_cases g : yCmp S J.re ≤ 0 ∧ yCmp J.re (vM S 2 (tE - 1)).1 ≤ 0 ∧ yCmp T J.im ≤ 0 ∧ yCmp J.im (vM T 2 (tE - 1)).1 ≤ 0
    · obtain ⟨g0, g1, g2, g3⟩ := g
      rw [yCmp_le, vS] at g0
      rw [yCmp_le, w1] at g1
      rw [yCmp_le, vT] at g2
      rw [yCmp_le, w2] at g3
      have q1 : c = o := cell_only hq1 s0 s1 g0 g1
      have t1 : (2 * (d - 1 - r) - d) = d - 2 * r - 2 := by omega
      have t2 : (2 * (d - 1 - k) - d) = d - 2 * k - 2 := by omega
      have q2 : d - 1 - r = d - 1 - k := cell_only (n := d) hq1 (by rw [t1]; exact s2) (by rw [t1]; exact s3) (by rw [t2]; exact g2) (by rw [t2]; exact g3)
      exact absurd ⟨q1, by omega⟩ hne
    · have : ¬ (decide (yCmp S J.re ≤ 0) && (decide (yCmp J.re (vM S 2 (tE - 1)).1 ≤ 0) && (decide (yCmp T J.im ≤ 0) && decide (yCmp J.im (vM T 2 (tE - 1)).1 ≤ 0)))) = true := fun h => g (by
        simp only [Bool.and_eq_true, decide_eq_true_eq] at h; exact h)
      simpa using this
  have hholds := fun W hW => vholds_w l b e J p q _ _ _ _ hpe hqe rfl rfl rfl rfl W okl okb okJ e1 e2 hp hq hW
  exact edges_good c r o k e a d rE uE tE er eu et eq ef fm fn (yCmp J.re l) (yCmp J.re p) (yCmp J.im b) (yCmp J.im q) _ ht _ _ _ _ _ _ _ _ _ _ _ _ _ _ _ _ _ _ _ _ _ _ _ _ _ _ _ _ _ _ _ _ _ _ _ _ _ _ _ _ _ _ w c0 (by omega) r0 (by omega) hcell hcorn hright hunder hholds
    (fun W => ccmp J.re l W okJ.1 okl) (fun W => ccmp J.re p W okJ.1 okp) (fun W => ccmp J.im b W okJ.2 okb) (fun W => ccmp J.im q W okJ.2 okq) hfind hother hheld fr' (fun h => by obtain ⟨rfl, rfl, h3⟩ := fu h; exact ⟨rfl, rfl, rfl, rfl, h3⟩)
    (by rw [cmp_turn l J.re, cmp_turn b J.im]) ff fq hT
end Go.Proofs.YtppebjnmollojaaDoor
