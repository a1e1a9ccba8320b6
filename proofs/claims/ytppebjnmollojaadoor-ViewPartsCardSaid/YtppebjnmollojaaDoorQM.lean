/- filigreelaw24.ViewParts at every input. -/
import Derived.Test.YtppebjnmollojaaDoorQB
import Derived.Test.YtppebjnmollojaaDoorQI
import Derived.Test.YtppebjnmollojaaDoorQL
namespace Go.Proofs.YtppebjnmollojaaDoor
open Go Go.RowKit Go.PlainAid Fil

theorem vM_unit {n e : Int} (hn : n.natAbs < 1099511627776) (h1 : -20000 ≤ e) (h2 : e ≤ 20000) : vM DY.zero n e = (mkD n e, 0) := by
  rw [vM_vD DY.zero_ok hn h1 h2, DY.zero_v, Int.zero_add, ← unit_v hn h1 h2, vD_own (mkD_ok _ _)]
/-- one more of the same -/
theorem unit_more {n e : Int} (h0 : 0 ≤ n) (hn : n < 1000000) (h1 : -20000 ≤ e) (h2 : e ≤ 20000) : yAdd (mkD n e) (mkD 1 e) = (mkD (n + 1) e, 0) := by
  have h := vM_vM (d := DY.zero) DY.zero_ok (n := n) (m := 1) (e := e) (by omega) (by omega) h1 h2 (by rw [vM_unit (by omega) h1 h2])
  rw [vM_unit (by omega) h1 h2, vM_unit (by omega) h1 h2] at h
  exact h
theorem unit_first {e : Int} (h1 : -20000 ≤ e) (h2 : e ≤ 20000) : yAdd DY.zero (mkD 1 e) = (mkD 1 e, 0) := vM_unit (by omega) h1 h2
theorem four_units {e : Int} (h1 : -9000 ≤ e) (h2 : e ≤ 9000) : mkD (1 + 1 + 1 + 1) (2 * (e - 1)) = mkD 1 (2 * e) := by
  have a : vM DY.zero (2 * 2) (2 * e - 1 - 1) = vM DY.zero 2 (2 * e - 1) := vM_two (by omega)
  have b : vM DY.zero (2 * 1) (2 * e - 1) = vM DY.zero 1 (2 * e) := vM_two (by omega)
  rw [show (2 : Int) * 1 = 2 from rfl] at b
  rw [b, show 2 * e - 1 - 1 = 2 * (e - 1) by omega, show (2 : Int) * 2 = 1 + 1 + 1 + 1 from rfl, vM_unit (by omega) (by omega) (by omega), vM_unit (by omega) (by omega) (by omega)] at a
  exact congrArg Prod.fst a
theorem vcorners_ex (l b : DY) (e : Int) (okl : l.ok) (okb : b.ok) (e1 : -4096 ≤ e) (e2 : e ≤ 4096) : ∃ (c0n : Bool) (c0S : ByteArray) (c0e : Int) (c1n : Bool) (c1S : ByteArray) (c1e : Int) (c2n : Bool) (c2S : ByteArray) (c2e : Int) (c3n : Bool) (c3S : ByteArray) (c3e : Int) (c4n : Bool) (c4S : ByteArray) (c4e : Int) (c5n : Bool) (c5S : ByteArray) (c5e : Int) (c6n : Bool) (c6S : ByteArray) (c6e : Int) (c7n : Bool) (c7S : ByteArray) (c7e : Int) (ef : Int), (∀ W : World, Tab W → Calls Tryd.prog 10 #[.agg #[.bool l.n, .string (bstr l.x), .int .i64 l.e, .bool b.n, .string (bstr b.x), .int .i64 b.e, .int .i64 e]] W fun r w' => r = .returned (.tuple #[.agg #[.bool c0n, .string c0S, .int .i64 c0e, .bool c1n, .string c1S, .int .i64 c1e, .bool c2n, .string c2S, .int .i64 c2e, .bool c3n, .string c3S, .int .i64 c3e, .bool c4n, .string c4S, .int .i64 c4e, .bool c5n, .string c5S, .int .i64 c5e, .bool c6n, .string c6S, .int .i64 c6e, .bool c7n, .string c7S, .int .i64 c7e], .int .i64 ef]) ∧ Below W.heap.size W w') := by
  by_cases hp : (vM l 2 (e - 1)).2 = 0
  · by_cases hq : (vM b 2 (e - 1)).2 = 0
    · exact ⟨_, _, _, _, _, _, _, _, _, _, _, _, _, _, _, _, _, _, _, _, _, _, _, _, _, fun W hW => vcorners_0 l b e _ _ rfl rfl W okl okb e1 e2 hp hq hW⟩
    · exact ⟨_, _, _, _, _, _, _, _, _, _, _, _, _, _, _, _, _, _, _, _, _, _, _, _, _, fun W hW => vcorners_2 l b e _ rfl W okl okb e1 e2 hp hq hW⟩
  · exact ⟨_, _, _, _, _, _, _, _, _, _, _, _, _, _, _, _, _, _, _, _, _, _, _, _, _, fun W hW => vcorners_1 l b e W okl okb e1 e2 hp hW⟩

/-- by the line in the middle -/
theorem halves {x y z v : Int} (h1 : x ≤ y) (h2 : y ≤ z) : (decide (x ≤ v) && decide (v ≤ z)) = ((decide (x ≤ v) && decide (v ≤ y)) || (decide (y ≤ v) && decide (v ≤ z))) := by
  by_cases a : x ≤ v <;> by_cases b : v ≤ z <;> by_cases c : v ≤ y <;> by_cases d : y ≤ v <;> simp [a, b, c, d] <;> omega
theorem halvesY {x y z v : DY} (h1 : x.v ≤ y.v) (h2 : y.v ≤ z.v) : (decide (yCmp x v ≤ 0) && decide (yCmp v z ≤ 0)) = ((decide (yCmp x v ≤ 0) && decide (yCmp v y ≤ 0)) || (decide (yCmp y v ≤ 0) && decide (yCmp v z ≤ 0))) := by
  rw [decide_eq_decide.2 (yCmp_le (a := x) (b := v)), decide_eq_decide.2 (yCmp_le (a := v) (b := z)), decide_eq_decide.2 (yCmp_le (a := v) (b := y)), decide_eq_decide.2 (yCmp_le (a := y) (b := v))]
  exact halves h1 h2
theorem and4 (a b c d : Bool) : (a && (b && (c && d))) = ((a && b) && (c && d)) := by cases a <;> cases b <;> rfl
theorem quarters {a b c d a1 b1 a2 b2 c1 d1 c2 d2 : Bool} (hp : (a && b) = ((a1 && b1) || (a2 && b2))) (hq : (c && d) = ((c1 && d1) || (c2 && d2))) :
    (a && (b && (c && d))) = ((((a1 && (b1 && (c1 && d1))) || (a2 && (b2 && (c1 && d1)))) || (a1 && (b1 && (c2 && d2)))) || (a2 && (b2 && (c2 && d2)))) := by
  rw [and4 a, and4 a1 b1 c1, and4 a2 b2 c1, and4 a1 b1 c2, and4 a2 b2 c2, hp, hq]
  generalize (a1 && b1) = x1
  generalize (a2 && b2) = x2
  generalize (c1 && d1) = y1
  generalize (c2 && d2) = y2
  cases x1 <;> cases x2 <;> cases y1 <;> cases y2 <;> rfl
theorem f_ways (f : Bool) : f = false ∨ (f = true ∧ (0 : Int) = 0) := by cases f <;> simp
theorem or_ways (a f : Bool) : (a = true ∧ (a || f) = true) ∨ (a = false ∧ f = false ∧ (a || f) = false) ∨ (a = false ∧ f = true ∧ (a || f) = true ∧ (0 : Int) = 0) := by cases a <;> cases f <;> simp
theorem viewParts_any (ln : Bool) (lS : ByteArray) (le : Int) (bn : Bool) (bS : ByteArray) (be e : Int) (jn : Bool) (jS : ByteArray) (je : Int) (kn : Bool) (kS : ByteArray) (ke : Int) (w : World) (hT : Tab w)
    (fl : lS.size ≤ 9223372036854775807) (fb : bS.size ≤ 9223372036854775807) (fj : jS.size ≤ 9223372036854775807) (fk : kS.size ≤ 9223372036854775807) :
    Calls Tryd.prog 5 #[.agg #[.bool ln, .string lS, .int .i64 le, .bool bn, .string bS, .int .i64 be, .int .i64 e], .agg #[.bool jn, .string jS, .int .i64 je, .bool kn, .string kS, .int .i64 ke]] w fun r w' => r = .returned (.bool true) ∧ Below w.heap.size w w' := by
  cases hW : sqB ⟨ln, lS, le⟩ ⟨bn, bS, be⟩ e
  · exact parts_out e 240 240 240 240 0 0 0 0 _ _ _ _ _ _ _ _ _ _ _ _ _ _ _ _ _ _ _ _ _ _ _ _ _ _ _ _ _ _ _ _ _ _ _ _ _ _ _ _ _ _ _ _ _ _ _ _ _ _ _ _ _ _ _ _ _ _ _ _ _ _ _ _ _ _ _ _ _ w (fun W _ => vparts_bad ⟨ln, lS, le⟩ ⟨bn, bS, be⟩ e W fl fb hW) (fun W _ => vcorners_bad ⟨ln, lS, le⟩ ⟨bn, bS, be⟩ e W fl fb hW) (fun W _ => vmiddle_bad ⟨ln, lS, le⟩ ⟨bn, bS, be⟩ e W fl fb hW) (fun W _ => varea_bad ⟨ln, lS, le⟩ ⟨bn, bS, be⟩ e W fl fb hW) (.inl (by decide)) hT
  unfold sqB at hW
  rw [Bool.and_eq_true, Bool.and_eq_true, sideB_iff] at hW
  obtain ⟨hl, hb, e1, e2⟩ := hW
  obtain ⟨x, hx, kx⟩ := ok_of_may (show mayB ln lS le = true from hl)
  obtain ⟨y, hy, ky⟩ := ok_of_may (show mayB bn bS be = true from hb)
  obtain ⟨l, rfl, hx2, rfl, okl⟩ : ∃ l : DY, ln = l.n ∧ lS = bstr l.x ∧ le = l.e ∧ l.ok := ⟨⟨ln, x, le⟩, rfl, hx, rfl, kx⟩
  obtain ⟨b, rfl, hy2, rfl, okb⟩ : ∃ b : DY, bn = b.n ∧ bS = bstr b.x ∧ be = b.e ∧ b.ok := ⟨⟨bn, y, be⟩, rfl, hy, rfl, ky⟩
  subst hx2
  subst hy2
  clear hl hb hx hy kx ky fl fb
  have hA := fun W hW => varea ⟨l, b, e⟩ W ⟨okl, okb, e1, e2⟩ hW
  have hM := fun W hW => vmiddle ⟨l, b, e⟩ W ⟨okl, okb, e1, e2⟩ hW
  by_cases h4 : e = -4096
  · subst h4
    obtain ⟨_, _, _, _, _, _, _, _, _, _, _, _, _, _, _, _, _, _, _, _, _, _, _, _, _, hC⟩ := vcorners_ex l b (-4096) okl okb e1 e2
    exact parts_out (-4096) 240 _ _ _ 0 0 0 0 _ _ _ _ _ _ _ _ _ _ _ _ _ _ _ _ _ _ _ _ _ _ _ _ _ _ _ _ _ _ _ _ _ _ _ _ _ _ _ _ _ _ _ _ _ _ _ _ _ _ _ _ _ _ _ _ _ _ _ _ _ _ _ _ _ _ _ _ _ w (fun W _ => vparts_low l b W okl okb) hC hM hA (.inl (by decide)) hT
  have e3 : -4096 < e := by omega
  by_cases hp1 : (vM l 1 (e - 1)).2 = 0
  rotate_left
  · obtain ⟨_, _, _, _, _, _, _, _, _, _, _, _, _, _, _, _, _, _, _, _, _, _, _, _, _, hC⟩ := vcorners_ex l b e okl okb e1 e2
    exact parts_out e 4 _ _ _ 0 0 0 0 _ _ _ _ _ _ _ _ _ _ _ _ _ _ _ _ _ _ _ _ _ _ _ _ _ _ _ _ _ _ _ _ _ _ _ _ _ _ _ _ _ _ _ _ _ _ _ _ _ _ _ _ _ _ _ _ _ _ _ _ _ _ _ _ _ _ _ _ _ w (fun W hW => vparts_1 l b e _ rfl W okl okb e3 e2 hp1 hW) hC hM hA (.inl (by decide)) hT
  by_cases hq1 : (vM b 1 (e - 1)).2 = 0
  rotate_left
  · obtain ⟨_, _, _, _, _, _, _, _, _, _, _, _, _, _, _, _, _, _, _, _, _, _, _, _, _, hC⟩ := vcorners_ex l b e okl okb e1 e2
    exact parts_out e 4 _ _ _ 0 0 0 0 _ _ _ _ _ _ _ _ _ _ _ _ _ _ _ _ _ _ _ _ _ _ _ _ _ _ _ _ _ _ _ _ _ _ _ _ _ _ _ _ _ _ _ _ _ _ _ _ _ _ _ _ _ _ _ _ _ _ _ _ _ _ _ _ _ _ _ _ _ w (fun W hW => vparts_2 l b e _ _ rfl rfl W okl okb e3 e2 hp1 hq1 hW) hC hM hA (.inl (by decide)) hT
  have hP := fun W hW => vparts_0 l b e _ _ _ rfl rfl rfl W okl okb e3 e2 hp1 hq1 hW
  by_cases hp2 : (vM l 2 (e - 1)).2 = 0
  rotate_left
  · exact parts_out e 0 4 _ _ (e - 1) (e - 1) (e - 1) (e - 1) _ _ _ _ _ _ _ _ _ _ _ _ _ _ _ _ _ _ _ _ _ _ _ _ _ _ _ _ _ _ _ _ _ _ _ _ _ _ _ _ _ _ _ _ _ _ _ _ _ _ _ _ _ _ _ _ _ _ _ _ _ _ _ _ _ _ _ _ _ w hP (fun W hW => vcorners_1 l b e W okl okb e1 e2 hp2 hW) hM hA (.inr ⟨rfl, by decide⟩) hT
  by_cases hq2 : (vM b 2 (e - 1)).2 = 0
  rotate_left
  · exact parts_out e 0 4 _ _ (e - 1) (e - 1) (e - 1) (e - 1) _ _ _ _ _ _ _ _ _ _ _ _ _ _ _ _ _ _ _ _ _ _ _ _ _ _ _ _ _ _ _ _ _ _ _ _ _ _ _ _ _ _ _ _ _ _ _ _ _ _ _ _ _ _ _ _ _ _ _ _ _ _ _ _ _ _ _ _ _ w hP (fun W hW => vcorners_2 l b e _ rfl W okl okb e1 e2 hp2 hq2 hW) hM hA (.inr ⟨rfl, by decide⟩) hT
  have hC := fun W hW => vcorners_0 l b e _ _ rfl rfl W okl okb e1 e2 hp2 hq2 hW
  rw [show sqMid ⟨l, b, e⟩ = (⟨(vM l 1 (e - 1)).1, (vM b 1 (e - 1)).1⟩, 0) from gB_yes hp1 hq1] at hM
  have half : ∀ d : DY, vM d 2 (e - 1 - 1) = vM d 1 (e - 1) := fun d => vM_two (d := d) (n := 1) (e := e - 1) (by omega)
  have hm2 : vM (vM l 1 (e - 1)).1 2 (e - 1 - 1) = vM l 2 (e - 1) := by rw [half, vM_vM okl (by omega) (by omega) (by omega) (by omega) hp1]; rfl
  have hn2 : vM (vM b 1 (e - 1)).1 2 (e - 1 - 1) = vM b 2 (e - 1) := by rw [half, vM_vM okb (by omega) (by omega) (by omega) (by omega) hq1]; rfl
  have hl2 := half l
  have hb2 := half b
  have okm := vM_ok l 1 (e - 1)
  have okn := vM_ok b 1 (e - 1)
  have okp := vM_ok l 2 (e - 1)
  have okq := vM_ok b 2 (e - 1)
  have vm := vM_v okl (n := 1) (e := e - 1) (by omega) (by omega) (by omega) hp1
  have vp := vM_v okl (n := 2) (e := e - 1) (by omega) (by omega) (by omega) hp2
  have vn := vM_v okb (n := 1) (e := e - 1) (by omega) (by omega) (by omega) hq1
  have vq := vM_v okb (n := 2) (e := e - 1) (by omega) (by omega) (by omega) hq2
  have hw2 : W 2 (e - 1) = 2 * W 1 (e - 1) := W_unit _ _
  have hw := W_pos (e - 1)
  obtain ⟨m, hm⟩ : ∃ m, (vM l 1 (e - 1)).1 = m := ⟨_, rfl⟩
  obtain ⟨n, hn⟩ : ∃ n, (vM b 1 (e - 1)).1 = n := ⟨_, rfl⟩
  obtain ⟨p, hp⟩ : ∃ p, (vM l 2 (e - 1)).1 = p := ⟨_, rfl⟩
  obtain ⟨q, hq⟩ : ∃ q, (vM b 2 (e - 1)).1 = q := ⟨_, rfl⟩
  rw [hm] at hP hM hm2 okm vm
  rw [hn] at hP hM hn2 okn vn
  rw [hp] at hC okp vp
  rw [hq] at hC okq vq
  have f1 : -4096 ≤ e - 1 := by omega
  have f2 : e - 1 ≤ 4096 := by omega
  have ml : (vM l 2 (e - 1 - 1)).1 = m := by rw [hl2, hm]
  have ml0 : (vM l 2 (e - 1 - 1)).2 = 0 := by rw [hl2]; exact hp1
  have nb : (vM b 2 (e - 1 - 1)).1 = n := by rw [hb2, hn]
  have nb0 : (vM b 2 (e - 1 - 1)).2 = 0 := by rw [hb2]; exact hq1
  have pm : (vM m 2 (e - 1 - 1)).1 = p := by rw [hm2, hp]
  have pm0 : (vM m 2 (e - 1 - 1)).2 = 0 := by rw [hm2]; exact hp2
  have qn : (vM n 2 (e - 1 - 1)).1 = q := by rw [hn2, hq]
  have qn0 : (vM n 2 (e - 1 - 1)).2 = 0 := by rw [hn2]; exact hq2
  have c0 := fun W hW => vcorners_0 l b (e - 1) m n ml nb W okl okb f1 f2 ml0 nb0 hW
  have c1 := fun W hW => vcorners_0 m b (e - 1) p n pm nb W okm okb f1 f2 pm0 nb0 hW
  have c2 := fun W hW => vcorners_0 l n (e - 1) m q ml qn W okl okn f1 f2 ml0 qn0 hW
  have c3 := fun W hW => vcorners_0 m n (e - 1) p q pm qn W okm okn f1 f2 pm0 qn0 hW
  have a0 := fun W hW => varea ⟨l, b, e - 1⟩ W ⟨okl, okb, f1, f2⟩ hW
  have a1 := fun W hW => varea ⟨m, b, e - 1⟩ W ⟨okm, okb, f1, f2⟩ hW
  have a2 := fun W hW => varea ⟨l, n, e - 1⟩ W ⟨okl, okn, f1, f2⟩ hW
  have a3 := fun W hW => varea ⟨m, n, e - 1⟩ W ⟨okm, okn, f1, f2⟩ hW
  have s0 := fun W hW => cadd DY.zero (mkD 1 (2 * (e - 1))) W DY.zero_ok (mkD_ok _ _) hW
  rw [unit_first (by omega) (by omega), show bstr DY.zero.x = { data := #[] } from bstr_zero] at s0
  have s1 := fun W hW => cadd (mkD 1 (2 * (e - 1))) (mkD 1 (2 * (e - 1))) W (mkD_ok _ _) (mkD_ok _ _) hW
  rw [unit_more (by omega) (by omega) (by omega) (by omega)] at s1
  have s2 := fun W hW => cadd (mkD (1 + 1) (2 * (e - 1))) (mkD 1 (2 * (e - 1))) W (mkD_ok _ _) (mkD_ok _ _) hW
  rw [unit_more (by omega) (by omega) (by omega) (by omega)] at s2
  have s3 := fun W hW => cadd (mkD (1 + 1 + 1) (2 * (e - 1))) (mkD 1 (2 * (e - 1))) W (mkD_ok _ _) (mkD_ok _ _) hW
  rw [unit_more (by omega) (by omega) (by omega) (by omega), four_units (by omega) (by omega)] at s3
  cases hJ : GR.may ⟨jn, jS, je, kn, kS, ke⟩
  · exact parts_good e (e - 1) 2 _ _ _ _ false false false _ _ _ _ _ _ _ _ _ _ _ _ _ _ _ _ _ _ _ _ _ _ _ _ _ _ _ _ _ _ _ _ _ _ _ _ _ w hP hC hM hA c0 a0 s0 (fun W _ => vholds_bad l b (e - 1) ⟨jn, jS, je, kn, kS, ke⟩ W okl okb ⟨fj, fk⟩ f1 f2 hJ) c1 a1 s1 (fun W _ => vholds_bad m b (e - 1) ⟨jn, jS, je, kn, kS, ke⟩ W okm okb ⟨fj, fk⟩ f1 f2 hJ) c2 a2 s2 (fun W _ => vholds_bad l n (e - 1) ⟨jn, jS, je, kn, kS, ke⟩ W okl okn ⟨fj, fk⟩ f1 f2 hJ) c3 a3 s3 (fun W _ => vholds_bad m n (e - 1) ⟨jn, jS, je, kn, kS, ke⟩ W okm okn ⟨fj, fk⟩ f1 f2 hJ) (fun W _ => vholds_bad l b e ⟨jn, jS, je, kn, kS, ke⟩ W okl okb ⟨fj, fk⟩ e1 e2 hJ) (.inl rfl) (.inr (.inl ⟨rfl, rfl, rfl⟩)) (.inr (.inl ⟨rfl, rfl, rfl⟩)) (.inr (.inl ⟨rfl, rfl, rfl⟩)) (.inl (by decide)) hT
  unfold GR.may at hJ
  rw [Bool.and_eq_true] at hJ
  obtain ⟨x, hx, kx⟩ := ok_of_may (show mayB jn jS je = true from hJ.1)
  obtain ⟨y, hy, ky⟩ := ok_of_may (show mayB kn kS ke = true from hJ.2)
  obtain ⟨J, rfl, hx2, rfl, rfl, hy2, rfl, okJ⟩ : ∃ J : GY, jn = J.re.n ∧ jS = bstr J.re.x ∧ je = J.re.e ∧ kn = J.im.n ∧ kS = bstr J.im.x ∧ ke = J.im.e ∧ J.ok := ⟨⟨⟨jn, x, je⟩, ⟨kn, y, ke⟩⟩, rfl, hx, rfl, rfl, hy, rfl, ⟨kx, ky⟩⟩
  subst hx2
  subst hy2
  clear hJ hx hy kx ky fj fk
  have h0 := fun W hW => vholds_w l b (e - 1) J m n _ _ _ _ ml nb rfl rfl rfl rfl W okl okb okJ f1 f2 ml0 nb0 hW
  have h1 := fun W hW => vholds_w m b (e - 1) J p n _ _ _ _ pm nb rfl rfl rfl rfl W okm okb okJ f1 f2 pm0 nb0 hW
  have h2 := fun W hW => vholds_w l n (e - 1) J m q _ _ _ _ ml qn rfl rfl rfl rfl W okl okn okJ f1 f2 ml0 qn0 hW
  have h3 := fun W hW => vholds_w m n (e - 1) J p q _ _ _ _ pm qn rfl rfl rfl rfl W okm okn okJ f1 f2 pm0 qn0 hW
  have hs := fun W hW => vholds_w l b e J p q _ _ _ _ hp hq rfl rfl rfl rfl W okl okb okJ e1 e2 hp2 hq2 hW
  rw [quarters (halvesY (x := l) (y := m) (z := p) (v := J.re) (by omega) (by omega)) (halvesY (x := b) (y := n) (z := q) (v := J.im) (by omega) (by omega))] at hs
  exact parts_good e (e - 1) 0 _ _ _ _ _ _ _ _ _ _ _ _ _ _ _ _ _ _ _ _ _ _ _ _ _ _ _ _ _ _ _ _ _ _ _ _ _ _ _ _ _ _ _ _ w hP hC hM hA c0 a0 s0 h0 c1 a1 s1 h1 c2 a2 s2 h2 c3 a3 s3 h3 hs (f_ways _) (or_ways _ _) (or_ways _ _) (or_ways _ _) (.inr ⟨rfl, rfl⟩) hT
end Go.Proofs.YtppebjnmollojaaDoor
