/- The laws of package gauss over what may be: plain arithmetic, no program in sight. -/
import Derived.Test.YtgcifpjhhoalmaaDoorHD
import Derived.Test.YtgcifpjhhoalmaaDoorH4
namespace Go.Proofs.YtgcifpjhhoalmaaDoor
open Go Go.RowKit Go.PlainAid Fil

theorem gB_split {p q : DY × Int} (h : (gB p q).2 = 0) : p.2 = 0 ∧ q.2 = 0 ∧ (gB p q).1 = ⟨p.1, q.1⟩ := by
  by_cases h1 : p.2 = 0 ∧ q.2 = 0
  · refine ⟨h1.1, h1.2, ?_⟩
    rw [gB_yes h1.1 h1.2]
  · rw [gB_no h1] at h
    cases h
theorem yTwo_v {a b c d : DY} {l : Bool} (ha : a.ok) (hb : b.ok) (hc : c.ok) (hd : d.ok) (h : (yTwo a b c d l).2 = 0) :
    (yTwo a b c d l).1.v * 2 ^ lowM = if l then a.v * b.v - c.v * d.v else a.v * b.v + c.v * d.v := by
  by_cases hp : (yMul a b).2 = 0 ∧ (yMul c d).2 = 0
  · rw [yTwo_at hp] at h ⊢
    have m1 := yMul_v ha hb hp.1
    have m2 := yMul_v hc hd hp.2
    cases l
    · simp only [Bool.false_eq_true, if_false] at h ⊢
      rw [yAdd_v (yMul_ok _ _) (yMul_ok _ _) h, Int.add_mul, m1, m2]
    · simp only [if_true] at h ⊢
      rw [ySub_v (yMul_ok _ _) (yMul_ok _ _) h, Int.sub_mul, m1, m2]
  · rw [yTwo_no hp] at h
    cases h
theorem gMul_v {a b : GY} (ha : a.ok) (hb : b.ok) (h : (gMul a b).2 = 0) :
    (gMul a b).1.re.v * 2 ^ lowM = a.re.v * b.re.v - a.im.v * b.im.v ∧ (gMul a b).1.im.v * 2 ^ lowM = a.re.v * b.im.v + a.im.v * b.re.v := by
  obtain ⟨h1, h2, h3⟩ := gB_split h
  have e : (gMul a b).1 = ⟨(yTwo a.re b.re a.im b.im true).1, (yTwo a.re b.im a.im b.re false).1⟩ := h3
  rw [e]
  exact ⟨yTwo_v ha.1 hb.1 ha.2 hb.2 h1, yTwo_v ha.1 hb.2 ha.2 hb.1 h2⟩
theorem gAdd_v {a b : GY} (ha : a.ok) (hb : b.ok) (h : (gAdd a b).2 = 0) : (gAdd a b).1.re.v = a.re.v + b.re.v ∧ (gAdd a b).1.im.v = a.im.v + b.im.v := by
  obtain ⟨h1, h2, h3⟩ := gB_split h
  have e : (gAdd a b).1 = ⟨(yAdd a.re b.re).1, (yAdd a.im b.im).1⟩ := h3
  rw [e]
  exact ⟨yAdd_v ha.1 hb.1 h1, yAdd_v ha.2 hb.2 h2⟩
theorem gNeg_v (a : GY) : (gNeg a).re.v = -a.re.v ∧ (gNeg a).im.v = -a.im.v := ⟨yNeg_v _, yNeg_v _⟩
theorem gSub_v {a b : GY} (ha : a.ok) (hb : b.ok) (h : (gSub a b).2 = 0) : (gSub a b).1.re.v = a.re.v - b.re.v ∧ (gSub a b).1.im.v = a.im.v - b.im.v := by
  obtain ⟨h1, h2⟩ := gAdd_v ha (gNeg_ok hb) h
  have h3 := gNeg_v b
  exact ⟨by show (gAdd a (gNeg b)).1.re.v = _; rw [h1, h3.1]; omega, by show (gAdd a (gNeg b)).1.im.v = _; rw [h2, h3.2]; omega⟩
theorem gNorm_v {a : GY} (ha : a.ok) (h : (gNorm a).2 = 0) : (gNorm a).1.v * 2 ^ lowM = a.re.v * a.re.v + a.im.v * a.im.v := yTwo_v ha.1 ha.1 ha.2 ha.2 h
theorem gDot_v {a b : GY} (ha : a.ok) (hb : b.ok) (h : (gDot a b).2 = 0) : (gDot a b).1.v * 2 ^ lowM = a.re.v * b.re.v + a.im.v * b.im.v := yTwo_v ha.1 hb.1 ha.2 hb.2 h
theorem gCross_v {a b : GY} (ha : a.ok) (hb : b.ok) (h : (gCross a b).2 = 0) : (gCross a b).1.v * 2 ^ lowM = a.re.v * b.im.v - a.im.v * b.re.v := yTwo_v ha.1 hb.2 ha.2 hb.1 h
theorem GY.inj {a b : GY} (ha : a.ok) (hb : b.ok) (h1 : a.re.v = b.re.v) (h2 : a.im.v = b.im.v) : a = b := by
  obtain ⟨ar, ai⟩ := a
  obtain ⟨br, bi⟩ := b
  have e1 : ar = br := DY.inj ha.1 hb.1 h1
  have e2 : ai = bi := DY.inj ha.2 hb.2 h2
  rw [e1, e2]
theorem pw_pos : (0 : Int) < 2 ^ lowM := ppi lowM
theorem pw_c {a b : Int} (h : a * 2 ^ lowM = b * 2 ^ lowM) : a = b := pow_cancel h
theorem gAdd_comm (a b : GY) : gAdd a b = gAdd b a := by
  unfold gAdd
  rw [yAdd_comm, yAdd_comm a.im]
theorem yTwo_comm (a b c d : DY) (l : Bool) : yTwo a b c d l = yTwo b a d c l := by
  unfold yTwo
  rw [yMul_comm a b, yMul_comm c d]
theorem yTwo_swap (a b c d : DY) : yTwo a b c d false = yTwo c d a b false := by
  unfold yTwo
  simp only [Bool.false_eq_true, if_false]
  rw [yAdd_comm (yMul a b).1]
  by_cases h : (yMul a b).2 = 0 ∧ (yMul c d).2 = 0
  · rw [if_pos h, if_pos ⟨h.2, h.1⟩]
  · rw [if_neg h, if_neg (fun h' => h ⟨h'.2, h'.1⟩)]
theorem gMul_comm (a b : GY) : gMul a b = gMul b a := by
  unfold gMul
  rw [yTwo_comm a.re, yTwo_comm a.re, yTwo_swap b.im]
theorem x2_comm {α : Type} {z : α} {f : GY → GY → α × Int} (h : ∀ a b, f a b = f b a) (o p : Option GY) : x2 z f o p = x2 z f p o := by
  cases o <;> cases p <;> first | rfl | exact h _ _
/-- what errs not came from what may be -/
theorem x2_some {α : Type} {z : α} {f : GY → GY → α × Int} {o p : Option GY} (h : (x2 z f o p).2 = 0) : ∃ A B, o = some A ∧ p = some B := by
  cases o with
  | none => cases h
  | some A =>
    cases p with
    | none => cases h
    | some B => exact ⟨A, B, rfl, rfl⟩
theorem x1_some {α : Type} {z : α} {f : GY → α × Int} {o : Option GY} (h : (x1 z f o).2 = 0) : ∃ A, o = some A := by
  cases o with
  | none => cases h
  | some A => exact ⟨A, rfl⟩
theorem oks_cons {a : Int} {l : List Int} : oks (a :: l) = true ↔ a = 0 ∧ oks l = true := by
  simp [oks]
theorem oks_nil : oks [] = true := rfl

/-! GaussParts -/
theorem parts_1 {a b : GY} (ha : a.ok) (hb : b.ok) (h1 : (gMul a b).2 = 0) (h2 : (gNorm (gMul a b).1).2 = 0) (h3 : (gNorm a).2 = 0) (h4 : (gNorm b).2 = 0) (h5 : (yMul (gNorm a).1 (gNorm b).1).2 = 0) :
    (yMul (gNorm a).1 (gNorm b).1).1 = (gNorm (gMul a b).1).1 := by
  obtain ⟨m1, m2⟩ := gMul_v ha hb h1
  have n0 := gNorm_v (gMul_ok a b) h2
  have n1 := gNorm_v ha h3
  have n2 := gNorm_v hb h4
  have z := yMul_v (gNorm_ok a) (gNorm_ok b) h5
  refine DY.inj (yMul_ok _ _) (gNorm_ok _) (pw_c (pw_c (pw_c ?_)))
  generalize (gMul a b).1.re.v = p at *
  generalize (gMul a b).1.im.v = q at *
  generalize (gNorm (gMul a b).1).1.v = N at *
  generalize (gNorm a).1.v = X at *
  generalize (gNorm b).1.v = Y at *
  generalize (yMul (gNorm a).1 (gNorm b).1).1.v = Z at *
  generalize (2 : Int) ^ lowM = M at *
  generalize a.re.v = r at *
  generalize a.im.v = s at *
  generalize b.re.v = t at *
  generalize b.im.v = u at *
  have e1 : Z * M * M * M = (X * M) * (Y * M) := by rw [z]; grind
  have e2 : N * M * M * M = (p * M) * (p * M) + (q * M) * (q * M) := by rw [n0]; grind
  rw [e1, e2, n1, n2, m1, m2]
  grind
theorem parts_2 {a b : GY} (ha : a.ok) (hb : b.ok) (h1 : (gDot a b).2 = 0) (h2 : (gCross a b).2 = 0) (h3 : (gMul (gConj a) b).2 = 0) :
    (gMul (gConj a) b).1 = ⟨(gDot a b).1, (gCross a b).1⟩ := by
  have hc : (gConj a).ok := ⟨ha.1, yNeg_ok ha.2⟩
  obtain ⟨m1, m2⟩ := gMul_v hc hb h3
  have d := gDot_v ha hb h1
  have c := gCross_v ha hb h2
  have n : (gConj a).im.v = -a.im.v := yNeg_v _
  have n' : (gConj a).re.v = a.re.v := rfl
  rw [n, n'] at m1 m2
  refine GY.inj (gMul_ok _ _) ⟨gDot_ok _ _, gCross_ok _ _⟩ (pw_c ?_) (pw_c ?_)
  · show _ = (gDot a b).1.v * _
    rw [m1, d]; grind
  · show _ = (gCross a b).1.v * _
    rw [m2, c]; grind
theorem parts_3 {a b : GY} (ha : a.ok) (hb : b.ok) (h1 : (gDot a b).2 = 0) (h2 : (gCross a b).2 = 0) (h3 : (gNorm a).2 = 0) (h4 : (gNorm b).2 = 0) (h5 : (yMul (gNorm a).1 (gNorm b).1).2 = 0)
    (h6 : (yMul (gDot a b).1 (gDot a b).1).2 = 0) (h7 : (yMul (gCross a b).1 (gCross a b).1).2 = 0) (h8 : (yAdd (yMul (gDot a b).1 (gDot a b).1).1 (yMul (gCross a b).1 (gCross a b).1).1).2 = 0) :
    (yMul (gNorm a).1 (gNorm b).1).1 = (yAdd (yMul (gDot a b).1 (gDot a b).1).1 (yMul (gCross a b).1 (gCross a b).1).1).1 := by
  have d := gDot_v ha hb h1
  have c := gCross_v ha hb h2
  have n1 := gNorm_v ha h3
  have n2 := gNorm_v hb h4
  have z := yMul_v (gNorm_ok a) (gNorm_ok b) h5
  have d2 := yMul_v (gDot_ok a b) (gDot_ok a b) h6
  have c2 := yMul_v (gCross_ok a b) (gCross_ok a b) h7
  have s := yAdd_v (yMul_ok _ _) (yMul_ok _ _) h8
  refine DY.inj (yMul_ok _ _) (yAdd_ok _ _) (pw_c (pw_c (pw_c ?_)))
  rw [s]
  generalize (gDot a b).1.v = D at *
  generalize (gCross a b).1.v = C at *
  generalize (yMul (gDot a b).1 (gDot a b).1).1.v = D2 at *
  generalize (yMul (gCross a b).1 (gCross a b).1).1.v = C2 at *
  generalize (gNorm a).1.v = X at *
  generalize (gNorm b).1.v = Y at *
  generalize (yMul (gNorm a).1 (gNorm b).1).1.v = Z at *
  generalize (2 : Int) ^ lowM = M at *
  generalize a.re.v = r at *
  generalize a.im.v = s at *
  generalize b.re.v = t at *
  generalize b.im.v = u at *
  have e1 : Z * M * M * M = (X * M) * (Y * M) := by rw [z]; grind
  have e2 : (D2 + C2) * M * M * M = (D * M) * (D * M) + (C * M) * (C * M) := by rw [Int.add_mul, d2, c2]; grind
  rw [e1, e2, n1, n2, d, c]
  grind

/-! GaussField -/
theorem field_1 {a b c : GY} (ha : a.ok) (hb : b.ok) (hc : c.ok) (h1 : (gMul a b).2 = 0) (h2 : (gMul (gMul a b).1 c).2 = 0) (h3 : (gMul b c).2 = 0) (h4 : (gMul a (gMul b c).1).2 = 0) :
    (gMul (gMul a b).1 c).1 = (gMul a (gMul b c).1).1 := by
  obtain ⟨p1, p2⟩ := gMul_v ha hb h1
  obtain ⟨u1, u2⟩ := gMul_v (gMul_ok a b) hc h2
  obtain ⟨v1, v2⟩ := gMul_v hb hc h3
  obtain ⟨w1, w2⟩ := gMul_v ha (gMul_ok b c) h4
  refine GY.inj (gMul_ok _ _) (gMul_ok _ _) (pw_c (pw_c ?_)) (pw_c (pw_c ?_))
  · rw [u1, w1]
    generalize (gMul a b).1.re.v = p at *
    generalize (gMul a b).1.im.v = q at *
    generalize (gMul b c).1.re.v = s at *
    generalize (gMul b c).1.im.v = t at *
    generalize (2 : Int) ^ lowM = M at *
    have e1 : (p * c.re.v - q * c.im.v) * M = (p * M) * c.re.v - (q * M) * c.im.v := by grind
    have e2 : (a.re.v * s - a.im.v * t) * M = a.re.v * (s * M) - a.im.v * (t * M) := by grind
    rw [e1, e2, p1, p2, v1, v2]; grind
  · rw [u2, w2]
    generalize (gMul a b).1.re.v = p at *
    generalize (gMul a b).1.im.v = q at *
    generalize (gMul b c).1.re.v = s at *
    generalize (gMul b c).1.im.v = t at *
    generalize (2 : Int) ^ lowM = M at *
    have e1 : (p * c.im.v + q * c.re.v) * M = (p * M) * c.im.v + (q * M) * c.re.v := by grind
    have e2 : (a.re.v * t + a.im.v * s) * M = a.re.v * (t * M) + a.im.v * (s * M) := by grind
    rw [e1, e2, p1, p2, v1, v2]; grind
theorem field_2 {a b c : GY} (ha : a.ok) (hb : b.ok) (hc : c.ok) (h1 : (gAdd a b).2 = 0) (h2 : (gMul (gAdd a b).1 c).2 = 0) (h3 : (gMul b c).2 = 0) (h4 : (gMul a c).2 = 0) (h5 : (gAdd (gMul a c).1 (gMul b c).1).2 = 0) :
    (gMul (gAdd a b).1 c).1 = (gAdd (gMul a c).1 (gMul b c).1).1 := by
  obtain ⟨p1, p2⟩ := gAdd_v ha hb h1
  obtain ⟨u1, u2⟩ := gMul_v (gAdd_ok a b) hc h2
  obtain ⟨v1, v2⟩ := gMul_v hb hc h3
  obtain ⟨w1, w2⟩ := gMul_v ha hc h4
  obtain ⟨z1, z2⟩ := gAdd_v (gMul_ok a c) (gMul_ok b c) h5
  refine GY.inj (gMul_ok _ _) (gAdd_ok _ _) (pw_c ?_) (pw_c ?_)
  · rw [u1, z1, Int.add_mul, w1, v1, p1, p2]; grind
  · rw [u2, z2, Int.add_mul, w2, v2, p1, p2]; grind
def GY.i : GY := ⟨DY.zero, ⟨false, 1, 0⟩⟩
theorem GY.i_ok : GY.i.ok := ⟨DY.zero_ok, GY.one_ok.1⟩
theorem DY.one_v : (⟨false, 1, 0⟩ : DY).v = 2 ^ lowM := by
  show (1 : Int) * 2 ^ (0 + (lowM : Int)).toNat = _
  rw [Int.one_mul]; congr 1
theorem mul_one' {a : DY} (ha : a.ok) : yMul a ⟨false, 1, 0⟩ = (a, 0) := yMul_is ha GY.one_ok.1 ha (by rw [DY.one_v])
theorem mul_zero' {a : DY} (ha : a.ok) : yMul a DY.zero = (DY.zero, 0) := yMul_is ha DY.zero_ok DY.zero_ok (by rw [DY.zero_v]; simp)
theorem zero_sub' {a : DY} (ha : a.ok) : ySub DY.zero a = (yNeg a, 0) := ySub_is DY.zero_ok ha (yNeg_ok ha) (by rw [yNeg_v, DY.zero_v]; omega)
theorem add_zero' {a : DY} (ha : a.ok) : yAdd a DY.zero = (a, 0) := yAdd_is ha DY.zero_ok ha (by rw [DY.zero_v]; omega)
theorem gTurn_mul {a : GY} (ha : a.ok) : gMul a GY.i = (gTurn a, 0) := by
  have e1 : yTwo a.re GY.i.re a.im GY.i.im true = (yNeg a.im, 0) := by
    have m1 : yMul a.re GY.i.re = (DY.zero, 0) := mul_zero' ha.1
    have m2 : yMul a.im GY.i.im = (a.im, 0) := mul_one' ha.2
    rw [yTwo_at ⟨by rw [m1], by rw [m2]⟩, m1, m2]
    exact zero_sub' ha.2
  have e2 : yTwo a.re GY.i.im a.im GY.i.re false = (a.re, 0) := by
    have m1 : yMul a.re GY.i.im = (a.re, 0) := mul_one' ha.1
    have m2 : yMul a.im GY.i.re = (DY.zero, 0) := mul_zero' ha.2
    rw [yTwo_at ⟨by rw [m1], by rw [m2]⟩, m1, m2]
    exact add_zero' ha.1
  unfold gMul
  rw [e1, e2]; rfl
theorem gConj_conj {a : GY} (ha : a.ok) : gConj (gConj a) = a := by
  show (⟨a.re, yNeg (yNeg a.im)⟩ : GY) = a
  rw [yNeg_neg ha.2]
theorem gTurn_turn (a : GY) : gTurn (gTurn a) = gNeg a := rfl
theorem gConj_ok {a : GY} (ha : a.ok) : (gConj a).ok := ⟨ha.1, yNeg_ok ha.2⟩
theorem gTurn_ok {a : GY} (ha : a.ok) : (gTurn a).ok := ⟨yNeg_ok ha.2, ha.1⟩
theorem field_3 {a b : GY} (ha : a.ok) (hb : b.ok) (h1 : (gMul a b).2 = 0) (h2 : (gMul (gConj a) (gConj b)).2 = 0) : (gMul (gConj a) (gConj b)).1 = gConj (gMul a b).1 := by
  obtain ⟨p1, p2⟩ := gMul_v ha hb h1
  obtain ⟨q1, q2⟩ := gMul_v (gConj_ok ha) (gConj_ok hb) h2
  have n1 : (gConj a).im.v = -a.im.v := yNeg_v _
  have n2 : (gConj b).im.v = -b.im.v := yNeg_v _
  have n3 : (gConj (gMul a b).1).im.v = -(gMul a b).1.im.v := yNeg_v _
  have r1 : (gConj a).re.v = a.re.v := rfl
  have r2 : (gConj b).re.v = b.re.v := rfl
  have r3 : (gConj (gMul a b).1).re.v = (gMul a b).1.re.v := rfl
  rw [n1, n2, r1, r2] at q1 q2
  refine GY.inj (gMul_ok _ _) (gConj_ok (gMul_ok _ _)) (pw_c ?_) (pw_c ?_)
  · rw [r3, q1, p1]; grind
  · rw [n3, q2, show -(gMul a b).1.im.v * 2 ^ lowM = -((gMul a b).1.im.v * 2 ^ lowM) from Int.neg_mul _ _, p2]; grind
end Go.Proofs.YtgcifpjhhoalmaaDoor
