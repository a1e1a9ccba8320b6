/- What the functions of package gauss give, whatever comes in. -/
import Derived.Test.YtgcifpjhhoalmaaDoorHB
import Derived.Test.YtgcifpjhhoalmaaDoorHC
namespace Go.Proofs.YtgcifpjhhoalmaaDoor
open Go Go.RowKit Go.PlainAid Fil

/-- a Gauss as it comes in: one that may be, or not -/
def Rep (a : GR) : Option GY → Prop
  | some A => A.ok ∧ a = A.raw
  | none => a.may = false ∧ a.fit
def RepD (a : DRw) : Option DY → Prop
  | some A => A.ok ∧ a = A.raw
  | none => a.may = false ∧ a.fit
theorem rep_of (a : GR) (h : a.fit) : ∃ o, Rep a o := by
  cases hm : a.may
  · exact ⟨none, hm, h⟩
  · obtain ⟨n, s, e, m, t, f⟩ := a
    have hm' : (mayB n s e && mayB m t f) = true := hm
    rw [Bool.and_eq_true] at hm'
    obtain ⟨x, rfl, hx⟩ := ok_of_may hm'.1
    obtain ⟨y, rfl, hy⟩ := ok_of_may hm'.2
    exact ⟨some ⟨⟨n, x, e⟩, ⟨m, y, f⟩⟩, ⟨hx, hy⟩, rfl⟩
theorem repD_of (a : DRw) (h : a.fit) : ∃ o, RepD a o := by
  cases hm : a.may
  · exact ⟨none, hm, h⟩
  · obtain ⟨n, s, e⟩ := a
    obtain ⟨x, rfl, hx⟩ := ok_of_may (show mayB n s e = true from hm)
    exact ⟨some ⟨n, x, e⟩, hx, rfl⟩
theorem Rep.fit {a : GR} {o : Option GY} (h : Rep a o) : a.fit := by
  cases o with
  | none => exact h.2
  | some A => rw [h.2]; exact GY.raw_fit h.1
theorem Rep.may {a : GR} {o : Option GY} (h : Rep a o) : a.may = o.isSome := by
  cases o with
  | none => exact h.1
  | some A => rw [h.2]; exact GY.raw_may h.1
theorem RepD.fit {a : DRw} {o : Option DY} (h : RepD a o) : a.fit := by
  cases o with
  | none => exact h.2
  | some A => rw [h.2]; exact DY.raw_fit h.1
theorem RepD.may {a : DRw} {o : Option DY} (h : RepD a o) : a.may = o.isSome := by
  cases o with
  | none => exact h.1
  | some A => rw [h.2]; exact DY.raw_may h.1
theorem Rep.out {A : GY} (h : A.ok) : Rep A.raw (some A) := ⟨h, rfl⟩
def x2 {α : Type} (z : α) (f : GY → GY → α × Int) : Option GY → Option GY → α × Int
  | some A, some B => f A B
  | _, _ => (z, 2)
def x1 {α : Type} (z : α) (f : GY → α × Int) : Option GY → α × Int
  | some A => f A
  | _ => (z, 2)
def x3 {α : Type} (z : α) (f : GY → GY → GY → α × Int) : Option GY → Option GY → Option GY → α × Int
  | some A, some B, some C => f A B C
  | _, _, _ => (z, 2)
/-- a radius -/
def radO : Option DY → Bool
  | some r => !r.n
  | none => false
def xIn : Option GY → Option GY → Option DY → Bool × Int
  | some A, some C, some r => if r.n then (false, 2) else gIn A C r
  | _, _, _ => (false, 2)
def xDisc (f : GY → DY → GY → DY → Bool × Int) : Option GY → Option DY → Option GY → Option DY → Bool × Int
  | some C, some r, some D, some s => if r.n || s.n then (false, 2) else f C r D s
  | _, _, _, _ => (false, 2)
theorem x2_ok {f : GY → GY → GY × Int} (h : ∀ A B, (f A B).1.ok) (o p : Option GY) : (x2 GY.zero f o p).1.ok := by
  cases o <;> cases p <;> first | exact GY.zero_ok | exact h _ _
theorem x2D_ok {f : GY → GY → DY × Int} (h : ∀ A B, (f A B).1.ok) (o p : Option GY) : (x2 DY.zero f o p).1.ok := by
  cases o <;> cases p <;> first | exact DY.zero_ok | exact h _ _
theorem x1D_ok {f : GY → DY × Int} (h : ∀ A, (f A).1.ok) (o : Option GY) : (x1 DY.zero f o).1.ok := by
  cases o <;> first | exact DY.zero_ok | exact h _
theorem RepD.rad {a : DRw} {o : Option DY} (h : RepD a o) : a.rad = radO o := by
  unfold DRw.rad
  cases o with
  | none => rw [h.1]; rfl
  | some A => rw [h.2, DY.raw_may h.1]; rfl

theorem gadd_x (a b : GR) (o p : Option GY) (w : World) (ho : Rep a o) (hp : Rep b p) (hT : Tab w) :
    Calls Tryd.prog 58 #[.agg #[.bool a.n, .string a.s, .int .i64 a.e, .bool a.m, .string a.t, .int .i64 a.f], .agg #[.bool b.n, .string b.s, .int .i64 b.e, .bool b.m, .string b.t, .int .i64 b.f]] w fun r w' => r = .returned (.tuple #[.agg #[.bool (x2 GY.zero gAdd o p).1.re.n, .string (bstr (x2 GY.zero gAdd o p).1.re.x), .int .i64 (x2 GY.zero gAdd o p).1.re.e, .bool (x2 GY.zero gAdd o p).1.im.n, .string (bstr (x2 GY.zero gAdd o p).1.im.x), .int .i64 (x2 GY.zero gAdd o p).1.im.e], .int .i64 (x2 GY.zero gAdd o p).2]) ∧ Below w.heap.size w w' := by
  cases o with
  | none =>
    have h := gadd_bad a b w ho.fit hp.fit (by rw [ho.may, hp.may]; rfl)
    rw [← bstr_zero] at h
    exact h
  | some A =>
    cases p with
    | none =>
      have h := gadd_bad a b w ho.fit hp.fit (by rw [ho.may, hp.may]; rfl)
      rw [← bstr_zero] at h
      exact h
    | some B =>
      obtain ⟨hA, rfl⟩ := ho
      obtain ⟨hB, rfl⟩ := hp
      exact gadd A B w hA hB hT

theorem gsub_x (a b : GR) (o p : Option GY) (w : World) (ho : Rep a o) (hp : Rep b p) (hT : Tab w) :
    Calls Tryd.prog 59 #[.agg #[.bool a.n, .string a.s, .int .i64 a.e, .bool a.m, .string a.t, .int .i64 a.f], .agg #[.bool b.n, .string b.s, .int .i64 b.e, .bool b.m, .string b.t, .int .i64 b.f]] w fun r w' => r = .returned (.tuple #[.agg #[.bool (x2 GY.zero gSub o p).1.re.n, .string (bstr (x2 GY.zero gSub o p).1.re.x), .int .i64 (x2 GY.zero gSub o p).1.re.e, .bool (x2 GY.zero gSub o p).1.im.n, .string (bstr (x2 GY.zero gSub o p).1.im.x), .int .i64 (x2 GY.zero gSub o p).1.im.e], .int .i64 (x2 GY.zero gSub o p).2]) ∧ Below w.heap.size w w' := by
  cases o with
  | none =>
    have h := gsub_bad a b w ho.fit hp.fit (by rw [ho.may, hp.may]; rfl)
    rw [← bstr_zero] at h
    exact h
  | some A =>
    cases p with
    | none =>
      have h := gsub_bad a b w ho.fit hp.fit (by rw [ho.may, hp.may]; rfl)
      rw [← bstr_zero] at h
      exact h
    | some B =>
      obtain ⟨hA, rfl⟩ := ho
      obtain ⟨hB, rfl⟩ := hp
      exact gsub A B w hA hB hT

theorem gmul_x (a b : GR) (o p : Option GY) (w : World) (ho : Rep a o) (hp : Rep b p) (hT : Tab w) :
    Calls Tryd.prog 44 #[.agg #[.bool a.n, .string a.s, .int .i64 a.e, .bool a.m, .string a.t, .int .i64 a.f], .agg #[.bool b.n, .string b.s, .int .i64 b.e, .bool b.m, .string b.t, .int .i64 b.f]] w fun r w' => r = .returned (.tuple #[.agg #[.bool (x2 GY.zero gMul o p).1.re.n, .string (bstr (x2 GY.zero gMul o p).1.re.x), .int .i64 (x2 GY.zero gMul o p).1.re.e, .bool (x2 GY.zero gMul o p).1.im.n, .string (bstr (x2 GY.zero gMul o p).1.im.x), .int .i64 (x2 GY.zero gMul o p).1.im.e], .int .i64 (x2 GY.zero gMul o p).2]) ∧ Below w.heap.size w w' := by
  cases o with
  | none =>
    have h := gmul_bad a b w ho.fit hp.fit (by rw [ho.may, hp.may]; rfl)
    rw [← bstr_zero] at h
    exact h
  | some A =>
    cases p with
    | none =>
      have h := gmul_bad a b w ho.fit hp.fit (by rw [ho.may, hp.may]; rfl)
      rw [← bstr_zero] at h
      exact h
    | some B =>
      obtain ⟨hA, rfl⟩ := ho
      obtain ⟨hB, rfl⟩ := hp
      exact gmul A B w hA hB hT

theorem gdot_x (a b : GR) (o p : Option GY) (w : World) (ho : Rep a o) (hp : Rep b p) (hT : Tab w) :
    Calls Tryd.prog 48 #[.agg #[.bool a.n, .string a.s, .int .i64 a.e, .bool a.m, .string a.t, .int .i64 a.f], .agg #[.bool b.n, .string b.s, .int .i64 b.e, .bool b.m, .string b.t, .int .i64 b.f]] w fun r w' => r = .returned (.tuple #[.agg #[.bool (x2 DY.zero gDot o p).1.n, .string (bstr (x2 DY.zero gDot o p).1.x), .int .i64 (x2 DY.zero gDot o p).1.e], .int .i64 (x2 DY.zero gDot o p).2]) ∧ Below w.heap.size w w' := by
  cases o with
  | none =>
    have h := gdot_bad a b w ho.fit hp.fit (by rw [ho.may, hp.may]; rfl)
    rw [← bstr_zero] at h
    exact h
  | some A =>
    cases p with
    | none =>
      have h := gdot_bad a b w ho.fit hp.fit (by rw [ho.may, hp.may]; rfl)
      rw [← bstr_zero] at h
      exact h
    | some B =>
      obtain ⟨hA, rfl⟩ := ho
      obtain ⟨hB, rfl⟩ := hp
      exact gdot A B w hA hB hT

theorem gcross_x (a b : GR) (o p : Option GY) (w : World) (ho : Rep a o) (hp : Rep b p) (hT : Tab w) :
    Calls Tryd.prog 49 #[.agg #[.bool a.n, .string a.s, .int .i64 a.e, .bool a.m, .string a.t, .int .i64 a.f], .agg #[.bool b.n, .string b.s, .int .i64 b.e, .bool b.m, .string b.t, .int .i64 b.f]] w fun r w' => r = .returned (.tuple #[.agg #[.bool (x2 DY.zero gCross o p).1.n, .string (bstr (x2 DY.zero gCross o p).1.x), .int .i64 (x2 DY.zero gCross o p).1.e], .int .i64 (x2 DY.zero gCross o p).2]) ∧ Below w.heap.size w w' := by
  cases o with
  | none =>
    have h := gcross_bad a b w ho.fit hp.fit (by rw [ho.may, hp.may]; rfl)
    rw [← bstr_zero] at h
    exact h
  | some A =>
    cases p with
    | none =>
      have h := gcross_bad a b w ho.fit hp.fit (by rw [ho.may, hp.may]; rfl)
      rw [← bstr_zero] at h
      exact h
    | some B =>
      obtain ⟨hA, rfl⟩ := ho
      obtain ⟨hB, rfl⟩ := hp
      exact gcross A B w hA hB hT

theorem gnorm_x (a : GR) (o : Option GY) (w : World) (ho : Rep a o) (hT : Tab w) :
    Calls Tryd.prog 45 #[.agg #[.bool a.n, .string a.s, .int .i64 a.e, .bool a.m, .string a.t, .int .i64 a.f]] w fun r w' => r = .returned (.tuple #[.agg #[.bool (x1 DY.zero gNorm o).1.n, .string (bstr (x1 DY.zero gNorm o).1.x), .int .i64 (x1 DY.zero gNorm o).1.e], .int .i64 (x1 DY.zero gNorm o).2]) ∧ Below w.heap.size w w' := by
  cases o with
  | none =>
    have h := gnorm_bad a w ho.fit ho.1
    rw [← bstr_zero] at h
    exact h
  | some A =>
    obtain ⟨hA, rfl⟩ := ho
    exact gnorm A w hA hT

def xU (f : GY → GY) : Option GY → GY
  | some A => f A
  | none => GY.zero
theorem xU_ok {f : GY → GY} (h : ∀ A, A.ok → (f A).ok) {a : GR} {o : Option GY} (ho : Rep a o) : (xU f o).ok := by
  cases o with
  | none => exact GY.zero_ok
  | some A => exact h A ho.1

theorem gneg_x (a : GR) (o : Option GY) (w : World) (ho : Rep a o) :
    Calls Tryd.prog 74 #[.agg #[.bool a.n, .string a.s, .int .i64 a.e, .bool a.m, .string a.t, .int .i64 a.f]] w fun r w' => r = .returned (.agg #[.bool (xU gNeg o).re.n, .string (bstr (xU gNeg o).re.x), .int .i64 (xU gNeg o).re.e, .bool (xU gNeg o).im.n, .string (bstr (xU gNeg o).im.x), .int .i64 (xU gNeg o).im.e]) ∧ Below w.heap.size w w' := by
  cases o with
  | none =>
    have h := gneg_bad a w ho.fit ho.1
    rw [← bstr_zero] at h
    exact h
  | some A =>
    obtain ⟨hA, rfl⟩ := ho
    exact gneg A w hA

theorem gconj_x (a : GR) (o : Option GY) (w : World) (ho : Rep a o) :
    Calls Tryd.prog 50 #[.agg #[.bool a.n, .string a.s, .int .i64 a.e, .bool a.m, .string a.t, .int .i64 a.f]] w fun r w' => r = .returned (.agg #[.bool (xU gConj o).re.n, .string (bstr (xU gConj o).re.x), .int .i64 (xU gConj o).re.e, .bool (xU gConj o).im.n, .string (bstr (xU gConj o).im.x), .int .i64 (xU gConj o).im.e]) ∧ Below w.heap.size w w' := by
  cases o with
  | none =>
    have h := gconj_bad a w ho.fit ho.1
    rw [← bstr_zero] at h
    exact h
  | some A =>
    obtain ⟨hA, rfl⟩ := ho
    exact gconj A w hA

theorem gturn_x (a : GR) (o : Option GY) (w : World) (ho : Rep a o) :
    Calls Tryd.prog 73 #[.agg #[.bool a.n, .string a.s, .int .i64 a.e, .bool a.m, .string a.t, .int .i64 a.f]] w fun r w' => r = .returned (.agg #[.bool (xU gTurn o).re.n, .string (bstr (xU gTurn o).re.x), .int .i64 (xU gTurn o).re.e, .bool (xU gTurn o).im.n, .string (bstr (xU gTurn o).im.x), .int .i64 (xU gTurn o).im.e]) ∧ Below w.heap.size w w' := by
  cases o with
  | none =>
    have h := gturn_bad a w ho.fit ho.1
    rw [← bstr_zero] at h
    exact h
  | some A =>
    obtain ⟨hA, rfl⟩ := ho
    exact gturn A w hA

theorem gcheck_x (a : GR) (o : Option GY) (w : World) (ho : Rep a o) :
    Calls Tryd.prog 72 #[.agg #[.bool a.n, .string a.s, .int .i64 a.e, .bool a.m, .string a.t, .int .i64 a.f]] w fun r w' => r = .returned (.int .i64 (if o.isSome then 0 else 2)) ∧ Below w.heap.size w w' := by
  have h := gcheck_any a.n a.s a.e a.m a.t a.f w ho.fit.1 ho.fit.2
  rw [show (mayB a.n a.s a.e && mayB a.m a.t a.f) = o.isSome from ho.may] at h
  cases o <;> exact h
theorem gside_x (a b c : GR) (o p q : Option GY) (w : World) (ho : Rep a o) (hp : Rep b p) (hq : Rep c q) (hT : Tab w) :
    Calls Tryd.prog 76 #[.agg #[.bool a.n, .string a.s, .int .i64 a.e, .bool a.m, .string a.t, .int .i64 a.f], .agg #[.bool b.n, .string b.s, .int .i64 b.e, .bool b.m, .string b.t, .int .i64 b.f], .agg #[.bool c.n, .string c.s, .int .i64 c.e, .bool c.m, .string c.t, .int .i64 c.f]] w fun r w' => r = .returned (.tuple #[.int .i64 (x3 0 gSide o p q).1, .int .i64 (x3 0 gSide o p q).2]) ∧ Below w.heap.size w w' := by
  have hbad : (a.may && (b.may && c.may)) = false → Calls Tryd.prog 76 #[.agg #[.bool a.n, .string a.s, .int .i64 a.e, .bool a.m, .string a.t, .int .i64 a.f], .agg #[.bool b.n, .string b.s, .int .i64 b.e, .bool b.m, .string b.t, .int .i64 b.f], .agg #[.bool c.n, .string c.s, .int .i64 c.e, .bool c.m, .string c.t, .int .i64 c.f]] w fun r w' => r = .returned (.tuple #[.int .i64 0, .int .i64 2]) ∧ Below w.heap.size w w' := fun h => gside_bad a b c w ho.fit hp.fit hq.fit h
  rw [ho.may, hp.may, hq.may] at hbad
  cases o with
  | none => exact hbad rfl
  | some A =>
    cases p with
    | none => exact hbad rfl
    | some B =>
      cases q with
      | none => exact hbad rfl
      | some C =>
        obtain ⟨hA, rfl⟩ := ho
        obtain ⟨hB, rfl⟩ := hp
        obtain ⟨hC, rfl⟩ := hq
        exact gside A B C w hA hB hC hT
theorem gin_x (a c : GR) (r : DRw) (o p : Option GY) (q : Option DY) (w : World) (ho : Rep a o) (hp : Rep c p) (hq : RepD r q) (hT : Tab w) :
    Calls Tryd.prog 90 #[.agg #[.bool a.n, .string a.s, .int .i64 a.e, .bool a.m, .string a.t, .int .i64 a.f], .agg #[.bool c.n, .string c.s, .int .i64 c.e, .bool c.m, .string c.t, .int .i64 c.f], .agg #[.bool r.n, .string r.s, .int .i64 r.e]] w fun r9 w' => r9 = .returned (.tuple #[.bool (xIn o p q).1, .int .i64 (xIn o p q).2]) ∧ Below w.heap.size w w' := by
  have h1 := fun h => gin_bad1 a c r w ho.fit hp.fit h
  have h2 := fun h h' => gin_bad2 a c r w ho.fit hp.fit hq.fit h h'
  rw [ho.may, hp.may] at h1 h2
  rw [hq.rad] at h2
  cases o with
  | none => exact h1 rfl
  | some A =>
    cases p with
    | none => exact h1 rfl
    | some C =>
      cases q with
      | none => exact h2 rfl rfl
      | some R =>
        cases hR : R.n
        · obtain ⟨hA, rfl⟩ := ho
          obtain ⟨hC, rfl⟩ := hp
          obtain ⟨hr, rfl⟩ := hq
          have hx : xIn (some A) (some C) (some R) = gIn A C R := by show (if R.n = true then _ else _) = _; rw [hR]; rfl
          rw [hx]
          exact gin A C R w hA hC hr hR hT
        · have hx : xIn (some A) (some C) (some R) = (false, 2) := by show (if R.n = true then _ else _) = _; rw [hR]; rfl
          rw [hx]
          exact h2 rfl (by show (!R.n) = false; rw [hR]; rfl)

theorem gwithin_x (c : GR) (r : DRw) (d : GR) (s : DRw) (o : Option GY) (q : Option DY) (p : Option GY) (t : Option DY) (w : World) (ho : Rep c o) (hq : RepD r q) (hp : Rep d p) (ht : RepD s t) (hT : Tab w) :
    Calls Tryd.prog 91 #[.agg #[.bool c.n, .string c.s, .int .i64 c.e, .bool c.m, .string c.t, .int .i64 c.f], .agg #[.bool r.n, .string r.s, .int .i64 r.e], .agg #[.bool d.n, .string d.s, .int .i64 d.e, .bool d.m, .string d.t, .int .i64 d.f], .agg #[.bool s.n, .string s.s, .int .i64 s.e]] w fun r9 w' => r9 = .returned (.tuple #[.bool (xDisc gWithin o q p t).1, .int .i64 (xDisc gWithin o q p t).2]) ∧ Below w.heap.size w w' := by
  have h1 := fun h => gwithin_bad1 c r d s w ho.fit hp.fit h
  have h2 := fun h h' => gwithin_bad2 c r d s w ho.fit hq.fit hp.fit ht.fit h h'
  rw [ho.may, hp.may] at h1 h2
  rw [hq.rad, ht.rad] at h2
  cases o with
  | none => cases q <;> cases p <;> cases t <;> exact h1 rfl
  | some C =>
    cases p with
    | none => cases q <;> cases t <;> exact h1 rfl
    | some D =>
      cases q with
      | none => cases t <;> exact h2 rfl rfl
      | some R =>
        cases t with
        | none => exact h2 rfl (by show ((!R.n) && false) = false; exact Bool.and_false _)
        | some S =>
          cases hR : (R.n || S.n)
          · obtain ⟨hA, rfl⟩ := ho
            obtain ⟨hC, rfl⟩ := hp
            obtain ⟨hr, rfl⟩ := hq
            obtain ⟨hs, rfl⟩ := ht
            have hx : xDisc gWithin (some C) (some R) (some D) (some S) = gWithin C R D S := by show (if (R.n || S.n) = true then _ else _) = _; rw [hR]; rfl
            rw [hx]
            rw [Bool.or_eq_false_iff] at hR
            exact gwithin C R D S w hA hr hC hs hR.1 hR.2 hT
          · have hx : xDisc gWithin (some C) (some R) (some D) (some S) = (false, 2) := by show (if (R.n || S.n) = true then _ else _) = _; rw [hR]; rfl
            rw [hx]
            refine h2 rfl ?_
            show ((!R.n) && (!S.n)) = false
            rw [← Bool.not_or, hR]; rfl

theorem gapart_x (c : GR) (r : DRw) (d : GR) (s : DRw) (o : Option GY) (q : Option DY) (p : Option GY) (t : Option DY) (w : World) (ho : Rep c o) (hq : RepD r q) (hp : Rep d p) (ht : RepD s t) (hT : Tab w) :
    Calls Tryd.prog 92 #[.agg #[.bool c.n, .string c.s, .int .i64 c.e, .bool c.m, .string c.t, .int .i64 c.f], .agg #[.bool r.n, .string r.s, .int .i64 r.e], .agg #[.bool d.n, .string d.s, .int .i64 d.e, .bool d.m, .string d.t, .int .i64 d.f], .agg #[.bool s.n, .string s.s, .int .i64 s.e]] w fun r9 w' => r9 = .returned (.tuple #[.bool (xDisc gApart o q p t).1, .int .i64 (xDisc gApart o q p t).2]) ∧ Below w.heap.size w w' := by
  have h1 := fun h => gapart_bad1 c r d s w ho.fit hp.fit h
  have h2 := fun h h' => gapart_bad2 c r d s w ho.fit hq.fit hp.fit ht.fit h h'
  rw [ho.may, hp.may] at h1 h2
  rw [hq.rad, ht.rad] at h2
  cases o with
  | none => cases q <;> cases p <;> cases t <;> exact h1 rfl
  | some C =>
    cases p with
    | none => cases q <;> cases t <;> exact h1 rfl
    | some D =>
      cases q with
      | none => cases t <;> exact h2 rfl rfl
      | some R =>
        cases t with
        | none => exact h2 rfl (by show ((!R.n) && false) = false; exact Bool.and_false _)
        | some S =>
          cases hR : (R.n || S.n)
          · obtain ⟨hA, rfl⟩ := ho
            obtain ⟨hC, rfl⟩ := hp
            obtain ⟨hr, rfl⟩ := hq
            obtain ⟨hs, rfl⟩ := ht
            have hx : xDisc gApart (some C) (some R) (some D) (some S) = gApart C R D S := by show (if (R.n || S.n) = true then _ else _) = _; rw [hR]; rfl
            rw [hx]
            rw [Bool.or_eq_false_iff] at hR
            exact gapart C R D S w hA hr hC hs hR.1 hR.2 hT
          · have hx : xDisc gApart (some C) (some R) (some D) (some S) = (false, 2) := by show (if (R.n || S.n) = true then _ else _) = _; rw [hR]; rfl
            rw [hx]
            refine h2 rfl ?_
            show ((!R.n) && (!S.n)) = false
            rw [← Bool.not_or, hR]; rfl

end Go.Proofs.YtgcifpjhhoalmaaDoor
