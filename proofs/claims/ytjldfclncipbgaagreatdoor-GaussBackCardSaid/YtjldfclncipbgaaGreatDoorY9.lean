/- GaussTexts, GaussBack: true at every input. -/
import Derived.Test.YtjldfclncipbgaaGreatDoorY8
namespace Go.Proofs.YtjldfclncipbgaaGreatDoor
open Go Go.RowKit Go.PlainAid Fil

/-- the text of a Gauss -/
def gtext (n : Bool) (x : Nat) (k : Int) (m : Bool) (y : Nat) (l : Int) : List UInt8 := dtext n x k ++ 44 :: dtext m y l
theorem cat44 (a b : List UInt8) : (((⟨a.toArray⟩ : ByteArray) ++ ⟨#[44]⟩) ++ ⟨b.toArray⟩ : ByteArray) = ⟨(a ++ 44 :: b).toArray⟩ := by apply ByteArray.ext; simp
theorem dtext_len {n : Bool} {x : Nat} {k : Int} (h : okD n x k) : (⟨(dtext n x k).toArray⟩ : ByteArray).size ≤ 1000000 := by
  rw [size_mk]
  unfold dtext dhead
  have hd := dtx_big h.dn
  have hi := itx_len h.e1 h.e2
  by_cases hx : x = 0
  · rw [if_pos hx]; decide
  · rw [if_neg hx, List.length_append, List.length_append, List.length_cons]
    cases n <;> simp <;> omega
theorem gshow_good (n : Bool) (x : Nat) (k : Int) (m : Bool) (y : Nat) (l : Int) (w : World) (h1 : okD n x k) (h2 : okD m y l) (hT : TabK w) :
    Calls Tryz.prog 14 #[.agg #[.bool n, .string (bstr x), .int .i64 k, .bool m, .string (bstr y), .int .i64 l]] w fun r w' => r = .returned (.tuple #[.string ⟨(gtext n x k m y l).toArray⟩, .int .i64 0]) ∧ Below w.heap.size w w' := by
  have := gshow_ok n (bstr x) k m (bstr y) l ⟨(dtext n x k).toArray⟩ ⟨(dtext m y l).toArray⟩ w (fun W hb => dshow_good n x k W h1 (hT.below hb)) (fun W hb => dshow_good m y l W h2 (hT.below hb)) (dtext_len h1) (dtext_len h2)
  rw [cat44] at this
  exact this
theorem r6show_good (n : Bool) (x : Nat) (k : Int) (m : Bool) (y : Nat) (l : Int) (w : World) (h1 : okD n x k) (h2 : okD m y l) :
    Calls Tryz.prog 20 #[.agg #[.bool n, .string (bstr x), .int .i64 k, .bool m, .string (bstr y), .int .i64 l]] w fun r w' => r = .returned (.string ⟨(gtext n x k m y l).toArray⟩) ∧ Below w.heap.size w w' := by
  have := r6show_ok n (bstr x) k m (bstr y) l ⟨(dtext n x k).toArray⟩ ⟨(dtext m y l).toArray⟩ w (fun W => r3show_ok n x k W h1) (fun W => r3show_ok m y l W h2) (dtext_len h1) (dtext_len h2)
  rw [cat44] at this
  exact this
theorem gshow_no (n : Bool) (s : ByteArray) (k : Int) (m : Bool) (t : ByteArray) (l : Int) (w : World) (hs : s.size ≤ 9223372036854775807) (ht : t.size ≤ 9223372036854775807) (hT : TabK w) (h : (mayB n s k && mayB m t l) = false) :
    Calls Tryz.prog 14 #[.agg #[.bool n, .string s, .int .i64 k, .bool m, .string t, .int .i64 l]] w fun r w' => r = .returned (.tuple #[.string ⟨#[]⟩, .int .i64 2]) ∧ Below w.heap.size w w' := by
  cases h1 : mayB n s k with
  | false =>
    cases h2 : mayB m t l with
    | false => exact gshow_e n s k m t l _ _ 2 2 w (fun W _ => dshow_no n s k W hs h1) (fun W _ => dshow_no m t l W ht h2) rfl
    | true =>
      obtain ⟨y, rfl, hok⟩ := ok_of_may h2
      exact gshow_e n s k m (bstr y) l _ _ 2 0 w (fun W _ => dshow_no n s k W hs h1) (fun W hb => dshow_good m y l W hok (hT.below hb)) rfl
  | true =>
    rw [h1, Bool.true_and] at h
    obtain ⟨x, rfl, hok⟩ := ok_of_may h1
    exact gshow_f n (bstr x) k m t l _ _ 2 w (fun W hb => dshow_good n x k W hok (hT.below hb)) (fun W _ => dshow_no m t l W ht h) rfl
/-- both Reads of a number answer alike -/
theorem gauss_reads (s : ByteArray) (hs : s.size ≤ 9223372036854775807) : ∃ (n : Bool) (t : ByteArray) (k : Int) (m : Bool) (u : ByteArray) (l : Int) (f : Int),
    ((f = 0 ∧ ∃ x y, t = bstr x ∧ u = bstr y ∧ okD n x k ∧ okD m y l ∧ s.data.toList = gtext n x k m y l) ∨ (f = 60 ∧ n = false ∧ t = ⟨#[]⟩ ∧ k = 0 ∧ m = false ∧ u = ⟨#[]⟩ ∧ l = 0 ∧ ∀ n x k m y l, okD n x k → okD m y l → s.data.toList ≠ gtext n x k m y l)) ∧
    (∀ W, TabK W → Calls Tryz.prog 15 #[.string s] W fun r w' => r = .returned (.tuple #[.agg #[.bool n, .string t, .int .i64 k, .bool m, .string u, .int .i64 l], .int .i64 f]) ∧ Below W.heap.size W w') ∧
    (∀ W, Calls Tryz.prog 16 #[.string s] W fun r w' => r = .returned (.tuple #[.agg #[.bool n, .string t, .int .i64 k, .bool m, .string u, .int .i64 l], .int .i64 f]) ∧ Below W.heap.size W w') := by
  rcases first_at (s := s) (c := 44) with hn | ⟨i, hi, h44, hn⟩
  · have hb : ∀ k, k < s.size → byt s k ≠ 44 := fun k hk h => hn k hk (UInt8.toNat_inj.1 (by rw [← byt_in hk, h]; rfl))
    obtain ⟨n1, t1, k1, f1, _, _, R1, _⟩ := reads_alike s hs
    obtain ⟨n2, t2, k2, f2, _, _, R2, _⟩ := reads_alike ⟨#[]⟩ (by decide)
    refine ⟨false, ⟨#[]⟩, 0, false, ⟨#[]⟩, 0, 60, .inr ⟨rfl, rfl, rfl, rfl, rfl, rfl, rfl, fun n x k m y l _ _ hl => ?_⟩, fun W hT => ?_, fun W => r6read_no s W hs hb⟩
    · obtain ⟨i, hi, hc⟩ := cut_some hl
      exact hn i hi hc
    · refine gread_no s s ⟨#[]⟩ n1 t1 k1 n2 t2 k2 f1 f2 W (fun V => ?_) (fun V hb => R1 V (hT.below hb)) (fun V hb => R2 V (hT.below hb))
      refine (scut_no_c s V fun k hk h => hn k hk h).mono ?_
      rintro r w' ⟨rfl, rfl⟩
      exact ⟨rfl, Below.refl _ _⟩
  have hb : ∀ k, k < i → byt s k ≠ 44 := fun k hk h => hn k hk (UInt8.toNat_inj.1 (by rw [← byt_in (by omega), h]; rfl))
  have h44b : byt s i = 44 := by rw [byt_in hi, h44]; rfl
  obtain ⟨a, ha⟩ : ∃ a, s.extract 0 i = a := ⟨_, rfl⟩
  obtain ⟨p, hp⟩ : ∃ p, s.extract (i + 1) s.size = p := ⟨_, rfl⟩
  have hcl := cut_list hi
  rw [ha, hp, h44] at hcl
  have tell : ∀ n x k m y l, s.data.toList = gtext n x k m y l → a.data.toList = dtext n x k ∧ p.data.toList = dtext m y l := fun n x k m y l hl => by
    unfold gtext at hl
    have h4 := cut_at hl dtext_comma hi h44 hn
    refine ⟨?_, ?_⟩
    · rw [← ha, h4]; exact cut_left hl
    · rw [← hp, h4]; exact cut_right hl
  have hcut : ∀ W, Calls Tryz.prog 27 #[.string s, .string ⟨#[44]⟩] W fun r w' => r = .returned (.tuple #[.string a, .string p, .bool true]) ∧ Below W.heap.size W w' := fun W =>
    (scut_yes_c s i W hi h44 (fun k hk h => hn k hk h) hs).mono fun r w' hh => by
      obtain ⟨h1, k, rfl⟩ := hh
      rw [ha, hp] at h1
      exact ⟨h1, ⟨rfl, rfl, rfl, Nat.le_refl _, fun _ _ => rfl⟩⟩
  obtain ⟨n1, t1, k1, f1, g1, b1, R1, r1⟩ := reads_alike a (by rw [← ha, ByteArray.size_extract]; omega)
  obtain ⟨n2, t2, k2, f2, g2, b2, R2, r2⟩ := reads_alike p (by rw [← hp, ByteArray.size_extract]; omega)
  by_cases hf : f1 = 0
  case neg =>
    refine ⟨false, ⟨#[]⟩, 0, false, ⟨#[]⟩, 0, 60, .inr ⟨rfl, rfl, rfl, rfl, rfl, rfl, rfl, fun n x k m y l ho _ hl => b1 hf n x k ho (tell n x k m y l hl).1⟩, fun W hT => ?_, fun W => ?_⟩
    · exact gread_f s a p n1 t1 k1 n2 t2 k2 f1 f2 W hcut (fun V hb => R1 V (hT.below hb)) (fun V hb => R2 V (hT.below hb)) (by simpa using hf)
    · exact r6read_f s W hs i hi h44b hb a p ha hp n1 t1 k1 n2 t2 k2 f1 (by simpa using hf) f2 r1 r2
  subst hf
  by_cases hh : f2 = 0
  case neg =>
    refine ⟨false, ⟨#[]⟩, 0, false, ⟨#[]⟩, 0, 60, .inr ⟨rfl, rfl, rfl, rfl, rfl, rfl, rfl, fun n x k m y l _ ho hl => b2 hh m y l ho (tell n x k m y l hl).2⟩, fun W hT => ?_, fun W => ?_⟩
    · exact gread_h s a p n1 t1 k1 n2 t2 k2 f2 W hcut (fun V hb => R1 V (hT.below hb)) (fun V hb => R2 V (hT.below hb)) (by simpa using hh)
    · exact r6read_h s W hs i hi h44b hb a p ha hp n1 t1 k1 n2 t2 k2 f2 (by simpa using hh) r1 r2
  subst hh
  obtain ⟨x, rfl, hx, hlx⟩ := g1 rfl
  obtain ⟨y, rfl, hy, hly⟩ := g2 rfl
  refine ⟨n1, bstr x, k1, n2, bstr y, k2, 0, .inl ⟨rfl, x, y, rfl, rfl, hx, hy, by rw [hcl, hlx, hly]; rfl⟩, fun W hT => ?_, fun W => ?_⟩
  · exact gread_ok s a p n1 _ k1 n2 _ k2 W hcut (fun V hb => R1 V (hT.below hb)) (fun V hb => R2 V (hT.below hb))
  · exact r6read_ok s W hs i hi h44b hb a p ha hp n1 _ k1 n2 _ k2 r1 r2
theorem gaussTexts_any (xn : Bool) (xS : ByteArray) (xe : Int) (xm : Bool) (xT : ByteArray) (xf : Int) (s : ByteArray) (w : World) (hT : TabK w) (hx : xS.size ≤ 9223372036854775807) (hy : xT.size ≤ 9223372036854775807) (hs : s.size ≤ 9223372036854775807) :
    Calls Tryz.prog 5 #[.agg #[.bool xn, .string xS, .int .i64 xe, .bool xm, .string xT, .int .i64 xf], .string s] w fun r w' => r = .returned (.bool true) ∧ Below w.heap.size w w' := by
  have hl := fun W (hb : Below w.heap.size w W) => l6awake_any W (hT.below hb).tab
  obtain ⟨n, t, k, m, u, l, f, _, hR, hr⟩ := gauss_reads s hs
  have hRd := fun W (hb : Below w.heap.size w W) => hR W (hT.below hb)
  have hM := fun W => qmay_any xn xS xe xm xT xf W hx hy
  have h6 := fun W => l6same_yes n t k m u l f W
  cases hm : mayB xn xS xe && mayB xm xT xf with
  | false =>
    rw [hm] at hM
    exact gtexts_bad s xn xS xe xm xT xf n t k m u l f w (fun W hb => gshow_no xn xS xe xm xT xf W hx hy (hT.below hb) hm) hRd hr h6 hM hl
  | true =>
    rw [hm] at hM
    obtain ⟨h1, h2⟩ := Bool.and_eq_true_iff.1 hm
    obtain ⟨x, rfl, hox⟩ := ok_of_may h1
    obtain ⟨y, rfl, hoy⟩ := ok_of_may h2
    exact gtexts_good s xn (bstr x) xe xm (bstr y) xf n t k m u l f _ w (fun W hb => gshow_good xn x xe xm y xf W hox hoy (hT.below hb)) hRd hr h6 hM (fun W => r6show_good xn x xe xm y xf W hox hoy) hl
theorem gtext_inj {n m n' m' : Bool} {x y x' y' : Nat} {k l k' l' : Int} (h1 : okD n x k) (h2 : okD m y l) (h3 : okD n' x' k') (h4 : okD m' y' l') (h : gtext n x k m y l = gtext n' x' k' m' y' l') : (n = n' ∧ x = x' ∧ k = k') ∧ m = m' ∧ y = y' ∧ l = l' := by
  unfold gtext at h
  obtain ⟨h5, h6⟩ := cut_uniq _ _ _ _ dtext_comma dtext_comma h
  exact ⟨dtext_inj h1 h3 h5, dtext_inj h2 h4 h6⟩
theorem gread_good (n : Bool) (x : Nat) (k : Int) (m : Bool) (y : Nat) (l : Int) (s : ByteArray) (h1 : okD n x k) (h2 : okD m y l) (hs : s.size ≤ 9223372036854775807) (h : s.data.toList = gtext n x k m y l) (W : World) (hT : TabK W) :
    Calls Tryz.prog 15 #[.string s] W fun r w' => r = .returned (.tuple #[.agg #[.bool n, .string (bstr x), .int .i64 k, .bool m, .string (bstr y), .int .i64 l], .int .i64 0]) ∧ Below W.heap.size W w' := by
  obtain ⟨n', t, k', m', u, l', f, hc, hR, _⟩ := gauss_reads s hs
  rcases hc with ⟨rfl, x', y', rfl, rfl, h3, h4, hl⟩ | ⟨_, _, _, _, _, _, _, hno⟩
  · obtain ⟨⟨rfl, rfl, rfl⟩, rfl, rfl, rfl⟩ := gtext_inj h1 h2 h3 h4 (h.symm.trans hl)
    exact hR W hT
  · exact absurd h (hno n x k m y l h1 h2)
theorem gaussBack_any (xn : Bool) (xS : ByteArray) (xe : Int) (xm : Bool) (xT : ByteArray) (xf : Int) (s : ByteArray) (w : World) (hT : TabK w) (hx : xS.size ≤ 9223372036854775807) (hy : xT.size ≤ 9223372036854775807) (hs : s.size ≤ 9223372036854775807) :
    Calls Tryz.prog 6 #[.agg #[.bool xn, .string xS, .int .i64 xe, .bool xm, .string xT, .int .i64 xf], .string s] w fun r w' => r = .returned (.bool true) ∧ Below w.heap.size w w' := by
  have hl := fun W (hb : Below w.heap.size w W) => l6awake_any W (hT.below hb).tab
  have hck := fun W => gcheck_any xn xS xe xm xT xf W hx hy
  have ho := fun (Bk : Nat) (W : World) (h : W.heap.size = Bk) => l6all_2 0 0 Bk W h
  obtain ⟨n, t, k, m, u, l, f, hc, hR, _⟩ := gauss_reads s hs
  have hRd := fun W (hb : Below w.heap.size w W) => hR W (hT.below hb)
  have sh : ∀ {x y : Nat}, t = bstr x → u = bstr y → okD n x k → okD m y l → s.data.toList = gtext n x k m y l → ∀ W, Below w.heap.size w W → Calls Tryz.prog 14 #[.agg #[.bool n, .string t, .int .i64 k, .bool m, .string u, .int .i64 l]] W fun r w' => r = .returned (.tuple #[.string s, .int .i64 0]) ∧ Below W.heap.size W w' := fun {x y} e1 e2 h1 h2 hl W hb => by
    rw [e1, e2, ba_of hl]
    exact gshow_good n x k m y l W h1 h2 (hT.below hb)
  cases hm : mayB xn xS xe && mayB xm xT xf with
  | false =>
    rw [hm] at hck
    rcases hc with ⟨rfl, x, y, e1, e2, h1, h2, hl2⟩ | ⟨rfl, rfl, rfl, rfl, rfl, rfl, rfl, _⟩
    · exact gback_no_good s xn xS xe xm xT xf n t k m u l w hl hck hRd (sh e1 e2 h1 h2 hl2)
    · exact gback_no_bad s xn xS xe xm xT xf w hl hck hRd
  | true =>
    rw [hm] at hck
    obtain ⟨h1, h2⟩ := Bool.and_eq_true_iff.1 hm
    obtain ⟨x0, rfl, hox⟩ := ok_of_may h1
    obtain ⟨y0, rfl, hoy⟩ := ok_of_may h2
    have hS := fun W (hb : Below w.heap.size w W) => gshow_good xn x0 xe xm y0 xf W hox hoy (hT.below hb)
    have hz : (⟨(gtext xn x0 xe xm y0 xf).toArray⟩ : ByteArray).size ≤ 9223372036854775807 := by
      have a1 := dtext_len hox
      have a2 := dtext_len hoy
      rw [size_mk] at a1 a2 ⊢
      unfold gtext
      rw [List.length_append, List.length_cons]; omega
    have hB := fun W (hb : Below w.heap.size w W) => gread_good xn x0 xe xm y0 xf ⟨(gtext xn x0 xe xm y0 xf).toArray⟩ hox hoy hz rfl W (hT.below hb)
    rcases hc with ⟨rfl, x, y, e1, e2, h1, h2, hl2⟩ | ⟨rfl, rfl, rfl, rfl, rfl, rfl, rfl, _⟩
    · exact gback_yes_good s xn (bstr x0) xe xm (bstr y0) xf _ n t k m u l w hl hck hS hB ho hRd (sh e1 e2 h1 h2 hl2)
    · exact gback_yes_bad s xn (bstr x0) xe xm (bstr y0) xf _ w hl hck hS hB ho hRd
end Go.Proofs.YtjldfclncipbgaaGreatDoor
