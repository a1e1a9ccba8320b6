/- Merged: Kh M5 M6 -/
import Derived.Test.YtbhfnigblhfikaaGreatKg
import Derived.Test.YtbhfnigblhfikaaGreatJW
import Derived.Test.YtbhfnigblhfikaaGreatM4

/- ratio.Read of any text. -/
namespace Go.Proofs.YtbhfnigblhfikaaGreat
open Go Go.RowKit Go.PlainAid Fil

theorem dec_ne {l : List UInt8} (h : allDec l) {c : UInt8} (hc : c ∈ l) : c ≠ 45 ∧ c ≠ 47 := by
  have := of_decide_eq_true (h c hc)
  refine ⟨fun e => ?_, fun e => ?_⟩
  · subst e; have h2 : (45 : UInt8).toNat = 45 := rfl; omega
  · subst e; have h2 : (47 : UInt8).toNat = 47 := rfl; omega
theorem dtx_ne (n : Nat) : dtx n ≠ [] := (dtx_bare n).1
theorem dtx_good (n : Nat) : goodL (dtx n) := ⟨dtx_allDec n, dtx_bare n⟩
/-- a text without its sign -/
def kmag (z : Rat) : List UInt8 := dtx z.num.natAbs ++ (if z.den = 1 then [] else 47 :: dtx z.den)
theorem ktx_mag (z : Rat) : ktx z = (if sg z.num then [45] else []) ++ kmag z := by unfold ktx kmag; rw [List.append_assoc]
theorem kmag_head (z : Rat) : ∃ c r, kmag z = c :: r ∧ c ≠ 45 := by
  unfold kmag
  cases h : dtx z.num.natAbs with
  | nil => exact absurd h (dtx_ne _)
  | cons c r => exact ⟨c, _, rfl, (dec_ne (h ▸ dtx_allDec z.num.natAbs) (List.mem_cons_self ..)).1⟩
theorem byt_head {s : ByteArray} {c : UInt8} {r : List UInt8} (h : s.data.toList = c :: r) : byt s 0 = c.toNat ∧ 0 < s.size := by
  have h0 : 0 < s.size := by
    have := congrArg List.length h
    rw [Array.length_toList] at this
    have h2 : s.size = s.data.size := rfl
    rw [h2, this]; simp
  refine ⟨?_, h0⟩
  rw [byt_in h0]
  have h1 := head_get h0
  rw [h] at h1
  exact congrArg UInt8.toNat (Option.some.inj h1).symm
theorem rest_minus {s : ByteArray} {r : List UInt8} (h : s.data.toList = 45 :: r) : (s.extract 1 s.size).data.toList = r := by
  have e : (s.extract 1 s.size).data.toList = (s.data.toList.drop 1).take (s.size - 1) := by simp
  rw [e, h]
  rw [List.drop_succ_cons, List.drop_zero, List.take_of_length_le]
  have := congrArg List.length h
  rw [Array.length_toList] at this
  have h2 : s.size = s.data.size := rfl
  rw [h2, this]; simp
theorem get_of {s : ByteArray} {l : List UInt8} (h : s.data.toList = l) {k : Nat} (hk : k < s.size) : some (s[k]'hk) = l[k]? := by
  rw [← h, List.getElem?_eq_getElem (by rw [Array.length_toList]; exact hk)]; rfl
theorem size_of {s : ByteArray} {l : List UInt8} (h : s.data.toList = l) : s.size = l.length := by rw [← h, Array.length_toList]; rfl
theorem slash_at {s : ByteArray} {D E : List UInt8} (h : s.data.toList = D ++ 47 :: E) (hD : allDec D) {i : Nat} (hi : i < s.size) (h47 : s[i]'hi = 47) (hn : ∀ (k : Nat) (hk : k < i), s[k]'(by omega) ≠ 47) : i = D.length := by
  have hz := size_of h
  rcases Nat.lt_trichotomy i D.length with h1 | h1 | h1
  · have h2 := get_of h hi
    rw [List.getElem?_append_left h1, h47] at h2
    exact absurd rfl (dec_ne hD (List.mem_of_getElem? h2.symm)).2
  · exact h1
  · have h2 := get_of h (k := D.length) (by rw [hz]; simp)
    rw [List.getElem?_append_right (Nat.le_refl _), Nat.sub_self, List.getElem?_cons_zero] at h2
    exact absurd (Option.some.inj h2) (hn _ h1)
theorem slash_left {s : ByteArray} {D E : List UInt8} (h : s.data.toList = D ++ 47 :: E) : (s.extract 0 D.length).data.toList = D := by
  have e : (s.extract 0 D.length).data.toList = s.data.toList.take D.length := by simp
  rw [e, h, List.take_left']
  rfl
theorem slash_right {s : ByteArray} {D E : List UInt8} (h : s.data.toList = D ++ 47 :: E) : (s.extract (D.length + 1) s.size).data.toList = E := by
  have e : (s.extract (D.length + 1) s.size).data.toList = (s.data.toList.drop (D.length + 1)).take (s.size - (D.length + 1)) := by simp
  have hz := size_of h
  have h3 : (D ++ 47 :: E).drop (D.length + 1) = E := by
    rw [List.drop_append, List.drop_of_length_le (by omega), show D.length + 1 - D.length = 1 by omega]; rfl
  rw [e, h, h3, List.take_of_length_le]
  rw [hz]; simp; omega
theorem no_slash {s : ByteArray} {D : List UInt8} (h : s.data.toList = D) (hD : allDec D) {i : Nat} (hi : i < s.size) : s[i]'hi ≠ 47 := fun h47 => by
  have h2 := get_of h hi
  rw [h47] at h2
  exact absurd rfl (dec_ne hD (List.mem_of_getElem? h2.symm)).2
/-- what is read out of a text: its sign, the digits ahead of the slash and behind it -/
structure Parts (s : ByteArray) (ng two : Bool) (rest a b : ByteArray) : Prop where
  cp : ∀ W, Calls Tryz.prog 24 #[.string s, .string ⟨#[45]⟩] W fun e w' => e = .returned (.tuple #[.string rest, .bool ng]) ∧ W = w'
  ct : ∀ W, Calls Tryz.prog 25 #[.string rest, .string ⟨#[47]⟩] W fun e w' => e = .returned (.tuple #[.string a, .string b, .bool two]) ∧ Below W.heap.size W w'
  tell : ∀ z : Rat, ktx z = s.data.toList → ng = sg z.num ∧ a.data.toList = dtx z.num.natAbs ∧ (if two then b else ⟨#[49]⟩ : ByteArray).data.toList = dtx z.den
  la : a.size ≤ s.size
  lb : b.size ≤ s.size
theorem first_at {s : ByteArray} {c : UInt8} : (∀ (k : Nat) (hk : k < s.size), s[k]'hk ≠ c) ∨ ∃ (i : Nat) (hi : i < s.size), s[i]'hi = c ∧ ∀ (k : Nat) (hk : k < i), s[k]'(by omega) ≠ c := by
  have key : ∀ n, n ≤ s.size → (∀ (k : Nat) (hk : k < s.size), k < n → s[k]'hk ≠ c) ∨ ∃ (i : Nat) (hi : i < s.size), s[i]'hi = c ∧ ∀ (k : Nat) (hk : k < i), s[k]'(by omega) ≠ c := by
    intro n
    induction n with
    | zero => intro _; exact .inl fun k _ hk => absurd hk (by omega)
    | succ n ih =>
      intro hn
      rcases ih (by omega) with h1 | h1
      · by_cases hc : s[n]'(by omega) = c
        · exact .inr ⟨n, by omega, hc, fun k hk => h1 k (by omega) hk⟩
        · left
          intro k hk hkn
          rcases Nat.lt_or_ge k n with h2 | h2
          · exact h1 k hk h2
          · obtain rfl : k = n := by omega
            exact hc
      · exact .inr h1
  rcases key s.size (Nat.le_refl _) with h1 | h1
  · exact .inl fun k hk => h1 k hk hk
  · exact .inr h1
theorem cut_parts {s rest : ByteArray} (ng : Bool) (hr : rest.size ≤ s.size) (hs : s.size ≤ 1000000) (cp : ∀ W, Calls Tryz.prog 24 #[.string s, .string ⟨#[45]⟩] W fun e w' => e = .returned (.tuple #[.string rest, .bool ng]) ∧ W = w')
    (tell : ∀ z : Rat, ktx z = s.data.toList → ng = sg z.num ∧ rest.data.toList = kmag z) : ∃ two a b, Parts s ng two rest a b := by
  rcases first_at (s := rest) (c := 47) with hn | ⟨i, hi, h47, hn⟩
  · refine ⟨false, rest, ⟨#[]⟩, cp, fun W => (scut_no rest W hn).mono ?_, fun z hz => ?_, hr, Nat.zero_le _⟩
    · rintro e w' ⟨rfl, rfl⟩
      exact ⟨rfl, Below.refl _ _⟩
    · obtain ⟨h1, h2⟩ := tell z hz
      by_cases hd : z.den = 1
      · unfold kmag at h2
        rw [if_pos hd, List.append_nil] at h2
        refine ⟨h1, h2, ?_⟩
        rw [hd]
        unfold dtx
        rw [if_neg (by decide), decs_pos (by decide), show 1 / 10 = 0 from rfl, decs_zero]
        rfl
      · unfold kmag at h2
        rw [if_neg hd] at h2
        have hz := size_of h2
        have h3 := get_of h2 (k := (dtx z.num.natAbs).length) (by rw [hz]; simp)
        rw [List.getElem?_append_right (Nat.le_refl _), Nat.sub_self, List.getElem?_cons_zero] at h3
        exact absurd (Option.some.inj h3) (hn _ _)
  · refine ⟨true, rest.extract 0 i, rest.extract (i + 1) rest.size, cp, fun W => (scut_yes rest i W hi h47 hn (by omega)).mono ?_, fun z hz => ?_, ext_size hr, ext_size hr⟩
    · rintro e w' ⟨rfl, n, rfl⟩
      exact ⟨rfl, Below.drewN' (Below.refl _ _) n⟩
    · obtain ⟨h1, h2⟩ := tell z hz
      by_cases hd : z.den = 1
      · unfold kmag at h2
        rw [if_pos hd, List.append_nil] at h2
        exact absurd h47 (no_slash h2 (dtx_allDec _) hi)
      · unfold kmag at h2
        rw [if_neg hd] at h2
        obtain rfl := slash_at h2 (dtx_allDec _) hi h47 hn
        exact ⟨h1, slash_left h2, slash_right h2⟩
theorem parts_of (s : ByteArray) (hs : s.size ≤ 1000000) : ∃ ng two rest a b, Parts s ng two rest a b := by
  by_cases h : byt s 0 = 45
  · have h0 := byt_lt (s := s) (i := 0) (by omega)
    obtain ⟨two, a, b, h2⟩ := cut_parts (s := s) (rest := s.extract 1 s.size) true (ext_size (Nat.le_refl _)) hs (fun W => cutp_yes s W h0 h) (fun z hz => by
      rw [ktx_mag] at hz
      cases hsg : sg z.num
      · rw [hsg] at hz
        obtain ⟨c, r, h3, h4⟩ := kmag_head z
        have h5 := byt_head (s := s) (c := c) (r := r) (by rw [← hz, h3]; rfl)
        refine absurd (UInt8.toNat_inj.1 ?_) h4
        rw [← h5.1, h]; rfl
      · rw [hsg] at hz
        exact ⟨rfl, rest_minus hz.symm⟩)
    exact ⟨true, two, _, a, b, h2⟩
  · obtain ⟨two, a, b, h2⟩ := cut_parts (s := s) (rest := s) false (Nat.le_refl _) hs (fun W => cutp_no s W h) (fun z hz => by
      rw [ktx_mag] at hz
      cases hsg : sg z.num
      · rw [hsg] at hz
        exact ⟨rfl, hz.symm⟩
      · rw [hsg] at hz
        have h5 := byt_head (s := s) (c := 45) (r := kmag z) (by rw [← hz]; rfl)
        exact absurd h5.1 h)
    exact ⟨false, two, _, a, b, h2⟩
theorem ktx_inj {x y : Rat} (hx : Fits x) (h : ktx x = ktx y) : x = y := by
  have hs : (⟨(ktx x).toArray⟩ : ByteArray).size ≤ 1000000 := by
    show (ktx x).toArray.size ≤ 1000000
    rw [List.size_toArray]
    unfold ktx
    have h1 := dtx_len (dn32_8 hx.1)
    have h2 := dtx_len (dn32_8 hx.2)
    rw [List.length_append, List.length_append]
    split <;> split <;> simp <;> omega
  obtain ⟨ng, two, rest, a, b, P⟩ := parts_of ⟨(ktx x).toArray⟩ hs
  have e1 := P.tell x (by simp)
  have e2 := P.tell y (by simp [h])
  have h1 : x.num.natAbs = y.num.natAbs := by rw [← dval_dtx x.num.natAbs, ← e1.2.1, e2.2.1, dval_dtx]
  have h2 : x.den = y.den := by rw [← dval_dtx x.den, ← e1.2.2, e2.2.2, dval_dtx]
  have h3 : sg x.num = sg y.num := by rw [← e1.1, e2.1]
  have h4 : x.num = y.num := by
    rw [← sz_self x.num, ← sz_self y.num, h1, h3]
  exact Rat.ext h4 h2
theorem dn32_dec {l : List UInt8} (h : allDec l) (hl : l.length ≤ 1000000) : Fil.dn 32 (dval 0 l) ≤ 1099511627776 := Nat.le_trans (dn_of_ten (N := 200000) (dval_lt l h) (by omega)) (by decide)
theorem len_toList (s : ByteArray) : s.data.toList.length = s.size := Array.length_toList
theorem bstr_inj {x y : Nat} (h : bstr x = bstr y) : x = y := by rw [← nb_bstr x, h, nb_bstr]
/-- what Read tells of a text -/
theorem kread_any (s : ByteArray) (w : World) (hs : s.size ≤ 80000) :
    Calls Tryz.prog 9 #[.string s] w fun e w' => ((∃ z, Fits z ∧ ktx z = s.data.toList ∧ e = .returned (.tuple #[kA z, .int .i64 0])) ∨ ((∀ z, Fits z → ktx z ≠ s.data.toList) ∧ e = .returned (errV 40))) ∧ Below w.heap.size w w' := by
  obtain ⟨ng, two, rest, a, b, P⟩ := parts_of s (by omega)
  have la := P.la
  have lb := P.lb
  have bad : (∀ z, Fits z → ktx z ≠ s.data.toList) → ∀ (e : Ending) w', (e = .returned (errV 40) ∧ Below w.heap.size w w') → ((∃ z, Fits z ∧ ktx z = s.data.toList ∧ e = .returned (.tuple #[kA z, .int .i64 0])) ∨ ((∀ z, Fits z → ktx z ≠ s.data.toList) ∧ e = .returned (errV 40))) ∧ Below w.heap.size w w' := fun h e w' k => ⟨.inr ⟨h, k.1⟩, k.2⟩
  by_cases ha : goodL a.data.toList
  case neg =>
    have hb : ∀ z, Fits z → ktx z ≠ s.data.toList := fun z _ hz => ha (by rw [(P.tell z hz).2.1]; exact dtx_good _)
    cases two
    · exact (kread_fa s rest a b ng w hs (by omega) P.cp P.ct ha).mono (bad hb)
    · exact (kread_ta s rest a b ng w hs (by omega) (by omega) P.cp P.ct ha).mono (bad hb)
  by_cases hbb : goodL (if two then b else ⟨#[49]⟩ : ByteArray).data.toList
  case neg =>
    have hb : ∀ z, Fits z → ktx z ≠ s.data.toList := fun z _ hz => hbb (by rw [(P.tell z hz).2.2]; exact dtx_good _)
    cases two
    · exact absurd (by decide : goodL (⟨#[49]⟩ : ByteArray).data.toList) hbb
    · exact (kread_tb s rest a b ng w hs (by omega) (by omega) P.cp P.ct ha hbb).mono (bad hb)
  by_cases hd0 : dval 0 (if two then b else ⟨#[49]⟩ : ByteArray).data.toList = 0
  · have hb : ∀ z, Fits z → ktx z ≠ s.data.toList := fun z _ hz => by
      rw [(P.tell z hz).2.2, dval_dtx] at hd0
      exact z.den_nz hd0
    cases two
    · exact absurd (show dval 0 [49] = 0 from hd0) (by decide)
    · exact (kread_tz s rest a b ng w hs (by omega) (by omega) P.cp P.ct ha hbb hd0).mono (bad hb)
  have nK := dn32_dec ha.1 (by rw [len_toList]; omega)
  have dK := dn32_dec hbb.1 (by
    rw [len_toList]
    cases two
    · exact (show (1 : Nat) ≤ 1000000 by omega)
    · exact Nat.le_trans lb (by omega))
  obtain ⟨n, hn⟩ : ∃ n, n = dval 0 a.data.toList := ⟨_, rfl⟩
  obtain ⟨d, hd⟩ : ∃ d, d = dval 0 (if two then b else ⟨#[49]⟩ : ByteArray).data.toList := ⟨_, rfl⟩
  rw [← hn] at nK
  rw [← hd] at dK hd0
  have sS : (bstr n).size ≤ 9223372036854775807 := by rw [bstr_size]; have := dn32_of8 nK; omega
  have sD : (bstr d).size ≤ 9223372036854775807 := by rw [bstr_size]; have := dn32_of8 dK; omega
  cases hm : kMayB ng (bstr n) (bstr d)
  · have ht := fun W => ktext_bad ng (bstr n) (bstr d) W sS sD hm
    have hb : ∀ z, Fits z → ktx z ≠ s.data.toList := fun z fz hz => by
      obtain ⟨e1, e2, e3⟩ := P.tell z hz
      rw [e2, dval_dtx] at hn
      rw [e3, dval_dtx] at hd
      rw [hn, hd, e1, may_of_rat fz] at hm
      exact Bool.noConfusion hm
    cases two
    · exact (kread_fm s rest a b ng w hs (by omega) P.cp P.ct ha hbb n d _ _ rfl rfl hn.symm hd.symm hd0 nK dK 2 ht rfl).mono (bad hb)
    · exact (kread_tm s rest a b ng w hs (by omega) (by omega) P.cp P.ct ha hbb n d _ _ rfl rfl hn.symm hd.symm hd0 nK dK 2 ht rfl).mono (bad hb)
  · obtain ⟨z, fz, e1, e2, e3⟩ := rat_of_may hm
    have ht := fun W => ktext_ok z W fz
    unfold kA at ht
    rw [← e1, ← e2, ← e3] at ht
    by_cases hz : ktx z = s.data.toList
    · have hts : ((⟨(ktx z).toArray⟩ : ByteArray).toList == s.toList) = true := by
        rw [beq_iff_eq, ByteArray.toList_eq, ByteArray.toList_eq, ← hz]
      have good : ∀ (e : Ending) w', (e = .returned (.tuple #[.agg #[.bool ng, .string (bstr n), .string (bstr d)], .int .i64 0]) ∧ Below w.heap.size w w') → ((∃ z, Fits z ∧ ktx z = s.data.toList ∧ e = .returned (.tuple #[kA z, .int .i64 0])) ∨ ((∀ z, Fits z → ktx z ≠ s.data.toList) ∧ e = .returned (errV 40))) ∧ Below w.heap.size w w' := fun e w' k => ⟨.inl ⟨z, fz, hz, by rw [k.1]; unfold kA; rw [← e1, ← e2, ← e3]⟩, k.2⟩
      cases two
      · exact (kread_fy s rest a b ng w hs (by omega) P.cp P.ct ha hbb n d _ _ rfl rfl hn.symm hd.symm hd0 nK dK _ ht hts).mono good
      · exact (kread_ty s rest a b ng w hs (by omega) (by omega) P.cp P.ct ha hbb n d _ _ rfl rfl hn.symm hd.symm hd0 nK dK _ ht hts).mono good
    · have hts : ((⟨(ktx z).toArray⟩ : ByteArray).toList == s.toList) = false := by
        rw [beq_eq_false_iff_ne, ByteArray.toList_eq, ByteArray.toList_eq]
        exact hz
      have hb : ∀ y, Fits y → ktx y ≠ s.data.toList := fun y fy hy => by
        obtain ⟨k1, k2, k3⟩ := P.tell y hy
        rw [k2, dval_dtx] at hn
        rw [k3, dval_dtx] at hd
        have h2 : y.num.natAbs = z.num.natAbs := by rw [← hn]; exact bstr_inj e2
        have h3 : y.den = z.den := by rw [← hd]; exact bstr_inj e3
        have h4 : y = z := Rat.ext (by rw [← sz_self y.num, ← sz_self z.num, h2, ← k1, ← e1]) h3
        exact hz (h4 ▸ hy)
      cases two
      · exact (kread_fn s rest a b ng w hs (by omega) P.cp P.ct ha hbb n d _ _ rfl rfl hn.symm hd.symm hd0 nK dK _ ht hts).mono (bad hb)
      · exact (kread_tn s rest a b ng w hs (by omega) (by omega) P.cp P.ct ha hbb n d _ _ rfl rfl hn.symm hd.symm hd0 nK dK _ ht hts).mono (bad hb)
end Go.Proofs.YtbhfnigblhfikaaGreat

/- The reference of layer 4: Read. -/
namespace Go.Proofs.YtbhfnigblhfikaaGreat
open Go Go.RowKit Go.PlainAid Fil

/-- a text without its sign -/
def Sgn (s : ByteArray) (ng : Bool) (t : ByteArray) : Prop := (byt s 0 = 45 ∧ ng = true ∧ t = s.extract 1 s.size) ∨ (byt s 0 ≠ 45 ∧ ng = false ∧ t = s)
theorem Sgn.size {s t : ByteArray} {ng : Bool} (h : Sgn s ng t) : t.size ≤ s.size := by
  rcases h with ⟨_, _, rfl⟩ | ⟨_, _, rfl⟩
  · rw [ByteArray.size_extract]; omega
  · exact Nat.le_refl _
theorem sgn_of (s : ByteArray) : ∃ ng t, Sgn s ng t := by
  by_cases h : byt s 0 = 45
  · exact ⟨true, _, .inl ⟨h, rfl, rfl⟩⟩
  · exact ⟨false, _, .inr ⟨h, rfl, rfl⟩⟩
set_option maxRecDepth 1000000 in
set_option maxHeartbeats 2000000 in
theorem p4read_te (s t : ByteArray) (ng : Bool) (w : World) (hs : s.size ≤ 80000) (hsg : Sgn s ng t)
    (i : Nat) (hi : i < t.size) (h47 : byt t i = 47)
    (hn : ∀ k, k < i → byt t k ≠ 47)
    (X Y : ByteArray) (e : Int) (he : (e != 0) = true) (f : Int)
    (h1 : ∀ W, Calls Tryz.prog 29 #[.string (t.extract 0 i)] W fun r w' => r = .returned (.tuple #[.string X, .int .i64 e]) ∧ Below W.heap.size W w')
    (h2 : ∀ W, Calls Tryz.prog 29 #[.string (t.extract (i + 1) t.size)] W fun r w' => r = .returned (.tuple #[.string Y, .int .i64 f]) ∧ Below W.heap.size W w') :
    Calls Tryz.prog 10 #[.string s] w fun r w' => r = .returned (errV 40) ∧ Below w.heap.size w w' := by
  have ht := hsg.size
  have ts : ¬ (80000 : Int) < (s.size : Int) := by omega
  have F2 := Blk.put w #[.bool false, .string { data := #[] }, .string { data := #[] }] 24
  have B0 := (Below.refl w.heap.size w).alloc (Nat.le_refl _) (.cells #[.bool false, .string { data := #[] }, .string { data := #[] }] 24)
  have HN := Lib.hid hn
  have HS := Lib.hid hsg
  clear hn hsg
  go_enter Tryz.func10, Tryz.ntmps10
  go_upto_region 4 with fail
  go_cut [5] (fun s5 wx => s5 = .bool ng ∧ Blk wx (w.heap.size) #[.bool false, .string { data := #[] }, .string { data := #[] }] 24 ∧ Below w.heap.size w wx)
  case first =>
    rcases HS.out with ⟨hb, rfl, _⟩ | ⟨hb, rfl, _⟩
    · have h0 := byt_lt (s := s) (i := 0) (by omega)
      rw [byt_in h0] at hb
      have t1 : (0 : Int) < (s.size : Int) := by omega
      have t2 : (((s[0]'h0).toNat : Int) == 45) = true := by simp; omega
      go_wp2_with fail
      go_meet
      exact ⟨by first | rfl | simp, F2, B0⟩
    · rcases Nat.eq_zero_or_pos s.size with h0 | h0
      · have t1 : ¬ (0 : Int) < (s.size : Int) := by omega
        go_wp2_with fail
        go_meet
        exact ⟨by first | rfl | simp, F2, B0⟩
      · rw [byt_in h0] at hb
        have t1 : (0 : Int) < (s.size : Int) := by omega
        have t2 : (((s[0]'h0).toNat : Int) == 45) = false := by simp; omega
        go_wp2_with fail
        go_meet
        exact ⟨by first | rfl | simp, F2, B0⟩
  case rest =>
    clear B0 F2
    obtain ⟨rfl, F2, B0⟩ := hcut
    generalize wc = v1 at *
    go_upto_if 25 with fail
    go_cut [4] (fun s4 wx => s4 = .string t ∧ Blk wx (w.heap.size) #[.bool false, .string { data := #[] }, .string { data := #[] }] 24 ∧ Below w.heap.size w wx)
    case first =>
      rcases HS.out with ⟨hb, rfl, hE⟩ | ⟨hb, rfl, hE⟩
      · have h0 := byt_lt (s := s) (i := 0) (by omega)
        go_wp2_with fail
        go_meet
        exact ⟨by rw [hE], F2, B0⟩
      · go_wp2_with fail
        go_meet
        exact ⟨by rw [hE], F2, B0⟩
    case rest =>
      clear B0 F2
      obtain ⟨rfl, F2, B0⟩ := hcut
      generalize wc = v2 at *
      go_wp2_with fail
      go_loopg [6] (i + 1) (fun g s6 wr => ∃ k : Nat, k ≤ i ∧ g = i + 1 - k ∧ s6 = .int .i64 k ∧ wr = v2)
      case atStart => exact ⟨0, by omega, by omega, rfl, rfl⟩
      case round =>
        obtain ⟨k, hk, hg, rfl, rfl⟩ := hrel
        by_cases hki : k < i
        · have hkt : k < t.size := by omega
          have hb := HN.out k hki
          rw [byt_in hkt] at hb
          have t1 : decide ((k : Int) < t.size) = true := decide_eq_true (by omega)
          have t2 : (((t[k]'hkt).toNat : Int) != 47) = true := by simp; omega
          clear hb
          go_wp2
          go_roundg (i + 1 - (k + 1))
          case measure => omega
          case rel => exact ⟨k + 1, by omega, rfl, by go_num, rfl⟩
        · obtain rfl : k = i := by omega
          clear hg hki hk
          have hb : byt t k = 47 := h47
          rw [byt_in hi] at hb
          have t1 : decide ((k : Int) < t.size) = true := decide_eq_true (by omega)
          have t2 : (((t[k]'hi).toNat : Int) != 47) = false := by simp; omega
          have e1 : ((k : Int) + 1).toNat = k + 1 := by omega
          clear hb h47
          go_wp2_with fail
          refine (h1 _).mono ?_
          rintro r w1 ⟨rfl, hB⟩
          replace F2 := F2.keep hB
          replace B0 := B0.trans (hB.mono B0.size)
          clear hB
          go_wp2_with fail
          refine (h2 _).mono ?_
          rintro r w1 ⟨rfl, hB⟩
          replace F2 := F2.keep hB
          replace B0 := B0.trans (hB.mono B0.size)
          clear hB
          have q_F2_F11 : Hid (w.heap.size < w1.heap.size) := Lib.hid (by have := F2.lt; exact this)
          replace F2 := F2.allocd (.cells #[.bool ng, .string X, .string Y] 24)
          have F11 := Blk.put w1 #[.bool ng, .string X, .string Y] 24
          replace B0 := B0.alloc B0.size (.cells #[.bool ng, .string X, .string Y] 24)
          obtain ⟨x0, x1, x2⟩ := F11.ce3
          obtain ⟨z0, z1, z2⟩ := F2.ce3
          obtain ⟨f0, f1, f2⟩ := F2.fr3
          replace F2 : Blk (((((w1.alloc (.cells #[.bool ng, .string X, .string Y] 24))).setCell ⟨w.heap.size, 0, none⟩ (.bool false)).setCell ⟨w.heap.size, 1, none⟩ (.string { data := #[] })).setCell ⟨w.heap.size, 2, none⟩ (.string { data := #[] })) (w.heap.size) #[.bool false, .string { data := #[] }, .string { data := #[] }] 24 := (((F2.setAt 0 (.bool false)).setAt 1 (.string { data := #[] })).setAt 2 (.string { data := #[] }))
          replace B0 := (((B0.setCell (p := ⟨w.heap.size, 0, none⟩) (Nat.le_refl _) (.bool false)).setCell (p := ⟨w.heap.size, 1, none⟩) (Nat.le_refl _) (.string { data := #[] })).setCell (p := ⟨w.heap.size, 2, none⟩) (Nat.le_refl _) (.string { data := #[] }))
          obtain ⟨y0, y1, y2⟩ := F2.ce3
          go_wp2
          exact bodyPost_ret (v := errV 40) (by simp [results, Tryz.results10, go_sem, y0, y1, y2, errV]) rfl ⟨rfl, B0⟩
set_option maxRecDepth 1000000 in
set_option maxHeartbeats 2000000 in
theorem p4read_tf (s t : ByteArray) (ng : Bool) (w : World) (hs : s.size ≤ 80000) (hsg : Sgn s ng t)
    (i : Nat) (hi : i < t.size) (h47 : byt t i = 47)
    (hn : ∀ k, k < i → byt t k ≠ 47)
    (X Y : ByteArray) (f : Int) (hf : (f != 0) = true)
    (h1 : ∀ W, Calls Tryz.prog 29 #[.string (t.extract 0 i)] W fun r w' => r = .returned (.tuple #[.string X, .int .i64 0]) ∧ Below W.heap.size W w')
    (h2 : ∀ W, Calls Tryz.prog 29 #[.string (t.extract (i + 1) t.size)] W fun r w' => r = .returned (.tuple #[.string Y, .int .i64 f]) ∧ Below W.heap.size W w') :
    Calls Tryz.prog 10 #[.string s] w fun r w' => r = .returned (errV 40) ∧ Below w.heap.size w w' := by
  have ht := hsg.size
  have ts : ¬ (80000 : Int) < (s.size : Int) := by omega
  have F2 := Blk.put w #[.bool false, .string { data := #[] }, .string { data := #[] }] 24
  have B0 := (Below.refl w.heap.size w).alloc (Nat.le_refl _) (.cells #[.bool false, .string { data := #[] }, .string { data := #[] }] 24)
  have HN := Lib.hid hn
  have HS := Lib.hid hsg
  clear hn hsg
  go_enter Tryz.func10, Tryz.ntmps10
  go_upto_region 4 with fail
  go_cut [5] (fun s5 wx => s5 = .bool ng ∧ Blk wx (w.heap.size) #[.bool false, .string { data := #[] }, .string { data := #[] }] 24 ∧ Below w.heap.size w wx)
  case first =>
    rcases HS.out with ⟨hb, rfl, _⟩ | ⟨hb, rfl, _⟩
    · have h0 := byt_lt (s := s) (i := 0) (by omega)
      rw [byt_in h0] at hb
      have t1 : (0 : Int) < (s.size : Int) := by omega
      have t2 : (((s[0]'h0).toNat : Int) == 45) = true := by simp; omega
      go_wp2_with fail
      go_meet
      exact ⟨by first | rfl | simp, F2, B0⟩
    · rcases Nat.eq_zero_or_pos s.size with h0 | h0
      · have t1 : ¬ (0 : Int) < (s.size : Int) := by omega
        go_wp2_with fail
        go_meet
        exact ⟨by first | rfl | simp, F2, B0⟩
      · rw [byt_in h0] at hb
        have t1 : (0 : Int) < (s.size : Int) := by omega
        have t2 : (((s[0]'h0).toNat : Int) == 45) = false := by simp; omega
        go_wp2_with fail
        go_meet
        exact ⟨by first | rfl | simp, F2, B0⟩
  case rest =>
    clear B0 F2
    obtain ⟨rfl, F2, B0⟩ := hcut
    generalize wc = v1 at *
    go_upto_if 25 with fail
    go_cut [4] (fun s4 wx => s4 = .string t ∧ Blk wx (w.heap.size) #[.bool false, .string { data := #[] }, .string { data := #[] }] 24 ∧ Below w.heap.size w wx)
    case first =>
      rcases HS.out with ⟨hb, rfl, hE⟩ | ⟨hb, rfl, hE⟩
      · have h0 := byt_lt (s := s) (i := 0) (by omega)
        go_wp2_with fail
        go_meet
        exact ⟨by rw [hE], F2, B0⟩
      · go_wp2_with fail
        go_meet
        exact ⟨by rw [hE], F2, B0⟩
    case rest =>
      clear B0 F2
      obtain ⟨rfl, F2, B0⟩ := hcut
      generalize wc = v2 at *
      go_wp2_with fail
      go_loopg [6] (i + 1) (fun g s6 wr => ∃ k : Nat, k ≤ i ∧ g = i + 1 - k ∧ s6 = .int .i64 k ∧ wr = v2)
      case atStart => exact ⟨0, by omega, by omega, rfl, rfl⟩
      case round =>
        obtain ⟨k, hk, hg, rfl, rfl⟩ := hrel
        by_cases hki : k < i
        · have hkt : k < t.size := by omega
          have hb := HN.out k hki
          rw [byt_in hkt] at hb
          have t1 : decide ((k : Int) < t.size) = true := decide_eq_true (by omega)
          have t2 : (((t[k]'hkt).toNat : Int) != 47) = true := by simp; omega
          clear hb
          go_wp2
          go_roundg (i + 1 - (k + 1))
          case measure => omega
          case rel => exact ⟨k + 1, by omega, rfl, by go_num, rfl⟩
        · obtain rfl : k = i := by omega
          clear hg hki hk
          have hb : byt t k = 47 := h47
          rw [byt_in hi] at hb
          have t1 : decide ((k : Int) < t.size) = true := decide_eq_true (by omega)
          have t2 : (((t[k]'hi).toNat : Int) != 47) = false := by simp; omega
          have e1 : ((k : Int) + 1).toNat = k + 1 := by omega
          clear hb h47
          go_wp2_with fail
          refine (h1 _).mono ?_
          rintro r w1 ⟨rfl, hB⟩
          replace F2 := F2.keep hB
          replace B0 := B0.trans (hB.mono B0.size)
          clear hB
          go_wp2_with fail
          refine (h2 _).mono ?_
          rintro r w1 ⟨rfl, hB⟩
          replace F2 := F2.keep hB
          replace B0 := B0.trans (hB.mono B0.size)
          clear hB
          have q_F2_F11 : Hid (w.heap.size < w1.heap.size) := Lib.hid (by have := F2.lt; exact this)
          replace F2 := F2.allocd (.cells #[.bool ng, .string X, .string Y] 24)
          have F11 := Blk.put w1 #[.bool ng, .string X, .string Y] 24
          replace B0 := B0.alloc B0.size (.cells #[.bool ng, .string X, .string Y] 24)
          obtain ⟨x0, x1, x2⟩ := F11.ce3
          obtain ⟨z0, z1, z2⟩ := F2.ce3
          obtain ⟨f0, f1, f2⟩ := F2.fr3
          replace F2 : Blk (((((w1.alloc (.cells #[.bool ng, .string X, .string Y] 24))).setCell ⟨w.heap.size, 0, none⟩ (.bool false)).setCell ⟨w.heap.size, 1, none⟩ (.string { data := #[] })).setCell ⟨w.heap.size, 2, none⟩ (.string { data := #[] })) (w.heap.size) #[.bool false, .string { data := #[] }, .string { data := #[] }] 24 := (((F2.setAt 0 (.bool false)).setAt 1 (.string { data := #[] })).setAt 2 (.string { data := #[] }))
          replace B0 := (((B0.setCell (p := ⟨w.heap.size, 0, none⟩) (Nat.le_refl _) (.bool false)).setCell (p := ⟨w.heap.size, 1, none⟩) (Nat.le_refl _) (.string { data := #[] })).setCell (p := ⟨w.heap.size, 2, none⟩) (Nat.le_refl _) (.string { data := #[] }))
          obtain ⟨y0, y1, y2⟩ := F2.ce3
          go_wp2
          exact bodyPost_ret (v := errV 40) (by simp [results, Tryz.results10, go_sem, y0, y1, y2, errV]) rfl ⟨rfl, B0⟩
set_option maxRecDepth 1000000 in
set_option maxHeartbeats 2000000 in
theorem p4read_tm (s t : ByteArray) (ng : Bool) (w : World) (hs : s.size ≤ 80000) (hsg : Sgn s ng t)
    (i : Nat) (hi : i < t.size) (h47 : byt t i = 47)
    (hn : ∀ k, k < i → byt t k ≠ 47)
    (X Y : ByteArray)
    (h1 : ∀ W, Calls Tryz.prog 29 #[.string (t.extract 0 i)] W fun r w' => r = .returned (.tuple #[.string X, .int .i64 0]) ∧ Below W.heap.size W w')
    (h2 : ∀ W, Calls Tryz.prog 29 #[.string (t.extract (i + 1) t.size)] W fun r w' => r = .returned (.tuple #[.string Y, .int .i64 0]) ∧ Below W.heap.size W w')
    (h3 : ∀ W, Calls Tryz.prog 7 #[.agg #[.bool ng, .string X, .string Y]] W fun r w' => r = .returned (.bool false) ∧ Below W.heap.size W w') :
    Calls Tryz.prog 10 #[.string s] w fun r w' => r = .returned (errV 40) ∧ Below w.heap.size w w' := by
  have ht := hsg.size
  have ts : ¬ (80000 : Int) < (s.size : Int) := by omega
  have F2 := Blk.put w #[.bool false, .string { data := #[] }, .string { data := #[] }] 24
  have B0 := (Below.refl w.heap.size w).alloc (Nat.le_refl _) (.cells #[.bool false, .string { data := #[] }, .string { data := #[] }] 24)
  have HN := Lib.hid hn
  have HS := Lib.hid hsg
  clear hn hsg
  go_enter Tryz.func10, Tryz.ntmps10
  go_upto_region 4 with fail
  go_cut [5] (fun s5 wx => s5 = .bool ng ∧ Blk wx (w.heap.size) #[.bool false, .string { data := #[] }, .string { data := #[] }] 24 ∧ Below w.heap.size w wx)
  case first =>
    rcases HS.out with ⟨hb, rfl, _⟩ | ⟨hb, rfl, _⟩
    · have h0 := byt_lt (s := s) (i := 0) (by omega)
      rw [byt_in h0] at hb
      have t1 : (0 : Int) < (s.size : Int) := by omega
      have t2 : (((s[0]'h0).toNat : Int) == 45) = true := by simp; omega
      go_wp2_with fail
      go_meet
      exact ⟨by first | rfl | simp, F2, B0⟩
    · rcases Nat.eq_zero_or_pos s.size with h0 | h0
      · have t1 : ¬ (0 : Int) < (s.size : Int) := by omega
        go_wp2_with fail
        go_meet
        exact ⟨by first | rfl | simp, F2, B0⟩
      · rw [byt_in h0] at hb
        have t1 : (0 : Int) < (s.size : Int) := by omega
        have t2 : (((s[0]'h0).toNat : Int) == 45) = false := by simp; omega
        go_wp2_with fail
        go_meet
        exact ⟨by first | rfl | simp, F2, B0⟩
  case rest =>
    clear B0 F2
    obtain ⟨rfl, F2, B0⟩ := hcut
    generalize wc = v1 at *
    go_upto_if 25 with fail
    go_cut [4] (fun s4 wx => s4 = .string t ∧ Blk wx (w.heap.size) #[.bool false, .string { data := #[] }, .string { data := #[] }] 24 ∧ Below w.heap.size w wx)
    case first =>
      rcases HS.out with ⟨hb, rfl, hE⟩ | ⟨hb, rfl, hE⟩
      · have h0 := byt_lt (s := s) (i := 0) (by omega)
        go_wp2_with fail
        go_meet
        exact ⟨by rw [hE], F2, B0⟩
      · go_wp2_with fail
        go_meet
        exact ⟨by rw [hE], F2, B0⟩
    case rest =>
      clear B0 F2
      obtain ⟨rfl, F2, B0⟩ := hcut
      generalize wc = v2 at *
      go_wp2_with fail
      go_loopg [6] (i + 1) (fun g s6 wr => ∃ k : Nat, k ≤ i ∧ g = i + 1 - k ∧ s6 = .int .i64 k ∧ wr = v2)
      case atStart => exact ⟨0, by omega, by omega, rfl, rfl⟩
      case round =>
        obtain ⟨k, hk, hg, rfl, rfl⟩ := hrel
        by_cases hki : k < i
        · have hkt : k < t.size := by omega
          have hb := HN.out k hki
          rw [byt_in hkt] at hb
          have t1 : decide ((k : Int) < t.size) = true := decide_eq_true (by omega)
          have t2 : (((t[k]'hkt).toNat : Int) != 47) = true := by simp; omega
          clear hb
          go_wp2
          go_roundg (i + 1 - (k + 1))
          case measure => omega
          case rel => exact ⟨k + 1, by omega, rfl, by go_num, rfl⟩
        · obtain rfl : k = i := by omega
          clear hg hki hk
          have hb : byt t k = 47 := h47
          rw [byt_in hi] at hb
          have t1 : decide ((k : Int) < t.size) = true := decide_eq_true (by omega)
          have t2 : (((t[k]'hi).toNat : Int) != 47) = false := by simp; omega
          have e1 : ((k : Int) + 1).toNat = k + 1 := by omega
          clear hb h47
          go_wp2_with fail
          refine (h1 _).mono ?_
          rintro r w1 ⟨rfl, hB⟩
          replace F2 := F2.keep hB
          replace B0 := B0.trans (hB.mono B0.size)
          clear hB
          go_wp2_with fail
          refine (h2 _).mono ?_
          rintro r w1 ⟨rfl, hB⟩
          replace F2 := F2.keep hB
          replace B0 := B0.trans (hB.mono B0.size)
          clear hB
          have q_F2_F11 : Hid (w.heap.size < w1.heap.size) := Lib.hid (by have := F2.lt; exact this)
          replace F2 := F2.allocd (.cells #[.bool ng, .string X, .string Y] 24)
          have F11 := Blk.put w1 #[.bool ng, .string X, .string Y] 24
          replace B0 := B0.alloc B0.size (.cells #[.bool ng, .string X, .string Y] 24)
          obtain ⟨x0, x1, x2⟩ := F11.ce3
          go_wp2_with fail
          refine (h3 _).mono ?_
          rintro r w1 ⟨rfl, hB⟩
          clear x0 x1 x2
          replace F2 := F2.keep hB
          replace F11 := F11.keep hB
          replace B0 := B0.trans (hB.mono B0.size)
          clear hB
          obtain ⟨x0, x1, x2⟩ := F11.ce3
          obtain ⟨z0, z1, z2⟩ := F2.ce3
          obtain ⟨f0, f1, f2⟩ := F2.fr3
          replace F2 : Blk ((((w1).setCell ⟨w.heap.size, 0, none⟩ (.bool false)).setCell ⟨w.heap.size, 1, none⟩ (.string { data := #[] })).setCell ⟨w.heap.size, 2, none⟩ (.string { data := #[] })) (w.heap.size) #[.bool false, .string { data := #[] }, .string { data := #[] }] 24 := (((F2.setAt 0 (.bool false)).setAt 1 (.string { data := #[] })).setAt 2 (.string { data := #[] }))
          replace B0 := (((B0.setCell (p := ⟨w.heap.size, 0, none⟩) (Nat.le_refl _) (.bool false)).setCell (p := ⟨w.heap.size, 1, none⟩) (Nat.le_refl _) (.string { data := #[] })).setCell (p := ⟨w.heap.size, 2, none⟩) (Nat.le_refl _) (.string { data := #[] }))
          obtain ⟨y0, y1, y2⟩ := F2.ce3
          go_wp2
          exact bodyPost_ret (v := errV 40) (by simp [results, Tryz.results10, go_sem, y0, y1, y2, errV]) rfl ⟨rfl, B0⟩
set_option maxRecDepth 1000000 in
set_option maxHeartbeats 2000000 in
theorem p4read_tt (s t : ByteArray) (ng : Bool) (w : World) (hs : s.size ≤ 80000) (hsg : Sgn s ng t)
    (i : Nat) (hi : i < t.size) (h47 : byt t i = 47)
    (hn : ∀ k, k < i → byt t k ≠ 47)
    (X Y T : ByteArray)
    (h1 : ∀ W, Calls Tryz.prog 29 #[.string (t.extract 0 i)] W fun r w' => r = .returned (.tuple #[.string X, .int .i64 0]) ∧ Below W.heap.size W w')
    (h2 : ∀ W, Calls Tryz.prog 29 #[.string (t.extract (i + 1) t.size)] W fun r w' => r = .returned (.tuple #[.string Y, .int .i64 0]) ∧ Below W.heap.size W w')
    (h3 : ∀ W, Calls Tryz.prog 7 #[.agg #[.bool ng, .string X, .string Y]] W fun r w' => r = .returned (.bool true) ∧ Below W.heap.size W w')
    (h4 : ∀ W, Calls Tryz.prog 8 #[.agg #[.bool ng, .string X, .string Y]] W fun r w' => r = .returned (.string T) ∧ Below W.heap.size W w')
    (hts : ¬ T.toList = s.toList) :
    Calls Tryz.prog 10 #[.string s] w fun r w' => r = .returned (errV 40) ∧ Below w.heap.size w w' := by
  have ht := hsg.size
  have ts : ¬ (80000 : Int) < (s.size : Int) := by omega
  have F2 := Blk.put w #[.bool false, .string { data := #[] }, .string { data := #[] }] 24
  have B0 := (Below.refl w.heap.size w).alloc (Nat.le_refl _) (.cells #[.bool false, .string { data := #[] }, .string { data := #[] }] 24)
  have HN := Lib.hid hn
  have HS := Lib.hid hsg
  clear hn hsg
  go_enter Tryz.func10, Tryz.ntmps10
  go_upto_region 4 with fail
  go_cut [5] (fun s5 wx => s5 = .bool ng ∧ Blk wx (w.heap.size) #[.bool false, .string { data := #[] }, .string { data := #[] }] 24 ∧ Below w.heap.size w wx)
  case first =>
    rcases HS.out with ⟨hb, rfl, _⟩ | ⟨hb, rfl, _⟩
    · have h0 := byt_lt (s := s) (i := 0) (by omega)
      rw [byt_in h0] at hb
      have t1 : (0 : Int) < (s.size : Int) := by omega
      have t2 : (((s[0]'h0).toNat : Int) == 45) = true := by simp; omega
      go_wp2_with fail
      go_meet
      exact ⟨by first | rfl | simp, F2, B0⟩
    · rcases Nat.eq_zero_or_pos s.size with h0 | h0
      · have t1 : ¬ (0 : Int) < (s.size : Int) := by omega
        go_wp2_with fail
        go_meet
        exact ⟨by first | rfl | simp, F2, B0⟩
      · rw [byt_in h0] at hb
        have t1 : (0 : Int) < (s.size : Int) := by omega
        have t2 : (((s[0]'h0).toNat : Int) == 45) = false := by simp; omega
        go_wp2_with fail
        go_meet
        exact ⟨by first | rfl | simp, F2, B0⟩
  case rest =>
    clear B0 F2
    obtain ⟨rfl, F2, B0⟩ := hcut
    generalize wc = v1 at *
    go_upto_if 25 with fail
    go_cut [4] (fun s4 wx => s4 = .string t ∧ Blk wx (w.heap.size) #[.bool false, .string { data := #[] }, .string { data := #[] }] 24 ∧ Below w.heap.size w wx)
    case first =>
      rcases HS.out with ⟨hb, rfl, hE⟩ | ⟨hb, rfl, hE⟩
      · have h0 := byt_lt (s := s) (i := 0) (by omega)
        go_wp2_with fail
        go_meet
        exact ⟨by rw [hE], F2, B0⟩
      · go_wp2_with fail
        go_meet
        exact ⟨by rw [hE], F2, B0⟩
    case rest =>
      clear B0 F2
      obtain ⟨rfl, F2, B0⟩ := hcut
      generalize wc = v2 at *
      go_wp2_with fail
      go_loopg [6] (i + 1) (fun g s6 wr => ∃ k : Nat, k ≤ i ∧ g = i + 1 - k ∧ s6 = .int .i64 k ∧ wr = v2)
      case atStart => exact ⟨0, by omega, by omega, rfl, rfl⟩
      case round =>
        obtain ⟨k, hk, hg, rfl, rfl⟩ := hrel
        by_cases hki : k < i
        · have hkt : k < t.size := by omega
          have hb := HN.out k hki
          rw [byt_in hkt] at hb
          have t1 : decide ((k : Int) < t.size) = true := decide_eq_true (by omega)
          have t2 : (((t[k]'hkt).toNat : Int) != 47) = true := by simp; omega
          clear hb
          go_wp2
          go_roundg (i + 1 - (k + 1))
          case measure => omega
          case rel => exact ⟨k + 1, by omega, rfl, by go_num, rfl⟩
        · obtain rfl : k = i := by omega
          clear hg hki hk
          have hb : byt t k = 47 := h47
          rw [byt_in hi] at hb
          have t1 : decide ((k : Int) < t.size) = true := decide_eq_true (by omega)
          have t2 : (((t[k]'hi).toNat : Int) != 47) = false := by simp; omega
          have e1 : ((k : Int) + 1).toNat = k + 1 := by omega
          clear hb h47
          go_wp2_with fail
          refine (h1 _).mono ?_
          rintro r w1 ⟨rfl, hB⟩
          replace F2 := F2.keep hB
          replace B0 := B0.trans (hB.mono B0.size)
          clear hB
          go_wp2_with fail
          refine (h2 _).mono ?_
          rintro r w1 ⟨rfl, hB⟩
          replace F2 := F2.keep hB
          replace B0 := B0.trans (hB.mono B0.size)
          clear hB
          have q_F2_F11 : Hid (w.heap.size < w1.heap.size) := Lib.hid (by have := F2.lt; exact this)
          replace F2 := F2.allocd (.cells #[.bool ng, .string X, .string Y] 24)
          have F11 := Blk.put w1 #[.bool ng, .string X, .string Y] 24
          replace B0 := B0.alloc B0.size (.cells #[.bool ng, .string X, .string Y] 24)
          obtain ⟨x0, x1, x2⟩ := F11.ce3
          go_wp2_with fail
          refine (h3 _).mono ?_
          rintro r w1 ⟨rfl, hB⟩
          clear x0 x1 x2
          replace F2 := F2.keep hB
          replace F11 := F11.keep hB
          replace B0 := B0.trans (hB.mono B0.size)
          clear hB
          obtain ⟨x0, x1, x2⟩ := F11.ce3
          go_wp2_with fail
          refine (h4 _).mono ?_
          rintro r w1 ⟨rfl, hB⟩
          clear x0 x1 x2
          replace F2 := F2.keep hB
          replace F11 := F11.keep hB
          replace B0 := B0.trans (hB.mono B0.size)
          clear hB
          obtain ⟨x0, x1, x2⟩ := F11.ce3
          have hts2 : (T.toList != s.toList) = true := by simpa using hts
          have hts3 : (T.toList == s.toList) = false := by simpa using hts
          have hts4 : ¬ s.toList = T.toList := fun h => hts h.symm
          clear hts
          obtain ⟨z0, z1, z2⟩ := F2.ce3
          obtain ⟨f0, f1, f2⟩ := F2.fr3
          replace F2 : Blk ((((w1).setCell ⟨w.heap.size, 0, none⟩ (.bool false)).setCell ⟨w.heap.size, 1, none⟩ (.string { data := #[] })).setCell ⟨w.heap.size, 2, none⟩ (.string { data := #[] })) (w.heap.size) #[.bool false, .string { data := #[] }, .string { data := #[] }] 24 := (((F2.setAt 0 (.bool false)).setAt 1 (.string { data := #[] })).setAt 2 (.string { data := #[] }))
          replace B0 := (((B0.setCell (p := ⟨w.heap.size, 0, none⟩) (Nat.le_refl _) (.bool false)).setCell (p := ⟨w.heap.size, 1, none⟩) (Nat.le_refl _) (.string { data := #[] })).setCell (p := ⟨w.heap.size, 2, none⟩) (Nat.le_refl _) (.string { data := #[] }))
          obtain ⟨y0, y1, y2⟩ := F2.ce3
          go_wp2
          exact bodyPost_ret (v := errV 40) (by simp [results, Tryz.results10, go_sem, y0, y1, y2, errV]) rfl ⟨rfl, B0⟩
set_option maxRecDepth 1000000 in
set_option maxHeartbeats 2000000 in
theorem p4read_tk (s t : ByteArray) (ng : Bool) (w : World) (hs : s.size ≤ 80000) (hsg : Sgn s ng t)
    (i : Nat) (hi : i < t.size) (h47 : byt t i = 47)
    (hn : ∀ k, k < i → byt t k ≠ 47)
    (X Y T : ByteArray)
    (h1 : ∀ W, Calls Tryz.prog 29 #[.string (t.extract 0 i)] W fun r w' => r = .returned (.tuple #[.string X, .int .i64 0]) ∧ Below W.heap.size W w')
    (h2 : ∀ W, Calls Tryz.prog 29 #[.string (t.extract (i + 1) t.size)] W fun r w' => r = .returned (.tuple #[.string Y, .int .i64 0]) ∧ Below W.heap.size W w')
    (h3 : ∀ W, Calls Tryz.prog 7 #[.agg #[.bool ng, .string X, .string Y]] W fun r w' => r = .returned (.bool true) ∧ Below W.heap.size W w')
    (h4 : ∀ W, Calls Tryz.prog 8 #[.agg #[.bool ng, .string X, .string Y]] W fun r w' => r = .returned (.string T) ∧ Below W.heap.size W w')
    (hts : T.toList = s.toList) :
    Calls Tryz.prog 10 #[.string s] w fun r w' => r = .returned (.tuple #[.agg #[.bool ng, .string X, .string Y], .int .i64 0]) ∧ Below w.heap.size w w' := by
  have ht := hsg.size
  have ts : ¬ (80000 : Int) < (s.size : Int) := by omega
  have F2 := Blk.put w #[.bool false, .string { data := #[] }, .string { data := #[] }] 24
  have B0 := (Below.refl w.heap.size w).alloc (Nat.le_refl _) (.cells #[.bool false, .string { data := #[] }, .string { data := #[] }] 24)
  have HN := Lib.hid hn
  have HS := Lib.hid hsg
  clear hn hsg
  go_enter Tryz.func10, Tryz.ntmps10
  go_upto_region 4 with fail
  go_cut [5] (fun s5 wx => s5 = .bool ng ∧ Blk wx (w.heap.size) #[.bool false, .string { data := #[] }, .string { data := #[] }] 24 ∧ Below w.heap.size w wx)
  case first =>
    rcases HS.out with ⟨hb, rfl, _⟩ | ⟨hb, rfl, _⟩
    · have h0 := byt_lt (s := s) (i := 0) (by omega)
      rw [byt_in h0] at hb
      have t1 : (0 : Int) < (s.size : Int) := by omega
      have t2 : (((s[0]'h0).toNat : Int) == 45) = true := by simp; omega
      go_wp2_with fail
      go_meet
      exact ⟨by first | rfl | simp, F2, B0⟩
    · rcases Nat.eq_zero_or_pos s.size with h0 | h0
      · have t1 : ¬ (0 : Int) < (s.size : Int) := by omega
        go_wp2_with fail
        go_meet
        exact ⟨by first | rfl | simp, F2, B0⟩
      · rw [byt_in h0] at hb
        have t1 : (0 : Int) < (s.size : Int) := by omega
        have t2 : (((s[0]'h0).toNat : Int) == 45) = false := by simp; omega
        go_wp2_with fail
        go_meet
        exact ⟨by first | rfl | simp, F2, B0⟩
  case rest =>
    clear B0 F2
    obtain ⟨rfl, F2, B0⟩ := hcut
    generalize wc = v1 at *
    go_upto_if 25 with fail
    go_cut [4] (fun s4 wx => s4 = .string t ∧ Blk wx (w.heap.size) #[.bool false, .string { data := #[] }, .string { data := #[] }] 24 ∧ Below w.heap.size w wx)
    case first =>
      rcases HS.out with ⟨hb, rfl, hE⟩ | ⟨hb, rfl, hE⟩
      · have h0 := byt_lt (s := s) (i := 0) (by omega)
        go_wp2_with fail
        go_meet
        exact ⟨by rw [hE], F2, B0⟩
      · go_wp2_with fail
        go_meet
        exact ⟨by rw [hE], F2, B0⟩
    case rest =>
      clear B0 F2
      obtain ⟨rfl, F2, B0⟩ := hcut
      generalize wc = v2 at *
      go_wp2_with fail
      go_loopg [6] (i + 1) (fun g s6 wr => ∃ k : Nat, k ≤ i ∧ g = i + 1 - k ∧ s6 = .int .i64 k ∧ wr = v2)
      case atStart => exact ⟨0, by omega, by omega, rfl, rfl⟩
      case round =>
        obtain ⟨k, hk, hg, rfl, rfl⟩ := hrel
        by_cases hki : k < i
        · have hkt : k < t.size := by omega
          have hb := HN.out k hki
          rw [byt_in hkt] at hb
          have t1 : decide ((k : Int) < t.size) = true := decide_eq_true (by omega)
          have t2 : (((t[k]'hkt).toNat : Int) != 47) = true := by simp; omega
          clear hb
          go_wp2
          go_roundg (i + 1 - (k + 1))
          case measure => omega
          case rel => exact ⟨k + 1, by omega, rfl, by go_num, rfl⟩
        · obtain rfl : k = i := by omega
          clear hg hki hk
          have hb : byt t k = 47 := h47
          rw [byt_in hi] at hb
          have t1 : decide ((k : Int) < t.size) = true := decide_eq_true (by omega)
          have t2 : (((t[k]'hi).toNat : Int) != 47) = false := by simp; omega
          have e1 : ((k : Int) + 1).toNat = k + 1 := by omega
          clear hb h47
          go_wp2_with fail
          refine (h1 _).mono ?_
          rintro r w1 ⟨rfl, hB⟩
          replace F2 := F2.keep hB
          replace B0 := B0.trans (hB.mono B0.size)
          clear hB
          go_wp2_with fail
          refine (h2 _).mono ?_
          rintro r w1 ⟨rfl, hB⟩
          replace F2 := F2.keep hB
          replace B0 := B0.trans (hB.mono B0.size)
          clear hB
          have q_F2_F11 : Hid (w.heap.size < w1.heap.size) := Lib.hid (by have := F2.lt; exact this)
          replace F2 := F2.allocd (.cells #[.bool ng, .string X, .string Y] 24)
          have F11 := Blk.put w1 #[.bool ng, .string X, .string Y] 24
          replace B0 := B0.alloc B0.size (.cells #[.bool ng, .string X, .string Y] 24)
          obtain ⟨x0, x1, x2⟩ := F11.ce3
          go_wp2_with fail
          refine (h3 _).mono ?_
          rintro r w1 ⟨rfl, hB⟩
          clear x0 x1 x2
          replace F2 := F2.keep hB
          replace F11 := F11.keep hB
          replace B0 := B0.trans (hB.mono B0.size)
          clear hB
          obtain ⟨x0, x1, x2⟩ := F11.ce3
          go_wp2_with fail
          refine (h4 _).mono ?_
          rintro r w1 ⟨rfl, hB⟩
          clear x0 x1 x2
          replace F2 := F2.keep hB
          replace F11 := F11.keep hB
          replace B0 := B0.trans (hB.mono B0.size)
          clear hB
          obtain ⟨x0, x1, x2⟩ := F11.ce3
          obtain ⟨z0, z1, z2⟩ := F2.ce3
          obtain ⟨f0, f1, f2⟩ := F2.fr3
          replace F2 : Blk ((((w1).setCell ⟨w.heap.size, 0, none⟩ (.bool ng)).setCell ⟨w.heap.size, 1, none⟩ (.string X)).setCell ⟨w.heap.size, 2, none⟩ (.string Y)) (w.heap.size) #[.bool ng, .string X, .string Y] 24 := (((F2.setAt 0 (.bool ng)).setAt 1 (.string X)).setAt 2 (.string Y))
          replace B0 := (((B0.setCell (p := ⟨w.heap.size, 0, none⟩) (Nat.le_refl _) (.bool ng)).setCell (p := ⟨w.heap.size, 1, none⟩) (Nat.le_refl _) (.string X)).setCell (p := ⟨w.heap.size, 2, none⟩) (Nat.le_refl _) (.string Y))
          obtain ⟨y0, y1, y2⟩ := F2.ce3
          go_wp2
          exact bodyPost_ret (v := .tuple #[.agg #[.bool ng, .string X, .string Y], .int .i64 0]) (by simp [results, Tryz.results10, go_sem, y0, y1, y2]) rfl ⟨rfl, B0⟩
set_option maxRecDepth 1000000 in
set_option maxHeartbeats 2000000 in
theorem p4read_fe (s t : ByteArray) (ng : Bool) (w : World) (hs : s.size ≤ 80000) (hsg : Sgn s ng t)
    (hn : ∀ k, k < t.size → byt t k ≠ 47)
    (X : ByteArray) (e : Int) (he : (e != 0) = true)
    (h1 : ∀ W, Calls Tryz.prog 29 #[.string t] W fun r w' => r = .returned (.tuple #[.string X, .int .i64 e]) ∧ Below W.heap.size W w') :
    Calls Tryz.prog 10 #[.string s] w fun r w' => r = .returned (errV 40) ∧ Below w.heap.size w w' := by
  have ht := hsg.size
  have ts : ¬ (80000 : Int) < (s.size : Int) := by omega
  have F2 := Blk.put w #[.bool false, .string { data := #[] }, .string { data := #[] }] 24
  have B0 := (Below.refl w.heap.size w).alloc (Nat.le_refl _) (.cells #[.bool false, .string { data := #[] }, .string { data := #[] }] 24)
  have HN := Lib.hid hn
  have HS := Lib.hid hsg
  clear hn hsg
  go_enter Tryz.func10, Tryz.ntmps10
  go_upto_region 4 with fail
  go_cut [5] (fun s5 wx => s5 = .bool ng ∧ Blk wx (w.heap.size) #[.bool false, .string { data := #[] }, .string { data := #[] }] 24 ∧ Below w.heap.size w wx)
  case first =>
    rcases HS.out with ⟨hb, rfl, _⟩ | ⟨hb, rfl, _⟩
    · have h0 := byt_lt (s := s) (i := 0) (by omega)
      rw [byt_in h0] at hb
      have t1 : (0 : Int) < (s.size : Int) := by omega
      have t2 : (((s[0]'h0).toNat : Int) == 45) = true := by simp; omega
      go_wp2_with fail
      go_meet
      exact ⟨by first | rfl | simp, F2, B0⟩
    · rcases Nat.eq_zero_or_pos s.size with h0 | h0
      · have t1 : ¬ (0 : Int) < (s.size : Int) := by omega
        go_wp2_with fail
        go_meet
        exact ⟨by first | rfl | simp, F2, B0⟩
      · rw [byt_in h0] at hb
        have t1 : (0 : Int) < (s.size : Int) := by omega
        have t2 : (((s[0]'h0).toNat : Int) == 45) = false := by simp; omega
        go_wp2_with fail
        go_meet
        exact ⟨by first | rfl | simp, F2, B0⟩
  case rest =>
    clear B0 F2
    obtain ⟨rfl, F2, B0⟩ := hcut
    generalize wc = v1 at *
    go_upto_if 25 with fail
    go_cut [4] (fun s4 wx => s4 = .string t ∧ Blk wx (w.heap.size) #[.bool false, .string { data := #[] }, .string { data := #[] }] 24 ∧ Below w.heap.size w wx)
    case first =>
      rcases HS.out with ⟨hb, rfl, hE⟩ | ⟨hb, rfl, hE⟩
      · have h0 := byt_lt (s := s) (i := 0) (by omega)
        go_wp2_with fail
        go_meet
        exact ⟨by rw [hE], F2, B0⟩
      · go_wp2_with fail
        go_meet
        exact ⟨by rw [hE], F2, B0⟩
    case rest =>
      clear B0 F2
      obtain ⟨rfl, F2, B0⟩ := hcut
      generalize wc = v2 at *
      go_wp2_with fail
      go_loopg [6] (t.size + 1) (fun g s6 wr => ∃ k : Nat, k ≤ t.size ∧ g = t.size + 1 - k ∧ s6 = .int .i64 k ∧ wr = v2)
      case atStart => exact ⟨0, by omega, by omega, rfl, rfl⟩
      case round =>
        obtain ⟨k, hk, hg, rfl, rfl⟩ := hrel
        by_cases hki : k < t.size
        · have hkt : k < t.size := by omega
          have hb := HN.out k hki
          rw [byt_in hkt] at hb
          have t1 : decide ((k : Int) < t.size) = true := decide_eq_true (by omega)
          have t2 : (((t[k]'hkt).toNat : Int) != 47) = true := by simp; omega
          clear hb
          go_wp2
          go_roundg (t.size + 1 - (k + 1))
          case measure => omega
          case rel => exact ⟨k + 1, by omega, rfl, by go_num, rfl⟩
        · obtain rfl : k = t.size := by omega
          clear hg hki hk
          have t1 : decide ((t.size : Int) < t.size) = false := decide_eq_false (by omega)
          go_wp2_with fail
          refine (h1 _).mono ?_
          rintro r w1 ⟨rfl, hB⟩
          replace F2 := F2.keep hB
          replace B0 := B0.trans (hB.mono B0.size)
          clear hB
          have q_F2_F11 : Hid (w.heap.size < w1.heap.size) := Lib.hid (by have := F2.lt; exact this)
          replace F2 := F2.allocd (.cells #[.bool ng, .string X, .string ⟨#[1]⟩] 24)
          have F11 := Blk.put w1 #[.bool ng, .string X, .string ⟨#[1]⟩] 24
          replace B0 := B0.alloc B0.size (.cells #[.bool ng, .string X, .string ⟨#[1]⟩] 24)
          obtain ⟨x0, x1, x2⟩ := F11.ce3
          obtain ⟨z0, z1, z2⟩ := F2.ce3
          obtain ⟨f0, f1, f2⟩ := F2.fr3
          replace F2 : Blk (((((w1.alloc (.cells #[.bool ng, .string X, .string ⟨#[1]⟩] 24))).setCell ⟨w.heap.size, 0, none⟩ (.bool false)).setCell ⟨w.heap.size, 1, none⟩ (.string { data := #[] })).setCell ⟨w.heap.size, 2, none⟩ (.string { data := #[] })) (w.heap.size) #[.bool false, .string { data := #[] }, .string { data := #[] }] 24 := (((F2.setAt 0 (.bool false)).setAt 1 (.string { data := #[] })).setAt 2 (.string { data := #[] }))
          replace B0 := (((B0.setCell (p := ⟨w.heap.size, 0, none⟩) (Nat.le_refl _) (.bool false)).setCell (p := ⟨w.heap.size, 1, none⟩) (Nat.le_refl _) (.string { data := #[] })).setCell (p := ⟨w.heap.size, 2, none⟩) (Nat.le_refl _) (.string { data := #[] }))
          obtain ⟨y0, y1, y2⟩ := F2.ce3
          go_wp2
          exact bodyPost_ret (v := errV 40) (by simp [results, Tryz.results10, go_sem, y0, y1, y2, errV]) rfl ⟨rfl, B0⟩
set_option maxRecDepth 1000000 in
set_option maxHeartbeats 2000000 in
theorem p4read_fm (s t : ByteArray) (ng : Bool) (w : World) (hs : s.size ≤ 80000) (hsg : Sgn s ng t)
    (hn : ∀ k, k < t.size → byt t k ≠ 47)
    (X : ByteArray)
    (h1 : ∀ W, Calls Tryz.prog 29 #[.string t] W fun r w' => r = .returned (.tuple #[.string X, .int .i64 0]) ∧ Below W.heap.size W w')
    (h3 : ∀ W, Calls Tryz.prog 7 #[.agg #[.bool ng, .string X, .string ⟨#[1]⟩]] W fun r w' => r = .returned (.bool false) ∧ Below W.heap.size W w') :
    Calls Tryz.prog 10 #[.string s] w fun r w' => r = .returned (errV 40) ∧ Below w.heap.size w w' := by
  have ht := hsg.size
  have ts : ¬ (80000 : Int) < (s.size : Int) := by omega
  have F2 := Blk.put w #[.bool false, .string { data := #[] }, .string { data := #[] }] 24
  have B0 := (Below.refl w.heap.size w).alloc (Nat.le_refl _) (.cells #[.bool false, .string { data := #[] }, .string { data := #[] }] 24)
  have HN := Lib.hid hn
  have HS := Lib.hid hsg
  clear hn hsg
  go_enter Tryz.func10, Tryz.ntmps10
  go_upto_region 4 with fail
  go_cut [5] (fun s5 wx => s5 = .bool ng ∧ Blk wx (w.heap.size) #[.bool false, .string { data := #[] }, .string { data := #[] }] 24 ∧ Below w.heap.size w wx)
  case first =>
    rcases HS.out with ⟨hb, rfl, _⟩ | ⟨hb, rfl, _⟩
    · have h0 := byt_lt (s := s) (i := 0) (by omega)
      rw [byt_in h0] at hb
      have t1 : (0 : Int) < (s.size : Int) := by omega
      have t2 : (((s[0]'h0).toNat : Int) == 45) = true := by simp; omega
      go_wp2_with fail
      go_meet
      exact ⟨by first | rfl | simp, F2, B0⟩
    · rcases Nat.eq_zero_or_pos s.size with h0 | h0
      · have t1 : ¬ (0 : Int) < (s.size : Int) := by omega
        go_wp2_with fail
        go_meet
        exact ⟨by first | rfl | simp, F2, B0⟩
      · rw [byt_in h0] at hb
        have t1 : (0 : Int) < (s.size : Int) := by omega
        have t2 : (((s[0]'h0).toNat : Int) == 45) = false := by simp; omega
        go_wp2_with fail
        go_meet
        exact ⟨by first | rfl | simp, F2, B0⟩
  case rest =>
    clear B0 F2
    obtain ⟨rfl, F2, B0⟩ := hcut
    generalize wc = v1 at *
    go_upto_if 25 with fail
    go_cut [4] (fun s4 wx => s4 = .string t ∧ Blk wx (w.heap.size) #[.bool false, .string { data := #[] }, .string { data := #[] }] 24 ∧ Below w.heap.size w wx)
    case first =>
      rcases HS.out with ⟨hb, rfl, hE⟩ | ⟨hb, rfl, hE⟩
      · have h0 := byt_lt (s := s) (i := 0) (by omega)
        go_wp2_with fail
        go_meet
        exact ⟨by rw [hE], F2, B0⟩
      · go_wp2_with fail
        go_meet
        exact ⟨by rw [hE], F2, B0⟩
    case rest =>
      clear B0 F2
      obtain ⟨rfl, F2, B0⟩ := hcut
      generalize wc = v2 at *
      go_wp2_with fail
      go_loopg [6] (t.size + 1) (fun g s6 wr => ∃ k : Nat, k ≤ t.size ∧ g = t.size + 1 - k ∧ s6 = .int .i64 k ∧ wr = v2)
      case atStart => exact ⟨0, by omega, by omega, rfl, rfl⟩
      case round =>
        obtain ⟨k, hk, hg, rfl, rfl⟩ := hrel
        by_cases hki : k < t.size
        · have hkt : k < t.size := by omega
          have hb := HN.out k hki
          rw [byt_in hkt] at hb
          have t1 : decide ((k : Int) < t.size) = true := decide_eq_true (by omega)
          have t2 : (((t[k]'hkt).toNat : Int) != 47) = true := by simp; omega
          clear hb
          go_wp2
          go_roundg (t.size + 1 - (k + 1))
          case measure => omega
          case rel => exact ⟨k + 1, by omega, rfl, by go_num, rfl⟩
        · obtain rfl : k = t.size := by omega
          clear hg hki hk
          have t1 : decide ((t.size : Int) < t.size) = false := decide_eq_false (by omega)
          go_wp2_with fail
          refine (h1 _).mono ?_
          rintro r w1 ⟨rfl, hB⟩
          replace F2 := F2.keep hB
          replace B0 := B0.trans (hB.mono B0.size)
          clear hB
          have q_F2_F11 : Hid (w.heap.size < w1.heap.size) := Lib.hid (by have := F2.lt; exact this)
          replace F2 := F2.allocd (.cells #[.bool ng, .string X, .string ⟨#[1]⟩] 24)
          have F11 := Blk.put w1 #[.bool ng, .string X, .string ⟨#[1]⟩] 24
          replace B0 := B0.alloc B0.size (.cells #[.bool ng, .string X, .string ⟨#[1]⟩] 24)
          obtain ⟨x0, x1, x2⟩ := F11.ce3
          go_wp2_with fail
          refine (h3 _).mono ?_
          rintro r w1 ⟨rfl, hB⟩
          clear x0 x1 x2
          replace F2 := F2.keep hB
          replace F11 := F11.keep hB
          replace B0 := B0.trans (hB.mono B0.size)
          clear hB
          obtain ⟨x0, x1, x2⟩ := F11.ce3
          obtain ⟨z0, z1, z2⟩ := F2.ce3
          obtain ⟨f0, f1, f2⟩ := F2.fr3
          replace F2 : Blk ((((w1).setCell ⟨w.heap.size, 0, none⟩ (.bool false)).setCell ⟨w.heap.size, 1, none⟩ (.string { data := #[] })).setCell ⟨w.heap.size, 2, none⟩ (.string { data := #[] })) (w.heap.size) #[.bool false, .string { data := #[] }, .string { data := #[] }] 24 := (((F2.setAt 0 (.bool false)).setAt 1 (.string { data := #[] })).setAt 2 (.string { data := #[] }))
          replace B0 := (((B0.setCell (p := ⟨w.heap.size, 0, none⟩) (Nat.le_refl _) (.bool false)).setCell (p := ⟨w.heap.size, 1, none⟩) (Nat.le_refl _) (.string { data := #[] })).setCell (p := ⟨w.heap.size, 2, none⟩) (Nat.le_refl _) (.string { data := #[] }))
          obtain ⟨y0, y1, y2⟩ := F2.ce3
          go_wp2
          exact bodyPost_ret (v := errV 40) (by simp [results, Tryz.results10, go_sem, y0, y1, y2, errV]) rfl ⟨rfl, B0⟩
set_option maxRecDepth 1000000 in
set_option maxHeartbeats 2000000 in
theorem p4read_ft (s t : ByteArray) (ng : Bool) (w : World) (hs : s.size ≤ 80000) (hsg : Sgn s ng t)
    (hn : ∀ k, k < t.size → byt t k ≠ 47)
    (X T : ByteArray)
    (h1 : ∀ W, Calls Tryz.prog 29 #[.string t] W fun r w' => r = .returned (.tuple #[.string X, .int .i64 0]) ∧ Below W.heap.size W w')
    (h3 : ∀ W, Calls Tryz.prog 7 #[.agg #[.bool ng, .string X, .string ⟨#[1]⟩]] W fun r w' => r = .returned (.bool true) ∧ Below W.heap.size W w')
    (h4 : ∀ W, Calls Tryz.prog 8 #[.agg #[.bool ng, .string X, .string ⟨#[1]⟩]] W fun r w' => r = .returned (.string T) ∧ Below W.heap.size W w')
    (hts : ¬ T.toList = s.toList) :
    Calls Tryz.prog 10 #[.string s] w fun r w' => r = .returned (errV 40) ∧ Below w.heap.size w w' := by
  have ht := hsg.size
  have ts : ¬ (80000 : Int) < (s.size : Int) := by omega
  have F2 := Blk.put w #[.bool false, .string { data := #[] }, .string { data := #[] }] 24
  have B0 := (Below.refl w.heap.size w).alloc (Nat.le_refl _) (.cells #[.bool false, .string { data := #[] }, .string { data := #[] }] 24)
  have HN := Lib.hid hn
  have HS := Lib.hid hsg
  clear hn hsg
  go_enter Tryz.func10, Tryz.ntmps10
  go_upto_region 4 with fail
  go_cut [5] (fun s5 wx => s5 = .bool ng ∧ Blk wx (w.heap.size) #[.bool false, .string { data := #[] }, .string { data := #[] }] 24 ∧ Below w.heap.size w wx)
  case first =>
    rcases HS.out with ⟨hb, rfl, _⟩ | ⟨hb, rfl, _⟩
    · have h0 := byt_lt (s := s) (i := 0) (by omega)
      rw [byt_in h0] at hb
      have t1 : (0 : Int) < (s.size : Int) := by omega
      have t2 : (((s[0]'h0).toNat : Int) == 45) = true := by simp; omega
      go_wp2_with fail
      go_meet
      exact ⟨by first | rfl | simp, F2, B0⟩
    · rcases Nat.eq_zero_or_pos s.size with h0 | h0
      · have t1 : ¬ (0 : Int) < (s.size : Int) := by omega
        go_wp2_with fail
        go_meet
        exact ⟨by first | rfl | simp, F2, B0⟩
      · rw [byt_in h0] at hb
        have t1 : (0 : Int) < (s.size : Int) := by omega
        have t2 : (((s[0]'h0).toNat : Int) == 45) = false := by simp; omega
        go_wp2_with fail
        go_meet
        exact ⟨by first | rfl | simp, F2, B0⟩
  case rest =>
    clear B0 F2
    obtain ⟨rfl, F2, B0⟩ := hcut
    generalize wc = v1 at *
    go_upto_if 25 with fail
    go_cut [4] (fun s4 wx => s4 = .string t ∧ Blk wx (w.heap.size) #[.bool false, .string { data := #[] }, .string { data := #[] }] 24 ∧ Below w.heap.size w wx)
    case first =>
      rcases HS.out with ⟨hb, rfl, hE⟩ | ⟨hb, rfl, hE⟩
      · have h0 := byt_lt (s := s) (i := 0) (by omega)
        go_wp2_with fail
        go_meet
        exact ⟨by rw [hE], F2, B0⟩
      · go_wp2_with fail
        go_meet
        exact ⟨by rw [hE], F2, B0⟩
    case rest =>
      clear B0 F2
      obtain ⟨rfl, F2, B0⟩ := hcut
      generalize wc = v2 at *
      go_wp2_with fail
      go_loopg [6] (t.size + 1) (fun g s6 wr => ∃ k : Nat, k ≤ t.size ∧ g = t.size + 1 - k ∧ s6 = .int .i64 k ∧ wr = v2)
      case atStart => exact ⟨0, by omega, by omega, rfl, rfl⟩
      case round =>
        obtain ⟨k, hk, hg, rfl, rfl⟩ := hrel
        by_cases hki : k < t.size
        · have hkt : k < t.size := by omega
          have hb := HN.out k hki
          rw [byt_in hkt] at hb
          have t1 : decide ((k : Int) < t.size) = true := decide_eq_true (by omega)
          have t2 : (((t[k]'hkt).toNat : Int) != 47) = true := by simp; omega
          clear hb
          go_wp2
          go_roundg (t.size + 1 - (k + 1))
          case measure => omega
          case rel => exact ⟨k + 1, by omega, rfl, by go_num, rfl⟩
        · obtain rfl : k = t.size := by omega
          clear hg hki hk
          have t1 : decide ((t.size : Int) < t.size) = false := decide_eq_false (by omega)
          go_wp2_with fail
          refine (h1 _).mono ?_
          rintro r w1 ⟨rfl, hB⟩
          replace F2 := F2.keep hB
          replace B0 := B0.trans (hB.mono B0.size)
          clear hB
          have q_F2_F11 : Hid (w.heap.size < w1.heap.size) := Lib.hid (by have := F2.lt; exact this)
          replace F2 := F2.allocd (.cells #[.bool ng, .string X, .string ⟨#[1]⟩] 24)
          have F11 := Blk.put w1 #[.bool ng, .string X, .string ⟨#[1]⟩] 24
          replace B0 := B0.alloc B0.size (.cells #[.bool ng, .string X, .string ⟨#[1]⟩] 24)
          obtain ⟨x0, x1, x2⟩ := F11.ce3
          go_wp2_with fail
          refine (h3 _).mono ?_
          rintro r w1 ⟨rfl, hB⟩
          clear x0 x1 x2
          replace F2 := F2.keep hB
          replace F11 := F11.keep hB
          replace B0 := B0.trans (hB.mono B0.size)
          clear hB
          obtain ⟨x0, x1, x2⟩ := F11.ce3
          go_wp2_with fail
          refine (h4 _).mono ?_
          rintro r w1 ⟨rfl, hB⟩
          clear x0 x1 x2
          replace F2 := F2.keep hB
          replace F11 := F11.keep hB
          replace B0 := B0.trans (hB.mono B0.size)
          clear hB
          obtain ⟨x0, x1, x2⟩ := F11.ce3
          have hts2 : (T.toList != s.toList) = true := by simpa using hts
          have hts3 : (T.toList == s.toList) = false := by simpa using hts
          have hts4 : ¬ s.toList = T.toList := fun h => hts h.symm
          clear hts
          obtain ⟨z0, z1, z2⟩ := F2.ce3
          obtain ⟨f0, f1, f2⟩ := F2.fr3
          replace F2 : Blk ((((w1).setCell ⟨w.heap.size, 0, none⟩ (.bool false)).setCell ⟨w.heap.size, 1, none⟩ (.string { data := #[] })).setCell ⟨w.heap.size, 2, none⟩ (.string { data := #[] })) (w.heap.size) #[.bool false, .string { data := #[] }, .string { data := #[] }] 24 := (((F2.setAt 0 (.bool false)).setAt 1 (.string { data := #[] })).setAt 2 (.string { data := #[] }))
          replace B0 := (((B0.setCell (p := ⟨w.heap.size, 0, none⟩) (Nat.le_refl _) (.bool false)).setCell (p := ⟨w.heap.size, 1, none⟩) (Nat.le_refl _) (.string { data := #[] })).setCell (p := ⟨w.heap.size, 2, none⟩) (Nat.le_refl _) (.string { data := #[] }))
          obtain ⟨y0, y1, y2⟩ := F2.ce3
          go_wp2
          exact bodyPost_ret (v := errV 40) (by simp [results, Tryz.results10, go_sem, y0, y1, y2, errV]) rfl ⟨rfl, B0⟩
set_option maxRecDepth 1000000 in
set_option maxHeartbeats 2000000 in
theorem p4read_fk (s t : ByteArray) (ng : Bool) (w : World) (hs : s.size ≤ 80000) (hsg : Sgn s ng t)
    (hn : ∀ k, k < t.size → byt t k ≠ 47)
    (X T : ByteArray)
    (h1 : ∀ W, Calls Tryz.prog 29 #[.string t] W fun r w' => r = .returned (.tuple #[.string X, .int .i64 0]) ∧ Below W.heap.size W w')
    (h3 : ∀ W, Calls Tryz.prog 7 #[.agg #[.bool ng, .string X, .string ⟨#[1]⟩]] W fun r w' => r = .returned (.bool true) ∧ Below W.heap.size W w')
    (h4 : ∀ W, Calls Tryz.prog 8 #[.agg #[.bool ng, .string X, .string ⟨#[1]⟩]] W fun r w' => r = .returned (.string T) ∧ Below W.heap.size W w')
    (hts : T.toList = s.toList) :
    Calls Tryz.prog 10 #[.string s] w fun r w' => r = .returned (.tuple #[.agg #[.bool ng, .string X, .string ⟨#[1]⟩], .int .i64 0]) ∧ Below w.heap.size w w' := by
  have ht := hsg.size
  have ts : ¬ (80000 : Int) < (s.size : Int) := by omega
  have F2 := Blk.put w #[.bool false, .string { data := #[] }, .string { data := #[] }] 24
  have B0 := (Below.refl w.heap.size w).alloc (Nat.le_refl _) (.cells #[.bool false, .string { data := #[] }, .string { data := #[] }] 24)
  have HN := Lib.hid hn
  have HS := Lib.hid hsg
  clear hn hsg
  go_enter Tryz.func10, Tryz.ntmps10
  go_upto_region 4 with fail
  go_cut [5] (fun s5 wx => s5 = .bool ng ∧ Blk wx (w.heap.size) #[.bool false, .string { data := #[] }, .string { data := #[] }] 24 ∧ Below w.heap.size w wx)
  case first =>
    rcases HS.out with ⟨hb, rfl, _⟩ | ⟨hb, rfl, _⟩
    · have h0 := byt_lt (s := s) (i := 0) (by omega)
      rw [byt_in h0] at hb
      have t1 : (0 : Int) < (s.size : Int) := by omega
      have t2 : (((s[0]'h0).toNat : Int) == 45) = true := by simp; omega
      go_wp2_with fail
      go_meet
      exact ⟨by first | rfl | simp, F2, B0⟩
    · rcases Nat.eq_zero_or_pos s.size with h0 | h0
      · have t1 : ¬ (0 : Int) < (s.size : Int) := by omega
        go_wp2_with fail
        go_meet
        exact ⟨by first | rfl | simp, F2, B0⟩
      · rw [byt_in h0] at hb
        have t1 : (0 : Int) < (s.size : Int) := by omega
        have t2 : (((s[0]'h0).toNat : Int) == 45) = false := by simp; omega
        go_wp2_with fail
        go_meet
        exact ⟨by first | rfl | simp, F2, B0⟩
  case rest =>
    clear B0 F2
    obtain ⟨rfl, F2, B0⟩ := hcut
    generalize wc = v1 at *
    go_upto_if 25 with fail
    go_cut [4] (fun s4 wx => s4 = .string t ∧ Blk wx (w.heap.size) #[.bool false, .string { data := #[] }, .string { data := #[] }] 24 ∧ Below w.heap.size w wx)
    case first =>
      rcases HS.out with ⟨hb, rfl, hE⟩ | ⟨hb, rfl, hE⟩
      · have h0 := byt_lt (s := s) (i := 0) (by omega)
        go_wp2_with fail
        go_meet
        exact ⟨by rw [hE], F2, B0⟩
      · go_wp2_with fail
        go_meet
        exact ⟨by rw [hE], F2, B0⟩
    case rest =>
      clear B0 F2
      obtain ⟨rfl, F2, B0⟩ := hcut
      generalize wc = v2 at *
      go_wp2_with fail
      go_loopg [6] (t.size + 1) (fun g s6 wr => ∃ k : Nat, k ≤ t.size ∧ g = t.size + 1 - k ∧ s6 = .int .i64 k ∧ wr = v2)
      case atStart => exact ⟨0, by omega, by omega, rfl, rfl⟩
      case round =>
        obtain ⟨k, hk, hg, rfl, rfl⟩ := hrel
        by_cases hki : k < t.size
        · have hkt : k < t.size := by omega
          have hb := HN.out k hki
          rw [byt_in hkt] at hb
          have t1 : decide ((k : Int) < t.size) = true := decide_eq_true (by omega)
          have t2 : (((t[k]'hkt).toNat : Int) != 47) = true := by simp; omega
          clear hb
          go_wp2
          go_roundg (t.size + 1 - (k + 1))
          case measure => omega
          case rel => exact ⟨k + 1, by omega, rfl, by go_num, rfl⟩
        · obtain rfl : k = t.size := by omega
          clear hg hki hk
          have t1 : decide ((t.size : Int) < t.size) = false := decide_eq_false (by omega)
          go_wp2_with fail
          refine (h1 _).mono ?_
          rintro r w1 ⟨rfl, hB⟩
          replace F2 := F2.keep hB
          replace B0 := B0.trans (hB.mono B0.size)
          clear hB
          have q_F2_F11 : Hid (w.heap.size < w1.heap.size) := Lib.hid (by have := F2.lt; exact this)
          replace F2 := F2.allocd (.cells #[.bool ng, .string X, .string ⟨#[1]⟩] 24)
          have F11 := Blk.put w1 #[.bool ng, .string X, .string ⟨#[1]⟩] 24
          replace B0 := B0.alloc B0.size (.cells #[.bool ng, .string X, .string ⟨#[1]⟩] 24)
          obtain ⟨x0, x1, x2⟩ := F11.ce3
          go_wp2_with fail
          refine (h3 _).mono ?_
          rintro r w1 ⟨rfl, hB⟩
          clear x0 x1 x2
          replace F2 := F2.keep hB
          replace F11 := F11.keep hB
          replace B0 := B0.trans (hB.mono B0.size)
          clear hB
          obtain ⟨x0, x1, x2⟩ := F11.ce3
          go_wp2_with fail
          refine (h4 _).mono ?_
          rintro r w1 ⟨rfl, hB⟩
          clear x0 x1 x2
          replace F2 := F2.keep hB
          replace F11 := F11.keep hB
          replace B0 := B0.trans (hB.mono B0.size)
          clear hB
          obtain ⟨x0, x1, x2⟩ := F11.ce3
          obtain ⟨z0, z1, z2⟩ := F2.ce3
          obtain ⟨f0, f1, f2⟩ := F2.fr3
          replace F2 : Blk ((((w1).setCell ⟨w.heap.size, 0, none⟩ (.bool ng)).setCell ⟨w.heap.size, 1, none⟩ (.string X)).setCell ⟨w.heap.size, 2, none⟩ (.string ⟨#[1]⟩)) (w.heap.size) #[.bool ng, .string X, .string ⟨#[1]⟩] 24 := (((F2.setAt 0 (.bool ng)).setAt 1 (.string X)).setAt 2 (.string ⟨#[1]⟩))
          replace B0 := (((B0.setCell (p := ⟨w.heap.size, 0, none⟩) (Nat.le_refl _) (.bool ng)).setCell (p := ⟨w.heap.size, 1, none⟩) (Nat.le_refl _) (.string X)).setCell (p := ⟨w.heap.size, 2, none⟩) (Nat.le_refl _) (.string ⟨#[1]⟩))
          obtain ⟨y0, y1, y2⟩ := F2.ce3
          go_wp2
          exact bodyPost_ret (v := .tuple #[.agg #[.bool ng, .string X, .string ⟨#[1]⟩], .int .i64 0]) (by simp [results, Tryz.results10, go_sem, y0, y1, y2]) rfl ⟨rfl, B0⟩
end Go.Proofs.YtbhfnigblhfikaaGreat

/- The reference of layer 4: what Read tells of any text. -/
namespace Go.Proofs.YtbhfnigblhfikaaGreat
open Go Go.RowKit Go.PlainAid Fil

theorem readV_cases (s : ByteArray) : (goodL s.data.toList ∧ Fil.dn 8 (dval 0 s.data.toList) ≤ 16384 ∧ readV s = .tuple #[.string (bstr (dval 0 s.data.toList)), .int .i64 0]) ∨ (∃ e : Int, (e = 4 ∨ e = 22) ∧ readV s = .tuple #[.string { data := #[] }, .int .i64 e] ∧ ¬ (goodL s.data.toList ∧ s.size ≤ 49152 ∧ Fil.dn 8 (dval 0 s.data.toList) ≤ 16384)) := by
  unfold readV
  by_cases hg : goodL s.data.toList
  · rw [if_pos (show goodB s.data.toList = true from decide_eq_true hg)]
    by_cases hl : 49152 < s.size
    · rw [if_pos hl]
      exact .inr ⟨4, .inl rfl, rfl, fun h => by omega⟩
    · rw [if_neg hl]
      by_cases hd : Fil.dn 8 (dval 0 s.data.toList) ≤ 16384
      · exact .inl ⟨hg, hd, endV_fit hd⟩
      · exact .inr ⟨4, .inl rfl, endV_long hd, fun h => hd h.2.2⟩
  · rw [if_neg (show ¬ goodB s.data.toList = true from fun h => hg (of_decide_eq_true h))]
    exact .inr ⟨22, .inr rfl, rfl, fun h => hg h.1⟩
theorem sgn_tell {s t : ByteArray} {ng : Bool} (h : Sgn s ng t) (z : Rat) (hz : ktx z = s.data.toList) : ng = sg z.num ∧ t.data.toList = kmag z := by
  rw [ktx_mag] at hz
  rcases h with ⟨hb, rfl, rfl⟩ | ⟨hb, rfl, rfl⟩
  · cases hsg : sg z.num
    · rw [hsg] at hz
      obtain ⟨c, r, h3, h4⟩ := kmag_head z
      have h5 := byt_head (s := s) (c := c) (r := r) (by rw [← hz, h3]; rfl)
      refine absurd (UInt8.toNat_inj.1 ?_) h4
      rw [← h5.1, hb]; rfl
    · rw [hsg] at hz
      exact ⟨rfl, rest_minus hz.symm⟩
  · cases hsg : sg z.num
    · rw [hsg] at hz
      exact ⟨rfl, hz.symm⟩
    · rw [hsg] at hz
      have h5 := byt_head (s := t) (c := 45) (r := kmag z) (by rw [← hz]; rfl)
      exact absurd h5.1 hb
theorem dtx_short {x : Nat} (h : Fil.dn 8 x ≤ 16384) : (dtx x).length ≤ 49152 ∧ Fil.dn 8 (dval 0 (dtx x)) ≤ 16384 := by
  have h1 := dtx_len (dn32_8 h)
  exact ⟨by omega, by rw [dval_dtx]; exact h⟩
/-- what Read tells, by the text's ratio -/
def ReadP (s : ByteArray) (w : World) (e : Ending) (w' : World) : Prop := ((∃ z, Fits z ∧ ktx z = s.data.toList ∧ e = .returned (.tuple #[kA z, .int .i64 0])) ∨ ((∀ z, Fits z → ktx z ≠ s.data.toList) ∧ e = .returned (errV 40))) ∧ Below w.heap.size w w'
theorem read_bad {s : ByteArray} {w : World} (h : ∀ z, Fits z → ktx z ≠ s.data.toList) : ∀ (e : Ending) w', (e = .returned (errV 40) ∧ Below w.heap.size w w') → ReadP s w e w' := fun _ _ k => ⟨.inr ⟨h, k.1⟩, k.2⟩
/-- the end of Read: of two numbers -/
theorem read_end (s : ByteArray) (w : World) (ng : Bool) (n d : Nat) (hn : Fil.dn 8 n ≤ 16384) (hd : Fil.dn 8 d ≤ 16384)
    (tell : ∀ z : Rat, ktx z = s.data.toList → ng = sg z.num ∧ n = z.num.natAbs ∧ d = z.den)
    (km : (∀ W, Calls Tryz.prog 7 #[.agg #[.bool ng, .string (bstr n), .string (bstr d)]] W fun r w' => r = .returned (.bool false) ∧ Below W.heap.size W w') → Calls Tryz.prog 10 #[.string s] w fun r w' => r = .returned (errV 40) ∧ Below w.heap.size w w')
    (kt : ∀ T, (∀ W, Calls Tryz.prog 7 #[.agg #[.bool ng, .string (bstr n), .string (bstr d)]] W fun r w' => r = .returned (.bool true) ∧ Below W.heap.size W w') → (∀ W, Calls Tryz.prog 8 #[.agg #[.bool ng, .string (bstr n), .string (bstr d)]] W fun r w' => r = .returned (.string T) ∧ Below W.heap.size W w') → ¬ T.toList = s.toList → Calls Tryz.prog 10 #[.string s] w fun r w' => r = .returned (errV 40) ∧ Below w.heap.size w w')
    (kk : ∀ T, (∀ W, Calls Tryz.prog 7 #[.agg #[.bool ng, .string (bstr n), .string (bstr d)]] W fun r w' => r = .returned (.bool true) ∧ Below W.heap.size W w') → (∀ W, Calls Tryz.prog 8 #[.agg #[.bool ng, .string (bstr n), .string (bstr d)]] W fun r w' => r = .returned (.string T) ∧ Below W.heap.size W w') → T.toList = s.toList → Calls Tryz.prog 10 #[.string s] w fun r w' => r = .returned (.tuple #[.agg #[.bool ng, .string (bstr n), .string (bstr d)], .int .i64 0]) ∧ Below w.heap.size w w') :
    Calls Tryz.prog 10 #[.string s] w (ReadP s w) := by
  have hm := fun W => p4may_any ng (bstr n) (bstr d) W (by rw [bstr_size]; omega) (by rw [bstr_size]; omega)
  cases e1 : kMayB ng (bstr n) (bstr d)
  · rw [e1] at hm
    refine (km hm).mono (read_bad fun z fz hz => ?_)
    obtain ⟨k1, k2, k3⟩ := tell z hz
    rw [k1, k2, k3, may_of_rat fz] at e1
    exact Bool.noConfusion e1
  · rw [e1] at hm
    obtain ⟨z, fz, h1, h2, h3⟩ := rat_of_may e1
    have ht := fun W => p4text_ok z W fz
    unfold kA at ht
    rw [← h1, ← h2, ← h3] at ht
    by_cases hz : ktx z = s.data.toList
    · refine (kk _ hm ht (by rw [ByteArray.toList_eq, ByteArray.toList_eq, ← hz])).mono fun e w' k => ⟨.inl ⟨z, fz, hz, by rw [k.1]; unfold kA; rw [← h1, ← h2, ← h3]⟩, k.2⟩
    · refine (kt _ hm ht (by rw [ByteArray.toList_eq, ByteArray.toList_eq]; exact hz)).mono (read_bad fun y fy hy => ?_)
      obtain ⟨k1, k2, k3⟩ := tell y hy
      have e2 : y.num.natAbs = z.num.natAbs := by rw [← k2]; exact bstr_inj h2
      have e3 : y.den = z.den := by rw [← k3]; exact bstr_inj h3
      have e4 : y = z := Rat.ext (by rw [← sz_self y.num, ← sz_self z.num, e2, ← k1, ← h1]) e3
      exact hz (e4 ▸ hy)
theorem p4read_any (s : ByteArray) (w : World) (hs : s.size ≤ 80000) : Calls Tryz.prog 10 #[.string s] w (ReadP s w) := by
  obtain ⟨ng, t, hsg⟩ := sgn_of s
  have hts := hsg.size
  have tel := fun z hz => sgn_tell hsg z hz
  have rd := fun (a : ByteArray) (h : a.size ≤ 80000) W => r2read_any a W (by omega)
  have nr : ∀ {a : ByteArray} {n : Nat}, Fil.dn 8 n ≤ 16384 → a.data.toList = dtx n → goodL a.data.toList ∧ a.size ≤ 49152 ∧ Fil.dn 8 (dval 0 a.data.toList) ≤ 16384 := fun {a n} h e => by
    obtain ⟨h1, h2⟩ := dtx_short h
    refine ⟨by rw [e]; exact dtx_good _, ?_, by rw [e]; exact h2⟩
    rw [← len_toList, e]; exact h1
  rcases first_at (s := t) (c := 47) with hn | ⟨i, hi, h47, hn⟩
  · -- no slash
    have hb : ∀ k, k < t.size → byt t k ≠ 47 := fun k hk h => hn k hk (UInt8.toNat_inj.1 (by rw [← byt_in hk, h]; rfl))
    have tell : ∀ z : Rat, ktx z = s.data.toList → ng = sg z.num ∧ t.data.toList = dtx z.num.natAbs ∧ z.den = 1 := fun z hz => by
      obtain ⟨k1, k2⟩ := tel z hz
      by_cases hd : z.den = 1
      · unfold kmag at k2
        rw [if_pos hd, List.append_nil] at k2
        exact ⟨k1, k2, hd⟩
      · unfold kmag at k2
        rw [if_neg hd] at k2
        have hz := size_of k2
        have h3 := get_of k2 (k := (dtx z.num.natAbs).length) (by rw [hz]; simp)
        rw [List.getElem?_append_right (Nat.le_refl _), Nat.sub_self, List.getElem?_cons_zero] at h3
        exact absurd (Option.some.inj h3) (hn _ _)
    have h1 := rd t (by omega)
    rcases readV_cases t with ⟨g1, g2, g3⟩ | ⟨e, he, g3, g4⟩
    · rw [g3] at h1
      refine read_end s w ng (dval 0 t.data.toList) 1 g2 (by decide) (fun z hz => ?_) (fun hm => ?_) (fun T hm ht hne => ?_) (fun T hm ht he => ?_)
      · obtain ⟨k1, k2, k3⟩ := tell z hz
        exact ⟨k1, by rw [k2, dval_dtx], k3.symm⟩
      · rw [bstr_one] at hm; exact p4read_fm s t ng w hs hsg hb _ h1 hm
      · rw [bstr_one] at hm ht; exact p4read_ft s t ng w hs hsg hb _ T h1 hm ht hne
      · rw [bstr_one] at hm ht ⊢; exact p4read_fk s t ng w hs hsg hb _ T h1 hm ht he
    · rw [g3] at h1
      refine (p4read_fe s t ng w hs hsg hb _ e (by rcases he with rfl | rfl <;> rfl) h1).mono (read_bad fun z fz hz => ?_)
      obtain ⟨k1, k2, k3⟩ := tell z hz
      exact g4 (nr fz.1 k2)
  · have hb : ∀ k, k < i → byt t k ≠ 47 := fun k hk h => hn k hk (UInt8.toNat_inj.1 (by rw [← byt_in (by omega), h]; rfl))
    have h47b : byt t i = 47 := by rw [byt_in hi, h47]; rfl
    have tell : ∀ z : Rat, ktx z = s.data.toList → ng = sg z.num ∧ (t.extract 0 i).data.toList = dtx z.num.natAbs ∧ (t.extract (i + 1) t.size).data.toList = dtx z.den := fun z hz => by
      obtain ⟨k1, k2⟩ := tel z hz
      by_cases hd : z.den = 1
      · unfold kmag at k2
        rw [if_pos hd, List.append_nil] at k2
        exact absurd h47 (no_slash k2 (dtx_allDec _) hi)
      · unfold kmag at k2
        rw [if_neg hd] at k2
        obtain rfl := slash_at k2 (dtx_allDec _) hi h47 hn
        exact ⟨k1, slash_left k2, slash_right k2⟩
    have h1 := rd (t.extract 0 i) (by rw [ByteArray.size_extract]; omega)
    have h2 := rd (t.extract (i + 1) t.size) (by rw [ByteArray.size_extract]; omega)
    rcases readV_cases (t.extract 0 i) with ⟨g1, g2, g3⟩ | ⟨e, he, g3, g4⟩
    · rw [g3] at h1
      rcases readV_cases (t.extract (i + 1) t.size) with ⟨l1, l2, l3⟩ | ⟨f, hf, l3, l4⟩
      · rw [l3] at h2
        refine read_end s w ng _ _ g2 l2 (fun z hz => ?_) (fun hm => ?_) (fun T hm ht hne => ?_) (fun T hm ht he => ?_)
        · obtain ⟨k1, k2, k3⟩ := tell z hz
          exact ⟨k1, by rw [k2, dval_dtx], by rw [k3, dval_dtx]⟩
        · exact p4read_tm s t ng w hs hsg i hi h47b hb _ _ h1 h2 hm
        · exact p4read_tt s t ng w hs hsg i hi h47b hb _ _ T h1 h2 hm ht hne
        · exact p4read_tk s t ng w hs hsg i hi h47b hb _ _ T h1 h2 hm ht he
      · rw [l3] at h2
        refine (p4read_tf s t ng w hs hsg i hi h47b hb _ _ f (by rcases hf with rfl | rfl <;> rfl) h1 h2).mono (read_bad fun z fz hz => ?_)
        obtain ⟨k1, k2, k3⟩ := tell z hz
        exact l4 (nr fz.2 k3)
    · rw [g3] at h1
      obtain ⟨Y, f, l3⟩ : ∃ Y f, readV (t.extract (i + 1) t.size) = .tuple #[.string Y, .int .i64 f] := by
        rcases readV_cases (t.extract (i + 1) t.size) with ⟨_, _, l3⟩ | ⟨f, _, l3, _⟩ <;> exact ⟨_, _, l3⟩
      rw [l3] at h2
      refine (p4read_te s t ng w hs hsg i hi h47b hb _ _ e (by rcases he with rfl | rfl <;> rfl) f h1 h2).mono (read_bad fun z fz hz => ?_)
      obtain ⟨k1, k2, k3⟩ := tell z hz
      exact g4 (nr fz.1 k2)
end Go.Proofs.YtbhfnigblhfikaaGreat
