/- ratio.Read of any text. -/
import Derived.Test.YtbfnafcpjbdbpaaKg
import Derived.Test.YtbfnafcpjbdbpaaJW
namespace Go.Proofs.Ytbfnafcpjbdbpaa
open Go Go.RowKit Go.PlainAid Fil

theorem dec_ne {l : List UInt8} (h : allDec l) {c : UInt8} (hc : c ∈ l) : c ≠ 45 ∧ c ≠ 47 := by
  have := of_decide_eq_true (h c hc)
  refine ⟨fun e => ?_, fun e => ?_⟩
  · subst e; have h2 : (45 : UInt8).toNat = 45 := rfl; omega
  · subst e; have h2 : (47 : UInt8).toNat = 47 := rfl; omega
theorem dtx_ne (n : Nat) : dtx n ≠ [] := (dtx_bare n).1
theorem dtx_good (n : Nat) : goodL (dtx n) := ⟨dtx_allDec n, dtx_bare n⟩
/-- a text without its sign -/
def kmag (z : Rat) : List UInt8 := dtx z.num.natAbs ++ (if z.den = 1 then [] else 47 :: dtx z.den)
theorem ktx_mag (z : Rat) : ktx z = (if sg z.num then [45] else []) ++ kmag z := by unfold ktx kmag; rw [List.append_assoc]
theorem kmag_head (z : Rat) : ∃ c r, kmag z = c :: r ∧ c ≠ 45 := by
  unfold kmag
  cases h : dtx z.num.natAbs with
  | nil => exact absurd h (dtx_ne _)
  | cons c r => exact ⟨c, _, rfl, (dec_ne (h ▸ dtx_allDec z.num.natAbs) (List.mem_cons_self ..)).1⟩
theorem byt_head {s : ByteArray} {c : UInt8} {r : List UInt8} (h : s.data.toList = c :: r) : byt s 0 = c.toNat ∧ 0 < s.size := by
  have h0 : 0 < s.size := by
    have := congrArg List.length h
    rw [Array.length_toList] at this
    have h2 : s.size = s.data.size := rfl
    rw [h2, this]; simp
  refine ⟨?_, h0⟩
  rw [byt_in h0]
  have h1 := head_get h0
  rw [h] at h1
  exact congrArg UInt8.toNat (Option.some.inj h1).symm
theorem rest_minus {s : ByteArray} {r : List UInt8} (h : s.data.toList = 45 :: r) : (s.extract 1 s.size).data.toList = r := by
  have e : (s.extract 1 s.size).data.toList = (s.data.toList.drop 1).take (s.size - 1) := by simp
  rw [e, h]
  rw [List.drop_succ_cons, List.drop_zero, List.take_of_length_le]
  have := congrArg List.length h
  rw [Array.length_toList] at this
  have h2 : s.size = s.data.size := rfl
  rw [h2, this]; simp
theorem get_of {s : ByteArray} {l : List UInt8} (h : s.data.toList = l) {k : Nat} (hk : k < s.size) : some (s[k]'hk) = l[k]? := by
  rw [← h, List.getElem?_eq_getElem (by rw [Array.length_toList]; exact hk)]; rfl
theorem size_of {s : ByteArray} {l : List UInt8} (h : s.data.toList = l) : s.size = l.length := by rw [← h, Array.length_toList]; rfl
theorem slash_at {s : ByteArray} {D E : List UInt8} (h : s.data.toList = D ++ 47 :: E) (hD : allDec D) {i : Nat} (hi : i < s.size) (h47 : s[i]'hi = 47) (hn : ∀ (k : Nat) (hk : k < i), s[k]'(by omega) ≠ 47) : i = D.length := by
  have hz := size_of h
  rcases Nat.lt_trichotomy i D.length with h1 | h1 | h1
  · have h2 := get_of h hi
    rw [List.getElem?_append_left h1, h47] at h2
    exact absurd rfl (dec_ne hD (List.mem_of_getElem? h2.symm)).2
  · exact h1
  · have h2 := get_of h (k := D.length) (by rw [hz]; simp)
    rw [List.getElem?_append_right (Nat.le_refl _), Nat.sub_self, List.getElem?_cons_zero] at h2
    exact absurd (Option.some.inj h2) (hn _ h1)
theorem slash_left {s : ByteArray} {D E : List UInt8} (h : s.data.toList = D ++ 47 :: E) : (s.extract 0 D.length).data.toList = D := by
  have e : (s.extract 0 D.length).data.toList = s.data.toList.take D.length := by simp
  rw [e, h, List.take_left']
  rfl
theorem slash_right {s : ByteArray} {D E : List UInt8} (h : s.data.toList = D ++ 47 :: E) : (s.extract (D.length + 1) s.size).data.toList = E := by
  have e : (s.extract (D.length + 1) s.size).data.toList = (s.data.toList.drop (D.length + 1)).take (s.size - (D.length + 1)) := by simp
  have hz := size_of h
  have h3 : (D ++ 47 :: E).drop (D.length + 1) = E := by
    rw [List.drop_append, List.drop_of_length_le (by omega), show D.length + 1 - D.length = 1 by omega]; rfl
  rw [e, h, h3, List.take_of_length_le]
  rw [hz]; simp; omega
theorem no_slash {s : ByteArray} {D : List UInt8} (h : s.data.toList = D) (hD : allDec D) {i : Nat} (hi : i < s.size) : s[i]'hi ≠ 47 := fun h47 => by
  have h2 := get_of h hi
  rw [h47] at h2
  exact absurd rfl (dec_ne hD (List.mem_of_getElem? h2.symm)).2
/-- what is read out of a text: its sign, the digits ahead of the slash and behind it -/
structure Parts (s : ByteArray) (ng two : Bool) (rest a b : ByteArray) : Prop where
  cp : ∀ W, Calls Try.prog 39 #[.string s, .string ⟨#[45]⟩] W fun e w' => e = .returned (.tuple #[.string rest, .bool ng]) ∧ W = w'
  ct : ∀ W, Calls Try.prog 40 #[.string rest, .string ⟨#[47]⟩] W fun e w' => e = .returned (.tuple #[.string a, .string b, .bool two]) ∧ Below W.heap.size W w'
  tell : ∀ z : Rat, ktx z = s.data.toList → ng = sg z.num ∧ a.data.toList = dtx z.num.natAbs ∧ (if two then b else ⟨#[49]⟩ : ByteArray).data.toList = dtx z.den
  la : a.size ≤ s.size
  lb : b.size ≤ s.size
theorem first_at {s : ByteArray} {c : UInt8} : (∀ (k : Nat) (hk : k < s.size), s[k]'hk ≠ c) ∨ ∃ (i : Nat) (hi : i < s.size), s[i]'hi = c ∧ ∀ (k : Nat) (hk : k < i), s[k]'(by omega) ≠ c := by
  have key : ∀ n, n ≤ s.size → (∀ (k : Nat) (hk : k < s.size), k < n → s[k]'hk ≠ c) ∨ ∃ (i : Nat) (hi : i < s.size), s[i]'hi = c ∧ ∀ (k : Nat) (hk : k < i), s[k]'(by omega) ≠ c := by
    intro n
    induction n with
    | zero => intro _; exact .inl fun k _ hk => absurd hk (by omega)
    | succ n ih =>
      intro hn
      rcases ih (by omega) with h1 | h1
      · by_cases hc : s[n]'(by omega) = c
        · exact .inr ⟨n, by omega, hc, fun k hk => h1 k (by omega) hk⟩
        · left
          intro k hk hkn
          rcases Nat.lt_or_ge k n with h2 | h2
          · exact h1 k hk h2
          · obtain rfl : k = n := by omega
            exact hc
      · exact .inr h1
  rcases key s.size (Nat.le_refl _) with h1 | h1
  · exact .inl fun k hk => h1 k hk hk
  · exact .inr h1
theorem cut_parts {s rest : ByteArray} (ng : Bool) (hr : rest.size ≤ s.size) (hs : s.size ≤ 1000000) (cp : ∀ W, Calls Try.prog 39 #[.string s, .string ⟨#[45]⟩] W fun e w' => e = .returned (.tuple #[.string rest, .bool ng]) ∧ W = w')
    (tell : ∀ z : Rat, ktx z = s.data.toList → ng = sg z.num ∧ rest.data.toList = kmag z) : ∃ two a b, Parts s ng two rest a b := by
  rcases first_at (s := rest) (c := 47) with hn | ⟨i, hi, h47, hn⟩
  · refine ⟨false, rest, ⟨#[]⟩, cp, fun W => (scut_no rest W hn).mono ?_, fun z hz => ?_, hr, Nat.zero_le _⟩
    · rintro e w' ⟨rfl, rfl⟩
      exact ⟨rfl, Below.refl _ _⟩
    · obtain ⟨h1, h2⟩ := tell z hz
      by_cases hd : z.den = 1
      · unfold kmag at h2
        rw [if_pos hd, List.append_nil] at h2
        refine ⟨h1, h2, ?_⟩
        rw [hd]
        unfold dtx
        rw [if_neg (by decide), decs_pos (by decide), show 1 / 10 = 0 from rfl, decs_zero]
        rfl
      · unfold kmag at h2
        rw [if_neg hd] at h2
        have hz := size_of h2
        have h3 := get_of h2 (k := (dtx z.num.natAbs).length) (by rw [hz]; simp)
        rw [List.getElem?_append_right (Nat.le_refl _), Nat.sub_self, List.getElem?_cons_zero] at h3
        exact absurd (Option.some.inj h3) (hn _ _)
  · refine ⟨true, rest.extract 0 i, rest.extract (i + 1) rest.size, cp, fun W => (scut_yes rest i W hi h47 hn (by omega)).mono ?_, fun z hz => ?_, ext_size hr, ext_size hr⟩
    · rintro e w' ⟨rfl, n, rfl⟩
      exact ⟨rfl, Below.drewN' (Below.refl _ _) n⟩
    · obtain ⟨h1, h2⟩ := tell z hz
      by_cases hd : z.den = 1
      · unfold kmag at h2
        rw [if_pos hd, List.append_nil] at h2
        exact absurd h47 (no_slash h2 (dtx_allDec _) hi)
      · unfold kmag at h2
        rw [if_neg hd] at h2
        obtain rfl := slash_at h2 (dtx_allDec _) hi h47 hn
        exact ⟨h1, slash_left h2, slash_right h2⟩
theorem parts_of (s : ByteArray) (hs : s.size ≤ 1000000) : ∃ ng two rest a b, Parts s ng two rest a b := by
  by_cases h : byt s 0 = 45
  · have h0 := byt_lt (s := s) (i := 0) (by omega)
    obtain ⟨two, a, b, h2⟩ := cut_parts (s := s) (rest := s.extract 1 s.size) true (ext_size (Nat.le_refl _)) hs (fun W => cutp_yes s W h0 h) (fun z hz => by
      rw [ktx_mag] at hz
      cases hsg : sg z.num
      · rw [hsg] at hz
        obtain ⟨c, r, h3, h4⟩ := kmag_head z
        have h5 := byt_head (s := s) (c := c) (r := r) (by rw [← hz, h3]; rfl)
        refine absurd (UInt8.toNat_inj.1 ?_) h4
        rw [← h5.1, h]; rfl
      · rw [hsg] at hz
        exact ⟨rfl, rest_minus hz.symm⟩)
    exact ⟨true, two, _, a, b, h2⟩
  · obtain ⟨two, a, b, h2⟩ := cut_parts (s := s) (rest := s) false (Nat.le_refl _) hs (fun W => cutp_no s W h) (fun z hz => by
      rw [ktx_mag] at hz
      cases hsg : sg z.num
      · rw [hsg] at hz
        exact ⟨rfl, hz.symm⟩
      · rw [hsg] at hz
        have h5 := byt_head (s := s) (c := 45) (r := kmag z) (by rw [← hz]; rfl)
        exact absurd h5.1 h)
    exact ⟨false, two, _, a, b, h2⟩
theorem dn32_dec {l : List UInt8} (h : allDec l) (hl : l.length ≤ 1000000) : Fil.dn 32 (dval 0 l) ≤ 1099511627776 := Nat.le_trans (dn_of_ten (N := 200000) (dval_lt l h) (by omega)) (by decide)
theorem len_toList (s : ByteArray) : s.data.toList.length = s.size := Array.length_toList
theorem bstr_inj {x y : Nat} (h : bstr x = bstr y) : x = y := by rw [← nb_bstr x, h, nb_bstr]
/-- what Read tells of a text -/
theorem kread_any (s : ByteArray) (w : World) (hs : s.size ≤ 80000) :
    Calls Try.prog 17 #[.string s] w fun e w' => ((∃ z, Fits z ∧ ktx z = s.data.toList ∧ e = .returned (.tuple #[kA z, .int .i64 0])) ∨ ((∀ z, Fits z → ktx z ≠ s.data.toList) ∧ e = .returned (errV 40))) ∧ Below w.heap.size w w' := by
  obtain ⟨ng, two, rest, a, b, P⟩ := parts_of s (by omega)
  have la := P.la
  have lb := P.lb
  have bad : (∀ z, Fits z → ktx z ≠ s.data.toList) → ∀ (e : Ending) w', (e = .returned (errV 40) ∧ Below w.heap.size w w') → ((∃ z, Fits z ∧ ktx z = s.data.toList ∧ e = .returned (.tuple #[kA z, .int .i64 0])) ∨ ((∀ z, Fits z → ktx z ≠ s.data.toList) ∧ e = .returned (errV 40))) ∧ Below w.heap.size w w' := fun h e w' k => ⟨.inr ⟨h, k.1⟩, k.2⟩
  by_cases ha : goodL a.data.toList
  case neg =>
    have hb : ∀ z, Fits z → ktx z ≠ s.data.toList := fun z _ hz => ha (by rw [(P.tell z hz).2.1]; exact dtx_good _)
    cases two
    · exact (kread_fa s rest a b ng w hs (by omega) P.cp P.ct ha).mono (bad hb)
    · exact (kread_ta s rest a b ng w hs (by omega) (by omega) P.cp P.ct ha).mono (bad hb)
  by_cases hbb : goodL (if two then b else ⟨#[49]⟩ : ByteArray).data.toList
  case neg =>
    have hb : ∀ z, Fits z → ktx z ≠ s.data.toList := fun z _ hz => hbb (by rw [(P.tell z hz).2.2]; exact dtx_good _)
    cases two
    · exact absurd (by decide : goodL (⟨#[49]⟩ : ByteArray).data.toList) hbb
    · exact (kread_tb s rest a b ng w hs (by omega) (by omega) P.cp P.ct ha hbb).mono (bad hb)
  by_cases hd0 : dval 0 (if two then b else ⟨#[49]⟩ : ByteArray).data.toList = 0
  · have hb : ∀ z, Fits z → ktx z ≠ s.data.toList := fun z _ hz => by
      rw [(P.tell z hz).2.2, dval_dtx] at hd0
      exact z.den_nz hd0
    cases two
    · exact absurd (show dval 0 [49] = 0 from hd0) (by decide)
    · exact (kread_tz s rest a b ng w hs (by omega) (by omega) P.cp P.ct ha hbb hd0).mono (bad hb)
  have nK := dn32_dec ha.1 (by rw [len_toList]; omega)
  have dK := dn32_dec hbb.1 (by
    rw [len_toList]
    cases two
    · exact (show (1 : Nat) ≤ 1000000 by omega)
    · exact Nat.le_trans lb (by omega))
  obtain ⟨n, hn⟩ : ∃ n, n = dval 0 a.data.toList := ⟨_, rfl⟩
  obtain ⟨d, hd⟩ : ∃ d, d = dval 0 (if two then b else ⟨#[49]⟩ : ByteArray).data.toList := ⟨_, rfl⟩
  rw [← hn] at nK
  rw [← hd] at dK hd0
  have sS : (bstr n).size ≤ 9223372036854775807 := by rw [bstr_size]; have := dn32_of8 nK; omega
  have sD : (bstr d).size ≤ 9223372036854775807 := by rw [bstr_size]; have := dn32_of8 dK; omega
  cases hm : kMayB ng (bstr n) (bstr d)
  · have ht := fun W => ktext_bad ng (bstr n) (bstr d) W sS sD hm
    have hb : ∀ z, Fits z → ktx z ≠ s.data.toList := fun z fz hz => by
      obtain ⟨e1, e2, e3⟩ := P.tell z hz
      rw [e2, dval_dtx] at hn
      rw [e3, dval_dtx] at hd
      rw [hn, hd, e1, may_of_rat fz] at hm
      exact Bool.noConfusion hm
    cases two
    · exact (kread_fm s rest a b ng w hs (by omega) P.cp P.ct ha hbb n d _ _ rfl rfl hn.symm hd.symm hd0 nK dK 2 ht rfl).mono (bad hb)
    · exact (kread_tm s rest a b ng w hs (by omega) (by omega) P.cp P.ct ha hbb n d _ _ rfl rfl hn.symm hd.symm hd0 nK dK 2 ht rfl).mono (bad hb)
  · obtain ⟨z, fz, e1, e2, e3⟩ := rat_of_may hm
    have ht := fun W => ktext_ok z W fz
    unfold kA at ht
    rw [← e1, ← e2, ← e3] at ht
    by_cases hz : ktx z = s.data.toList
    · have hts : ((⟨(ktx z).toArray⟩ : ByteArray).toList == s.toList) = true := by
        rw [beq_iff_eq, ByteArray.toList_eq, ByteArray.toList_eq, ← hz]
      have good : ∀ (e : Ending) w', (e = .returned (.tuple #[.agg #[.bool ng, .string (bstr n), .string (bstr d)], .int .i64 0]) ∧ Below w.heap.size w w') → ((∃ z, Fits z ∧ ktx z = s.data.toList ∧ e = .returned (.tuple #[kA z, .int .i64 0])) ∨ ((∀ z, Fits z → ktx z ≠ s.data.toList) ∧ e = .returned (errV 40))) ∧ Below w.heap.size w w' := fun e w' k => ⟨.inl ⟨z, fz, hz, by rw [k.1]; unfold kA; rw [← e1, ← e2, ← e3]⟩, k.2⟩
      cases two
      · exact (kread_fy s rest a b ng w hs (by omega) P.cp P.ct ha hbb n d _ _ rfl rfl hn.symm hd.symm hd0 nK dK _ ht hts).mono good
      · exact (kread_ty s rest a b ng w hs (by omega) (by omega) P.cp P.ct ha hbb n d _ _ rfl rfl hn.symm hd.symm hd0 nK dK _ ht hts).mono good
    · have hts : ((⟨(ktx z).toArray⟩ : ByteArray).toList == s.toList) = false := by
        rw [beq_eq_false_iff_ne, ByteArray.toList_eq, ByteArray.toList_eq]
        exact hz
      have hb : ∀ y, Fits y → ktx y ≠ s.data.toList := fun y fy hy => by
        obtain ⟨k1, k2, k3⟩ := P.tell y hy
        rw [k2, dval_dtx] at hn
        rw [k3, dval_dtx] at hd
        have h2 : y.num.natAbs = z.num.natAbs := by rw [← hn]; exact bstr_inj e2
        have h3 : y.den = z.den := by rw [← hd]; exact bstr_inj e3
        have h4 : y = z := Rat.ext (by rw [← sz_self y.num, ← sz_self z.num, h2, ← k1, ← e1]) h3
        exact hz (h4 ▸ hy)
      cases two
      · exact (kread_fn s rest a b ng w hs (by omega) P.cp P.ct ha hbb n d _ _ rfl rfl hn.symm hd.symm hd0 nK dK _ ht hts).mono (bad hb)
      · exact (kread_tn s rest a b ng w hs (by omega) (by omega) P.cp P.ct ha hbb n d _ _ rfl rfl hn.symm hd.symm hd0 nK dK _ ht hts).mono (bad hb)
end Go.Proofs.Ytbfnafcpjbdbpaa
