/- Merged: MS MT MU -/
import Derived.Test.YtjldfclncipbgaaGreatDoorMG
import Derived.Test.YtjldfclncipbgaaGreatDoorKf

/- dyad.Show and the reference's Show: what they say. -/
namespace Go.Proofs.YtjldfclncipbgaaGreatDoor
open Go Go.RowKit Go.PlainAid Fil

theorem cat3 (a b : List UInt8) : (((⟨a.toArray⟩ : ByteArray) ++ ⟨#[112]⟩) ++ ⟨b.toArray⟩ : ByteArray) = ⟨(a ++ 112 :: b).toArray⟩ := by apply ByteArray.ext; simp
theorem cat4 (a b : List UInt8) : ((⟨#[45]⟩ : ByteArray) ++ (((⟨a.toArray⟩ : ByteArray) ++ ⟨#[112]⟩) ++ ⟨b.toArray⟩) : ByteArray) = ⟨(45 :: (a ++ 112 :: b)).toArray⟩ := by apply ByteArray.ext; simp
theorem dn32_gen {x m : Nat} (h : dn 8 x ≤ 4 * m) : dn 32 x ≤ m := dn_le (by omega) (by have := lt_of_dn (k := 8) (n := 4 * m) (by omega) h; rwa [show 8 * (4 * m) = 32 * m by omega] at this)
theorem dn32_of {x : Nat} (h : dn 8 x ≤ 16384) : dn 32 x ≤ 4096 := dn32_gen (by omega)
theorem dtx_big {x : Nat} (h : dn 8 x ≤ 16384) : (dtx x).length ≤ 100000 := by
  have := dtx_len (dn32_of h)
  omega
theorem size_mk (l : List UInt8) : (⟨l.toArray⟩ : ByteArray).size = l.length := by show l.toArray.size = l.length; rw [List.size_toArray]
theorem bstr_nz {x : Nat} (h : x ≠ 0) : (bstr x).toList.isEmpty = false := (bstr_ne h).1
theorem r3show_ok (n : Bool) (x : Nat) (e : Int) (w : World) (h : okD n x e) :
    Calls Tryz.prog 12 #[.agg #[.bool n, .string (bstr x), .int .i64 e]] w fun r w' => r = .returned (.string ⟨(dtext n x e).toArray⟩) ∧ Below w.heap.size w w' := by
  by_cases hx : x = 0
  · subst hx
    rw [bstr_zero, show dtext n 0 e = [48] from rfl]
    exact r3show_nil n e w
  · have hd := h.dn
    have ht := dtx_big hd
    have e0 := h.e1
    have e1 := h.e2
    have hi := itx_len e0 e1
    unfold dtext dhead
    rw [if_neg hx]
    cases n
    · have := r3show_pos (bstr x) ⟨(dtx x).toArray⟩ ⟨(itx e).toArray⟩ e w (fun W => r2text_any x W (by omega)) (fun W => r3digits_any e W e0 e1) (bstr_nz hx) (by rw [size_mk]; omega) (by rw [size_mk]; omega)
      rw [cat3] at this
      exact this
    · have := r3show_neg (bstr x) ⟨(dtx x).toArray⟩ ⟨(itx e).toArray⟩ e w (fun W => r2text_any x W (by omega)) (fun W => r3digits_any e W e0 e1) (bstr_nz hx) (by rw [size_mk]; omega) (by rw [size_mk]; omega)
      rw [cat4] at this
      exact this
theorem dshow_good (n : Bool) (x : Nat) (e : Int) (w : World) (h : okD n x e) (hT : TabK w) :
    Calls Tryz.prog 7 #[.agg #[.bool n, .string (bstr x), .int .i64 e]] w fun r w' => r = .returned (.tuple #[.string ⟨(dtext n x e).toArray⟩, .int .i64 0]) ∧ Below w.heap.size w w' := by
  have hC : ∀ W, Calls Tryz.prog 13 #[.agg #[.bool n, .string (bstr x), .int .i64 e]] W fun r w' => r = .returned (.int .i64 0) ∧ Below W.heap.size W w' := fun W => by
    have := check_any n (bstr x) e W (bstr_len h)
    rw [mayB_ok h, okE_t] at this
    exact this
  have hS := fun W => dsign_ok n x e W h
  by_cases hx : x = 0
  · subst hx
    rw [show dtext n 0 e = [48] from rfl]
    refine dshow_nil (bstr 0) n e w hC ?_
    intro W
    have := hS W
    rw [show (sz n 0).sign = 0 by cases n <;> rfl] at this
    exact this
  · have hd := h.dn
    have ht := dtx_big hd
    have e0 := h.e1
    have e1 := h.e2
    have hi := itx_len e0 e1
    have hz : dn 32 x ≤ 100000000 := by have := dn32_of hd; omega
    have := dshow_ok (bstr x) ⟨(dhead n x).toArray⟩ ⟨(itx e).toArray⟩ n e (sz n x).sign (sz n x) w hC hS (sz_sign_ne hx)
      (fun W => (whole_any n x e W h).mono fun r w' hh => ⟨⟨_, _, hh.1, hh.2.1⟩, hh.2.2⟩)
      (fun W b o hI => by
        cases n
        · exact string_any b o x W hI hz
        · exact string_neg b o x W hx hI hz)
      (fun W hb => citoa e W (hT.below hb) (by omega) (by omega))
      (by rw [size_mk]; unfold dhead; cases n <;> simp <;> omega) (by rw [size_mk]; omega)
    rw [cat3] at this
    unfold dtext
    rw [if_neg hx]
    exact this
theorem dshow_no (n : Bool) (s : ByteArray) (e : Int) (w : World) (hs : s.size ≤ 9223372036854775807) (h : mayB n s e = false) :
    Calls Tryz.prog 7 #[.agg #[.bool n, .string s, .int .i64 e]] w fun r w' => r = .returned (.tuple #[.string ⟨#[]⟩, .int .i64 2]) ∧ Below w.heap.size w w' := by
  refine dshow_bad s n e 2 w ?_ rfl
  intro W
  have := check_any n s e W hs
  rw [h] at this
  exact this
end Go.Proofs.YtjldfclncipbgaaGreatDoor

/- dyad.Read: what it answers. -/
namespace Go.Proofs.YtjldfclncipbgaaGreatDoor
open Go Go.RowKit Go.PlainAid Fil

theorem ba_of {s : ByteArray} {l : List UInt8} (h : s.data.toList = l) : s = ⟨l.toArray⟩ := by
  subst h
  apply ByteArray.ext; simp
theorem dtext_no48 {n : Bool} {x : Nat} {e : Int} (hx : x ≠ 0) : dtext n x e ≠ [48] := fun h => by
  unfold dtext at h
  rw [if_neg hx] at h
  have : (112 : UInt8) ∈ [(48 : UInt8)] := by rw [← h]; simp
  simp at this
theorem cutp_dhead (n : Bool) (x : Nat) (W : World) :
    Calls Tryz.prog 28 #[.string ⟨(dhead n x).toArray⟩, .string ⟨#[45]⟩] W fun r w' => r = .returned (.tuple #[.string ⟨(dtx x).toArray⟩, .bool n]) ∧ Below W.heap.size W w' := by
  cases n
  · refine (cutp_no ⟨(dhead false x).toArray⟩ W ?_).mono ?_
    · by_cases h0 : 0 < (⟨(dhead false x).toArray⟩ : ByteArray).size
      · rw [byt_in h0]
        have := good_all (s := ⟨(dhead false x).toArray⟩) (by exact dtx_good x) 0 h0
        omega
      · rw [byt_out h0]; omega
    · rintro r w' ⟨rfl, rfl⟩
      exact ⟨rfl, Below.refl _ _⟩
  · have hl : (⟨(dhead true x).toArray⟩ : ByteArray).data.toList = [] ++ 45 :: dtx x := rfl
    have h0 : 0 < (⟨(dhead true x).toArray⟩ : ByteArray).size := by rw [size_of hl]; simp
    refine (cutp_yes ⟨(dhead true x).toArray⟩ W h0 ?_).mono ?_
    · rw [byt_in h0]
      have := get_of hl h0
      rw [Option.some.inj this]; rfl
    · rintro r w' ⟨rfl, rfl⟩
      have := ba_of (cut_right hl)
      exact ⟨by rw [← this]; rfl, Below.refl _ _⟩
theorem dread_good (s : ByteArray) (n : Bool) (x : Nat) (e : Int) (w : World) (hT : TabK w) (h : okD n x e) (hl : s.data.toList = dtext n x e) :
    Calls Tryz.prog 8 #[.string s] w fun r w' => r = .returned (.tuple #[.agg #[.bool n, .string (bstr x), .int .i64 e], .int .i64 0]) ∧ Below w.heap.size w w' := by
  have hse := ba_of hl
  by_cases hx : x = 0
  · subst hx
    obtain ⟨rfl, rfl⟩ : n = false ∧ e = 0 := by
      rcases h with h | h
      · exact ⟨h.2.1, h.2.2⟩
      · omega
    rw [hse, bstr_zero]
    exact dread_zero w
  · have hd := h.dn
    have e0 := h.e1
    have e1 := h.e2
    have hi := itx_len e0 e1
    have hdl := dtx_len (dn32_of hd)
    have hs0 : (s.toList == [48]) = false := by
      rw [ByteArray.toList_eq, hl, beq_eq_false_iff_ne]
      exact dtext_no48 hx
    have hl2 : s.data.toList = dhead n x ++ 112 :: itx e := by rw [hl]; unfold dtext; rw [if_neg hx]
    have hhl : (dhead n x).length ≤ 40962 := by unfold dhead; cases n <;> simp <;> omega
    have hsz : s.size ≤ 49152 := by rw [size_of hl2]; simp; omega
    obtain ⟨i, hi0, hi1⟩ := cut_some hl2
    have hcut : ∀ W, Calls Tryz.prog 27 #[.string s, .string ⟨#[112]⟩] W fun r w' => r = .returned (.tuple #[.string ⟨(dhead n x).toArray⟩, .string ⟨(itx e).toArray⟩, .bool true]) ∧ Below W.heap.size W w' := by
      have hlt : (dhead n x).length < s.size := by rw [size_of hl2]; simp
      have hg : s[(dhead n x).length]'hlt = 112 := by
        have := get_of hl2 hlt
        rw [List.getElem?_append_right (Nat.le_refl _), Nat.sub_self, List.getElem?_cons_zero] at this
        exact (Option.some.inj this).symm ▸ rfl
      intro W
      refine (scut_yes_p s (dhead n x).length W hlt hg ?_ (by omega)).mono ?_
      · intro k hk hc
        have h2 := get_of hl2 (show k < s.size by omega)
        rw [List.getElem?_append_left hk, hc] at h2
        exact dhead_p _ (List.mem_of_getElem? h2.symm) rfl
      · rintro r w' ⟨rfl, k, rfl⟩
        exact ⟨by rw [ba_of (cut_left hl2), ba_of (cut_right hl2)], ⟨rfl, rfl, rfl, Nat.le_refl _, fun _ _ => rfl⟩⟩
    have hpre := fun W => cutp_dhead n x W
    have hrd : ∀ W, Calls Tryz.prog 29 #[.string ⟨(dtx x).toArray⟩] W fun r w' => r = .returned (.tuple #[.string (bstr x), .int .i64 0]) ∧ Below W.heap.size W w' := by
      intro W
      refine (nread_any ⟨(dtx x).toArray⟩ W (by rw [size_mk]; omega)).mono ?_
      rintro r w' ⟨rfl, hb⟩
      refine ⟨?_, hb⟩
      unfold nreadV
      rw [if_pos (show goodB (⟨(dtx x).toArray⟩ : ByteArray).data.toList = true from decide_eq_true (dtx_good x)), if_neg (by rw [size_mk]; omega)]
      unfold shutV
      rw [show dval 0 (⟨(dtx x).toArray⟩ : ByteArray).data.toList = x from dval_dtx x, if_pos hd]
    have hat := fun W (hb : Below w.heap.size w W) => catoi ⟨(itx e).toArray⟩ e W (by rw [size_mk]; omega) (atoi_itx e)
    have hck : ∀ W, Calls Tryz.prog 13 #[.agg #[.bool n, .string (bstr x), .int .i64 e]] W fun r w' => r = .returned (.int .i64 0) ∧ Below W.heap.size W w' := fun W => by
      have := check_any n (bstr x) e W (bstr_len h)
      rw [mayB_ok h, okE_t] at this
      exact this
    refine dread_ok s ⟨(dhead n x).toArray⟩ ⟨(itx e).toArray⟩ ⟨(dtx x).toArray⟩ (bstr x) n e 0 w hs0 hcut (by omega) (by rw [size_mk]; omega) hpre hrd hat (bstr_nz hx) hck ?_
    intro W hb
    rw [hse]
    exact dshow_good n x e W h (hT.below hb)
end Go.Proofs.YtjldfclncipbgaaGreatDoor

/- dyad.Read of a text that is no Dyad's. -/
namespace Go.Proofs.YtjldfclncipbgaaGreatDoor
open Go Go.RowKit Go.PlainAid Fil

theorem least_of {P : Nat → Prop} : ∀ n : Nat, P n → ∃ m, P m ∧ ∀ k, k < m → ¬ P k := by
  intro n
  induction n using Nat.strongRecOn with
  | ind n ih =>
    intro h
    by_cases hk : ∃ k, k < n ∧ P k
    · obtain ⟨k, h1, h2⟩ := hk
      exact ih k h1 h2
    · exact ⟨n, h, fun k h1 h2 => hk ⟨k, h1, h2⟩⟩
theorem nread_cases (b : ByteArray) : ∃ (m : ByteArray) (e : Int), nreadV b = .tuple #[.string m, .int .i64 e] ∧ ((e != 0) = true ∨ (e = 0 ∧ ∃ x, m = bstr x ∧ dn 8 x ≤ 16384)) := by
  unfold nreadV
  split
  · split
    · exact ⟨_, _, rfl, .inl rfl⟩
    · unfold shutV
      split
      · rename_i h; exact ⟨_, _, rfl, .inr ⟨rfl, _, rfl, h⟩⟩
      · exact ⟨_, _, rfl, .inl rfl⟩
  · exact ⟨_, _, rfl, .inl rfl⟩
theorem cutp_cases (a : ByteArray) : ∃ (b : ByteArray) (ng : Bool), b.size ≤ a.size ∧ ∀ W, Calls Tryz.prog 28 #[.string a, .string ⟨#[45]⟩] W fun r w' => r = .returned (.tuple #[.string b, .bool ng]) ∧ Below W.heap.size W w' := by
  by_cases h : byt a 0 = 45
  · refine ⟨a.extract 1 a.size, true, by rw [ByteArray.size_extract]; omega, fun W => (cutp_yes a W (byt_lt (by omega)) h).mono ?_⟩
    rintro r w' ⟨rfl, rfl⟩
    exact ⟨rfl, Below.refl _ _⟩
  · refine ⟨a, false, Nat.le_refl _, fun W => (cutp_no a W h).mono ?_⟩
    rintro r w' ⟨rfl, rfl⟩
    exact ⟨rfl, Below.refl _ _⟩
theorem dread_bad (s : ByteArray) (w : World) (hT : TabK w) (hs : s.size ≤ 9223372036854775807) (hno : ∀ n x e, okD n x e → s.data.toList ≠ dtext n x e) :
    Calls Tryz.prog 8 #[.string s] w fun r w' => r = .returned (.tuple #[.agg #[.bool false, .string { data := #[] }, .int .i64 0], .int .i64 30]) ∧ Below w.heap.size w w' := by
  have hs0 : (s.toList == [48]) = false := by
    rw [ByteArray.toList_eq, beq_eq_false_iff_ne]
    exact hno false 0 0 (.inl ⟨rfl, rfl, rfl⟩)
  by_cases hex : ∃ i, ∃ hi : i < s.size, s[i]'hi = 112
  · obtain ⟨i0, hi0⟩ := hex
    obtain ⟨i, ⟨hi, hc⟩, hleast⟩ := least_of (P := fun i => ∃ hi : i < s.size, s[i]'hi = 112) i0 hi0
    have hcut : ∀ W, Calls Tryz.prog 27 #[.string s, .string ⟨#[112]⟩] W fun r w' => r = .returned (.tuple #[.string (s.extract 0 i), .string (s.extract (i + 1) s.size), .bool true]) ∧ Below W.heap.size W w' := fun W =>
      (scut_yes_p s i W hi hc (fun k hk h => hleast k hk ⟨by omega, h⟩) hs).mono fun r w' hh => by
        obtain ⟨h1, k, rfl⟩ := hh
        exact ⟨h1, ⟨rfl, rfl, rfl, Nat.le_refl _, fun _ _ => rfl⟩⟩
    have haz : (s.extract 0 i).size ≤ s.size := by rw [ByteArray.size_extract]; omega
    obtain ⟨a, ha⟩ : ∃ a, a = s.extract 0 i := ⟨_, rfl⟩
    obtain ⟨p, hp⟩ : ∃ p, p = s.extract (i + 1) s.size := ⟨_, rfl⟩
    rw [← ha, ← hp] at hcut
    rw [← ha] at haz
    by_cases hl : (49152 : Int) < (s.size : Int)
    · exact dread_long s a p w hs0 hcut hl
    by_cases hpl : (10 : Int) < (p.size : Int)
    · exact dread_plong s a p w hs0 hcut hl hpl
    obtain ⟨b, ng, hbz, hx⟩ := cutp_cases a
    obtain ⟨m, e, hm, hme⟩ := nread_cases b
    have hn : ∀ W, Calls Tryz.prog 29 #[.string b] W fun r w' => r = .returned (.tuple #[.string m, .int .i64 e]) ∧ Below W.heap.size W w' := fun W => by
      have := nread_any b W (by omega)
      rw [hm] at this
      exact this
    rcases hat : Lib.atoi p.data.toList with _ | v
    · have hA := fun W (hb : Below w.heap.size w W) => catoi_bad p W (hT.below hb) (by omega) hat
      rcases hme with he | ⟨rfl, _⟩
      · exact dread_enf s a p b m ng e w hs0 hcut hl hpl hx hn hA he
      · exact dread_ef s a p b m ng w hs0 hcut hl hpl hx hn hA
    · have hA := fun W (_ : Below w.heap.size w W) => catoi p v W (by omega) hat
      rcases hme with he | ⟨rfl, x, rfl, hdn⟩
      · exact dread_en s a p b m ng e v w hs0 hcut hl hpl hx hn hA he
      by_cases hx0 : x = 0
      · subst hx0
        rw [bstr_zero] at hn
        exact dread_n0 s a p b ng v w hs0 hcut hl hpl hx hn hA
      have hsz : (bstr x).size ≤ 9223372036854775807 := by
        rw [bstr_size]
        omega
      cases hmay : mayB ng (bstr x) v with
      | false =>
        refine dread_chk s a p b (bstr x) ng v 2 w hs0 hcut hl hpl hx hn hA (bstr_nz hx0) ?_ rfl
        intro W
        have := check_any ng (bstr x) v W hsz
        rw [hmay] at this
        exact this
      | true =>
        obtain ⟨y, hy, hok⟩ := ok_of_may hmay
        have hck : ∀ W, Calls Tryz.prog 13 #[.agg #[.bool ng, .string (bstr x), .int .i64 v]] W fun r w' => r = .returned (.int .i64 0) ∧ Below W.heap.size W w' := fun W => by
          have := check_any ng (bstr x) v W hsz
          rw [hmay] at this
          exact this
        refine dread_ne s a p b (bstr x) ng v 0 ⟨(dtext ng y v).toArray⟩ w hs0 hcut hl hpl hx hn hA (bstr_nz hx0) hck ?_ ?_
        · intro W hb
          rw [hy]
          exact dshow_good ng y v W hok (hT.below hb)
        · rw [ByteArray.toList_eq, ByteArray.toList_eq, beq_eq_false_iff_ne]
          exact fun h => hno ng y v hok h.symm
  · refine dread_nocut s s ⟨#[]⟩ w hs0 ?_
    intro W
    refine (scut_no_p s W fun k hk h => hex ⟨k, hk, h⟩).mono ?_
    rintro r w' ⟨rfl, rfl⟩
    exact ⟨rfl, Below.refl _ _⟩
end Go.Proofs.YtjldfclncipbgaaGreatDoor
