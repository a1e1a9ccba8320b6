/- Merged: Y4 Y5 -/
import Derived.Test.YtjldfclncipbgaaGreatDoorMU
import Derived.Test.YtjldfclncipbgaaGreatDoorU7
import Derived.Test.YtjldfclncipbgaaGreatDoorY2
import Derived.Test.YtjldfclncipbgaaGreatDoorY3

/- The reference of layer 3: what Read tells of any text. -/
namespace Go.Proofs.YtjldfclncipbgaaGreatDoor
open Go Go.RowKit Go.PlainAid Fil

theorem dval_snoc3 (l : List UInt8) (c : UInt8) : dval 0 (l ++ [c]) = 10 * dval 0 l + (c.toNat - 48) := by rw [dval_append, dval_cons, dval_nil]
theorem u8_dec3 {c : UInt8} (h : isDec c = true) : UInt8.ofNat (48 + (c.toNat - 48)) = c := by
  have := of_decide_eq_true h
  rw [show 48 + (c.toNat - 48) = c.toNat by omega]
  exact UInt8.toNat_inj.1 (u8_of_lt (by omega))
theorem decs_rev3 : ∀ (r : List UInt8), allDec r → r.getLast? ≠ some 48 → decs (dval 0 r.reverse) = r
  | [], _, _ => by rw [List.reverse_nil, dval_nil, decs_zero]
  | c :: r, h, hl => by
    have hc := h c (List.mem_cons_self ..)
    have hcn : 48 ≤ c.toNat ∧ c.toNat ≤ 57 := of_decide_eq_true hc
    rw [List.reverse_cons, dval_snoc3]
    cases r with
    | nil =>
      have h48 : c ≠ 48 := fun e => hl (by rw [e]; rfl)
      have h49 : c.toNat ≠ 48 := fun e => h48 (UInt8.toNat_inj.1 e)
      rw [List.reverse_nil, dval_nil, decs_pos (by omega), show (10 * 0 + (c.toNat - 48)) % 10 = c.toNat - 48 by omega, show (10 * 0 + (c.toNat - 48)) / 10 = 0 by omega, decs_zero, u8_dec3 hc]
    | cons c2 r2 =>
      have ih := decs_rev3 (c2 :: r2) (fun x hx => h x (List.mem_cons_of_mem _ hx)) (by rw [List.getLast?_cons_cons] at hl; exact hl)
      have hv : dval 0 (c2 :: r2).reverse ≠ 0 := fun e => by rw [e, decs_zero] at ih; simp at ih
      generalize dval 0 (c2 :: r2).reverse = v at *
      rw [decs_pos (by omega), show (10 * v + (c.toNat - 48)) % 10 = c.toNat - 48 by omega, show (10 * v + (c.toNat - 48)) / 10 = v by omega, ih, u8_dec3 hc]
theorem dtx_dval3 {l : List UInt8} (h : goodL l) : dtx (dval 0 l) = l := by
  by_cases h48 : l.head? = some 48
  · have h1 := h.2.2 h48
    match l, h1, h48 with
    | [c], _, h48 =>
      have : c = 48 := by simpa using h48
      subst this
      rfl
  · have h2 := decs_rev3 l.reverse (fun c hc => h.1 c (List.mem_reverse.1 hc)) (by rw [List.getLast?_reverse]; exact h48)
    rw [List.reverse_reverse] at h2
    have hv : dval 0 l ≠ 0 := fun e => by
      rw [e, decs_zero] at h2
      exact h.2.1 (List.reverse_eq_nil_iff.1 h2.symm)
    unfold dtx
    rw [if_neg hv, h2, List.reverse_reverse]
theorem readV_cs (s : ByteArray) : (goodL s.data.toList ∧ Fil.dn 8 (dval 0 s.data.toList) ≤ 16384 ∧ readV s = .tuple #[.string (bstr (dval 0 s.data.toList)), .int .i64 0]) ∨ (∃ e : Int, (e = 4 ∨ e = 22) ∧ readV s = .tuple #[.string { data := #[] }, .int .i64 e] ∧ ¬ (goodL s.data.toList ∧ s.size ≤ 49152 ∧ Fil.dn 8 (dval 0 s.data.toList) ≤ 16384)) := by
  unfold readV
  by_cases hg : goodL s.data.toList
  · rw [if_pos (show goodB s.data.toList = true from decide_eq_true hg)]
    by_cases hl : 49152 < s.size
    · rw [if_pos hl]
      exact .inr ⟨4, .inl rfl, rfl, fun h => by omega⟩
    · rw [if_neg hl]
      by_cases hd : Fil.dn 8 (dval 0 s.data.toList) ≤ 16384
      · exact .inl ⟨hg, hd, endV_fit hd⟩
      · exact .inr ⟨4, .inl rfl, endV_long hd, fun h => hd h.2.2⟩
  · rw [if_neg (show ¬ goodB s.data.toList = true from fun h => hg (of_decide_eq_true h))]
    exact .inr ⟨22, .inr rfl, rfl, fun h => hg h.1⟩
theorem dtx_read {x : Nat} {a : ByteArray} (h : Fil.dn 8 x ≤ 16384) (e : a.data.toList = dtx x) : goodL a.data.toList ∧ a.size ≤ 49152 ∧ Fil.dn 8 (dval 0 a.data.toList) ≤ 16384 := by
  refine ⟨by rw [e]; exact dtx_good _, ?_, by rw [e, dval_dtx]; exact h⟩
  have h1 := dtx_len (dn32_of h)
  rw [size_of e]; omega
theorem byt_list {s : ByteArray} {n : Nat} (h : byt s 0 = n) (hn : n < 256) : ∃ c r, s.data.toList = c :: r ∧ c.toNat = n := by
  have h0 := byt_lt (s := s) (i := 0) (by omega)
  cases hl : s.data.toList with
  | nil =>
    have := size_of hl
    rw [List.length_nil] at this
    omega
  | cons c r =>
    have := byt_head hl
    exact ⟨c, r, rfl, by omega⟩
theorem sg3_list {s t : ByteArray} {ng : Bool} (h : Sg3 s ng t) : s.data.toList = (if ng then [45] else []) ++ t.data.toList := by
  rcases h with ⟨hb, rfl, rfl⟩ | ⟨hb, rfl, rfl⟩
  · obtain ⟨c, r, hl, hc⟩ := byt_list hb (by omega)
    obtain rfl : c = 45 := UInt8.toNat_inj.1 (by rw [hc]; rfl)
    rw [rest_minus hl, hl]; rfl
  · rfl
theorem cut_list {t : ByteArray} {i : Nat} (hi : i < t.size) : t.data.toList = (t.extract 0 i).data.toList ++ t[i]'hi :: (t.extract (i + 1) t.size).data.toList := by
  have e1 : (t.extract 0 i).data.toList = t.data.toList.take i := by simp
  have e2 : (t.extract (i + 1) t.size).data.toList = (t.data.toList.drop (i + 1)).take (t.size - (i + 1)) := by simp
  have hl : t.data.toList.length = t.size := len_toList t
  rw [e1, e2, List.take_of_length_le (l := t.data.toList.drop (i + 1)) (by rw [List.length_drop]; omega)]
  have h3 : t.data.toList.drop i = t[i]'hi :: t.data.toList.drop (i + 1) := by
    rw [List.drop_eq_getElem_cons (by omega)]; rfl
  rw [← h3, List.take_append_drop]
theorem dtx_no45 {x : Nat} {r : List UInt8} {E : List UInt8} (h : dtx x ++ E = 45 :: r) : False := by
  cases hd : dtx x with
  | nil => exact dtx_ne x hd
  | cons c q =>
    rw [hd] at h
    injection h with h1 _
    have := dtx_no (x := x) (c := c) (by rw [hd]; simp)
    have h45 : (45 : UInt8).toNat = 45 := rfl
    rw [h1] at this
    omega
/-- the sign and the rest of a text that has them -/
theorem sg3_tell {s t : ByteArray} {ng n : Bool} {x : Nat} {E : List UInt8} (h : Sg3 s ng t) (hl : s.data.toList = ((if n then [45] else []) ++ dtx x) ++ E) : ng = n ∧ t.data.toList = dtx x ++ E := by
  rw [List.append_assoc] at hl
  have h1 := sg3_list h
  cases n
  · rw [if_neg (by decide), List.nil_append] at hl
    rcases h with ⟨hb, rfl, rfl⟩ | ⟨hb, rfl, rfl⟩
    · rw [hl] at h1
      exact (dtx_no45 h1).elim
    · exact ⟨rfl, hl⟩
  · rcases h with ⟨hb, rfl, rfl⟩ | ⟨hb, rfl, rfl⟩
    · exact ⟨rfl, rest_minus hl⟩
    · exact absurd (byt_head hl).1 hb
/-- what Read tells, by the text's Dyad -/
def ReadD (s : ByteArray) (w : World) (e : Ending) (w' : World) : Prop := ((∃ n x k, okD n x k ∧ s.data.toList = dtext n x k ∧ e = .returned (.tuple #[.agg #[.bool n, .string (bstr x), .int .i64 k], .int .i64 0])) ∨ ((∀ n x k, okD n x k → s.data.toList ≠ dtext n x k) ∧ e = .returned (.tuple #[.agg #[.bool false, .string { data := #[] }, .int .i64 0], .int .i64 30]))) ∧ Below w.heap.size w w'
theorem readD_bad {s : ByteArray} {w : World} (h : ∀ n x k, okD n x k → s.data.toList ≠ dtext n x k) : ∀ (e : Ending) w', (e = .returned (.tuple #[.agg #[.bool false, .string { data := #[] }, .int .i64 0], .int .i64 30]) ∧ Below w.heap.size w w') → ReadD s w e w' := fun _ _ k => ⟨.inr ⟨h, k.1⟩, k.2⟩
theorem neg_abs {k : Int} {m : Nat} (h : k.natAbs = m) : k = if k < 0 then -(m : Int) else (m : Int) := by split <;> omega
theorem itx_of (dn : Bool) (m : Nat) (h : dn = true → m ≠ 0) : itx (if dn then -(m : Int) else (m : Int)) = (if dn then [45] else []) ++ dtx m := by
  cases dn
  · show itx (m : Int) = dtx m
    unfold itx
    rw [if_neg (by omega)]; rfl
  · have := h rfl
    show itx (-(m : Int)) = [45] ++ dtx m
    unfold itx
    rw [if_pos (by omega), show (-(m : Int)).natAbs = m by omega]
set_option maxHeartbeats 2000000 in
theorem r3read_any (s : ByteArray) (w : World) (hs : s.size ≤ 9223372036854775807) : Calls Tryz.prog 9 #[.string s] w (ReadD s w) := by
  by_cases h0 : s.data.toList = [48]
  · rw [ba_of h0]
    refine (r3read_zero w).mono fun e w' h => ⟨.inl ⟨false, 0, 0, okD.zero, rfl, ?_⟩, h.2⟩
    rw [h.1, bstr_zero]
  have hs0 : (s.toList == [48]) = false := by rw [ByteArray.toList_eq, beq_eq_false_iff_ne]; exact h0
  obtain ⟨ng, t, hsg⟩ := sg3_of s
  have hts := hsg.size
  have tell0 : ∀ n x k, okD n x k → s.data.toList = dtext n x k → ng = n ∧ t.data.toList = dtx x ++ 112 :: itx k ∧ x ≠ 0 := fun n x k _ hl => by
    unfold dtext at hl
    by_cases hx : x = 0
    · rw [if_pos hx] at hl; exact absurd hl h0
    · rw [if_neg hx] at hl
      exact ⟨(sg3_tell hsg hl).1, (sg3_tell hsg hl).2, hx⟩
  rcases first_at (s := t) (c := 112) with hn | ⟨i, hi, h112, hn⟩
  · have hb : ∀ k, k < t.size → byt t k ≠ 112 := fun k hk h => hn k hk (UInt8.toNat_inj.1 (by rw [← byt_in hk, h]; rfl))
    refine (r3read_nop s t ng w hs0 hs hsg hb).mono (readD_bad fun n x k hok hl => ?_)
    obtain ⟨_, h2, _⟩ := tell0 n x k hok hl
    obtain ⟨i, hi, hc⟩ := cut_some h2
    exact hn i hi hc
  have hb : ∀ k, k < i → byt t k ≠ 112 := fun k hk h => hn k hk (UInt8.toNat_inj.1 (by rw [← byt_in (by omega), h]; rfl))
  have h112b : byt t i = 112 := by rw [byt_in hi, h112]; rfl
  obtain ⟨AA, hA⟩ : ∃ AA, t.extract 0 i = AA := ⟨_, rfl⟩
  obtain ⟨E, hE⟩ : ∃ E, t.extract (i + 1) t.size = E := ⟨_, rfl⟩
  have hcl := cut_list hi
  rw [hA, hE, h112] at hcl
  have tellA : ∀ n x k, okD n x k → s.data.toList = dtext n x k → ng = n ∧ AA.data.toList = dtx x ∧ E.data.toList = itx k ∧ x ≠ 0 := fun n x k hok hl => by
    obtain ⟨h1, h2, h3⟩ := tell0 n x k hok hl
    have h4 := cut_at h2 (fun c hc h => by
      have := dtx_no hc
      have e : (112 : UInt8).toNat = 112 := rfl
      rw [h] at this; omega) hi h112 hn
    refine ⟨h1, ?_, ?_, h3⟩
    · rw [← hA, h4]; exact cut_left h2
    · rw [← hE, h4]; exact cut_right h2
  have hAs : AA.size ≤ 9223372036854775807 := by rw [← hA, ByteArray.size_extract]; omega
  have hEs : E.size ≤ 9223372036854775807 := by rw [← hE, ByteArray.size_extract]; omega
  have h1 := fun W => r2read_any AA W hAs
  rcases readV_cs AA with ⟨g1, g2, g3⟩ | ⟨e, he, g3, g4⟩
  case inr =>
    rw [g3] at h1
    refine (r3read_e s t ng w hs0 hs hsg i hi h112b hb AA _ hA e (by rcases he with rfl | rfl <;> rfl) h1).mono (readD_bad fun n x k hok hl => ?_)
    obtain ⟨_, k2, _, _⟩ := tellA n x k hok hl
    exact g4 (dtx_read hok.dn k2)
  rw [g3] at h1
  obtain ⟨x0, hx0⟩ : ∃ x0, x0 = dval 0 AA.data.toList := ⟨_, rfl⟩
  have hAx : AA.data.toList = dtx x0 := by rw [hx0, dtx_dval3 g1]
  rw [← hx0] at h1 g2
  obtain ⟨dn, M, hsE⟩ := sg3_of E
  have hMs := hsE.size
  have tellE : ∀ n x k, okD n x k → s.data.toList = dtext n x k → ng = n ∧ x0 = x ∧ dn = decide (k < 0) ∧ M.data.toList = dtx k.natAbs ∧ x ≠ 0 := fun n x k hok hl => by
    obtain ⟨k1, k2, k3, k4⟩ := tellA n x k hok hl
    have k5 : E.data.toList = ((if decide (k < 0) then [45] else []) ++ dtx k.natAbs) ++ [] := by
      rw [k3, List.append_nil]; unfold itx; simp
    obtain ⟨k6, k7⟩ := sg3_tell hsE k5
    rw [List.append_nil] at k7
    exact ⟨k1, by rw [hx0, k2, dval_dtx], k6, k7, k4⟩
  have h2 := fun W => r2read_any M W (by omega)
  rcases readV_cs M with ⟨l1, l2, l3⟩ | ⟨f, hf, l3, l4⟩
  case inr =>
    rw [l3] at h2
    have h3 := fun W => (r2small_any 0 W (by rw [dn_zero]; omega)).mono fun (r : Ending) (w' : World) (h : r = _ ∧ W = w') => (⟨h.1, h.2 ▸ Below.refl _ _⟩ : r = _ ∧ Below W.heap.size W w')
    rw [bstr_zero, ite_self] at h3
    refine (r3read_cf s t ng w hs0 hs hsg i hi h112b hb AA _ hA E hE h1 dn M hsE f (by rcases hf with rfl | rfl <;> rfl) _ _ 0 h2 h3).mono (readD_bad fun n x k hok hl => ?_)
    obtain ⟨_, _, _, k7, _⟩ := tellE n x k hok hl
    have b1 := hok.e1
    have b2 := hok.e2
    exact l4 (dtx_read (Nat.le_trans (dn_le (k := 8) (n := 8) (by omega) (show k.natAbs < 2 ^ (8 * 8) by omega)) (by omega)) k7)
  rw [l3] at h2
  obtain ⟨m, hm⟩ : ∃ m, m = dval 0 M.data.toList := ⟨_, rfl⟩
  have hMm : M.data.toList = dtx m := by rw [hm, dtx_dval3 l1]
  rw [← hm] at h2 l2
  have tellM : ∀ n x k, okD n x k → s.data.toList = dtext n x k → ng = n ∧ x0 = x ∧ dn = decide (k < 0) ∧ k.natAbs = m ∧ m ≤ 1048576 ∧ x ≠ 0 := fun n x k hok hl => by
    obtain ⟨k1, k2, k3, k4, k5⟩ := tellE n x k hok hl
    have b1 := hok.e1
    have b2 := hok.e2
    have e : k.natAbs = m := by rw [hm, k4, dval_dtx]
    exact ⟨k1, k2, k3, e, by omega, k5⟩
  have h3 := fun W => (r2small_any m W l2).mono fun (r : Ending) (w' : World) (h : r = _ ∧ W = w') => (⟨h.1, h.2 ▸ Below.refl _ _⟩ : r = _ ∧ Below W.heap.size W w')
  by_cases h8 : Fil.dn 8 m ≤ 8
  case neg =>
    rw [if_neg h8, decide_eq_false h8] at h3
    refine (r3read_ck s t ng w hs0 hs hsg i hi h112b hb AA _ hA E hE h1 dn M hsE _ 0 h2 h3).mono (readD_bad fun n x k hok hl => ?_)
    obtain ⟨_, _, _, _, k5, _⟩ := tellM n x k hok hl
    exact h8 (dn_le (by omega) (show m < 2 ^ (8 * 8) by omega))
  rw [if_pos h8, decide_eq_true h8] at h3
  by_cases hbig : 1048576 < m
  · refine (r3read_cy s t ng w hs0 hs hsg i hi h112b hb AA _ hA E hE h1 dn M hsE _ m h2 h3 (by omega)).mono (readD_bad fun n x k hok hl => ?_)
    obtain ⟨_, _, _, _, k5, _⟩ := tellM n x k hok hl
    omega
  have hk0 : -1048576 ≤ (if dn then -(m : Int) else (m : Int)) ∧ (if dn then -(m : Int) else (m : Int)) ≤ 1048576 := by split <;> omega
  by_cases hd0 : dn = true ∧ m = 0
  · obtain ⟨rfl, rfl⟩ := hd0
    refine (r3read_cd s t ng w hs0 hs hsg i hi h112b hb AA _ hA E hE h1 true M hsE _ h2 h3 rfl).mono (readD_bad fun n x k hok hl => ?_)
    obtain ⟨_, _, k3, k4, _, _⟩ := tellM n x k hok hl
    have : k < 0 := of_decide_eq_true k3.symm
    omega
  have tellK : ∀ n x k, okD n x k → s.data.toList = dtext n x k → ng = n ∧ x0 = x ∧ k = (if dn then -(m : Int) else (m : Int)) ∧ x ≠ 0 := fun n x k hok hl => by
    obtain ⟨k1, k2, k3, k4, _, k6⟩ := tellM n x k hok hl
    refine ⟨k1, k2, ?_, k6⟩
    rw [k3]
    have := neg_abs k4
    by_cases hk : k < 0
    · rw [if_pos hk] at this
      rw [decide_eq_true hk, if_pos rfl]; exact this
    · rw [if_neg hk] at this
      rw [decide_eq_false hk, if_neg (by decide)]; exact this
  by_cases hx : x0 = 0
  · subst hx
    rw [bstr_zero] at h1
    have bad : ∀ n x k, okD n x k → s.data.toList ≠ dtext n x k := fun n x k hok hl => by
      obtain ⟨_, k2, _, k4⟩ := tellK n x k hok hl
      exact k4 k2.symm
    cases dn
    · exact (r3read_nu s t ng w hs0 hs hsg i hi h112b hb AA hA E hE h1 false M hsE _ m h2 h3 (by omega) rfl).mono (readD_bad bad)
    · exact (r3read_nd s t ng w hs0 hs hsg i hi h112b hb AA hA E hE h1 true M hsE _ m h2 h3 (by omega) rfl (by simp; intro h; exact hd0 ⟨rfl, by omega⟩)).mono (readD_bad bad)
  have hxz : (bstr x0).size ≤ 9223372036854775807 := by rw [bstr_size]; omega
  have hmay := fun k W => rmay_any ng (bstr x0) k W hxz
  have hxn := bstr_nz hx
  obtain ⟨k0, hk0e⟩ : ∃ k0, k0 = (if dn then -(m : Int) else (m : Int)) := ⟨_, rfl⟩
  have hm0 : dn = true → ((m : Int) == 0) = false := fun h => by simp; intro h2; exact hd0 ⟨h, by omega⟩
  cases hmb : mayB ng (bstr x0) k0 with
  | false =>
    have bad : ∀ n x k, okD n x k → s.data.toList ≠ dtext n x k := fun n x k hok hl => by
      obtain ⟨k1, k2, k3, _⟩ := tellK n x k hok hl
      rw [hk0e, ← k3, k1, k2, mayB_ok hok] at hmb
      exact Bool.noConfusion hmb
    have h4 := hmay k0
    rw [hmb, hk0e] at h4
    cases dn
    · exact (r3read_mu s t ng w hs0 hs hsg i hi h112b hb AA _ hA E hE h1 false M hsE _ m h2 h3 (by omega) rfl hxn h4).mono (readD_bad bad)
    · exact (r3read_md s t ng w hs0 hs hsg i hi h112b hb AA _ hA E hE h1 true M hsE _ m h2 h3 (by omega) rfl (hm0 rfl) hxn h4).mono (readD_bad bad)
  | true =>
    obtain ⟨y, hy, hok⟩ := ok_of_may hmb
    obtain rfl := bstr_inj hy
    have hl : s.data.toList = dtext ng x0 k0 := by
      rw [sg3_list hsg, hcl, hAx, sg3_list hsE, hMm]
      unfold dtext dhead
      rw [if_neg hx, hk0e, itx_of dn m (fun h h2 => hd0 ⟨h, h2⟩)]
      simp only [List.append_assoc]
    have h4 := hmay k0
    rw [hmb, hk0e] at h4
    rw [hk0e] at hok hl
    cases dn
    · exact (r3read_ku s t ng w hs0 hs hsg i hi h112b hb AA _ hA E hE h1 false M hsE _ m h2 h3 (by omega) rfl hxn h4).mono fun e w' h => ⟨.inl ⟨ng, x0, _, hok, hl, h.1⟩, h.2⟩
    · exact (r3read_kd s t ng w hs0 hs hsg i hi h112b hb AA _ hA E hE h1 true M hsE _ m h2 h3 (by omega) rfl (hm0 rfl) hxn h4).mono fun e w' h => ⟨.inl ⟨ng, x0, _, hok, hl, h.1⟩, h.2⟩
end Go.Proofs.YtjldfclncipbgaaGreatDoor

/- DyadTexts: true at every input. -/
namespace Go.Proofs.YtjldfclncipbgaaGreatDoor
open Go Go.RowKit Go.PlainAid Fil

theorem cut_uniq {c : UInt8} : ∀ (D D2 E E2 : List UInt8), (∀ x ∈ D, x ≠ c) → (∀ x ∈ D2, x ≠ c) → D ++ c :: E = D2 ++ c :: E2 → D = D2 ∧ E = E2
  | [], [], E, E2, _, _, h => by
    rw [List.nil_append, List.nil_append] at h
    injection h with _ h2
    exact ⟨rfl, h2⟩
  | [], d :: D2, E, E2, _, h2, h => by
    rw [List.nil_append, List.cons_append] at h
    injection h with h3 _
    exact absurd h3.symm (h2 d (List.mem_cons_self ..))
  | d :: D, [], E, E2, h1, _, h => by
    rw [List.nil_append, List.cons_append] at h
    injection h with h3 _
    exact absurd h3 (h1 d (List.mem_cons_self ..))
  | d :: D, d2 :: D2, E, E2, h1, h2, h => by
    rw [List.cons_append, List.cons_append] at h
    injection h with h3 h4
    obtain ⟨h5, h6⟩ := cut_uniq D D2 E E2 (fun x hx => h1 x (List.mem_cons_of_mem _ hx)) (fun x hx => h2 x (List.mem_cons_of_mem _ hx)) h4
    exact ⟨by rw [h3, h5], h6⟩
theorem dtext_inj {n m : Bool} {x y : Nat} {e f : Int} (h1 : okD n x e) (h2 : okD m y f) (h : dtext n x e = dtext m y f) : n = m ∧ x = y ∧ e = f := by
  by_cases hx : x = 0
  · by_cases hy : y = 0
    · rcases h1 with ⟨_, rfl, rfl⟩ | h1
      · rcases h2 with ⟨_, rfl, rfl⟩ | h2
        · exact ⟨rfl, by omega, rfl⟩
        · omega
      · omega
    · subst hx
      exact absurd h.symm (dtext_no48 hy)
  · by_cases hy : y = 0
    · subst hy
      exact absurd h (dtext_no48 hx)
    · unfold dtext at h
      rw [if_neg hx, if_neg hy] at h
      obtain ⟨h3, h4⟩ := cut_uniq _ _ _ _ dhead_p dhead_p h
      exact ⟨(dhead_inj h3).1, (dhead_inj h3).2, itx_inj h4⟩
/-- both Reads answer alike -/
theorem reads_alike (s : ByteArray) (hs : s.size ≤ 9223372036854775807) : ∃ (n : Bool) (t : ByteArray) (k f : Int), (f = 0 → ∃ x, t = bstr x ∧ okD n x k ∧ s.data.toList = dtext n x k) ∧ (f ≠ 0 → ∀ n x k, okD n x k → s.data.toList ≠ dtext n x k) ∧ (∀ W, TabK W → Calls Tryz.prog 8 #[.string s] W fun r w' => r = .returned (.tuple #[.agg #[.bool n, .string t, .int .i64 k], .int .i64 f]) ∧ Below W.heap.size W w') ∧ (∀ W, Calls Tryz.prog 9 #[.string s] W fun r w' => r = .returned (.tuple #[.agg #[.bool n, .string t, .int .i64 k], .int .i64 f]) ∧ Below W.heap.size W w') := by
  by_cases hex : ∃ n x k, okD n x k ∧ s.data.toList = dtext n x k
  · obtain ⟨n, x, k, hok, hl⟩ := hex
    refine ⟨n, bstr x, k, 0, fun _ => ⟨x, rfl, hok, hl⟩, fun h => absurd rfl h, fun W hT => dread_good s n x k W hT hok hl, fun W => (r3read_any s W hs).mono fun r w' h => ⟨?_, h.2⟩⟩
    rcases h.1 with ⟨m, y, f, hok2, hl2, hr⟩ | ⟨hno, _⟩
    · obtain ⟨rfl, rfl, rfl⟩ := dtext_inj hok hok2 (hl.symm.trans hl2)
      exact hr
    · exact absurd hl (hno n x k hok)
  · refine ⟨false, { data := #[] }, 0, 30, fun h => absurd h (by decide), fun _ n x k h1 h2 => hex ⟨n, x, k, h1, h2⟩, fun W hT => dread_bad s W hT hs fun n x k h1 h2 => hex ⟨n, x, k, h1, h2⟩, fun W => (r3read_any s W hs).mono fun r w' h => ⟨?_, h.2⟩⟩
    rcases h.1 with ⟨m, y, f, hok2, hl2, _⟩ | ⟨_, hr⟩
    · exact absurd ⟨m, y, f, hok2, hl2⟩ hex
    · exact hr
end Go.Proofs.YtjldfclncipbgaaGreatDoor
