/- The reference of layer 4: Decimal tells what the program's tells. -/
import Derived.Test.YtbhfnigblhfikaaGreatMA
import Derived.Test.YtbhfnigblhfikaaGreatM9
namespace Go.Proofs.YtbhfnigblhfikaaGreat
open Go Go.RowKit Go.PlainAid Fil

theorem ext_shift {s : ByteArray} {a b : Nat} (hb : b ≤ s.size - 1) (hs : 1 ≤ s.size) : (s.extract 1 s.size).extract a b = s.extract (1 + a) (1 + b) := by
  rw [ByteArray.extract_extract]
  congr 1; omega
theorem size_shift {s : ByteArray} : (s.extract 1 s.size).size = s.size - 1 := by rw [ByteArray.size_extract]; omega
theorem PW_shift {s : ByteArray} {d : Dcm} {j : Nat} (hs : 1 ≤ s.size) : PW s d (1 + j) = PW (s.extract 1 s.size) d j := by
  have e1 : byt (s.extract 1 s.size) j = byt s (1 + j) := byt_extract hs
  have e2 : byt (s.extract 1 s.size) (j + 1) = byt s (1 + j + 1) := by rw [byt_extract hs]; congr 1
  have e3 : (s.extract 1 s.size).extract (j + 2) (s.extract 1 s.size).size = s.extract (1 + j + 2) s.size := by
    rw [size_shift, ext_shift (Nat.le_refl _) hs]; congr 1; omega
  have e4 : (s.extract 1 s.size).extract (j + 1) (s.extract 1 s.size).size = s.extract (1 + j + 1) s.size := by
    rw [size_shift, ext_shift (Nat.le_refl _) hs]; congr 1; omega
  unfold PW
  rw [e1, e2, e3, e4]
theorem TL_shift {s : ByteArray} (hs : 1 ≤ s.size) : ∀ n (d : Dcm) (f i : Nat), n = s.size - 1 - i → i ≤ s.size - 1 → f ≤ i → TL s d (1 + f) (1 + i) = TL (s.extract 1 s.size) d f i := by
  intro n
  induction n with
  | zero =>
    intro d f i hn hi hf
    have h : ¬ dgt s (1 + i) := fun h => by have := dgt_lt h; omega
    have h' : ¬ dgt (s.extract 1 s.size) i := fun h2 => h ((dgt_extract hs).1 h2)
    have hz := size_shift (s := s)
    by_cases hfi : i = f
    · subst hfi
      rw [TL_none h, TL_none h', ext_shift hi hs]
    · rw [TL_end h (by omega) (by omega), TL_end h' hfi (by omega), ext_shift hi hs]
  | succ n ih =>
    intro d f i hn hi hf
    have hz := size_shift (s := s)
    by_cases h : dgt s (1 + i)
    · rw [TL_dig h, TL_dig ((dgt_extract hs).2 h)]
      exact ih d f (i + 1) (by omega) (by omega) (by omega)
    · have h' : ¬ dgt (s.extract 1 s.size) i := fun h2 => h ((dgt_extract hs).1 h2)
      by_cases hfi : i = f
      · subst hfi
        rw [TL_none h, TL_none h', ext_shift hi hs]
      · rw [TL_pw h (by omega) (by omega), TL_pw h' hfi (by omega), ext_shift hi hs, PW_shift hs]
theorem HD_shift {s : ByteArray} (hs : 1 ≤ s.size) : ∀ n (d : Dcm) (f i : Nat), n = s.size - 1 - i → i ≤ s.size - 1 → HD s d (1 + f) (1 + i) = HD (s.extract 1 s.size) d f i := by
  intro n
  induction n with
  | zero =>
    intro d f i hn hi
    have h : ¬ dgt s (1 + i) := fun h => by have := dgt_lt h; omega
    have h' : ¬ dgt (s.extract 1 s.size) i := fun h2 => h ((dgt_extract hs).1 h2)
    have hz := size_shift (s := s)
    rw [HD_end h (by omega), HD_end h' (by omega), ext_shift hi hs]
  | succ n ih =>
    intro d f i hn hi
    have hz := size_shift (s := s)
    by_cases h : dgt s (1 + i)
    · rw [HD_dig h, HD_dig ((dgt_extract hs).2 h)]
      exact ih d f (i + 1) (by omega) (by omega)
    · have h' : ¬ dgt (s.extract 1 s.size) i := fun h2 => h ((dgt_extract hs).1 h2)
      by_cases h46 : byt s (1 + i) = 46
      · rw [HD_pt h46, HD_pt (by rw [byt_extract hs]; exact h46), ext_shift hi hs]
        exact TL_shift hs _ _ (i + 1) (i + 1) rfl (by omega) (Nat.le_refl _)
      · rw [HD_pw h (by omega) h46, HD_pw h' (by omega) (by rw [byt_extract hs]; exact h46), ext_shift hi hs, PW_shift hs]
theorem sp_sgn {s t : ByteArray} {ng : Bool} (h : Sgn s ng t) : SP s = HD t (dcm0 ng) 0 0 := by
  unfold SP
  rcases h with ⟨hb, rfl, rfl⟩ | ⟨hb, rfl, rfl⟩
  · rw [if_pos hb]
    have h0 := byt_lt (s := s) (i := 0) (by omega)
    exact HD_shift (by omega) _ _ 0 0 rfl (by omega)
  · rw [if_neg hb]
theorem PW_neg (s : ByteArray) (d : Dcm) (j : Nat) : (PW s d j).1.neg = d.neg := by
  unfold PW
  split
  · rfl
  · split
    · split <;> rfl
    · rfl
theorem TL_neg {s : ByteArray} {d : Dcm} {f : Nat} (hf : f ≤ s.size) : (TL s d f f).1.neg = d.neg := by
  rw [TL_run _ f rfl]
  have hsp := dend_spec (s := s) _ f rfl hf
  generalize dend s f = i at *
  by_cases h1 : i = f
  · subst h1; rw [TL_none hsp.2.2.1]
  · by_cases h2 : i = s.size
    · rw [TL_end hsp.2.2.1 h1 h2]
    · rw [TL_pw hsp.2.2.1 h1 h2]; exact PW_neg _ _ _
theorem HD_neg {s : ByteArray} {d : Dcm} : (HD s d 0 0).1.neg = d.neg := by
  rw [HD_run _ 0 rfl]
  have hsp := dend_spec (s := s) _ 0 rfl (by omega)
  generalize dend s 0 = i at *
  by_cases h1 : i = s.size
  · rw [HD_end hsp.2.2.1 h1]
  · by_cases h2 : byt s i = 46
    · rw [HD_pt h2]; exact TL_neg (by omega)
    · rw [HD_pw hsp.2.2.1 h1 h2]; exact PW_neg _ _ _
theorem p4decimal_any (s : ByteArray) (w : World) (hs : s.size ≤ 9223372036854775807) :
    Calls Tryz.prog 12 #[.string s] w fun r w' => r = .returned (decV s) ∧ Below w.heap.size w w' := by
  by_cases hl : 4096 < s.size
  · unfold decV
    rw [if_pos hl]
    exact p4dec_long s w hl hs
  have hl2 : s.size ≤ 4096 := by omega
  obtain ⟨ng, t, hsg⟩ := sgn_of s
  have hts := hsg.size
  obtain ⟨H, T, P, ok, h1, h2⟩ := p4parted_any t ng (by omega)
  rw [← sp_sgn hsg] at h2
  obtain ⟨h3, h4⟩ := h2
  have hng : (SP s).1.neg = ng := by rw [sp_sgn hsg]; exact HD_neg
  cases ok
  · unfold decV
    rw [if_neg hl, if_pos h3]
    exact p4dec_text s t ng w hl2 hsg H T P h1
  obtain ⟨rfl, rfl, hpw⟩ := h4 rfl
  have hdo : DcmOk s (SP s).1 := SP_ok (by rw [← h3])
  have hps := hdo.psize
  have hsz := hdo.sizes
  obtain ⟨M, HM, p0, hMd, hM8, hP8, hMv, hbig⟩ : ∃ M, ((byt P 0 = 45 ∧ (SP s).1.down = true ∧ M = P.extract 1 P.size) ∨ (byt P 0 ≠ 45 ∧ (SP s).1.down = false ∧ M = P)) ∧ 0 < P.size ∧ (∀ (i : Nat) (h : i < M.size), 48 ≤ (M[i]'h).toNat ∧ (M[i]'h).toNat ≤ 57) ∧ M.size ≤ 4096 ∧ P.size ≤ 4097 ∧ dvt M M.size = dval 0 (SP s).1.power.data.toList ∧ (5000 < dvt M M.size → (SP s).1.power.size ≠ 0) := by
    rcases hpw with ⟨k1, k2, k3, k4⟩ | ⟨k1, k2, k3, k4⟩
    · rcases k4 with rfl | ⟨k4, rfl⟩
      · exact ⟨_, .inr ⟨k2, k1, rfl⟩, good_pos k3, good_all k3, by omega, by omega, dvt_size _, fun _ => by have := good_pos k3; omega⟩
      · refine ⟨_, .inr ⟨k2, k1, rfl⟩, good_pos k3, good_all k3, by decide, by decide, ?_, fun h => absurd h (by rw [dvt_size]; decide)⟩
        rw [nil_of_size k4, dvt_size]; rfl
    · refine ⟨_, .inl ⟨k2, k1, rfl⟩, byt_lt (by omega), ?_, ?_, ?_, ?_, fun _ => ?_⟩
      · rw [k3]; exact good_all k4
      · rw [k3]; omega
      · have := congrArg ByteArray.size k3
        rw [ByteArray.size_extract] at this
        omega
      · rw [k3]; exact dvt_size _
      · have := good_pos k4; omega
  by_cases hp5 : 5000 < dvt M M.size
  · have hV : decV s = errV 4 := by
      unfold decV
      rw [if_neg hl, if_neg (by rw [h3]; simp), if_pos ⟨hbig hp5, by rw [← hMv]; exact hp5⟩]
    rw [hV]
    exact p4dec_power s t ng w hl2 hsg _ _ P h1 _ M (Lib.hid HM) p0 hP8 hMd hM8 hp5
  · have hok : decOk s := ⟨hl2, h3, by
      rcases Nat.eq_zero_or_pos (SP s).1.power.size with h | h
      · exact .inl h
      · exact .inr (by rw [← hMv]; omega)⟩
    rw [decV_ok hok]
    have hN8 := dcmN_lt hdo hl2
    have hP9 := dcmP_lo hdo hl2 hok.2.2
    have hZ : dcmZ (SP s).1.down M (SP s).1.tail = dcmP (SP s).1 := by unfold dcmZ dcmP; rw [hMv]
    have h10 : Fil.dn 8 (10 ^ (dcmP (SP s).1).natAbs) ≤ 4600 := dn8_ten _ (by omega)
    have hA1 : 1 ≤ ((SP s).1.head ++ (SP s).1.tail).size := by rw [ByteArray.size_append]; have := good_pos hdo.head; omega
    have hp0 : (10 : Nat) ^ (dcmP (SP s).1).natAbs ≠ 0 := by have := Nat.pow_pos (a := 10) (n := (dcmP (SP s).1).natAbs) (by decide); omega
    by_cases hz : dcmP (SP s).1 < 0
    · have e : dcmR (SP s).1 = Rat.divInt (sz ng (dcmN (SP s).1)) ((10 ^ (dcmP (SP s).1).natAbs : Nat) : Int) := by unfold dcmR; rw [if_neg (by omega), hng]
      have hlw := fun W => p4lowest_any ng (dcmN (SP s).1) (10 ^ (dcmP (SP s).1).natAbs) W hp0 (by omega) (by omega)
      rw [← e] at hlw
      exact p4dec_neg s t ng w hl2 hsg _ _ P h1 _ M (Lib.hid HM) p0 hP8 hMd hM8 _ rfl (by omega) (by omega) (by omega) (dcmN (SP s).1) hN8 hA1 (dec_app hdo.head hdo.tail) rfl (Lib.hid (by rw [hZ]; exact hz)) _ _ _ (by rw [hZ]; exact hlw)
    · have e : dcmR (SP s).1 = Rat.divInt (sz ng (dcmN (SP s).1 * 10 ^ (dcmP (SP s).1).natAbs)) ((1 : Nat) : Int) := by unfold dcmR; rw [if_pos (by omega), hng, sz_mul_nat]; rfl
      have hlw := fun W => p4lowest_any ng (dcmN (SP s).1 * 10 ^ (dcmP (SP s).1).natAbs) 1 W (by omega) (Nat.le_trans (mul_dn hN8 h10) (by omega)) (by decide)
      rw [← e, bstr_one] at hlw
      have htm := fun W => p4times_any (dcmN (SP s).1) (10 ^ (dcmP (SP s).1).natAbs) W (by omega)
      exact p4dec_pos s t ng w hl2 hsg _ _ P h1 _ M (Lib.hid HM) p0 hP8 hMd hM8 _ rfl (by omega) (by omega) (by omega) (dcmN (SP s).1) hN8 hA1 (dec_app hdo.head hdo.tail) rfl (Lib.hid (by rw [hZ]; exact hz)) _ _ _ _ (by rw [hZ]; exact htm) hlw
end Go.Proofs.YtbhfnigblhfikaaGreat
