/- ratio.Nearest of any text. -/
import Derived.Test.YtfbggddmmkmadaaKh
import Derived.Test.YtfbggddmmkmadaaKi
import Derived.Test.YtfbggddmmkmadaaJZ
namespace Go.Proofs.Ytfbggddmmkmadaa
open Go Go.RowKit Go.PlainAid Fil

theorem dn8_of_ten {x m N : Nat} (hx : x < 10 ^ m) (h : 4 * m + 1 ≤ 8 * N) : Fil.dn 8 x ≤ N := dn_le (by decide) (Nat.lt_trans hx (Nat.lt_of_lt_of_le (ten_le m) (pmono h)))
theorem dn8_ten (m : Nat) {N : Nat} (h : 4 * (m + 1) + 1 ≤ 8 * N) : Fil.dn 8 (10 ^ m) ≤ N := dn8_of_ten (m := m + 1) (by rw [Nat.pow_succ]; have := Nat.pow_pos (a := 10) (n := m) (by decide); omega) h
/-- may a decimal be: its power is not too great -/
def dcmFew (d : Dcm) : Prop := d.power.size = 0 ∨ dval 0 d.power.data.toList ≤ 5000
theorem dcmP_lo {s : ByteArray} {d : Dcm} (h : DcmOk s d) (hs : s.size ≤ 4096) (hf : dcmFew d) : (dcmP d).natAbs ≤ 9096 := by
  have h1 := h.sizes
  have hp : dval 0 d.power.data.toList ≤ 5000 := by
    rcases hf with h2 | h2
    · have : d.power.data.toList = [] := List.eq_nil_of_length_eq_zero (by rw [Array.length_toList]; exact h2)
      rw [this, dval_nil]; omega
    · exact h2
  unfold dcmP
  split <;> omega
theorem dcmN_lt {s : ByteArray} {d : Dcm} (h : DcmOk s d) (hs : s.size ≤ 4096) : Fil.dn 8 (dcmN d) ≤ 2100 := by
  have h1 := dval_lt _ (dec_app h.head h.tail)
  refine dn8_of_ten h1 ?_
  rw [len_toList, ByteArray.size_append]
  have := h.sizes
  omega
theorem dcm_fits {s : ByteArray} {d : Dcm} (h : DcmOk s d) (hs : s.size ≤ 4096) (hf : dcmFew d) : Fits (dcmR d) := by
  have h1 := dcmP_lo h hs hf
  have h2 := dcmN_lt h hs
  have h3 : Fil.dn 8 (10 ^ (dcmP d).natAbs) ≤ 4600 := dn8_ten _ (by omega)
  have hb : Bts 7000 (dcmR d) := by
    unfold dcmR
    split
    · exact bts_div (by decide) (Nat.le_trans (dn8_mulI (j := 2100) (k := 4600) (by rw [sz_abs]; exact h2) (by rw [Int.natAbs_natCast]; exact h3)) (by omega)) (Nat.le_trans (dn_le (n := 1) (by decide) (by decide)) (by omega))
    · exact bts_div (ten_ne _) (by rw [sz_abs]; omega) (by rw [Int.natAbs_natCast]; omega)
  exact hb.fits (by omega)
/-- a decimal that is told: its pieces -/
def decOk (s : ByteArray) : Prop := s.size ≤ 4096 ∧ (SP s).2 = true ∧ dcmFew (SP s).1
theorem decOk.dcm {s : ByteArray} (h : decOk s) : DcmOk s (SP s).1 := SP_ok (by rw [← h.2.1])
theorem decV_ok {s : ByteArray} (h : decOk s) : decV s = .tuple #[kA (dcmR (SP s).1), .int .i64 0] := by
  unfold decV
  rw [if_neg (by have := h.1; omega), if_neg (by rw [h.2.1]; simp), if_neg (by
    rintro ⟨h1, h2⟩
    rcases h.2.2 with h3 | h3
    · exact h1 h3
    · omega), kTold_fits (dcm_fits h.dcm h.1 h.2.2)]
theorem decV_bad {s : ByteArray} (h : ¬ decOk s) : ∃ e : Int, (e = 4 ∨ e = 40) ∧ decV s = errV e := by
  unfold decV
  by_cases h1 : 4096 < s.size
  · exact ⟨4, .inl rfl, by rw [if_pos h1]⟩
  rw [if_neg h1]
  by_cases h2 : (SP s).2 = false
  · exact ⟨40, .inr rfl, by rw [if_pos h2]⟩
  rw [if_neg h2]
  refine ⟨4, .inl rfl, if_pos ⟨fun h3 => ?_, ?_⟩⟩
  · exact h ⟨by omega, by simpa using h2, .inl h3⟩
  · rcases Nat.lt_or_ge 5000 (dval 0 (SP s).1.power.data.toList) with h3 | h3
    · exact h3
    · exact absurd ⟨by omega, by simpa using h2, .inr h3⟩ h
set_option maxRecDepth 100000 in
set_option maxHeartbeats 2000000 in
theorem knearest_err (s : ByteArray) (w : World) (e : Int) (he : (e != 0) = true)
    (hd : ∀ W, Calls Try.prog 17 #[.string s] W fun r w' => r = .returned (errV e) ∧ Below W.heap.size W w') :
    Calls Try.prog 18 #[.string s] w fun r w' => r = .returned (.tuple #[.float .f64 0, .int .i64 e]) ∧ Below w.heap.size w w' := by
  have hb := Below.refl w.heap.size w
  go_enter Try.func18, Try.ntmps18
  go_wp2_with fail
  refine (hd _).mono ?_
  rintro r w1 ⟨rfl, hB⟩
  unfold errV
  replace hb := hb.trans (hB.mono hb.size)
  clear hB hd
  have F := Blk.put w1 #[.bool false, .string ⟨#[]⟩, .string ⟨#[]⟩] 25
  replace hb := hb.alloc hb.size (.cells #[.bool false, .string ⟨#[]⟩, .string ⟨#[]⟩] 25)
  obtain ⟨x0, x1, x2⟩ := F.ce3
  go_wp2_with fail
  go_returns
  exact ⟨rfl, hb⟩
set_option maxRecDepth 100000 in
set_option maxHeartbeats 2000000 in
theorem knearest_nil (s : ByteArray) (w : World) (xn : Bool) (xS xT : ByteArray) (b : Bool) (h0 : xS.toList = []) (hb9 : decide (0 < s.size ∧ byt s 0 = 45) = b)
    (hd : ∀ W, Calls Try.prog 17 #[.string s] W fun e w' => e = .returned (.tuple #[.agg #[.bool xn, .string xS, .string xT], .int .i64 0]) ∧ Below W.heap.size W w')
    (hf : ∀ W, Calls Try.prog 49 #[.agg #[.bool xn, .string xS, .string xT]] W fun e w' => e = .returned (.tuple #[.float .f64 0, .int .i64 0]) ∧ Below W.heap.size W w') :
    Calls Try.prog 18 #[.string s] w fun e w' => e = .returned (.tuple #[.float .f64 (if b then 9223372036854775808 else 0), .int .i64 0]) ∧ Below w.heap.size w w' := by
  have hp := fun W => shasprefix_minus s W b hb9
  have hc := fun W => copysign_neg 0 W (by omega)
  rw [d_word_t] at hc
  clear hb9
  have hb := Below.refl w.heap.size w
  cases b
  all_goals
    simp only [Bool.false_eq_true, if_false, if_true]
    go_enter Try.func18, Try.ntmps18
    go_wp2_with fail
    refine (hd _).mono ?_
    rintro e w1 ⟨rfl, hB⟩
    replace hb := hb.trans (hB.mono hb.size)
    clear hB hd
    have F := Blk.put w1 #[.bool xn, .string xS, .string xT] 25
    replace hb := hb.alloc hb.size (.cells #[.bool xn, .string xS, .string xT] 25)
    obtain ⟨x0, x1, x2⟩ := F.ce3
    go_wp2_with fail
    refine (hf _).mono ?_
    rintro e w2 ⟨rfl, hB⟩
    replace F := F.keep hB
    replace hb := hb.trans (hB.mono hb.size)
    clear x0 x1 x2 hB hf
    obtain ⟨x0, x1, x2⟩ := F.ce3
    go_wp2_with fail
    refine (hp _).mono ?_
    rintro e w3 ⟨rfl, rfl⟩
    go_wp2_with (go_at_call 51; go_must (refine (hc _).mono ?_); rintro e w4 ⟨rfl, rfl⟩)
    go_returns
    exact ⟨rfl, hb⟩
/-- the float that Nearest tells -/
def nrF (s : ByteArray) : Nat := if (dcmR (SP s).1).num = 0 then (if 0 < s.size ∧ byt s 0 = 45 then 9223372036854775808 else 0) else kFl (dcmR (SP s).1)
theorem knearest_good (s : ByteArray) (w : World) (hs : s.size ≤ 9223372036854775807) (h : decOk s) :
    Calls Try.prog 18 #[.string s] w fun e w' => e = .returned (.tuple #[.float .f64 (nrF s), .int .i64 0]) ∧ Below w.heap.size w w' := by
  have hd := fun W => kdecimal_any s W hs
  rw [decV_ok h] at hd
  have fz := dcm_fits h.dcm h.1 h.2.2
  have hf := fun W => kfloat_all (dcmR (SP s).1) W fz
  unfold kA at hd hf
  unfold nrF
  by_cases h0 : (dcmR (SP s).1).num = 0
  · rw [if_pos h0]
    have hk : kFl (dcmR (SP s).1) = 0 := by unfold kFl; rw [if_pos h0]
    rw [hk] at hf
    have := knearest_nil s w _ _ _ _ (bstr_eq_nil.2 (by rw [h0]; rfl)) rfl hd hf
    by_cases hm : 0 < s.size ∧ byt s 0 = 45
    · rw [if_pos hm]; rw [decide_eq_true hm] at this; exact this
    · rw [if_neg hm]; rw [decide_eq_false hm] at this; exact this
  · rw [if_neg h0]
    exact knearest_w s w _ _ _ _ (str_cons (by rw [bstr_size]; exact dn_pos (by omega))) hd hf
theorem knearest_bad (s : ByteArray) (w : World) (hs : s.size ≤ 9223372036854775807) (h : ¬ decOk s) :
    ∃ e : Int, (e = 4 ∨ e = 40) ∧ decV s = errV e ∧ Calls Try.prog 18 #[.string s] w fun r w' => r = .returned (.tuple #[.float .f64 0, .int .i64 e]) ∧ Below w.heap.size w w' := by
  obtain ⟨e, he, hv⟩ := decV_bad h
  refine ⟨e, he, hv, knearest_err s w e (by rcases he with rfl | rfl <;> rfl) fun W => ?_⟩
  rw [← hv]
  exact kdecimal_any s W hs
end Go.Proofs.Ytfbggddmmkmadaa
