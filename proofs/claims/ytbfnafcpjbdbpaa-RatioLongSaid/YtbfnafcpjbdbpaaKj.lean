/- ratio.Nearest of any text. -/
import Derived.Test.YtbfnafcpjbdbpaaKh
import Derived.Test.YtbfnafcpjbdbpaaJL
import Derived.Test.YtbfnafcpjbdbpaaJZ
namespace Go.Proofs.Ytbfnafcpjbdbpaa
open Go Go.RowKit Go.PlainAid Fil

theorem dn8_of_ten {x m N : Nat} (hx : x < 10 ^ m) (h : 4 * m + 1 ≤ 8 * N) : Fil.dn 8 x ≤ N := dn_le (by decide) (Nat.lt_trans hx (Nat.lt_of_lt_of_le (ten_le m) (pmono h)))
theorem dn8_ten (m : Nat) {N : Nat} (h : 4 * (m + 1) + 1 ≤ 8 * N) : Fil.dn 8 (10 ^ m) ≤ N := dn8_of_ten (m := m + 1) (by rw [Nat.pow_succ]; have := Nat.pow_pos (a := 10) (n := m) (by decide); omega) h
/-- may a decimal be: its power is not too great -/
def dcmFew (d : Dcm) : Prop := d.power.size = 0 ∨ dval 0 d.power.data.toList ≤ 5000
theorem dcmP_lo {s : ByteArray} {d : Dcm} (h : DcmOk s d) (hs : s.size ≤ 4096) (hf : dcmFew d) : (dcmP d).natAbs ≤ 9096 := by
  have h1 := h.sizes
  have hp : dval 0 d.power.data.toList ≤ 5000 := by
    rcases hf with h2 | h2
    · have : d.power.data.toList = [] := List.eq_nil_of_length_eq_zero (by rw [Array.length_toList]; exact h2)
      rw [this, dval_nil]; omega
    · exact h2
  unfold dcmP
  split <;> omega
theorem dcmN_lt {s : ByteArray} {d : Dcm} (h : DcmOk s d) (hs : s.size ≤ 4096) : Fil.dn 8 (dcmN d) ≤ 2100 := by
  have h1 := dval_lt _ (dec_app h.head h.tail)
  refine dn8_of_ten h1 ?_
  rw [len_toList, ByteArray.size_append]
  have := h.sizes
  omega
theorem dcm_fits {s : ByteArray} {d : Dcm} (h : DcmOk s d) (hs : s.size ≤ 4096) (hf : dcmFew d) : Fits (dcmR d) := by
  have h1 := dcmP_lo h hs hf
  have h2 := dcmN_lt h hs
  have h3 : Fil.dn 8 (10 ^ (dcmP d).natAbs) ≤ 4600 := dn8_ten _ (by omega)
  have hb : Bts 7000 (dcmR d) := by
    unfold dcmR
    split
    · exact bts_div (by decide) (Nat.le_trans (dn8_mulI (j := 2100) (k := 4600) (by rw [sz_abs]; exact h2) (by rw [Int.natAbs_natCast]; exact h3)) (by omega)) (Nat.le_trans (dn_le (n := 1) (by decide) (by decide)) (by omega))
    · exact bts_div (ten_ne _) (by rw [sz_abs]; omega) (by rw [Int.natAbs_natCast]; omega)
  exact hb.fits (by omega)
/-- a decimal that is told: its pieces -/
def decOk (s : ByteArray) : Prop := s.size ≤ 4096 ∧ (SP s).2 = true ∧ dcmFew (SP s).1
theorem decOk.dcm {s : ByteArray} (h : decOk s) : DcmOk s (SP s).1 := SP_ok (by rw [← h.2.1])
theorem decV_ok {s : ByteArray} (h : decOk s) : decV s = .tuple #[kA (dcmR (SP s).1), .int .i64 0] := by
  unfold decV
  rw [if_neg (by have := h.1; omega), if_neg (by rw [h.2.1]; simp), if_neg (by
    rintro ⟨h1, h2⟩
    rcases h.2.2 with h3 | h3
    · exact h1 h3
    · omega), kTold_fits (dcm_fits h.dcm h.1 h.2.2)]
set_option maxRecDepth 100000 in
set_option maxHeartbeats 2000000 in
theorem knearest_err (s : ByteArray) (w : World) (e : Int) (he : (e != 0) = true)
    (hd : ∀ W, Calls Try.prog 18 #[.string s] W fun r w' => r = .returned (errV e) ∧ Below W.heap.size W w') :
    Calls Try.prog 19 #[.string s] w fun r w' => r = .returned (.tuple #[.float .f64 0, .int .i64 e]) ∧ Below w.heap.size w w' := by
  have hb := Below.refl w.heap.size w
  go_enter Try.func19, Try.ntmps19
  go_wp2_with fail
  refine (hd _).mono ?_
  rintro r w1 ⟨rfl, hB⟩
  unfold errV
  replace hb := hb.trans (hB.mono hb.size)
  clear hB hd
  have F := Blk.put w1 #[.bool false, .string ⟨#[]⟩, .string ⟨#[]⟩] 25
  replace hb := hb.alloc hb.size (.cells #[.bool false, .string ⟨#[]⟩, .string ⟨#[]⟩] 25)
  obtain ⟨x0, x1, x2⟩ := F.ce3
  go_wp2_with fail
  go_returns
  exact ⟨rfl, hb⟩
end Go.Proofs.Ytbfnafcpjbdbpaa
