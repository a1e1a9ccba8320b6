/- filigreelaw04.power; plain facts for RatioLong. -/
import Derived.Test.YtbfnafcpjbdbpaaRL
import Derived.Test.YtbfnafcpjbdbpaaKh
import Derived.Test.YtbfnafcpjbdbpaaKk
import Derived.Test.YtbfnafcpjbdbpaaKj
namespace Go.Proofs.Ytbfnafcpjbdbpaa
open Go Go.RowKit Go.PlainAid Fil

set_option maxRecDepth 100000 in
set_option maxHeartbeats 2000000 in
theorem l4power_any (n : Nat) (w : World) (hn : n ≤ 1000000) :
    Calls Try.prog 21 #[.int .i64 (n : Int)] w fun r w' => r = .returned (.string (bstr (2 ^ n))) ∧ Below w.heap.size w w' := by
  obtain ⟨q, hq⟩ : ∃ q, q = n / 8 := ⟨_, rfl⟩
  obtain ⟨s, hs⟩ : ∃ s, s = n % 8 := ⟨_, rfl⟩
  have hmk := run_make_row' (P := Try.prog) 47 5 (.int .u8 0) 1 Try.underlying47 Try.info5 rfl .i64 .i64 (q + 1) (by omega) (by omega)
  rw [show ((q + 1 : Nat) : Int) = (q : Int) + 1 by omega] at hmk
  have e1 : (n : Int) / 8 = (q : Int) := by omega
  have e2 : (n : Int) % 8 = (s : Int) := by omega
  have e3 : (n : Int).tmod 8 = (s : Int) := by rw [← e2]; exact Int.tmod_eq_emod_of_nonneg (by omega)
  have hq8 : q ≤ 125000 := by omega
  have p0 : (0 : Int) ≤ (q : Int) := by omega
  have p1 : (0 : Int) < (q : Int) + 1 := by omega
  obtain ⟨T, hT⟩ : ∃ T, T = 2 ^ s := ⟨_, rfl⟩
  have hT8 : T ≤ 128 := by rw [hT]; exact Nat.le_trans (Nat.pow_le_pow_right (by omega) (show s ≤ 7 by omega)) (by decide)
  have hs8 : s < 8 := by omega
  have e4 : IntKind.u8.wrap (2 ^ s) = (T : Int) := by
    rw [show ((2 : Int) ^ s) = (T : Int) by rw [hT]; simp, IntKind.wrap_u8]
    omega
  have hd := dn_two n
  have HQ := Lib.hid (And.intro hq (And.intro hs (And.intro hT hd)))
  clear hq hs hT hd
  go_enter Try.func21, Try.ntmps21
  go_upto_region 2 with fail
  have hr0 := World.rowIs_made w (.int .u8 0) (q + 1) 5
  have hbel := (Below.refl w.heap.size w).alloc (Nat.le_refl _) (.cells (madeCells #[.int .u8 0] (q + 1)) 5)
  clear hmk
  generalize w.alloc (.cells (madeCells #[.int .u8 0] (q + 1)) 5) = v at *
  have hc1 := hr0.cell (i := 0) (by omega)
  have hc2 := hr0.frozen 0
  go_upto_region 3 with fail
  obtain ⟨hq, hs, hT, hd⟩ := HQ.out
  have hrow := (hr0.set 0 (.int .u8 (T : Int))).congr (g := fun i => b8 (2 ^ n) (q + 1 - 1 - i)) (fun j hj => by
    rw [b8, dg_two, ← hq, ← hs, ← hT]
    by_cases h : j = 0
    · rw [if_pos h, if_pos (by omega)]
    · rw [if_neg h, if_neg (by omega)]; rfl)
  have hbel2 := hbel.setCell (p := ⟨w.heap.size, 0, none⟩) (Nat.le_refl _) (.int .u8 (T : Int))
  clear hc1 hc2 hr0 HQ hbel hs hT
  generalize v.setCell ⟨w.heap.size, 0, none⟩ (.int .u8 (T : Int)) = v2 at *
  rw [← hq] at hd
  rw [← hd] at hrow
  have hrb := run_back v2 w.heap.size (2 ^ n) hrow (q + 1)
  rw [hd] at hrb
  clear hrow hq hd
  go_wp2
  go_ret
  exact ⟨rfl, hbel2⟩
theorem bstr3 : bstr 3 = { data := #[3] } := by
  unfold bstr
  rw [show bs 3 = [3] by decide]
theorem pow2_rat (n : Nat) : (Rat.divInt ((2 ^ n : Nat) : Int) ((1 : Nat) : Int)).num = ((2 ^ n : Nat) : Int) ∧ (Rat.divInt ((2 ^ n : Nat) : Int) ((1 : Nat) : Int)).den = 1 := divInt_one _
theorem pow2_three (n : Nat) : (Rat.divInt ((2 ^ n : Nat) : Int) ((3 : Nat) : Int)).num = ((2 ^ n : Nat) : Int) ∧ (Rat.divInt ((2 ^ n : Nat) : Int) ((3 : Nat) : Int)).den = 3 := by
  have hg : Nat.gcd (2 ^ n) 3 = 1 := Nat.Coprime.pow_left n (by decide)
  have n1 := norm_num ((2 ^ n : Nat) : Int) ((3 : Nat) : Int) (by decide)
  have n2 := norm_den ((2 ^ n : Nat) : Int) ((3 : Nat) : Int) (by decide)
  rw [Int.natAbs_natCast, Int.natAbs_natCast, hg, Nat.div_one] at n1 n2
  have e : sg ((2 ^ n : Nat) : Int) = false := by unfold sg; exact decide_eq_false (Int.not_lt.2 (Int.natCast_nonneg _))
  rw [e, show sg ((3 : Nat) : Int) = false from rfl] at n1
  exact ⟨n1.symm, n2.symm⟩
/-- the text of many ones -/
def ones (n : Nat) : ByteArray := ⟨(List.replicate n (49 : UInt8)).toArray⟩
def exes (n : Nat) : ByteArray := ⟨(List.replicate n (120 : UInt8)).toArray⟩
theorem ones_size (n : Nat) : (ones n).size = n := by simp [ones, ByteArray.size]
theorem exes_size (n : Nat) : (exes n).size = n := by simp [exes, ByteArray.size]
theorem ones_list (n : Nat) : (ones n).data.toList = List.replicate n 49 := by simp [ones]
theorem exes_list (n : Nat) : (exes n).data.toList = List.replicate n 120 := by simp [exes]
theorem ones_good (n : Nat) (hn : n ≠ 0) : goodL (List.replicate n (49 : UInt8)) := by
  refine ⟨fun c hc => by rw [List.eq_of_mem_replicate hc]; rfl, fun h => ?_, fun h => ?_⟩
  · have := congrArg List.length h
    rw [List.length_replicate] at this
    exact hn this
  · obtain ⟨k, rfl⟩ : ∃ k, n = k + 1 := ⟨n - 1, by omega⟩
    rw [List.replicate_succ] at h
    exact absurd (Option.some.inj h) (by decide)
theorem ones_okn (n : Nat) (hn : n ≠ 0) (h4 : n ≤ 4096) : decOk (ones n) := by
  have wf : Wf false (List.replicate n (49 : UInt8)) [] [] := ⟨ones_good n hn, fun c hc => (List.not_mem_nil hc).elim, .inl ⟨rfl, rfl⟩⟩
  have h := SP_of (s := ones n) (neg := false) wf (by rw [ones_list]; unfold spell signL tailL powL; rw [if_neg (by decide), if_pos rfl, if_pos rfl, List.nil_append, List.nil_append, List.append_nil])
  refine ⟨by rw [ones_size]; exact h4, by rw [h], ?_⟩
  rw [h]
  exact .inl rfl
theorem ones_ok : decOk (ones 4096) := ones_okn 4096 (by decide) (Nat.le_refl _)
theorem exes_none : ¬ ∃ z : Rat, Fits z ∧ ktx z = (exes 80000).data.toList := by
  rintro ⟨z, _, h⟩
  rw [exes_list] at h
  obtain ⟨c, hc⟩ := List.exists_mem_of_ne_nil _ (dtx_ne z.num.natAbs)
  have h1 := dtx_allDec z.num.natAbs c hc
  have h2 : c ∈ ktx z := by unfold ktx; simp [hc]
  rw [h] at h2
  rw [List.eq_of_mem_replicate h2] at h1
  exact absurd h1 (by decide)
theorem kread_not (s : ByteArray) (w : World) (hs : s.size ≤ 80000) (h : ¬ ∃ z, Fits z ∧ ktx z = s.data.toList) : Calls Try.prog 17 #[.string s] w fun e w' => e = .returned (errV 40) ∧ Below w.heap.size w w' :=
  (kread_any s w hs).mono fun e w' ⟨h1, h2⟩ => by
    rcases h1 with ⟨y, fy, hy, _⟩ | ⟨_, he⟩
    · exact absurd ⟨y, fy, hy⟩ h
    · exact ⟨he, h2⟩
end Go.Proofs.Ytbfnafcpjbdbpaa
