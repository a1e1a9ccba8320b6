/- The walks over the reference's numbers of layer 2: made, Of; over dyad.Make, the reference's Make and Of. -/
import Derived.Test.YtbhfnigblhfikaaGreatB7
import Derived.Test.YtbhfnigblhfikaaGreatBA
namespace Go.Proofs.YtbhfnigblhfikaaGreat
open Go Go.RowKit Go.PlainAid Fil

theorem run_backS (w : World) (g x : Nat) (h : w.rowIs g 5 (Fil.dn 8 x) (fun i => b8 x (Fil.dn 8 x - 1 - i))) (c : Nat) :
    (convert 96 9 (.slice (some ⟨g, 0, none⟩) (Fil.dn 8 x) c)).run Tryz.prog w = .ok (.string (bstr x)) w := by
  have := run_convert_bytes_back (P := Tryz.prog) w 96 9 5 ⟨g, 0, none⟩ c (bs x) Tryz.underlying96 Tryz.underlying5 Tryz.underlying9 (fun j hj => by
    have hj' : j < Fil.dn 8 x := by rw [bs_length] at hj; exact hj
    have h1 := h.cell hj'
    have e : (Addr.add ⟨g, 0, none⟩ j) = ⟨g, j, none⟩ := by unfold Addr.add; split <;> simp_all
    rw [e, h1, bs_get]; rfl)
  rw [bs_length] at this
  exact this

set_option maxHeartbeats 4000000 in
theorem r2made_any (A : Option Addr) (n c x : Nat) (w : World) (hn : n = Fil.dn 8 x) (h8 : n ≤ 1048576) (h : Slc w 3 A n (i8 x)) :
    Calls Tryz.prog 63 #[.slice A n c] w fun r w' => r = .returned (.string (bstr x)) ∧ Below w.heap.size w w' := by
  have hmk := run_make_row' (P := Tryz.prog) 96 5 (.int .u8 0) 1 Tryz.underlying96 Tryz.info5 rfl .i64 .i64 n (by omega) (by omega)
  have hlast : 0 < n → ∀ b o, A = some ⟨b, o, none⟩ → (∀ j, j < n → w.cell? ⟨b, o + j, none⟩ = some (i8 x j)) → ((dg 8 x (n - 1) : Int) == 0) = false := fun hp b o _ _ => by
    have hx : x ≠ 0 := by rintro rfl; rw [dn_zero] at hn; omega
    have := dg_top (k := 8) (by omega) hx
    rw [← hn] at this
    rw [beq_eq_false_iff_ne]; omega
  have Hn := Lib.hid hn
  have g0 : 0 ≤ (n : Int) := by omega
  have g1 : (n : Int) ≤ 1048576 := by omega
  by_cases hp : 0 < n
  · obtain ⟨b, o, rfl, hlt, hc⟩ := h.cell hp
    have hl := hlast hp b o rfl hc
    have hc9 := hc (n - 1) (by omega)
    obtain ⟨m, hm⟩ : ∃ m, m = n - 1 := ⟨_, rfl⟩
    have hmi : (n : Int) - 1 = (m : Int) := by omega
    have hmn : m < n := by omega
    have hm0 : 0 ≤ (m : Int) := by omega
    have hmn' : (m : Int) < (n : Int) := by omega
    have hd0 : decide (0 < n) = true := decide_eq_true hp
    have hd1 : decide (0 < (n : Int)) = true := decide_eq_true (by omega)
    rw [← hm] at hl hc9
    unfold i8 at hc9
    have HS := Lib.hid h
    clear hlast hn hc h hm
    go_enter Tryz.func63, Tryz.ntmps63
    go_wp2
    go_loopg [3] n (fun g s3 wr => w = wr ∧ g = n ∧ s3 = .int .i64 n)
    case atStart => exact ⟨rfl, rfl, rfl⟩
    case round =>
      obtain ⟨rfl, hgk, rfl⟩ := hrel
      clear hgk
      go_wp2
      clear hmk
      go_loopg [5] n (fun g s5 wr => ∃ i : Nat, i ≤ n ∧ g = n - i ∧ s5 = .int .i64 i ∧ wr.rowIs w.heap.size 5 n (fun j => if n - i ≤ j then b8 x (n - 1 - j) else .int .u8 0) ∧ Below w.heap.size w wr)
      case atStart => exact ⟨0, by omega, by omega, rfl, (World.rowIs_made w _ n 5).congr (fun j hj => by simp; omega), (Below.refl _ _).alloc (Nat.le_refl _) _⟩
      case round =>
        obtain ⟨i, hi, hg, rfl, hrow, hbel⟩ := hrel
        have Hg := Lib.hid hg
        clear hg hc9 hl
        by_cases hin : i < n
        · obtain ⟨b1, o1, hA, _, hc1⟩ := (HS.out.below hbel).cell (by omega)
          injection hA with hA
          injection hA with hA1 hA2 _
          subst hA1 hA2
          have k1 := hc1 i hin
          simp only [i8] at k1
          obtain ⟨k, hk⟩ : ∃ k, k = n - 1 - i := ⟨_, rfl⟩
          have ek : (n : Int) - 1 - (i : Int) = (k : Int) := by omega
          have ek2 : (m : Int) - (i : Int) = (k : Int) := by omega
          have hkm : k < n := by omega
          have Hk : Hid (k = n - 1 - i) := Lib.hid hk
          have k2 := hrow.cell (i := k) (by omega)
          have k3 := hrow.frozen k
          have hdx := dg_lt 8 x i
          have q0 : 0 ≤ (i : Int) := by omega
          have q1 : (i : Int) < (n : Int) := by omega
          have q2 : 0 ≤ (k : Int) := by omega
          have q3 : (k : Int) < (n : Int) := by omega
          clear hc1 hk
          go_wp2
          go_roundg (n - (i + 1))
          case measure => have := Hg.out; omega
          case rel => exact ⟨i + 1, by omega, rfl, by go_num, (hrow.set k _).congr (fun j hj => by_row8 Hk.out hin hj (by rw [b8])), hbel.setCell (Nat.le_refl _) _⟩
        · obtain rfl : i = n := by omega
          have hrow' := hrow.congr (g := fun j => b8 x (i - 1 - j)) (fun j hj => by rw [if_pos (by omega)])
          rw [Hn.out] at hrow'
          have hrb := run_backS wr w.heap.size x hrow'
          rw [← Hn.out] at hrb
          clear hrow hrow'
          go_wp2
          go_ret
          exact ⟨rfl, hbel⟩
  · have hd0 : decide (0 < n) = false := decide_eq_false hp
    have hd1 : decide (0 < (n : Int)) = false := decide_eq_false (by omega)
    clear hlast hn h
    go_enter Tryz.func63, Tryz.ntmps63
    go_wp2
    go_loopg [3] n (fun g s3 wr => w = wr ∧ g = n ∧ s3 = .int .i64 n)
    case atStart => exact ⟨rfl, rfl, rfl⟩
    case round =>
      obtain ⟨rfl, hgk, rfl⟩ := hrel
      clear hgk
      go_wp2
      clear hmk
      go_loopg [5] n (fun g s5 wr => ∃ i : Nat, i ≤ n ∧ g = n - i ∧ s5 = .int .i64 i ∧ wr.rowIs w.heap.size 5 n (fun j => if n - i ≤ j then b8 x (n - 1 - j) else .int .u8 0) ∧ Below w.heap.size w wr)
      case atStart => exact ⟨0, by omega, by omega, rfl, (World.rowIs_made w _ n 5).congr (fun j hj => by simp; omega), (Below.refl _ _).alloc (Nat.le_refl _) _⟩
      case round =>
        obtain ⟨i, hi, hg, rfl, hrow, hbel⟩ := hrel
        clear hg
        obtain rfl : i = n := by omega
        have hrow' := hrow.congr (g := fun j => b8 x (i - 1 - j)) (fun j hj => by rw [if_pos (by omega)])
        rw [Hn.out] at hrow'
        have hrb := run_backS wr w.heap.size x hrow'
        rw [← Hn.out] at hrb
        clear hrow hrow'
        go_wp2
        go_ret
        exact ⟨rfl, hbel⟩

end Go.Proofs.YtbhfnigblhfikaaGreat
