/- The walk over dyad.all: Dyads in a slice. -/
import Derived.Test.YtgcifpjhhoalmaaDoorDb
namespace Go.Proofs.YtgcifpjhhoalmaaDoor
open Go Go.RowKit Go.PlainAid Fil

/-- Dyads in a slice, by place -/
def Dys (w : World) (A : Option Addr) (n : Nat) (N : Nat → Bool) (S : Nat → ByteArray) (E : Nat → Int) : Prop :=
  0 < n → ∃ b o, A = some ⟨b, o, none⟩ ∧ b < w.heap.size ∧ ∀ i, i < n → w.cell? ⟨b, o + i * 3, none⟩ = some (.bool (N i)) ∧ w.cell? ⟨b, o + i * 3 + 1, none⟩ = some (.string (S i)) ∧ w.cell? ⟨b, o + i * 3 + 2, none⟩ = some (.int .i64 (E i))
theorem Dys.below {w w' : World} {A : Option Addr} {n : Nat} {N : Nat → Bool} {S : Nat → ByteArray} {E : Nat → Int} (h : Dys w A n N S E) (hb : Below w.heap.size w w') : Dys w' A n N S E := fun hn => by
  obtain ⟨b, o, hA, hlt, hc⟩ := h hn
  exact ⟨b, o, hA, Nat.lt_of_lt_of_le hlt hb.size, fun i hi => ⟨(hb.cell (p := ⟨b, _, none⟩) hlt).trans (hc i hi).1, (hb.cell (p := ⟨b, _, none⟩) hlt).trans (hc i hi).2.1, (hb.cell (p := ⟨b, _, none⟩) hlt).trans (hc i hi).2.2⟩⟩
/-- all of them -/
def allB (n : Nat) (f : Nat → Bool) : Bool := (List.range n).all f
theorem allB_yes {n : Nat} {f : Nat → Bool} (h : ∀ i, i < n → f i = true) : allB n f = true := by
  unfold allB; rw [List.all_eq_true]; intro i hi; exact h i (List.mem_range.1 hi)
theorem allB_no {n : Nat} {f : Nat → Bool} {i : Nat} (hi : i < n) (h : f i = false) : allB n f = false := by
  unfold allB; rw [List.all_eq_false]; exact ⟨i, List.mem_range.2 hi, by rw [h]; simp⟩
theorem allB_get {n : Nat} {f : Nat → Bool} (h : allB n f = true) {i : Nat} (hi : i < n) : f i = true := by
  unfold allB at h; rw [List.all_eq_true] at h; exact h i (List.mem_range.2 hi)

set_option maxHeartbeats 2000000 in
theorem all_any (A : Option Addr) (n c : Nat) (N : Nat → Bool) (S : Nat → ByteArray) (E : Nat → Int) (w : World) (hn : n ≤ 4611686018427387903) (h : Dys w A n N S E) (hs : ∀ i, i < n → (S i).size ≤ 9223372036854775807) :
    Calls Tryd.prog 105 #[.slice A n c] w fun r w' => r = .returned (.bool (allB n fun i => mayB (N i) (S i) (E i))) ∧ Below w.heap.size w w' := by
  go_enter Tryd.func105, Tryd.ntmps105
  go_wp2
  go_loopg [7] n (fun g s7 wr => ∃ i : Nat, i ≤ n ∧ g = n - i ∧ s7 = .int .i64 i ∧ (∀ j, j < i → mayB (N j) (S j) (E j) = true) ∧ Below w.heap.size w wr)
  case atStart => exact ⟨0, by omega, by omega, rfl, fun j hj => absurd hj (by omega), Below.refl _ _⟩
  case round =>
    obtain ⟨i, hi, hg, rfl, hall, hbel⟩ := hrel
    have Hg := Lib.hid hg
    have Hall := Lib.hid hall
    have Hs := Lib.hid hs
    clear hg hall hs
    by_cases hin : i < n
    · obtain ⟨b, o, rfl, hlt, hc⟩ := h.below hbel (by omega)
      obtain ⟨k1, k2, k3⟩ := hc i hin
      have H := Lib.hid h
      clear hc h
      cases hm : mayB (N i) (S i) (E i)
      · have Hm := Lib.hid hm
        clear hm
        go_wp2_with (go_at_call 32; go_must (refine (check_any (N i) (S i) (E i) _ (Hs.out i hin)).mono ?_); rintro r w1 ⟨rfl, hb1⟩; rw [Hm.out, okE_f])
        go_ret
        exact ⟨by rw [allB_no hin Hm.out]; rfl, (hbel.alloc hbel.size _).trans (hb1.mono (by have := hbel.size; simp; omega))⟩
      · have Hm := Lib.hid hm
        clear hm
        go_wp2_with (go_at_call 32; go_must (refine (check_any (N i) (S i) (E i) _ (Hs.out i hin)).mono ?_); rintro r w1 ⟨rfl, hb1⟩; rw [Hm.out, okE_t])
        go_roundg (n - (i + 1))
        case measure => have := Hg.out; omega
        case rel => exact ⟨i + 1, by omega, rfl, by go_num, fun j hj => by
          by_cases e : j = i
          · subst e; exact Hm.out
          · exact Hall.out j (by omega), (hbel.alloc hbel.size _).trans (hb1.mono (by have := hbel.size; simp; omega))⟩
    · obtain rfl : i = n := by omega
      go_wp2
      go_ret
      exact ⟨by rw [allB_yes Hall.out]; rfl, hbel⟩
end Go.Proofs.YtgcifpjhhoalmaaDoor
