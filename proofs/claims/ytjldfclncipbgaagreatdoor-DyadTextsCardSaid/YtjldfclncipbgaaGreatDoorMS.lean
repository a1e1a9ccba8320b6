/- dyad.Show and the reference's Show: what they say. -/
import Derived.Test.YtjldfclncipbgaaGreatDoorMR
import Derived.Test.YtjldfclncipbgaaGreatDoorMG
namespace Go.Proofs.YtjldfclncipbgaaGreatDoor
open Go Go.RowKit Go.PlainAid Fil

theorem cat3 (a b : List UInt8) : (((⟨a.toArray⟩ : ByteArray) ++ ⟨#[112]⟩) ++ ⟨b.toArray⟩ : ByteArray) = ⟨(a ++ 112 :: b).toArray⟩ := by apply ByteArray.ext; simp
theorem cat4 (a b : List UInt8) : ((⟨#[45]⟩ : ByteArray) ++ (((⟨a.toArray⟩ : ByteArray) ++ ⟨#[112]⟩) ++ ⟨b.toArray⟩) : ByteArray) = ⟨(45 :: (a ++ 112 :: b)).toArray⟩ := by apply ByteArray.ext; simp
theorem dn32_gen {x m : Nat} (h : dn 8 x ≤ 4 * m) : dn 32 x ≤ m := dn_le (by omega) (by have := lt_of_dn (k := 8) (n := 4 * m) (by omega) h; rwa [show 8 * (4 * m) = 32 * m by omega] at this)
theorem dn32_of {x : Nat} (h : dn 8 x ≤ 16384) : dn 32 x ≤ 4096 := dn32_gen (by omega)
theorem dtx_big {x : Nat} (h : dn 8 x ≤ 16384) : (dtx x).length ≤ 100000 := by
  have := dtx_len (dn32_of h)
  omega
theorem size_mk (l : List UInt8) : (⟨l.toArray⟩ : ByteArray).size = l.length := by show l.toArray.size = l.length; rw [List.size_toArray]
theorem bstr_nz {x : Nat} (h : x ≠ 0) : (bstr x).toList.isEmpty = false := (bstr_ne h).1
theorem r3show_ok (n : Bool) (x : Nat) (e : Int) (w : World) (h : okD n x e) :
    Calls Tryz.prog 12 #[.agg #[.bool n, .string (bstr x), .int .i64 e]] w fun r w' => r = .returned (.string ⟨(dtext n x e).toArray⟩) ∧ Below w.heap.size w w' := by
  by_cases hx : x = 0
  · subst hx
    rw [bstr_zero, show dtext n 0 e = [48] from rfl]
    exact r3show_nil n e w
  · have hd := h.dn
    have ht := dtx_big hd
    have e0 := h.e1
    have e1 := h.e2
    have hi := itx_len e0 e1
    unfold dtext dhead
    rw [if_neg hx]
    cases n
    · have := r3show_pos (bstr x) ⟨(dtx x).toArray⟩ ⟨(itx e).toArray⟩ e w (fun W => r2text_any x W (by omega)) (fun W => r3digits_any e W e0 e1) (bstr_nz hx) (by rw [size_mk]; omega) (by rw [size_mk]; omega)
      rw [cat3] at this
      exact this
    · have := r3show_neg (bstr x) ⟨(dtx x).toArray⟩ ⟨(itx e).toArray⟩ e w (fun W => r2text_any x W (by omega)) (fun W => r3digits_any e W e0 e1) (bstr_nz hx) (by rw [size_mk]; omega) (by rw [size_mk]; omega)
      rw [cat4] at this
      exact this
theorem dshow_good (n : Bool) (x : Nat) (e : Int) (w : World) (h : okD n x e) (hT : TabK w) :
    Calls Tryz.prog 7 #[.agg #[.bool n, .string (bstr x), .int .i64 e]] w fun r w' => r = .returned (.tuple #[.string ⟨(dtext n x e).toArray⟩, .int .i64 0]) ∧ Below w.heap.size w w' := by
  have hC : ∀ W, Calls Tryz.prog 13 #[.agg #[.bool n, .string (bstr x), .int .i64 e]] W fun r w' => r = .returned (.int .i64 0) ∧ Below W.heap.size W w' := fun W => by
    have := check_any n (bstr x) e W (bstr_len h)
    rw [mayB_ok h, okE_t] at this
    exact this
  have hS := fun W => dsign_ok n x e W h
  by_cases hx : x = 0
  · subst hx
    rw [show dtext n 0 e = [48] from rfl]
    refine dshow_nil (bstr 0) n e w hC ?_
    intro W
    have := hS W
    rw [show (sz n 0).sign = 0 by cases n <;> rfl] at this
    exact this
  · have hd := h.dn
    have ht := dtx_big hd
    have e0 := h.e1
    have e1 := h.e2
    have hi := itx_len e0 e1
    have hz : dn 32 x ≤ 100000000 := by have := dn32_of hd; omega
    have := dshow_ok (bstr x) ⟨(dhead n x).toArray⟩ ⟨(itx e).toArray⟩ n e (sz n x).sign (sz n x) w hC hS (sz_sign_ne hx)
      (fun W => (whole_any n x e W h).mono fun r w' hh => ⟨⟨_, _, hh.1, hh.2.1⟩, hh.2.2⟩)
      (fun W b o hI => by
        cases n
        · exact string_any b o x W hI hz
        · exact string_neg b o x W hx hI hz)
      (fun W hb => citoa e W (hT.below hb) (by omega) (by omega))
      (by rw [size_mk]; unfold dhead; cases n <;> simp <;> omega) (by rw [size_mk]; omega)
    rw [cat3] at this
    unfold dtext
    rw [if_neg hx]
    exact this
theorem dshow_no (n : Bool) (s : ByteArray) (e : Int) (w : World) (hs : s.size ≤ 9223372036854775807) (h : mayB n s e = false) :
    Calls Tryz.prog 7 #[.agg #[.bool n, .string s, .int .i64 e]] w fun r w' => r = .returned (.tuple #[.string ⟨#[]⟩, .int .i64 2]) ∧ Below w.heap.size w w' := by
  refine dshow_bad s n e 2 w ?_ rfl
  intro W
  have := check_any n s e W hs
  rw [h] at this
  exact this
end Go.Proofs.YtjldfclncipbgaaGreatDoor
