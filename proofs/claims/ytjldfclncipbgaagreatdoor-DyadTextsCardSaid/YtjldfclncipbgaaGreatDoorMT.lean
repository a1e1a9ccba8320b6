/- dyad.Read: what it answers. -/
import Derived.Test.YtjldfclncipbgaaGreatDoorMS
import Derived.Test.YtjldfclncipbgaaGreatDoorKf
namespace Go.Proofs.YtjldfclncipbgaaGreatDoor
open Go Go.RowKit Go.PlainAid Fil

theorem ba_of {s : ByteArray} {l : List UInt8} (h : s.data.toList = l) : s = ⟨l.toArray⟩ := by
  subst h
  apply ByteArray.ext; simp
theorem dtext_no48 {n : Bool} {x : Nat} {e : Int} (hx : x ≠ 0) : dtext n x e ≠ [48] := fun h => by
  unfold dtext at h
  rw [if_neg hx] at h
  have : (112 : UInt8) ∈ [(48 : UInt8)] := by rw [← h]; simp
  simp at this
theorem cutp_dhead (n : Bool) (x : Nat) (W : World) :
    Calls Tryz.prog 28 #[.string ⟨(dhead n x).toArray⟩, .string ⟨#[45]⟩] W fun r w' => r = .returned (.tuple #[.string ⟨(dtx x).toArray⟩, .bool n]) ∧ Below W.heap.size W w' := by
  cases n
  · refine (cutp_no ⟨(dhead false x).toArray⟩ W ?_).mono ?_
    · by_cases h0 : 0 < (⟨(dhead false x).toArray⟩ : ByteArray).size
      · rw [byt_in h0]
        have := good_all (s := ⟨(dhead false x).toArray⟩) (by exact dtx_good x) 0 h0
        omega
      · rw [byt_out h0]; omega
    · rintro r w' ⟨rfl, rfl⟩
      exact ⟨rfl, Below.refl _ _⟩
  · have hl : (⟨(dhead true x).toArray⟩ : ByteArray).data.toList = [] ++ 45 :: dtx x := rfl
    have h0 : 0 < (⟨(dhead true x).toArray⟩ : ByteArray).size := by rw [size_of hl]; simp
    refine (cutp_yes ⟨(dhead true x).toArray⟩ W h0 ?_).mono ?_
    · rw [byt_in h0]
      have := get_of hl h0
      rw [Option.some.inj this]; rfl
    · rintro r w' ⟨rfl, rfl⟩
      have := ba_of (cut_right hl)
      exact ⟨by rw [← this]; rfl, Below.refl _ _⟩
theorem dread_good (s : ByteArray) (n : Bool) (x : Nat) (e : Int) (w : World) (hT : TabK w) (h : okD n x e) (hl : s.data.toList = dtext n x e) :
    Calls Tryz.prog 8 #[.string s] w fun r w' => r = .returned (.tuple #[.agg #[.bool n, .string (bstr x), .int .i64 e], .int .i64 0]) ∧ Below w.heap.size w w' := by
  have hse := ba_of hl
  by_cases hx : x = 0
  · subst hx
    obtain ⟨rfl, rfl⟩ : n = false ∧ e = 0 := by
      rcases h with h | h
      · exact ⟨h.2.1, h.2.2⟩
      · omega
    rw [hse, bstr_zero]
    exact dread_zero w
  · have hd := h.dn
    have e0 := h.e1
    have e1 := h.e2
    have hi := itx_len e0 e1
    have hdl := dtx_len (dn32_of hd)
    have hs0 : (s.toList == [48]) = false := by
      rw [ByteArray.toList_eq, hl, beq_eq_false_iff_ne]
      exact dtext_no48 hx
    have hl2 : s.data.toList = dhead n x ++ 112 :: itx e := by rw [hl]; unfold dtext; rw [if_neg hx]
    have hhl : (dhead n x).length ≤ 40962 := by unfold dhead; cases n <;> simp <;> omega
    have hsz : s.size ≤ 49152 := by rw [size_of hl2]; simp; omega
    obtain ⟨i, hi0, hi1⟩ := cut_some hl2
    have hcut : ∀ W, Calls Tryz.prog 27 #[.string s, .string ⟨#[112]⟩] W fun r w' => r = .returned (.tuple #[.string ⟨(dhead n x).toArray⟩, .string ⟨(itx e).toArray⟩, .bool true]) ∧ Below W.heap.size W w' := by
      have hlt : (dhead n x).length < s.size := by rw [size_of hl2]; simp
      have hg : s[(dhead n x).length]'hlt = 112 := by
        have := get_of hl2 hlt
        rw [List.getElem?_append_right (Nat.le_refl _), Nat.sub_self, List.getElem?_cons_zero] at this
        exact (Option.some.inj this).symm ▸ rfl
      intro W
      refine (scut_yes_p s (dhead n x).length W hlt hg ?_ (by omega)).mono ?_
      · intro k hk hc
        have h2 := get_of hl2 (show k < s.size by omega)
        rw [List.getElem?_append_left hk, hc] at h2
        exact dhead_p _ (List.mem_of_getElem? h2.symm) rfl
      · rintro r w' ⟨rfl, k, rfl⟩
        exact ⟨by rw [ba_of (cut_left hl2), ba_of (cut_right hl2)], ⟨rfl, rfl, rfl, Nat.le_refl _, fun _ _ => rfl⟩⟩
    have hpre := fun W => cutp_dhead n x W
    have hrd : ∀ W, Calls Tryz.prog 29 #[.string ⟨(dtx x).toArray⟩] W fun r w' => r = .returned (.tuple #[.string (bstr x), .int .i64 0]) ∧ Below W.heap.size W w' := by
      intro W
      refine (nread_any ⟨(dtx x).toArray⟩ W (by rw [size_mk]; omega)).mono ?_
      rintro r w' ⟨rfl, hb⟩
      refine ⟨?_, hb⟩
      unfold nreadV
      rw [if_pos (show goodB (⟨(dtx x).toArray⟩ : ByteArray).data.toList = true from decide_eq_true (dtx_good x)), if_neg (by rw [size_mk]; omega)]
      unfold shutV
      rw [show dval 0 (⟨(dtx x).toArray⟩ : ByteArray).data.toList = x from dval_dtx x, if_pos hd]
    have hat := fun W (hb : Below w.heap.size w W) => catoi ⟨(itx e).toArray⟩ e W (by rw [size_mk]; omega) (atoi_itx e)
    have hck : ∀ W, Calls Tryz.prog 13 #[.agg #[.bool n, .string (bstr x), .int .i64 e]] W fun r w' => r = .returned (.int .i64 0) ∧ Below W.heap.size W w' := fun W => by
      have := check_any n (bstr x) e W (bstr_len h)
      rw [mayB_ok h, okE_t] at this
      exact this
    refine dread_ok s ⟨(dhead n x).toArray⟩ ⟨(itx e).toArray⟩ ⟨(dtx x).toArray⟩ (bstr x) n e 0 w hs0 hcut (by omega) (by rw [size_mk]; omega) hpre hrd hat (bstr_nz hx) hck ?_
    intro W hb
    rw [hse]
    exact dshow_good n x e W h (hT.below hb)
end Go.Proofs.YtjldfclncipbgaaGreatDoor
