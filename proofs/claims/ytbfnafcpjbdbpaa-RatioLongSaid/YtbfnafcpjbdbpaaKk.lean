/- How a decimal is spelled. -/
import Derived.Test.YtbfnafcpjbdbpaaKj
namespace Go.Proofs.Ytbfnafcpjbdbpaa
open Go Go.RowKit Go.PlainAid Fil

theorem byt_list {s : ByteArray} {l : List UInt8} (h : s.data.toList = l) (i : Nat) : byt s i = if h : i < l.length then (l[i]'h).toNat else 256 := by
  have hz := size_of h
  by_cases hi : i < s.size
  · rw [byt_in hi, dif_pos (by omega)]
    have := get_of h hi
    rw [List.getElem?_eq_getElem (by omega)] at this
    exact congrArg UInt8.toNat (Option.some.inj this)
  · rw [byt_out hi, dif_neg (by omega)]
theorem byt_mid {s : ByteArray} {A B : List UInt8} {c : UInt8} (h : s.data.toList = A ++ c :: B) : byt s A.length = c.toNat := by
  rw [byt_list h, dif_pos (by simp)]
  congr 1
  rw [List.getElem_append_right (Nat.le_refl _)]
  simp
theorem byt_end {s : ByteArray} {A : List UInt8} (h : s.data.toList = A) : byt s A.length = 256 := by
  rw [byt_list h, dif_neg (by omega)]
theorem ba_eq {a : ByteArray} {l : List UInt8} (h : a.data.toList = l) : a = ⟨l.toArray⟩ := by
  apply ByteArray.ext
  rw [← h]
theorem ext_mid {s : ByteArray} {A D B : List UInt8} (h : s.data.toList = A ++ (D ++ B)) : s.extract A.length (A.length + D.length) = ⟨D.toArray⟩ := by
  refine ba_eq ?_
  have e : (s.extract A.length (A.length + D.length)).data.toList = (s.data.toList.drop A.length).take (A.length + D.length - A.length) := by simp
  rw [e, h, List.drop_left', show A.length + D.length - A.length = D.length by omega, List.take_left']
  · rfl
  · rfl
theorem ext_tail {s : ByteArray} {A D : List UInt8} (h : s.data.toList = A ++ D) : s.extract A.length s.size = ⟨D.toArray⟩ := by
  have h2 := ext_mid (A := A) (D := D) (B := []) (by rw [List.append_nil]; exact h)
  rw [← h2, size_of h, List.length_append]
theorem dig_dec {s : ByteArray} {A B : List UInt8} {c : UInt8} (h : s.data.toList = A ++ c :: B) : dgt s A.length ↔ isDec c = true := by
  unfold dgt isDec
  rw [byt_mid h, decide_eq_true_eq]
theorem HD_run {s : ByteArray} {d : Dcm} {f : Nat} : ∀ (D A B : List UInt8), s.data.toList = A ++ (D ++ B) → allDec D → HD s d f A.length = HD s d f (A.length + D.length)
  | [], A, B, _, _ => rfl
  | c :: D, A, B, h, hD => by
    rw [HD_dig ((dig_dec (A := A) (c := c) (B := D ++ B) (by rw [h]; rfl)).2 (hD c (List.mem_cons_self ..)))]
    have h2 := HD_run (s := s) (d := d) (f := f) D (A ++ [c]) B (by rw [h]; simp) (fun x hx => hD x (List.mem_cons_of_mem _ hx))
    rw [List.length_append] at h2
    rw [show A.length + (c :: D).length = A.length + [c].length + D.length by simp; omega]
    exact h2
theorem TL_run {s : ByteArray} {d : Dcm} {f : Nat} : ∀ (D A B : List UInt8), s.data.toList = A ++ (D ++ B) → allDec D → TL s d f A.length = TL s d f (A.length + D.length)
  | [], A, B, _, _ => rfl
  | c :: D, A, B, h, hD => by
    rw [TL_dig ((dig_dec (A := A) (c := c) (B := D ++ B) (by rw [h]; rfl)).2 (hD c (List.mem_cons_self ..)))]
    have h2 := TL_run (s := s) (d := d) (f := f) D (A ++ [c]) B (by rw [h]; simp) (fun x hx => hD x (List.mem_cons_of_mem _ hx))
    rw [List.length_append] at h2
    rw [show A.length + (c :: D).length = A.length + [c].length + D.length by simp; omega]
    exact h2
def dcmL (neg down : Bool) (H T Q : List UInt8) : Dcm := ⟨neg, down, ⟨H.toArray⟩, ⟨T.toArray⟩, ⟨Q.toArray⟩⟩
def tailL (T : List UInt8) : List UInt8 := if T = [] then [] else 46 :: T
def powL (down : Bool) (Q : List UInt8) : List UInt8 := if Q = [] then [] else 101 :: ((if down then [45] else []) ++ Q)
def signL (neg : Bool) : List UInt8 := if neg then [45] else []
def spell (neg down : Bool) (H T Q : List UInt8) : List UInt8 := signL neg ++ (H ++ (tailL T ++ powL down Q))
structure Wf (down : Bool) (H T Q : List UInt8) : Prop where
  head : goodL H
  tail : allDec T
  power : Q = [] ∧ down = false ∨ goodL Q ∧ ¬ (down = true ∧ Q = [48])
theorem good_cons {H : List UInt8} (h : goodL H) : ∃ c r, H = c :: r ∧ isDec c = true := by
  cases H with
  | nil => exact absurd rfl h.2.1
  | cons c r => exact ⟨c, r, rfl, h.1 c (List.mem_cons_self ..)⟩
theorem dec_toNat {c : UInt8} (h : isDec c = true) : 48 ≤ c.toNat ∧ c.toNat ≤ 57 := of_decide_eq_true h
theorem PW_of {s : ByteArray} {neg down : Bool} {H T Q B : List UInt8} (hQ : goodL Q ∧ ¬ (down = true ∧ Q = [48])) (hH : goodL H) (h : s.data.toList = B ++ 101 :: ((if down then [45] else []) ++ Q)) :
    PW s (dcmL neg false H T []) B.length = (dcmL neg down H T Q, true) := by
  have he : byt s B.length = 101 := byt_mid h
  obtain ⟨c, r, hc, hd⟩ := good_cons hQ.1
  have gH : goodB (⟨H.toArray⟩ : ByteArray).data.toList = true := decide_eq_true (by simpa using hH)
  have gQ : goodB (⟨Q.toArray⟩ : ByteArray).data.toList = true := decide_eq_true (by simpa using hQ.1)
  cases down
  · have h1 : byt s (B.length + 1) ≠ 45 := by
      have := byt_mid (s := s) (A := B ++ [101]) (c := c) (B := r) (by rw [h, hc]; simp)
      rw [List.length_append] at this
      rw [show B.length + 1 = B.length + [(101 : UInt8)].length from rfl, this]
      have := dec_toNat hd
      omega
    have e : s.extract (B.length + 1) s.size = ⟨Q.toArray⟩ := by
      have := ext_tail (s := s) (A := B ++ [101]) (D := Q) (by rw [h]; simp)
      rwa [List.length_append] at this
    rw [PW_up he h1, e, gQ]
    show (dcmL neg false H T Q, true && goodB (⟨H.toArray⟩ : ByteArray).data.toList) = _
    rw [gH]; rfl
  · have h1 : byt s (B.length + 1) = 45 := by
      have := byt_mid (s := s) (A := B ++ [101]) (c := 45) (B := Q) (by rw [h]; simp)
      rw [List.length_append] at this
      exact this
    have e : s.extract (B.length + 2) s.size = ⟨Q.toArray⟩ := by
      have := ext_tail (s := s) (A := B ++ [101, 45]) (D := Q) (by rw [h]; simp)
      rwa [List.length_append] at this
    have h48 : ((⟨Q.toArray⟩ : ByteArray).data.toList == [48]) = false := beq_eq_false_iff_ne.2 (by simpa using fun h => hQ.2 ⟨rfl, h⟩)
    rw [PW_down he h1, e, gQ, h48]
    show (dcmL neg true H T Q, (true && !false) && goodB (⟨H.toArray⟩ : ByteArray).data.toList) = _
    rw [gH]; rfl
theorem SP_sign {s : ByteArray} {neg : Bool} {R : List UInt8} (h : s.data.toList = signL neg ++ R) (hR : neg = false → ∀ c r, R = c :: r → c ≠ 45) : SP s = HD s (dcm0 neg) (signL neg).length (signL neg).length := by
  unfold SP
  cases neg
  · have h0 : byt s 0 ≠ 45 := by
      cases R with
      | nil => rw [show (0 : Nat) = ([] : List UInt8).length from rfl, byt_end (by simpa [signL] using h)]; omega
      | cons c r =>
        have := byt_mid (s := s) (A := []) (c := c) (B := r) (by simpa [signL] using h)
        rw [show (0 : Nat) = ([] : List UInt8).length from rfl, this]
        exact fun h45 => hR rfl c r rfl (UInt8.toNat_inj.1 h45)
    rw [if_neg h0]; rfl
  · have h0 : byt s 0 = 45 := by
      have := byt_mid (s := s) (A := []) (c := 45) (B := R) (by simpa [signL] using h)
      exact this
    rw [if_pos h0]; rfl
theorem SP_of {s : ByteArray} {neg down : Bool} {H T Q : List UInt8} (wf : Wf down H T Q) (h : s.data.toList = spell neg down H T Q) : SP s = (dcmL neg down H T Q, true) := by
  obtain ⟨c0, r0, hc0, hd0⟩ := good_cons wf.head
  have gH : goodB (⟨H.toArray⟩ : ByteArray).data.toList = true := decide_eq_true (by simpa using wf.head)
  unfold spell at h
  rw [SP_sign h (fun _ c r hr => by
    rw [hc0] at hr
    have := (List.cons.inj hr).1
    have h2 := dec_toNat hd0
    rw [← this]
    intro h45; rw [h45] at h2; have : (45 : UInt8).toNat = 45 := rfl; omega), HD_run H _ _ h wf.head.1]
  have eH : s.extract (signL neg).length ((signL neg).length + H.length) = ⟨H.toArray⟩ := ext_mid h
  have h2 : s.data.toList = (signL neg ++ H) ++ (tailL T ++ powL down Q) := by rw [h, List.append_assoc]
  have hl : (signL neg ++ H).length = (signL neg).length + H.length := List.length_append
  by_cases hT : T = []
  · subst hT
    rcases wf.power with ⟨rfl, rfl⟩ | hQ
    · have h3 : s.data.toList = signL neg ++ H := by rw [h2]; simp [tailL, powL]
      have hz := size_of h3
      have hd : ¬ dgt s ((signL neg).length + H.length) := by
        unfold dgt; rw [← hl, byt_end h3]; omega
      rw [HD_end hd (by rw [hz, hl]), eH, gH]
      rfl
    · have hQ0 : Q ≠ [] := hQ.1.2.1
      have h3 : s.data.toList = (signL neg ++ H) ++ 101 :: ((if down then [45] else []) ++ Q) := by rw [h2]; simp [tailL, powL, hQ0]
      have hb := byt_mid h3
      rw [hl] at hb
      have hb2 : byt s ((signL neg).length + H.length) = 101 := hb
      have hlt := byt_lt (s := s) (i := (signL neg).length + H.length) (by omega)
      rw [HD_pw (by unfold dgt; omega) (by omega) (by omega), eH, ← hl]
      exact PW_of hQ wf.head h3
  · have h3 : s.data.toList = (signL neg ++ H) ++ 46 :: (T ++ powL down Q) := by rw [h2]; simp [tailL, hT]
    have hb := byt_mid h3
    rw [hl] at hb
    have hb2 : byt s ((signL neg).length + H.length) = 46 := hb
    have h4 : s.data.toList = (signL neg ++ H ++ [46]) ++ (T ++ powL down Q) := by rw [h3]; simp
    have hl2 : (signL neg ++ H ++ [46]).length = (signL neg).length + H.length + 1 := by rw [List.length_append, hl]; rfl
    rw [HD_pt hb2, eH, ← hl2, TL_run T _ _ h4 wf.tail]
    have eT : s.extract (signL neg ++ H ++ [46]).length ((signL neg ++ H ++ [46]).length + T.length) = ⟨T.toArray⟩ := ext_mid h4
    have hne : (signL neg ++ H ++ [46]).length + T.length ≠ (signL neg ++ H ++ [46]).length := by
      have : 0 < T.length := List.length_pos_iff.2 hT
      omega
    have hl3 : (signL neg ++ H ++ [46] ++ T).length = (signL neg ++ H ++ [46]).length + T.length := List.length_append
    rcases wf.power with ⟨rfl, rfl⟩ | hQ
    · have h5 : s.data.toList = signL neg ++ H ++ [46] ++ T := by rw [h4]; simp [powL]
      have hd : ¬ dgt s ((signL neg ++ H ++ [46]).length + T.length) := by
        unfold dgt; rw [← hl3, byt_end h5]; omega
      rw [TL_end hd hne (by rw [size_of h5, hl3]), eT]
      show (dcmL neg false H T [], goodB (⟨H.toArray⟩ : ByteArray).data.toList) = _
      rw [gH]
    · have hQ0 : Q ≠ [] := hQ.1.2.1
      have h5 : s.data.toList = (signL neg ++ H ++ [46] ++ T) ++ 101 :: ((if down then [45] else []) ++ Q) := by rw [h4]; simp [powL, hQ0]
      have hb5 := byt_mid h5
      rw [hl3] at hb5
      have hb6 : byt s ((signL neg ++ H ++ [46]).length + T.length) = 101 := hb5
      have hlt := byt_lt (s := s) (i := (signL neg ++ H ++ [46]).length + T.length) (by omega)
      rw [TL_pw (by unfold dgt; omega) hne (by omega), eT, ← hl3]
      exact PW_of hQ wf.head h5
end Go.Proofs.Ytbfnafcpjbdbpaa
