/- Plain laws of RatioBack: whole decimals, noughts behind the point. -/
import Derived.Test.YtfbggddmmkmadaaKk
namespace Go.Proofs.Ytfbggddmmkmadaa
open Go Go.RowKit Go.PlainAid Fil

theorem dval_snoc (l : List UInt8) (c : UInt8) : dval 0 (l ++ [c]) = 10 * dval 0 l + (c.toNat - 48) := by rw [dval_append, dval_cons, dval_nil]
theorem u8_dec {c : UInt8} (h : isDec c = true) : UInt8.ofNat (48 + (c.toNat - 48)) = c := by
  have := dec_toNat h
  rw [show 48 + (c.toNat - 48) = c.toNat by omega]
  exact UInt8.toNat_inj.1 (u8_of_lt (by omega))
theorem decs_rev : ∀ (r : List UInt8), allDec r → r.getLast? ≠ some 48 → decs (dval 0 r.reverse) = r
  | [], _, _ => by rw [List.reverse_nil, dval_nil, decs_zero]
  | c :: r, h, hl => by
    have hc := h c (List.mem_cons_self ..)
    have hcn := dec_toNat hc
    rw [List.reverse_cons, dval_snoc]
    cases r with
    | nil =>
      have h48 : c ≠ 48 := fun e => hl (by rw [e]; rfl)
      have h49 : c.toNat ≠ 48 := fun e => h48 (UInt8.toNat_inj.1 e)
      rw [List.reverse_nil, dval_nil, decs_pos (by omega), show (10 * 0 + (c.toNat - 48)) % 10 = c.toNat - 48 by omega, show (10 * 0 + (c.toNat - 48)) / 10 = 0 by omega, decs_zero, u8_dec hc]
    | cons c2 r2 =>
      have ih := decs_rev (c2 :: r2) (fun x hx => h x (List.mem_cons_of_mem _ hx)) (by rw [List.getLast?_cons_cons] at hl; exact hl)
      have hv : dval 0 (c2 :: r2).reverse ≠ 0 := fun e => by rw [e, decs_zero] at ih; simp at ih
      generalize dval 0 (c2 :: r2).reverse = v at *
      rw [decs_pos (by omega), show (10 * v + (c.toNat - 48)) % 10 = c.toNat - 48 by omega, show (10 * v + (c.toNat - 48)) / 10 = v by omega, ih, u8_dec hc]
theorem dtx_dval {l : List UInt8} (h : goodL l) : dtx (dval 0 l) = l := by
  by_cases h48 : l.head? = some 48
  · have h1 := h.2.2 h48
    match l, h1, h48 with
    | [c], _, h48 =>
      have : c = 48 := by simpa using h48
      subst this
      rfl
  · have h2 := decs_rev l.reverse (fun c hc => h.1 c (List.mem_reverse.1 hc)) (by rw [List.getLast?_reverse]; exact h48)
    rw [List.reverse_reverse] at h2
    have hv : dval 0 l ≠ 0 := fun e => by
      rw [e, decs_zero] at h2
      exact h.2.1 (List.reverse_eq_nil_iff.1 h2.symm)
    unfold dtx
    rw [if_neg hv, h2, List.reverse_reverse]
theorem dcmN_L (neg down : Bool) (H T Q : List UInt8) : dcmN (dcmL neg down H T Q) = dval 0 (H ++ T) := by
  unfold dcmN
  rw [app_data]
  rfl
theorem dcmP_L (neg down : Bool) (H T Q : List UInt8) : dcmP (dcmL neg down H T Q) = (if down then -((dval 0 Q : Nat) : Int) else (dval 0 Q : Nat)) - (T.length : Int) := rfl
/-- the number of digits and an exponent -/
def decR (z : Int) (P : Int) : Rat := if 0 ≤ P then Rat.divInt (z * ((10 ^ P.natAbs : Nat) : Int)) 1 else Rat.divInt z ((10 ^ P.natAbs : Nat) : Int)
theorem dcmR_L (d : Dcm) : dcmR d = decR (sz d.neg (dcmN d)) (dcmP d) := rfl
theorem ten_pow (a b : Nat) : ((10 ^ (a + b) : Nat) : Int) = ((10 ^ a : Nat) : Int) * ((10 ^ b : Nat) : Int) := by rw [Nat.pow_add, Int.natCast_mul]
theorem decR_shift (z P : Int) (j : Nat) : decR (z * ((10 ^ j : Nat) : Int)) (P - j) = decR z P := by
  unfold decR
  by_cases h1 : 0 ≤ P
  · rw [if_pos h1]
    by_cases h2 : 0 ≤ P - j
    · rw [if_pos h2]
      congr 1
      rw [Int.mul_assoc, ← ten_pow]
      congr 3
      omega
    · rw [if_neg h2, Rat.divInt_eq_divInt_iff (ten_ne _) (by decide), Int.mul_one, Int.mul_assoc, ← ten_pow]
      congr 3
      omega
  · rw [if_neg h1, if_neg (by omega), Rat.divInt_eq_divInt_iff (ten_ne _) (ten_ne _), Int.mul_assoc, ← ten_pow]
    congr 3
    omega
theorem dval_noughts (l : List UInt8) : ∀ j, dval 0 (l ++ List.replicate j 48) = dval 0 l * 10 ^ j
  | 0 => by simp
  | j + 1 => by
    rw [List.replicate_succ', ← List.append_assoc, dval_snoc, dval_noughts l j, Nat.pow_succ]
    have : (48 : UInt8).toNat - 48 = 0 := rfl
    rw [this, Nat.add_zero, Nat.mul_comm, Nat.mul_assoc]
theorem sz_mul (neg : Bool) (x y : Nat) : sz neg (x * y) = sz neg x * (y : Int) := by
  unfold sz
  split
  · rw [Int.natCast_mul, Int.neg_mul]
  · rw [Int.natCast_mul]
theorem dcmR_noughts (neg down : Bool) (H T Q : List UInt8) (j : Nat) : dcmR (dcmL neg down H (T ++ List.replicate j 48) Q) = dcmR (dcmL neg down H T Q) := by
  rw [dcmR_L, dcmR_L, dcmN_L, dcmN_L, dcmP_L, dcmP_L, ← List.append_assoc, dval_noughts, List.length_append, List.length_replicate]
  show decR (sz neg _) _ = decR (sz neg _) _
  rw [sz_mul, ← decR_shift (sz neg (dval 0 (H ++ T))) _ j]
  congr 1
  omega
theorem wf_noughts {down : Bool} {H T Q : List UInt8} (h : Wf down H T Q) (j : Nat) : Wf down H (T ++ List.replicate j 48) Q := by
  refine ⟨h.head, fun c hc => ?_, h.power⟩
  rcases List.mem_append.1 hc with h1 | h1
  · exact h.tail c h1
  · rw [(List.mem_replicate.1 h1).2]; rfl
/-- a whole decimal: what Decimal tells has that text -/
theorem whole_text {neg : Bool} {H : List UInt8} (hH : goodL H) (h0 : neg = true → H ≠ [48]) : ktx (dcmR (dcmL neg false H [] [])) = spell neg false H [] [] := by
  have hP : dcmP (dcmL neg false H [] []) = 0 := rfl
  have hz : dcmR (dcmL neg false H [] []) = Rat.divInt (sz neg (dval 0 H)) 1 := by
    rw [dcmR_L, hP, dcmN_L, List.append_nil]
    show decR (sz neg _) _ = _
    unfold decR
    rw [if_pos (Int.le_refl 0)]
    congr 1
    exact Int.mul_one _
  have hn : (Rat.divInt (sz neg (dval 0 H)) 1).num = sz neg (dval 0 H) := by
    generalize sz neg (dval 0 H) = z
    rw [← norm_num _ 1 (by decide)]
    have h1 : (!(sg z == sg 1)) = sg z := by rw [show sg 1 = false from rfl]; cases sg z <;> rfl
    rw [h1, show (1 : Int).natAbs = 1 from rfl, Nat.gcd_one_right, Nat.div_one, sz_self]
  have hd : (Rat.divInt (sz neg (dval 0 H)) 1).den = 1 := by rw [← norm_den _ 1 (by decide)]; simp
  have hsg : sg (sz neg (dval 0 H)) = neg := by
    cases neg
    · simp [sz, sg]
    · have h1 : dval 0 H ≠ 0 := fun e => h0 rfl (by rw [← dtx_dval hH, e]; rfl)
      unfold sz sg
      rw [if_pos rfl]
      exact decide_eq_true (by omega)
  unfold ktx
  rw [hz, hn, hd, hsg, sz_abs, dtx_dval hH, if_pos rfl]
  simp [spell, signL, tailL, powL]
theorem fit_sign {s : ByteArray} {neg : Bool} {R : List UInt8} (h : s.data.toList = signL neg ++ R) (hR : ∃ c r, R = c :: r ∧ isDec c = true) : (0 < s.size ∧ byt s 0 = 45) ↔ neg = true := by
  obtain ⟨c, r, rfl, hc⟩ := hR
  have hz := size_of h
  cases neg
  · constructor
    · rintro ⟨_, h1⟩
      have h2 := byt_mid (s := s) (A := []) (c := c) (B := r) (by rw [h]; rfl)
      rw [show ([] : List UInt8).length = 0 from rfl, h1] at h2
      have := dec_toNat hc
      omega
    · intro h; exact Bool.noConfusion h
  · refine ⟨fun _ => rfl, fun _ => ⟨by rw [hz]; simp [signL], ?_⟩⟩
    have h2 := byt_mid (s := s) (A := []) (c := 45) (B := c :: r) (by rw [h]; rfl)
    exact h2
theorem spell_sign {s : ByteArray} {neg down : Bool} {H T Q : List UInt8} (wf : Wf down H T Q) (h : s.data.toList = spell neg down H T Q) : (0 < s.size ∧ byt s 0 = 45) ↔ neg = true := by
  obtain ⟨c, r, hc, hd⟩ := good_cons wf.head
  exact fit_sign h ⟨c, r ++ (tailL T ++ powL down Q), by rw [hc]; rfl, hd⟩
/-- noughts behind the point change nothing -/
theorem back_noughts {s s' : ByteArray} {neg down : Bool} {H T Q : List UInt8} (j : Nat) (wf : Wf down H T Q) (h : s.data.toList = spell neg down H T Q) (h' : s'.data.toList = spell neg down H (T ++ List.replicate j 48) Q) (ok : decOk s) (hs : s'.size ≤ 4096) :
    decOk s' ∧ dcmR (SP s').1 = dcmR (SP s).1 ∧ nrF s' = nrF s := by
  have e1 := SP_of wf h
  have e2 := SP_of (wf_noughts wf j) h'
  have hr : dcmR (SP s').1 = dcmR (SP s).1 := by rw [e1, e2]; exact dcmR_noughts neg down H T Q j
  have hm : (0 < s'.size ∧ byt s' 0 = 45) ↔ (0 < s.size ∧ byt s 0 = 45) := (spell_sign (wf_noughts wf j) h').trans (spell_sign wf h).symm
  refine ⟨⟨hs, by rw [e2], ?_⟩, hr, ?_⟩
  · have := ok.2.2
    rw [e1] at this
    rw [e2]
    exact this
  · unfold nrF
    rw [hr]
    split
    · by_cases h2 : 0 < s.size ∧ byt s 0 = 45
      · rw [if_pos h2, if_pos (hm.2 h2)]
      · rw [if_neg h2, if_neg (fun k => h2 (hm.1 k))]
    · rfl
end Go.Proofs.Ytfbggddmmkmadaa
