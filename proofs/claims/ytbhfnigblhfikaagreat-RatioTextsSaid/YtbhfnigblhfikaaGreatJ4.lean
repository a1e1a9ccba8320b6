/- The walks over wide's digits: over, where the divisor has two digits or more. -/
import Derived.Test.YtbhfnigblhfikaaGreatJ3
import Derived.Laws.CopyOwn
import Derived.Deep.CutBlock
namespace Go.Proofs.YtbhfnigblhfikaaGreat
open Go Go.RowKit Fil

/-- a slice copied to the head of a row -/
theorem wpList_copy_slc {P : Program} {w : World} {ops : Array Oper} {rest : List Oper} {o : Oper} {a : Act} {Q : Exit → Act → World → Prop} (hgd : o.guard = none) (d s : Operand) (dT sT : TypeId)
    (ho : o.op = .call { callee := .builtin .copy, args := #[d, s], argTypes := #[dT, sT] }) (elem : TypeId) (hu : P.underlying dT = some (.slice elem)) (hsz : (P.info? elem).map (·.size) = some 1)
    (g dLen dCap : Nat) (sp : Option Addr) (sLen sCap : Nat) (hd : a.eval d = .slice (some ⟨g, 0, none⟩) dLen dCap) (hs : a.eval s = .slice sp sLen sCap)
    (f f' : Nat → Value) (t : TypeId) (hg : w.rowIs g t dLen f) (hsrc : Slc w t sp sLen f') (hle : sLen ≤ dLen) (h1 : ∀ j, (f' j).oneCell' = true) (B : Nat) (w0 : World) (hb : Below B w0 w) (hBg : B ≤ g)
    (h : ∀ w', w'.rowIs g t dLen (fun j => if j < sLen then f' j else f j) → Below B w0 w' → wpList P ops Q rest (a.put o.dst (goInt sLen)) w') :
    wpList P ops Q (o :: rest) a w := by
  obtain ⟨c, hc, hcs, hcc⟩ := hg
  have hlen : ((List.range sLen).map f').length = sLen := by simp
  refine wpList_copy_splice hgd d s dT sT ho elem hu hsz (some ⟨g, 0, none⟩) sp dLen dCap sLen sCap hd hs g 0 c.toList t hc ((List.range sLen).map f') (by rw [hlen]; exact (Nat.min_eq_left hle).symm)
    (fun hp => ?_) (by rw [hlen]; simp [hcs]; omega) (fun v hv => ?_) B w0 hb hBg (fun w' hw' hb' => ?_)
  · rw [hlen] at hp
    obtain ⟨b, o, cs, fz, rfl, hbb, hbc⟩ := hsrc hp
    refine ⟨rfl, _, rfl, fun j v hv => ?_⟩
    have hj : j < sLen := by have := (List.getElem?_eq_some_iff.1 hv).1; rwa [hlen] at this
    have e : f' j = v := by simpa [hj] using hv
    subst e
    rw [Addr.add_mid]
    simp [World.cell?, hbb, hbc j hj]
  · obtain ⟨j, _, rfl⟩ := List.mem_map.1 hv; exact h1 j
  · have hw2 : w'.heap[g]? = some (.cells (splice c.toList 0 ((List.range sLen).map f')).toArray t (0, 0)) := hw'
    rw [show goInt ((List.range sLen).map f').length = goInt sLen by rw [hlen]] at *
    refine h w' ⟨_, hw2, ?_, fun j hj => ?_⟩ hb'
    · simp [splice, hcs]; omega
    · simp only [splice, List.take_zero, List.nil_append, Nat.zero_add, hlen, List.getElem?_toArray]
      by_cases hjs : j < sLen
      · rw [List.getElem?_append_left (by simpa using hjs), if_pos hjs]
        simp [hjs]
      · rw [List.getElem?_append_right (by simpa using Nat.le_of_not_lt hjs), if_neg hjs, List.getElem?_drop, hlen, show sLen + (j - sLen) = j by omega]
        exact (by simpa using hcc j hj)

theorem lz32_any (x s : Nat) (w : World) (h : x < 4294967296) (hs : s = 32 - bl x) : Calls Tryz.prog 104 #[.int .u32 x] w fun e w' => e = .returned (.int .i64 s) ∧ w = w' := by
  have hb : bl x ≤ 32 := bl_le (n := 32) h
  go_enter Tryz.func104, Tryz.ntmps104
  go_wp2_with (go_at_call 103; go_must (refine (len32_any x _ h).mono ?_); rintro e w' ⟨rfl, rfl⟩)
  go_ret
  exact ⟨ret_int (by omega), rfl⟩
/-- what over gives -/
def OverR (w w' : World) (x y : Nat) (e : Ending) : Prop :=
  ∃ A1 c1 A2 c2, e = .returned (.tuple #[.slice A1 (dn 32 (x / y)) c1, .slice A2 (dn 32 (x % y)) c2]) ∧ Dig w' A1 (dn 32 (x / y)) c1 (x / y) ∧ Dig w' A2 (dn 32 (x % y)) c2 (x % y) ∧ Below w.heap.size w w'
theorem cmpZ_not_lt {x y : Nat} (h : y ≤ x) : decide (cmpZ x y < 0) = false := by
  unfold cmpZ; rw [if_neg (by omega)]; split <;> rfl

/-- a row, of which i digits from place g on are those of Y -/
def midr (f : Nat → Value) (Y g i j : Nat) : Value := if g ≤ j ∧ j < g + i then d32 Y (j - g) else f j
theorem midr_zero (f : Nat → Value) (Y g j : Nat) : midr f Y g 0 j = f j := by unfold midr; rw [if_neg (by omega)]
theorem midr_step {f : Nat → Value} {Y g i j : Nat} {v : Value} (hv : v = d32 Y i) : (if j = i + g then v else midr f Y g i j) = midr f Y g (i + 1) j := by
  unfold midr
  by_cases e : j = i + g
  · subst e; rw [if_pos rfl, if_pos (by omega), hv, Nat.add_sub_cancel]
  · rw [if_neg e]
    by_cases h : g ≤ j ∧ j < g + i
    · rw [if_pos h, if_pos (by omega)]
    · rw [if_neg h, if_neg (by omega)]
theorem midr_at {f : Nat → Value} {Y g i : Nat} : midr f Y g i (i + g) = f (i + g) := by unfold midr; rw [if_neg (by omega)]
theorem midr_in {f : Nat → Value} {Y g i n : Nat} (h : i < n) : midr f Y g n (i + g) = d32 Y i := by unfold midr; rw [if_pos (by omega), Nat.add_sub_cancel]
theorem mid_done {U Y g n Z : Nat} (hU : U < 2 ^ (32 * (g + n))) (hZ : Z = U % 2 ^ (32 * g) + Y % 2 ^ (32 * n) * 2 ^ (32 * g)) (j : Nat) : midr (d32 U) Y g n j = d32 Z j := by
  have h := dg_join (k := 32) (j := g) (x := U % 2 ^ (32 * g)) (y := Y % 2 ^ (32 * n)) (t := j) (Nat.mod_lt _ (pp _))
  rw [hZ]
  unfold midr
  by_cases h1 : j < g
  · rw [if_neg (by omega), d32, d32, h, if_pos h1, dg_mod h1]
  · rw [if_neg h1] at h
    by_cases h2 : j < g + n
    · rw [if_pos (by omega), d32, d32, h, dg_mod (by omega)]
    · rw [if_neg (by omega), d32, d32, h]
      have e1 : dg 32 U j = 0 := dg_zero_of (Nat.lt_of_lt_of_le hU (pmono (by omega)))
      have e2 : dg 32 (Y % 2 ^ (32 * n)) (j - g) = 0 := dg_zero_of (Nat.lt_of_lt_of_le (Nat.mod_lt _ (pp _)) (pmono (by omega)))
      rw [e1, e2]
theorem midr_midr {f : Nat → Value} {Y Z g n j : Nat} : midr (midr f Y g n) Z g n j = midr f Z g n j := by
  unfold midr
  by_cases h : g ≤ j ∧ j < g + n
  · rw [if_pos h, if_pos h]
  · rw [if_neg h, if_neg h, if_neg h]
theorem rem_step {X V U R g Z q : Nat} (hU : rem' X V (g + 1) = U) (hR : U / 2 ^ (32 * g) = R) (hq : q = R / V) (hZ : Z = R - q * V) : rem' X V g = U % 2 ^ (32 * g) + Z * 2 ^ (32 * g) := by
  rw [rem_next, hU, hR, ← hq, hZ, ← hR]
  rw [← hR] at hq
  exact (rem_split U g q V (by rw [hq]; exact Nat.div_mul_le_self _ _)).symm
theorem over_c {a b c : Nat} (ha : a < 4294967296) (hb : b < 4294967296) (hc : c ≤ 1) : IntKind.u64.wrap (IntKind.u64.wrap ((a : Int) - b) - c) / 9223372036854775808 = ((if a < b + c then 1 else 0 : Nat) : Int) := by
  simp only [IntKind.wrap_u64]; split <;> omega
theorem over_v {a b c : Nat} (ha : a < 4294967296) (hb : b < 4294967296) (hc : c ≤ 1) : IntKind.u64.wrap (IntKind.u64.wrap ((a : Int) - b) - c) % 4294967296 = (((2 ^ 32 + a - b - c) % 2 ^ 32 : Nat) : Int) := by
  simp only [IntKind.wrap_u64]; omega

set_option maxHeartbeats 4000000 in
set_option maxRecDepth 100000 in
theorem over_long (A B : Option Addr) (n c x p d y : Nat) (w : World) (ha : Dig w A n c x) (hb : Dig w B (p + 2) d y) (hc : n ≤ 1099511627000) (hyx : y ≤ x) :
    Calls Tryz.prog 91 #[.slice A n c, .slice B (p + 2) d] w fun e w' => OverR w w' x y e := by
  obtain ⟨hn, hnc, hsa⟩ := ha
  obtain ⟨hm, hmd, hsb⟩ := hb
  have hmn : p + 2 ≤ n := by rw [hn, hm]; exact dn_mono (by omega) hyx
  have hy0 : y ≠ 0 := by rintro rfl; rw [dn_zero] at hm; omega
  obtain ⟨s, hs⟩ : ∃ s, s = 32 - bl (dg 32 y (p + 1)) := ⟨_, rfl⟩
  obtain ⟨ht1, ht2, hs32⟩ := norm_top hy0 hm (s := s) hs
  have hx := lt_dn (k := 32) (by omega) x
  rw [← hn] at hx
  have hst := start_lt hx (by omega : p + 2 ≤ n + 1) hs32 ht1
  have hcmp := fun W (hA : Slc W 97 A n (d32 x)) (hB : Slc W 97 B (p + 2) (d32 y)) => cmp_any A B n c x (p + 2) d y W hn hm (by omega) (by omega) hA hB
  have hlft1 := fun W (hB : Slc W 97 B (p + 2) (d32 y)) => left_any B (p + 2) d y s W hm hmd (by omega) (by omega) hB
  have hlft2 := fun W (hA : Slc W 97 A n (d32 x)) => left_any A n c x s W hn hnc (by omega) (by omega) hA
  have hVn : dn 32 (y * 2 ^ s) = p + 2 := by
    refine Nat.le_antisymm (dn_le (by omega) ht2) (dn_ge (n := p + 1) (by omega) ?_)
    have : 2 ^ (32 * (p + 2)) = 2 * (2 ^ 31 * 2 ^ (32 * (p + 1))) := by rw [← Nat.pow_add, ← Nat.pow_succ']; congr 1; omega
    rw [this] at ht1
    have h1 : 1 * 2 ^ (32 * (p + 1)) ≤ 2 ^ 31 * 2 ^ (32 * (p + 1)) := Nat.mul_le_mul_right _ (by decide)
    omega
  have hXn : dn 32 (x * 2 ^ s) ≤ n + 1 := dn_le (by omega) (by
    calc x * 2 ^ s < 2 ^ (32 * n) * 2 ^ s := Nat.mul_lt_mul_of_pos_right hx (pp _)
      _ = 2 ^ (32 * n + s) := by rw [Nat.pow_add]
      _ ≤ _ := pmono (by omega))
  have hV0 : 0 < y * 2 ^ s := Nat.mul_pos (Nat.pos_of_ne_zero hy0) (pp s)
  have hlz := fun W => lz32_any (dg 32 y (p + 1)) s W (dg_lt 32 y (p + 1)) hs
  have tcmp := cmpZ_not_lt hyx
  have ed := norm_div x y s
  have em := norm_mod x y s
  rw [hVn] at hlft1
  have Hq := Lib.hid (And.intro ed em)
  clear ed em hs
  generalize cmpZ x y = z at *
  generalize hV : y * 2 ^ s = V at *
  generalize hX : x * 2 ^ s = X at *
  generalize ht : dn 32 X = t at *
  obtain ⟨b2, o2, rfl, _, hc2⟩ := hsb.cell (by omega)
  have k2 := hc2 (p + 1) (by omega)
  simp only [d32] at k2
  have hdt : dg 32 y (p + 1) < 4294967296 := dg_lt 32 _ _
  have e1 : ((p + 2 : Nat) : Int) - 1 = ((p + 1 : Nat) : Int) := by omega
  have h1' : (((p + 2 : Nat) : Int) == 1) = false := by simp; omega
  have Hst := Lib.hid (And.intro hst (And.intro ht1 (And.intro ht2 (And.intro hV (And.intro hX ht)))))
  have hmk1 := run_make_row' (P := Tryz.prog) 68 97 (.int .u32 0) 4 Tryz.underlying68 Tryz.info97 rfl .i64 .i64 (n + 1) (by omega) (by omega)
  have ec1 : ((n + 1 : Nat) : Int) = (n : Int) + 1 := by omega
  rw [ec1] at hmk1
  obtain ⟨L, hL⟩ : ∃ L, L = n - p - 1 := ⟨_, rfl⟩
  have hL1 : 0 < L := by omega
  have hmk2 := run_make_row' (P := Tryz.prog) 68 97 (.int .u32 0) 4 Tryz.underlying68 Tryz.info97 rfl .i64 .i64 L (by omega) (by omega)
  have eL : (n : Int) + 1 - ((p : Int) + 2) = (L : Int) := by omega
  have hLn : L ≤ n := by omega
  have HL := Lib.hid hL
  clear hL hc2 hst ht1 ht2 hV hX ht hx hn hm hy0 hyx ec1
  go_enter Tryz.func91, Tryz.ntmps91
  go_wp2_with fail
  refine (hcmp _ hsa hsb).mono ?_
  rintro e w' ⟨rfl, k0, rfl⟩
  go_wp2_with fail
  refine (hlz _).mono ?_
  rintro e w0 ⟨rfl, rfl⟩
  clear hlz k2 hdt hcmp e1
  go_wp2_with fail
  refine (hlft1 _ (hsb.drewN k0)).mono ?_
  rintro e w1 ⟨Av, cv, rfl, hcv, hsv, hb1⟩
  have hb1' := Below.drewN_left hb1
  replace hsa := hsa.below hb1'
  clear hlft1 hsb hb1
  go_wp2_with fail
  refine (hlft2 _ (hsa.alloc _)).mono ?_
  rintro e w2 ⟨Ax, cx, rfl, hcx, hsx, hb2⟩
  have hru : w2.rowIs w1.heap.size 97 (n + 1) (fun _ => .int .u32 0) := (World.rowIs_made w1 _ (n + 1) 97).of_block (hb2.block _ (by simp))
  have hb2' : Below w1.heap.size w1 w2 := ((Below.refl _ _).alloc (Nat.le_refl _) _).trans (hb2.mono (by simp))
  clear hlft2 hsa hb2
  go_wp2_with (with_reducible refine wpList_copy_slc rfl _ _ _ _ rfl 97 Tryz.underlying68 (by kernel_rfl) w1.heap.size (n + 1) (n + 1) Ax t cx rfl rfl _ _ 97 hru hsx (by omega) (fun _ => rfl) w1.heap.size w1 hb2' (Nat.le_refl _) ?_; intro w3 hru3 hb3)
  replace hru3 := hru3.congr (g := d32 X) (fun j _ => by
    split
    · rfl
    · rename_i h
      have := dg_zero_of (k := 32) (x := X) (i := j) (Nat.lt_of_lt_of_le (lt_dn (k := 32) (by omega) X) (pmono (by rw [Hst.out.2.2.2.2.2]; omega)))
      rw [d32, this]; rfl)
  clear hru hb2' hsx
  go_wp2
  clear hmk1 hmk2
  have hlt13 : w1.heap.size < w3.heap.size := hru3.lt
  go_loopg [13] L (fun g s13 wr => g ≤ L ∧ s13 = .int .i64 ((g : Int) - 1) ∧ wr.rowIs w1.heap.size 97 (n + 1) (d32 (rem' X V g)) ∧ wr.rowIs w3.heap.size 97 L (dwn (X / V) g) ∧ Below w1.heap.size w1 wr)
  case atStart =>
    have hXL : rem' X V L = X := Nat.mod_eq_of_lt (by rw [show L = n + 1 - (p + 2) by rw [HL.out]; omega]; exact Hst.out.1)
    exact ⟨Nat.le_refl _, rfl, by rw [hXL]; exact hru3.alloc _, (World.rowIs_made w3 _ L 97).congr (fun j hj => by unfold dwn; rw [if_neg (by omega)]), hb3.alloc hb3.size _⟩
  case round =>
    obtain ⟨hg, rfl, hru, hrq, hbel⟩ := hrel
    cases gk with
    | zero =>
      rw [rem_zero] at hru
      have hq0 : X / V < 2 ^ (32 * L) := Nat.div_lt_of_lt_mul (by rw [show L = n + 1 - (p + 2) by rw [HL.out]; omega]; exact Hst.out.1)
      have hr0 : X % V < 2 ^ (32 * (n + 1)) := Nat.lt_of_lt_of_le (Nat.lt_trans (Nat.mod_lt _ hV0) Hst.out.2.2.1) (pmono (by omega))
      have hrq' := hrq.congr (g := d32 (X / V)) (fun j _ => dwn_all _ _)
      have hcq := fun W h => cut_any (some ⟨w3.heap.size, 0, none⟩) L L (X / V) W hq0 (Nat.le_refl _) (by omega) h
      have hcu := fun W h => cut_any (some ⟨w1.heap.size, 0, none⟩) (n + 1) (n + 1) (X % V) W hr0 (Nat.le_refl _) (by omega) h
      have hle1 := dn_le (k := 32) (by omega) hr0
      have hle0 := dn_le (k := 32) (by omega) hq0
      have hri := fun W h => right_any (some ⟨w1.heap.size, 0, none⟩) (dn 32 (X % V)) (n + 1) (X % V) s W rfl hle1 (by omega) (by omega) h
      have hbw := (show Below w.heap.size w w1 from hb1').trans (hbel.mono hb1'.size)
      clear hq0 hr0 hrq hru3 hb3 hcv hsv
      go_wp2_with fail
      refine (hcq _ (Slc.of_row hrq' (Nat.le_refl _))).mono ?_
      rintro e w' ⟨rfl, rfl⟩
      go_wp2_with fail
      refine (hcu _ (Slc.of_row hru (Nat.le_refl _))).mono ?_
      rintro e w' ⟨rfl, rfl⟩
      go_wp2_with fail
      refine (hri _ (Slc.of_row hru hle1)).mono ?_
      rintro e w5 ⟨A5, c5, rfl, hc5, hs5, hb5⟩
      go_wp2_with fail
      rw [Hq.out.2] at *
      exact bodyPost_ret (v := .tuple #[.slice (some ⟨w3.heap.size, 0, none⟩) (dn 32 (X / V)) L, .slice A5 (dn 32 (x % y)) c5]) (by simp [results, Tryz.results91, go_sem]) rfl
        ⟨_, _, _, _, by rw [Hq.out.1], ⟨rfl, by rw [← Hq.out.1]; exact hle0, by rw [← Hq.out.1]; exact (Slc.of_row hrq' hle0).below hb5⟩, ⟨rfl, hc5, hs5⟩, hbw.trans (hb5.mono hbw.size)⟩
    | succ g =>
      clear hru3 hb3
      have e0 : ((g + 1 : Nat) : Int) - 1 = g := by omega
      rw [e0]
      clear e0
      generalize hU : rem' X V (g + 1) = U at hru
      generalize hR : U / 2 ^ (32 * g) = R
      have hRlt : R < 2 ^ 32 * V := by rw [← hR, ← hU]; exact rem_lt X V g hV0
      have hRn : R < 2 ^ (32 * (p + 3)) := Nat.lt_of_lt_of_le hRlt (by rw [show 32 * (p + 3) = 32 + 32 * (p + 2) by omega, Nat.pow_add]; exact Nat.mul_le_mul_left _ (Nat.le_of_lt Hst.out.2.2.1))
      have hUn : U < 2 ^ (32 * (g + (p + 3))) := by
        have h1 : U < 2 ^ (32 * g) * (R + 1) := by
          have := Nat.lt_div_mul_add (pp (32 * g)) (a := U)
          rw [hR] at this
          rw [Nat.mul_add, Nat.mul_one, Nat.mul_comm]; exact this
        refine Nat.lt_of_lt_of_le h1 ?_
        rw [Nat.mul_add 32, Nat.pow_add]
        exact Nat.mul_le_mul_left _ hRn
      have hGu := guess_of (n := p + 2) (by omega) Hst.out.2.2.1 Hst.out.2.1 hRlt
      have ed : ∀ i, dg 32 U (g + i) = dg 32 R i := fun i => by rw [← hR, dg_div]
      have hqd : R / V = dg 32 (X / V) g := by rw [← hR, ← hU]; exact rem_digit X V g
      obtain ⟨b3, o3, rfl, _, hc3⟩ := (hsv.below hbel).cell (by omega)
      have c1 := hc3 (p + 1) (by omega)
      have c0 := hc3 p (by omega)
      have d2 := hru.cell (i := g + (p + 2)) (by omega)
      have d1 := hru.cell (i := g + (p + 1)) (by omega)
      have d0 := hru.cell (i := g + p) (by omega)
      simp only [d32, ed] at c1 c0 d2 d1 d0
      rw [show p + 2 - 1 = p + 1 by omega, show p + 2 - 2 = p by omega] at hGu
      have l1 : dg 32 V (p + 1) < 4294967296 := dg_lt 32 _ _
      have l0 : dg 32 V p < 4294967296 := dg_lt 32 _ _
      have m2 : dg 32 R (p + 2) < 4294967296 := dg_lt 32 _ _
      have m1 : dg 32 R (p + 1) < 4294967296 := dg_lt 32 _ _
      have m0 : dg 32 R p < 4294967296 := dg_lt 32 _ _
      have hor := short_or m2 m1
      have hv1p : 0 < dg 32 V (p + 1) := by have h1 := hGu.hv; have h2 := hGu.hB; omega
      have hfge := hGu.first_ge
      have hfle := hGu.first_le
      have hfm := Nat.div_add_mod (dg 32 R (p + 2) * 2 ^ 32 + dg 32 R (p + 1)) (dg 32 V (p + 1))
      have hfr := Nat.mod_lt (dg 32 R (p + 2) * 2 ^ 32 + dg 32 R (p + 1)) hv1p
      have HX := Lib.hid (And.intro hU (And.intro hR (And.intro hRlt (And.intro hRn (And.intro hUn (And.intro ed hqd))))))
      have HG := Lib.hid hGu
      have hTlt : dg 32 R (p + 2) * 2 ^ 32 + dg 32 R (p + 1) < 18446744073709551616 := by omega
      have hv10 : ¬ (dg 32 V (p + 1) : Int) = 0 := by omega
      clear hc3 hU hR hRlt hRn hUn hGu ed hqd
      generalize hT : dg 32 R (p + 2) * 2 ^ 32 + dg 32 R (p + 1) = T at *
      generalize hw1 : dg 32 V (p + 1) = v1 at *
      generalize hw0 : dg 32 V p = v0 at *
      generalize ha2 : dg 32 R (p + 2) = a2 at *
      generalize ha1 : dg 32 R (p + 1) = a1 at *
      generalize ha0 : dg 32 R p = a0 at *
      have HN := Lib.hid (And.intro hT (And.intro hw1 (And.intro hw0 (And.intro ha2 (And.intro ha1 ha0)))))
      have eq1 : (T : Int) / (v1 : Int) = ((T / v1 : Nat) : Int) := by simp
      have er1 : (T : Int) % (v1 : Int) = ((T % v1 : Nat) : Int) := by simp
      clear hT hw1 hw0 ha2 ha1 ha0
      generalize T / v1 = Q0 at *
      generalize T % v1 = r0 at *
      have HF := Lib.hid (And.intro hfge (And.intro hfle (And.intro hfm hfr)))
      clear hfge hfm
      go_wp2
      go_quiet (fail)
      go_wp2
      go_quiet (fail)
      go_upto_block 2 with fail
      go_cut [15, 16] from 73 to 252 (fun s15 s16 wx => ∃ Gd : Nat, s15 = .int .u64 Gd ∧ Gd < 4294967296 ∧ R / V ≤ Gd ∧ Gd ≤ R / V + 1 ∧ ∃ k, wx = wr.drewN k)
      case first =>
        clear hor eq1 d1 d2 hru hrq hsv
        go_wp2_with fail
        go_loopg [15, 16] (4294967296 - r0) (fun gg s15 s16 wx => ∃ Gd r : Nat, s15 = .int .u64 Gd ∧ s16 = .int .u64 r ∧ gg = 4294967296 - r ∧ r < 4294967296 ∧ Gd ≤ 4294967297 ∧ R / V ≤ Gd ∧ T = Gd * v1 + r ∧ ∃ k, wx = wr.drewN k)
        case atStart => exact ⟨Q0, r0, rfl, by first | rfl | rw [er1], rfl, by omega, hfle, HF.out.1, by rw [Nat.mul_comm]; exact HF.out.2.2.1.symm, _, World.drewN_drewN _ _ _⟩
        case round =>
          clear er1 hfr hfle hTlt
          obtain ⟨Gd, r, rfl, rfl, hgg, hr, hGle, hGge, hTe, k, rfl⟩ := hrel
          have hqd : R / V < 4294967296 := HG.out.digit_lt
          by_cases hbig : 4294967296 ≤ Gd
          · have tA : ((Gd : Int) / 4294967296 != 0) = true := by rw [bne_iff_ne]; omega
            have hstep := HG.out.step_gt hGge hTe (.inl hbig)
            have hG0 : 0 < Gd := Nat.lt_of_le_of_lt (Nat.zero_le _) hstep
            obtain ⟨G1, hG1⟩ : ∃ G1, G1 = Gd - 1 := ⟨_, rfl⟩
            obtain ⟨r1, hr1⟩ : ∃ r1, r1 = r + v1 := ⟨_, rfl⟩
            have er : (r : Int) + (v1 : Int) = (r1 : Int) := by omega
            have hr1b : r1 < 8589934592 := by omega
            have hT1 : T = G1 * v1 + r1 := by
              rw [hTe, hr1, show Gd = G1 + 1 by omega, Nat.add_mul]; omega
            have eG : (Gd : Int) - 1 = (G1 : Int) := by omega
            have hG1b : G1 ≤ 4294967296 := by omega
            have hm1 : 4294967296 - r1 < gk := by omega
            have H1 := Lib.hid (And.intro hm1 (And.intro hstep (And.intro hG1 (And.intro hr1 hT1))))
            clear hgg hstep hTe hr1 hT1 hGge hv1p hG1 hm1
            by_cases hend : 4294967296 ≤ r1
            · have tB : ((r1 : Int) / 4294967296 != 0) = true := by rw [bne_iff_ne]; omega
              have hS := HG.out.stop_of_rest H1.out.2.2.2.2 hend
              have hfin : G1 ≤ R / V + 1 := HG.out.stop_le H1.out.2.2.2.2 hS.1 hS.2
              have HE := Lib.hid (And.intro hS.1 hfin)
              clear hS hfin
              go_wp2
              go_quiet (fail)
              go_wp2
              go_meet
              exact ⟨G1, rfl, HE.out.1, by have := H1.out.2.1; have := H1.out.2.2.1; omega, HE.out.2, _, by first | rfl | exact World.drewN_drewN _ _ _⟩
            · have tB : ((r1 : Int) / 4294967296 != 0) = false := by simp; omega
              go_wp2
              go_quiet (fail)
              go_wp2
              go_roundg (4294967296 - r1)
              case measure => exact H1.out.1
              case rel => exact ⟨G1, r1, rfl, by first | rfl | (simp only [er]), rfl, by omega, by omega, by have := H1.out.2.1; have := H1.out.2.2.1; omega, H1.out.2.2.2.2, _, by first | rfl | exact World.drewN_drewN _ _ _⟩
          · have tA : ((Gd : Int) / 4294967296 != 0) = false := by simp; omega
            have hGs : Gd < 4294967296 := by omega
            have e2 : (p : Int) + 2 - 2 = (p : Int) := by omega
            have e3 : (g : Int) + ((p : Int) + 2) - 2 = (g : Int) + (p : Int) := by omega
            obtain ⟨hmul0, hmul⟩ := mul_cap hGs l0
            obtain ⟨P, hP⟩ : ∃ P, P = Gd * v0 := ⟨_, rfl⟩
            have eP : (Gd : Int) * (v0 : Int) = (P : Int) := by rw [hP]; simp
            rw [eP] at hmul0 hmul
            have hor2 := short_or hr m0
            obtain ⟨S, hS0⟩ : ∃ S, S = r * 2 ^ 32 + a0 := ⟨_, rfl⟩
            rw [← hS0] at hor2
            have hSb : S < 18446744073709551616 := by omega
            by_cases hgt : S < P
            · have tC1 : decide (S < P) = true := decide_eq_true hgt
              have tC2 : decide ((S : Int) < (P : Int)) = true := decide_eq_true (by omega)
              have hstep := HG.out.step_gt hGge hTe (by rw [← hP, ← hS0]; exact .inr hgt)
              have hG0 : 0 < Gd := Nat.lt_of_le_of_lt (Nat.zero_le _) hstep
              obtain ⟨G1, hG1⟩ : ∃ G1, G1 = Gd - 1 := ⟨_, rfl⟩
              obtain ⟨r1, hr1⟩ : ∃ r1, r1 = r + v1 := ⟨_, rfl⟩
              have er : (r : Int) + (v1 : Int) = (r1 : Int) := by omega
              have hr1b : r1 < 8589934592 := by omega
              have hT1 : T = G1 * v1 + r1 := by
                rw [hTe, hr1, show Gd = G1 + 1 by omega, Nat.add_mul]; omega
              have eG : (Gd : Int) - 1 = (G1 : Int) := by omega
              have hG1b : G1 ≤ 4294967296 := by omega
              have hm1 : 4294967296 - r1 < gk := by omega
              have H1 := Lib.hid (And.intro hm1 (And.intro hstep (And.intro hG1 (And.intro hr1 hT1))))
              clear hgg hstep hTe hr1 hT1 hGge hv1p hG1 hm1 hgt hP hS0
              by_cases hend : 4294967296 ≤ r1
              · have tB : ((r1 : Int) / 4294967296 != 0) = true := by rw [bne_iff_ne]; omega
                have hS := HG.out.stop_of_rest H1.out.2.2.2.2 hend
                have hfin : G1 ≤ R / V + 1 := HG.out.stop_le H1.out.2.2.2.2 hS.1 hS.2
                have HE := Lib.hid (And.intro hS.1 hfin)
                clear hS hfin
                have HK := Lib.hid (And.intro er (And.intro eG tB))
                clear er eG tB
                go_wp2
                go_quiet (fail)
                obtain ⟨er, eG, tB⟩ := HK.out
                go_wp2
                go_meet
                exact ⟨G1, rfl, HE.out.1, by have := H1.out.2.1; have := H1.out.2.2.1; omega, HE.out.2, _, by first | rfl | exact World.drewN_drewN _ _ _⟩
              · have tB : ((r1 : Int) / 4294967296 != 0) = false := by simp; omega
                have HK := Lib.hid (And.intro er (And.intro eG tB))
                clear er eG tB
                go_wp2
                go_quiet (fail)
                obtain ⟨er, eG, tB⟩ := HK.out
                go_wp2
                go_roundg (4294967296 - r1)
                case measure => exact H1.out.1
                case rel => exact ⟨G1, r1, rfl, by first | rfl | (simp only [er]), rfl, by omega, by omega, by have := H1.out.2.1; have := H1.out.2.2.1; omega, H1.out.2.2.2.2, _, by first | rfl | exact World.drewN_drewN _ _ _⟩
            · have tC1 : decide (S < P) = false := decide_eq_false hgt
              have tC2 : decide ((S : Int) < (P : Int)) = false := decide_eq_false (by omega)
              have hfin : Gd ≤ R / V + 1 := HG.out.stop_le hTe hGs (by rw [← hP]; omega)
              have HE := Lib.hid (And.intro hfin hGge)
              clear hgt hfin hP hS0 hTe hGge hgg
              go_wp2
              go_quiet (fail)
              go_wp2
              go_meet
              exact ⟨Gd, rfl, hGs, HE.out.2, HE.out.1, _, by first | rfl | exact World.drewN_drewN _ _ _⟩
      case rest =>
        obtain ⟨Gd, rfl, hGlt, hGge, hGle, k, rfl⟩ := hcut
        have hVn2 : V < 2 ^ (32 * (p + 2)) := Hst.out.2.2.1
        have hYn : Gd * V < 2 ^ (32 * (p + 2 + 1)) := mul_lt_next (k := 32) hGlt hVn2
        have hYp : R < 2 ^ (32 * (p + 2 + 1)) := HX.out.2.2.2.1
        obtain ⟨Y, hY⟩ : ∃ Y, Y = offX 32 (p + 2) R (Gd * V) := ⟨_, rfl⟩
        have eU : ∀ i, dg 32 U (i + g) = dg 32 R i := fun i => by rw [Nat.add_comm]; exact HX.out.2.2.2.2.2.1 i
        have HY := Lib.hid (And.intro hVn2 (And.intro hYn (And.intro hYp (And.intro hY (And.intro hGge (And.intro hGle eU))))))
        replace hru : (wr.drewN k).rowIs w1.heap.size 97 (n + 1) (d32 U) := hru
        replace hrq : (wr.drewN k).rowIs w3.heap.size 97 L (dwn (X / V) (g + 1)) := hrq
        replace hbel : Below w1.heap.size w1 (wr.drewN k) := Below.drewN' hbel k
        clear c1 c0 d2 d1 d0 hor eq1 er1 hfr hfle HF hVn2 hYn hYp hY hGge hGle eU hTlt hv10 hv1p l1 l0 m2 m1 m0
        generalize wr.drewN k = wq at *
        go_wp2
        go_loopg [17, 18, 149] (p + 2) (fun gg s17 s18 s149 wx => ∃ i : Nat, i ≤ p + 2 ∧ gg = p + 2 - i ∧ s17 = .int .u64 (borrow 32 R (Gd * V) i : Nat) ∧ s18 = .int .u64 (gm 32 Gd V i : Nat) ∧ s149 = .int .i64 i ∧ wx.rowIs w1.heap.size 97 (n + 1) (midr (d32 U) Y g i) ∧ wx.rowIs w3.heap.size 97 L (dwn (X / V) (g + 1)) ∧ Below w1.heap.size w1 wx)
        case atStart => exact ⟨0, by omega, by omega, by rw [borrow_zero]; rfl, by rw [gm_zero]; rfl, rfl, hru.congr (fun j _ => (midr_zero _ _ _ _).symm), hrq, hbel⟩
        case round =>
          clear hru hrq hbel
          obtain ⟨i, hi, hgg, rfl, rfl, rfl, hru, hrq, hbel⟩ := hrel
          have hbw := borrow_le 32 R (Gd * V) i
          have hgm : gm 32 Gd V i < 4294967296 := gm_lt (k := 32) hGlt i
          have ha : dg 32 R i < 4294967296 := dg_lt 32 R i
          by_cases hip : i < p + 2
          · obtain ⟨b4, o4, he, _, hc4⟩ := (hsv.below hbel).cell (by omega)
            simp only [Option.some.injEq, Addr.mk.injEq] at he
            obtain ⟨rfl, rfl, _⟩ := he
            have k1 := hc4 i hip
            have k2 := hru.cell (i := i + g) (by omega)
            rw [midr_at, d32, HY.out.2.2.2.2.2.2 i] at k2
            have k3 := hru.frozen (i + g)
            simp only [d32] at k1
            have hv : dg 32 V i < 4294967296 := dg_lt 32 V i
            obtain ⟨hmul0, hmul⟩ := mul_cap hGlt hv
            have x1 := gm_dg 32 Gd V i
            have x2 := gm_succ 32 Gd V i
            have x3 := offX_dg (k := 32) (i := i) (R := R) HY.out.2.1 (Nat.le_of_lt hip)
            have x4 := borrow_succ 32 R (Gd * V) i
            rw [← HY.out.2.2.2.1, ← x1] at x3
            rw [← x1] at x4
            obtain ⟨P, hP⟩ : ∃ P, P = Gd * dg 32 V i := ⟨_, rfl⟩
            have eP : (Gd : Int) * (dg 32 V i : Int) = (P : Int) := by rw [hP]; simp
            rw [eP] at hmul0 hmul
            rw [← hP] at x1 x2 x3 x4
            obtain ⟨M, hM⟩ : ∃ M, M = gm 32 Gd V i + P := ⟨_, rfl⟩
            have eM : (gm 32 Gd V i : Int) + (P : Int) = (M : Int) := by omega
            rw [← hM] at x2 x3 x4
            have hMb : M < 18446744073709551616 := by omega
            obtain ⟨Mr, hMr⟩ : ∃ Mr, Mr = M % 2 ^ 32 := ⟨_, rfl⟩
            have eMr : (M : Int) % 4294967296 = (Mr : Int) := by omega
            have hMrb : Mr < 4294967296 := by omega
            rw [← hMr] at x3 x4
            have H1 := Lib.hid (And.intro x2 (And.intro x3 (And.intro x4 hgg)))
            clear hc4 x1 x2 x3 x4 hP hM hMr hgg
            go_wp2
            go_roundg (p + 2 - (i + 1))
            case measure => have := H1.out.2.2.2; omega
            case rel =>
              refine ⟨i + 1, by omega, rfl, ?_, ?_, by go_num, (hru.set (i + g) _).congr (fun j _ => midr_step ?_), hrq.setOther (by show w3.heap.size ≠ w1.heap.size; omega) _, hbel.setCell (Nat.le_refl _) _⟩
              · rw [H1.out.2.2.1, over_c ha hMrb hbw]
              · rw [← H1.out.1]; go_num
              · rw [d32, H1.out.2.1, over_v ha hMrb hbw]
          · obtain rfl : i = p + 2 := by omega
            have k2 := hru.cell (i := p + 2 + g) (by omega)
            rw [midr_at, d32, HY.out.2.2.2.2.2.2 (p + 2), Nat.add_comm (p + 2) g] at k2
            have k3 := hru.frozen (g + (p + 2))
            have hbf := borrow_full (k := 32) (n := p + 2 + 1) HY.out.2.2.1 HY.out.2.1
            have x4 := borrow_succ 32 R (Gd * V) (p + 2)
            have x3 := offX_dg (k := 32) (i := p + 2) (R := R) HY.out.2.1 (Nat.le_refl _)
            rw [← HY.out.2.2.2.1] at x3
            rw [hbf] at x4
            have hgt := gm_top (k := 32) hGlt HY.out.1
            rw [← hgt] at x3 x4
            have hD1 := over_c ha hgm hbw
            have hD2 := over_v ha hgm hbw
            rw [← x4] at hD1
            rw [← x3] at hD2
            have hDb : 0 ≤ IntKind.u64.wrap (IntKind.u64.wrap ((dg 32 R (p + 2) : Int) - (gm 32 Gd V (p + 2) : Int)) - (borrow 32 R (Gd * V) (p + 2) : Int)) ∧ IntKind.u64.wrap (IntKind.u64.wrap ((dg 32 R (p + 2) : Int) - (gm 32 Gd V (p + 2) : Int)) - (borrow 32 R (Gd * V) (p + 2) : Int)) < 18446744073709551616 := by
              simp only [IntKind.wrap_u64]; omega
            obtain ⟨D, hD⟩ : ∃ D, D = IntKind.u64.wrap (IntKind.u64.wrap ((dg 32 R (p + 2) : Int) - (gm 32 Gd V (p + 2) : Int)) - (borrow 32 R (Gd * V) (p + 2) : Int)) := ⟨_, rfl⟩
            rw [← hD] at hD1 hD2 hDb
            have eD := hD.symm
            obtain ⟨hDb0, hDb1⟩ := hDb
            have hqc := hrq.cell (i := g) (by omega)
            have hqf := hrq.frozen g
            have hne : w3.heap.size ≠ w1.heap.size := by omega
            have HS := Lib.hid hsv
            clear x3 x4 hbf hgt hD hgg hsv
            by_cases hneg : R < Gd * V
            · rw [if_pos hneg] at hD1
              have hGq : Gd = R / V + 1 := by
                refine Nat.le_antisymm HY.out.2.2.2.2.2.1 ?_
                exact Nat.lt_of_not_le fun hle => Nat.not_lt.2 (Nat.le_trans (Nat.mul_le_mul_right V hle) (Nat.div_mul_le_self R V)) hneg
              obtain ⟨G1, hG1⟩ : ∃ G1, G1 = R / V := ⟨_, rfl⟩
              have eG1 : (Gd : Int) - 1 = (G1 : Int) := by omega
              have hqd := HX.out.2.2.2.2.2.2
              rw [← hG1] at hqd
              have hle : Gd * V ≤ R + V := by
                rw [hGq, Nat.add_mul, Nat.one_mul]
                have := Nat.div_mul_le_self R V
                omega
              have hZ := offX_back (k := 32) (n := p + 2) hneg hle (Nat.lt_of_lt_of_le HY.out.1 (pmono (by omega)))
              rw [← HY.out.2.2.2.1] at hZ
              have hZ2 : (Y + V) % 2 ^ (32 * (p + 2 + 1)) = R - G1 * V := by
                rw [hZ, hGq, ← hG1, Nat.add_mul, Nat.one_mul]; omega
              have hst := rem_step HX.out.1 HX.out.2.1 hG1 hZ2
              have hG1b : G1 < 4294967296 := by omega
              have Hd := Lib.hid (And.intro hqd hst)
              have hru2 := (hru.set (g + (p + 2)) (.int .u32 (dg 32 Y (p + 2) : Int))).congr (g := midr (d32 U) Y g (p + 2 + 1)) (fun j _ => by
                rw [Nat.add_comm g, midr_step (by rw [d32])])
              have hrq2 := hrq.setOther (a := ⟨w1.heap.size, g + (p + 2), none⟩) hne (.int .u32 (dg 32 Y (p + 2) : Int))
              have hbel2 := hbel.setCell (p := ⟨w1.heap.size, g + (p + 2), none⟩) (Nat.le_refl _) (.int .u32 (dg 32 Y (p + 2) : Int))
              clear hneg hGq hqd hZ hst hle hZ2 hG1 hqc hqf hru hrq hbel
              go_wp2
              go_loopg [17, 210] (p + 2) (fun gg s17 s210 wx => ∃ i : Nat, i ≤ p + 2 ∧ gg = p + 2 - i ∧ s17 = .int .u64 (carry 32 Y V i : Nat) ∧ s210 = .int .i64 i ∧ wx.rowIs w1.heap.size 97 (n + 1) (midr (midr (d32 U) Y g (p + 2 + 1)) (Y + V) g i) ∧ wx.rowIs w3.heap.size 97 L (dwn (X / V) (g + 1)) ∧ Below w1.heap.size w1 wx)
              case atStart => exact ⟨0, by omega, by omega, by rw [carry_zero]; rfl, rfl, hru2.congr (fun j _ => (midr_zero _ _ _ _).symm), hrq2, hbel2⟩
              case round =>
                clear hru2 hrq2 hbel2 k2 k3 hbw hgm ha hD1 hD2 eD hDb0 hDb1
                obtain ⟨i, hi, hgg, rfl, rfl, hru, hrq, hbel⟩ := hrel
                have hcr := carry_le 32 Y V i
                have ha : dg 32 Y i < 4294967296 := dg_lt 32 Y i
                have x1 := carry_dg 32 Y V i
                have x2 := carry_succ 32 Y V i
                by_cases hip : i < p + 2
                · obtain ⟨b4, o4, he, _, hc4⟩ := (HS.out.below hbel).cell (by omega)
                  simp only [Option.some.injEq, Addr.mk.injEq] at he
                  obtain ⟨rfl, rfl, _⟩ := he
                  have k1 := hc4 i hip
                  have k2 := hru.cell (i := i + g) (by omega)
                  rw [midr_at, midr_in (by omega), d32] at k2
                  have k3 := hru.frozen (i + g)
                  simp only [d32] at k1
                  have hv : dg 32 V i < 4294967296 := dg_lt 32 V i
                  obtain ⟨M, hM⟩ : ∃ M, M = carry 32 Y V i + dg 32 Y i + dg 32 V i := ⟨_, rfl⟩
                  have eM : (carry 32 Y V i : Int) + ((dg 32 Y i : Int) + (dg 32 V i : Int)) = (M : Int) := by omega
                  rw [← hM] at x1 x2
                  have hMb : M < 12884901888 := by omega
                  have H1 := Lib.hid (And.intro x1 (And.intro x2 hgg))
                  clear hc4 x1 x2 hM hgg
                  go_wp2
                  go_quiet (fail)
                  go_wp2
                  go_roundg (p + 2 - (i + 1))
                  case measure => have := H1.out.2.2; omega
                  case rel =>
                    refine ⟨i + 1, by omega, rfl, ?_, by go_num, (hru.set (i + g) _).congr (fun j _ => midr_step ?_), hrq.setOther (by show w3.heap.size ≠ w1.heap.size; omega) _, Below.setCell (Below.drewN' hbel _) (Nat.le_refl _) _⟩
                    · rw [← H1.out.2.1]; go_num
                    · rw [d32, ← H1.out.1]; go_num
                · obtain rfl : i = p + 2 := by omega
                  have k2 := hru.cell (i := p + 2 + g) (by omega)
                  rw [midr_at, midr_in (by omega), d32, Nat.add_comm (p + 2) g] at k2
                  have k3 := hru.frozen (g + (p + 2))
                  rw [dg_zero_of HY.out.1, Nat.add_zero] at x1
                  have hqc := hrq.cell (i := g) (by omega)
                  have hqf := hrq.frozen g
                  unfold dwn at hqc
                  rw [if_neg (by omega)] at hqc
                  have H1 := Lib.hid x1
                  clear x1 x2 hgg
                  go_wp2
                  go_roundg g
                  case measure => omega
                  case rel =>
                    refine ⟨by omega, by go_num, ?_, ?_, ?_⟩
                    · refine ((hru.set (g + (p + 2)) _).setOther (by show w1.heap.size ≠ w3.heap.size; omega) _).congr (fun j _ => ?_)
                      rw [Nat.add_comm g, midr_step (by rw [d32, ← H1.out]; go_num), midr_midr, mid_done HX.out.2.2.2.2.1 Hd.out.2]
                    · refine ((hrq.setOther (by show w3.heap.size ≠ w1.heap.size; omega) _).set g _).congr (fun j _ => dwn_step ?_)
                      rw [d32, ← Hd.out.1]; try go_num
                    · exact (hbel.setCell (Nat.le_refl _) _).setCell (by show w1.heap.size ≤ w3.heap.size; omega) _
            · rw [if_neg hneg] at hD1
              have hGq : Gd = R / V := Nat.le_antisymm ((Nat.le_div_iff_mul_le hV0).2 (by omega)) HY.out.2.2.2.2.1
              have hqd := HX.out.2.2.2.2.2.2
              rw [← hGq] at hqd
              have hZ := offX_of_le (k := 32) (n := p + 2) HY.out.2.2.1 (by omega : Gd * V ≤ R)
              rw [← HY.out.2.2.2.1] at hZ
              have hst := rem_step HX.out.1 HX.out.2.1 hGq hZ
              have Hd := Lib.hid (And.intro hqd hst)
              clear hneg hGq hqd hZ hst
              unfold dwn at hqc
              rw [if_neg (by omega)] at hqc
              go_wp2
              go_roundg g
              case measure => omega
              case rel =>
                refine ⟨by omega, by go_num, ?_, ?_, ?_⟩
                · refine ((hru.set (g + (p + 2)) _).setOther (by show w1.heap.size ≠ w3.heap.size; omega) _).congr (fun j _ => ?_)
                  rw [Nat.add_comm g, midr_step (by rw [d32, ← hD2]), mid_done HX.out.2.2.2.2.1 Hd.out.2]
                · refine ((hrq.setOther (by show w3.heap.size ≠ w1.heap.size; omega) _).set g _).congr (fun j _ => dwn_step ?_)
                  rw [d32, ← Hd.out.1]; try go_num
                · exact (hbel.setCell (Nat.le_refl _) _).setCell (by show w1.heap.size ≤ w3.heap.size; omega) _
end Go.Proofs.YtbhfnigblhfikaaGreat
