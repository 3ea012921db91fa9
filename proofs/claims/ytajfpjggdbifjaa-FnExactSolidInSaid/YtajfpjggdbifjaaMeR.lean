/-
  SolidIn by both: the sum of a valid melt's phases is finite. (Printed by gen_melt.py.)
-/
import Derived.Test.YtajfpjggdbifjaaMeS
namespace Go.Proofs.Ytajfpjggdbifjaa
open Go.RowKit
set_option linter.unusedVariables false
set_option linter.unusedSimpArgs false
set_option linter.unnecessarySimpa false

theorem one_mag : magR FloatKind.f32.format 1065353216 = unit .f32 := by decide
theorem signed_pos (m a : Nat) : Ieee.signed false m a = ((m * 2 ^ a : Nat) : Int) := by
  unfold Ieee.signed
  simp [Nat.shiftLeft_eq]
theorem signed_neg (m a : Nat) : Ieee.signed true m a = -((m * 2 ^ a : Nat) : Int) := by
  unfold Ieee.signed
  simp [Nat.shiftLeft_eq]
/-- A phase of a valid melt is no more than 1. -/
theorem phB_bd {x : Nat} (h : phB x = true) : bd .f32 x (unit .f32) := by
  simp only [phB, Bool.and_eq_true, Bool.not_eq_true'] at h
  obtain ⟨h0, h1⟩ := h
  have nx : isN .f32 x = false := by
    cases hn : isN .f32 x with
    | false => rfl
    | true => unfold ge0 at h0; rw [order_nan1 hn] at h0; cases h0
  have rx : x % FloatKind.f32.format.signWeight ≤ FloatKind.f32.format.infRung := by
    rw [Bool.eq_false_iff] at nx
    have := mt (isN_iff .f32 x).2 nx
    omega
  obtain ⟨n1, e1, i1, i2, i3⟩ := read_mag (f := FloatKind.f32.format) (b := 1065353216) (by decide)
  have hs1 : (1065353216 / FloatKind.f32.format.signWeight % 2 == 1) = false := by decide
  have hm1 : (1065353216 : Nat) % FloatKind.f32.format.signWeight = 1065353216 := by decide
  rw [hs1] at i1
  rw [hm1, one_mag] at i3
  obtain ⟨n0, e0, j1, j2, j3⟩ := read_mag (f := FloatKind.f32.format) (b := 0) (by decide)
  have hs0 : (0 / FloatKind.f32.format.signWeight % 2 == 1) = false := by decide
  have hz0 : n0 = 0 := by
    have e2 : magR FloatKind.f32.format (0 % FloatKind.f32.format.signWeight) = 0 := by decide
    rw [e2] at j3
    have hp := Nat.two_pow_pos (e0 - FloatKind.f32.format.leastPlace).toNat
    rcases Nat.eq_zero_or_pos n0 with h | h
    · exact h
    · have := Nat.mul_pos h hp; omega
  rw [hs0] at j1
  subst hz0
  unfold ge0 at h0
  unfold gt1 at h1
  unfold Ieee.Format.order at h0 h1
  rw [j1] at h0
  rw [i1] at h1
  rcases read_cases (f := FloatKind.f32.format) (by decide) rx with ⟨a1, m, e, a2, a3, a4⟩ | ⟨a1, a2⟩
  · rw [a2] at h0 h1
    simp only [Ieee.Datum.order] at h0 h1
    refine ⟨a1, ?_⟩
    rw [← a4]
    cases hs : (x / FloatKind.f32.format.signWeight % 2 == 1) with
    | false =>
      rw [hs] at h1
      have hc : ¬ compare (Ieee.signed false m (e - min e e1).toNat) (Ieee.signed false n1 (e1 - min e e1).toNat) = .gt := by simpa using h1
      rw [Int.compare_eq_gt, signed_pos, signed_pos] at hc
      have hle : m * 2 ^ (e - min e e1).toNat ≤ n1 * 2 ^ (e1 - min e e1).toNat := by omega
      have q1 : (e - FloatKind.f32.format.leastPlace).toNat = (e - min e e1).toNat + (min e e1 - FloatKind.f32.format.leastPlace).toNat := by omega
      have q2 : (e1 - FloatKind.f32.format.leastPlace).toNat = (e1 - min e e1).toNat + (min e e1 - FloatKind.f32.format.leastPlace).toNat := by omega
      rw [← i3, q1, q2, Nat.pow_add, Nat.pow_add, ← Nat.mul_assoc, ← Nat.mul_assoc]
      exact Nat.mul_le_mul_right _ hle
    | true =>
      rw [hs] at h0
      have hc : compare (Ieee.signed true m (e - min e e0).toNat) (Ieee.signed false 0 (e0 - min e e0).toNat) ≠ .lt := by
        intro hl
        rw [hl] at h0
        simp at h0
      rw [Ne, Int.compare_eq_lt, signed_neg, signed_pos] at hc
      have hm0 : m * 2 ^ (e - min e e0).toNat = 0 := by
        rw [Nat.zero_mul] at hc
        generalize m * 2 ^ (e - min e e0).toNat = t at hc ⊢
        omega
      have hm : m = 0 := by
        rcases Nat.eq_zero_or_pos m with h | h
        · exact h
        · have := Nat.mul_pos h (Nat.two_pow_pos (e - min e e0).toNat); omega
      rw [hm]
      simp
  · exfalso
    rw [a2] at h0 h1
    cases hs : (x / FloatKind.f32.format.signWeight % 2 == 1) with
    | false => rw [hs] at h1; simp [Ieee.Datum.order] at h1
    | true => rw [hs] at h0; simp [Ieee.Datum.order] at h0
theorem rep_unit32 {M : Nat} (hM : M < 16777216) : rep FloatKind.f32.format (M * unit .f32) := by
  have e : unit .f32 = 2 ^ 149 := by decide
  rw [e]
  exact rep_of (by rw [f32_bin]; omega) (by rw [f32_bin, f32_inf]; omega)
theorem add_some {q x A B : Nat} (hq : bd .f32 q A) (hx : bd .f32 x B) : ∃ r, floatBits .add .f32 q x = some r := by
  obtain ⟨s, m, i, h1, h2, h3⟩ := hq.read
  obtain ⟨t, n, j, g1, g2, g3⟩ := hx.read
  simp only [floatBits, Ieee.Format.add, h1, g1, Ieee.Datum.sum, Option.map_some]
  exact ⟨_, rfl⟩
theorem isN_bd {x A : Nat} (h : bd .f32 x A) : isN .f32 x = false := by
  cases hn : isN .f32 x with
  | false => rfl
  | true =>
    have := (isN_iff .f32 x).1 hn
    have := h.1
    omega
/-- The sum of the first phases. -/
theorem sum_bd {xs : List Nat} (hx : xs.all phB = true) : ∀ k, k ≤ xs.length → k ≤ 256 → ∃ q, sumO xs k = some q ∧ bd .f32 q (k * unit .f32)
  | 0, _, _ => ⟨0, rfl, by decide, by rw [Nat.zero_mul]; decide⟩
  | k + 1, h, hk => by
    obtain ⟨q, h1, h2⟩ := sum_bd hx k (by omega) (by omega)
    have hph : phB (xs[k]?.getD 0) = true := by
      have hkl : k < xs.length := by omega
      have := List.all_eq_true.1 hx xs[k] (List.getElem_mem hkl)
      simpa [hkl] using this
    have hb := phB_bd hph
    obtain ⟨r, hr⟩ := add_some h2 hb
    refine ⟨r, ?_, bd_add h2 hb (rep_unit32 (by omega)) (by rw [Nat.add_mul, Nat.one_mul]; exact Nat.le_refl _) hr⟩
    show fop .add .f32 (sumO xs k) (fa .f32 (xs[k]?.getD 0)) = some r
    rw [h1, fa_num (isN_bd hb)]
    exact hr
theorem finB_of {r q N : Nat} (h : fa .f32 r = some q) (hb : bd .f32 q N) : finB r = true := by
  have hr : isN .f32 r = false := by
    cases hn : isN .f32 r with
    | false => rfl
    | true => rw [fa_nan hn] at h; cases h
  rw [fa_num hr] at h
  cases h
  have := hb.1
  rw [f32_sw, f32_inf] at this
  simpa [finB] using this
def solidA (vm : Bool) (xs : List Nat) (n : Nat) : Option Nat × Bool := if vm then (sumO xs n, true) else (some 0, false)

set_option maxRecDepth 100000 in
set_option maxHeartbeats 4000000 in
theorem specSolid_any (W H : Int) (R : Bool) (a : Option Addr) (n c : Nat) (W' H' : Int) (R' : Bool) (a' : Option Addr) (n' c' : Nat) (f1 f2 f3 f4 f5 : Nat) (k : Int) (xs xs' : List Nat) (hz : xs.length = n) (hz' : xs'.length = n') (hn : n ≤ 1048576) (hn' : n' ≤ 1048576) (w : World) (hA : VArr w a (flts xs)) (hA' : VArr w a' (flts xs')) :
    Calls Try.prog 45 #[.agg #[.int .i64 W, .int .i64 H, .bool R, .slice a n c, .int .i64 W', .int .i64 H', .bool R', .slice a' n' c', .float .f32 f1, .float .f32 f2, .float .f32 f3, .float .f32 f4, .float .f32 f5, .int .i64 k]] w (fbP w (solidA (vldM W H R n W' H' R' n' xs xs' f1 f2 f3 f4 f5 k) xs n)) := by
  have hX := (Ext.refl w).alloc (.cells #[.int .i64 W, .int .i64 H, .bool R, .slice a n c, .int .i64 W', .int .i64 H', .bool R', .slice a' n' c', .float .f32 f1, .float .f32 f2, .float .f32 f3, .float .f32 f4, .float .f32 f5, .int .i64 k] 62)
  have b0 := heap_new w (.cells #[.int .i64 W, .int .i64 H, .bool R, .slice a n c, .int .i64 W', .int .i64 H', .bool R', .slice a' n' c', .float .f32 f1, .float .f32 f2, .float .f32 f3, .float .f32 f4, .float .f32 f5, .int .i64 k] 62)
  have hA1 := hA.ext hX
  have hA1' := hA'.ext hX
  go_enter Try.func45, Try.ntmps45
  go_wp2_with fail
  refine (l03Is_any _ W H R a n c W' H' R' a' n' c' f1 f2 f3 f4 f5 k xs xs' hz hz' hn hn' _ b0 hA1 hA1').mono ?_
  generalize w.alloc (.cells #[.int .i64 W, .int .i64 H, .bool R, .slice a n c, .int .i64 W', .int .i64 H', .bool R', .slice a' n' c', .float .f32 f1, .float .f32 f2, .float .f32 f3, .float .f32 f4, .float .f32 f5, .int .i64 k] 62) = w0 at *
  generalize w.heap.size = p at *
  cases hc : vldM W H R n W' H' R' n' xs xs' f1 f2 f3 f4 f5 k with
  | false =>
    rintro e w1 ⟨rfl, hX1⟩
    have HQ : Hid (solidA (vldM W H R n W' H' R' n' xs xs' f1 f2 f3 f4 f5 k) xs n = (some 0, false)) := by show _ = _; rw [hc]; rfl
    have HX := Lib.hid (hX.trans hX1)
    clear hX hX1 b0 hc
    go_wp2
    refine bodyPost_ret (v := .tuple #[.float .f32 0, .bool false]) ?_ rfl ⟨0, by rw [HQ.out], HX.out, by rw [HQ.out]; exact fa_zero⟩
    simp only [results, Try.results45]
    go_simp
  | true =>
    have HQ : Hid (solidA (vldM W H R n W' H' R' n' xs xs' f1 f2 f3 f4 f5 k) xs n = (sumO xs n, true)) := by show _ = _; rw [hc]; rfl
    have hvm := hc
    simp only [vldM, twoB, Bool.and_eq_true] at hvm
    have hvp := hvm.1.1.1.1
    have hvq := hvm.1.1.1.2
    have hn0 : 0 < n := by obtain ⟨q1, q2, e1, e2, i1, _, i3, _, e3, e4⟩ := vldF_facts hvp; rw [e3]; exact Nat.mul_pos (by omega) (by omega)
    have hn0' : 0 < n' := by obtain ⟨q1, q2, e1, e2, i1, _, i3, _, e3, e4⟩ := vldF_facts hvq; rw [e3]; exact Nat.mul_pos (by omega) (by omega)
    obtain ⟨b, o, rfl⟩ := hA.starts (i := 0) (by simp; omega)
    obtain ⟨b', o', rfl⟩ := hA'.starts (i := 0) (by simp; omega)
    rintro e w1 ⟨rfl, hX1⟩
    have HX := Lib.hid (hX.trans hX1)
    have HB := Lib.hid (hX1.block b0)
    have HA := Lib.hid (hA1.ext hX1)
    have HA' := Lib.hid (hA1'.ext hX1)
    have HZ := Lib.hid hz
    have HZ' := Lib.hid hz'
    have hF : Hid (FldAtO w1 p 0 W H R (some ⟨b, o, none⟩) n c) := ⟨block_cell HB.out 0, block_cell HB.out 1, block_cell HB.out 2, block_cell HB.out 3⟩
    have hF' : Hid (FldAtO w1 p 4 W' H' R' (some ⟨b', o', none⟩) n' c') := ⟨block_cell HB.out 4, block_cell HB.out 5, block_cell HB.out 6, block_cell HB.out 7⟩
    have HVM := Lib.hid hc
    clear hX hX1 b0 hA hA' hA1 hA1' hc hvm hvp hvq hz hz'
    go_wp2_with fail
    refine (l02Sum_any p 0 W H R b o n c xs HZ.out (by omega) _ hF.out HA.out).mono ?_
    rintro e w2 ⟨r, rfl, hr, hX2⟩
    have HXX := Lib.hid (HX.out.trans hX2)
    have HR := Lib.hid hr
    clear hX2 hr
    go_wp2
    refine bodyPost_ret (v := .tuple #[.float .f32 r, .bool true]) ?_ rfl ⟨r, by rw [HQ.out], HXX.out, by rw [HQ.out]; exact HR.out⟩
    simp only [results, Try.results45]
    go_simp

set_option maxRecDepth 100000 in
set_option maxHeartbeats 4000000 in
theorem implSolid_any (W H : Int) (R : Bool) (a : Option Addr) (n c : Nat) (W' H' : Int) (R' : Bool) (a' : Option Addr) (n' c' : Nat) (f1 f2 f3 f4 f5 : Nat) (k : Int) (xs xs' : List Nat) (hz : xs.length = n) (hz' : xs'.length = n') (hn : n ≤ 1048576) (hn' : n' ≤ 1048576) (w : World) (hA : VArr w a (flts xs)) (hA' : VArr w a' (flts xs')) :
    Calls Try.prog 46 #[.agg #[.int .i64 W, .int .i64 H, .bool R, .slice a n c, .int .i64 W', .int .i64 H', .bool R', .slice a' n' c', .float .f32 f1, .float .f32 f2, .float .f32 f3, .float .f32 f4, .float .f32 f5, .int .i64 k]] w (fbP w (solidA (vldM W H R n W' H' R' n' xs xs' f1 f2 f3 f4 f5 k) xs n)) := by
  have hX := (Ext.refl w).alloc (.cells #[.int .i64 W, .int .i64 H, .bool R, .slice a n c, .int .i64 W', .int .i64 H', .bool R', .slice a' n' c', .float .f32 f1, .float .f32 f2, .float .f32 f3, .float .f32 f4, .float .f32 f5, .int .i64 k] 62)
  have b0 := heap_new w (.cells #[.int .i64 W, .int .i64 H, .bool R, .slice a n c, .int .i64 W', .int .i64 H', .bool R', .slice a' n' c', .float .f32 f1, .float .f32 f2, .float .f32 f3, .float .f32 f4, .float .f32 f5, .int .i64 k] 62)
  have hA1 := hA.ext hX
  have hA1' := hA'.ext hX
  obtain ⟨⟨c0, c1, c2, c3, c4, c5, c6, c7, c8, c9, c10, c11, c12, c13⟩, _⟩ := block14 b0
  go_enter Try.func46, Try.ntmps46
  go_wp2_with fail
  clear c0 c1 c2 c3 c4 c5 c6 c7 c8 c9 c10 c11 c12 c13
  refine (implValidM_any W H R a n c W' H' R' a' n' c' f1 f2 f3 f4 f5 k xs xs' hz hz' hn hn' _ hA1 hA1').mono ?_
  generalize w.alloc (.cells #[.int .i64 W, .int .i64 H, .bool R, .slice a n c, .int .i64 W', .int .i64 H', .bool R', .slice a' n' c', .float .f32 f1, .float .f32 f2, .float .f32 f3, .float .f32 f4, .float .f32 f5, .int .i64 k] 62) = w0 at *
  generalize w.heap.size = p at *
  cases hc : vldM W H R n W' H' R' n' xs xs' f1 f2 f3 f4 f5 k with
  | false =>
    rintro e w1 ⟨rfl, hX1⟩
    have HQ : Hid (solidA (vldM W H R n W' H' R' n' xs xs' f1 f2 f3 f4 f5 k) xs n = (some 0, false)) := by show _ = _; rw [hc]; rfl
    have HX := Lib.hid (hX.trans hX1)
    clear hX hX1 b0 hc
    go_wp2
    refine bodyPost_ret (v := .tuple #[.float .f32 0, .bool false]) ?_ rfl ⟨0, by rw [HQ.out], HX.out, by rw [HQ.out]; exact fa_zero⟩
    simp only [results, Try.results46]
    go_simp
  | true =>
    have HQ : Hid (solidA (vldM W H R n W' H' R' n' xs xs' f1 f2 f3 f4 f5 k) xs n = (sumO xs n, true)) := by show _ = _; rw [hc]; rfl
    have hvm := hc
    simp only [vldM, twoB, Bool.and_eq_true] at hvm
    have hvp := hvm.1.1.1.1
    have hvq := hvm.1.1.1.2
    have hn0 : 0 < n := by obtain ⟨q1, q2, e1, e2, i1, _, i3, _, e3, e4⟩ := vldF_facts hvp; rw [e3]; exact Nat.mul_pos (by omega) (by omega)
    have hn0' : 0 < n' := by obtain ⟨q1, q2, e1, e2, i1, _, i3, _, e3, e4⟩ := vldF_facts hvq; rw [e3]; exact Nat.mul_pos (by omega) (by omega)
    obtain ⟨b, o, rfl⟩ := hA.starts (i := 0) (by simp; omega)
    obtain ⟨b', o', rfl⟩ := hA'.starts (i := 0) (by simp; omega)
    rintro e w1 ⟨rfl, hX1⟩
    have HX := Lib.hid (hX.trans hX1)
    have HB := Lib.hid (hX1.block b0)
    have HA := Lib.hid (hA1.ext hX1)
    have HA' := Lib.hid (hA1'.ext hX1)
    have HZ := Lib.hid hz
    have HZ' := Lib.hid hz'
    have hF : Hid (FldAtO w1 p 0 W H R (some ⟨b, o, none⟩) n c) := ⟨block_cell HB.out 0, block_cell HB.out 1, block_cell HB.out 2, block_cell HB.out 3⟩
    have hF' : Hid (FldAtO w1 p 4 W' H' R' (some ⟨b', o', none⟩) n' c') := ⟨block_cell HB.out 4, block_cell HB.out 5, block_cell HB.out 6, block_cell HB.out 7⟩
    have HVM := Lib.hid hc
    have hph := hvm.1.2
    have hn2 : n ≤ 256 := by obtain ⟨q1, q2, e1, e2, i1, _, i3, _, e3, e4⟩ := vldF_facts hvp; exact e4
    have HPH : Hid (xs.all phB = true) := by
      show _ = _
      simp only [vldM, Bool.and_eq_true] at hc
      exact hc.1.2.1
    have c0 := block_cell HB.out 0
    have c1 := block_cell HB.out 1
    have c2 := block_cell HB.out 2
    have c3 := block_cell HB.out 3
    clear hX hX1 b0 hA hA' hA1 hA1' hc hvm hvp hvq hz hz' hph
    go_wp2_with fail
    clear c0 c1 c2 c3
    refine (fieldSum_any W H R b o n c xs HZ.out (by omega) _ HA.out).mono ?_
    rintro e w2 ⟨r, rfl, hr, hX2⟩
    obtain ⟨q, hq, hb⟩ := sum_bd HPH.out n (by rw [HZ.out]; exact Nat.le_refl _) hn2
    have hfin := finB_of (hr.trans hq) hb
    have HXX := Lib.hid (HX.out.trans hX2)
    have HR := Lib.hid hr
    clear hX2 hr hb hq
    go_wp2_with fail
    refine (told_any r _).mono ?_
    rintro e w3 ⟨rfl, hX3⟩
    rw [hfin]
    have HX3 := Lib.hid (HXX.out.trans hX3)
    clear hX3 hfin
    simp only [if_true]
    go_wp2
    refine bodyPost_ret (v := .tuple #[.float .f32 r, .bool true]) ?_ rfl ⟨r, by rw [HQ.out], HX3.out, by rw [HQ.out]; exact HR.out⟩
    simp only [results, Try.results46]
    go_simp
end Go.Proofs.Ytajfpjggdbifjaa
