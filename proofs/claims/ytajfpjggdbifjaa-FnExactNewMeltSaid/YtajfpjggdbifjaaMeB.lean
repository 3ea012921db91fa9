/-
  Finite numbers, by the program and by the reference.
-/
import Derived.Test.YtajfpjggdbifjaaFbe
import Derived.Test.YtajfpjggdbifjaaFbf
namespace Go.Proofs.Ytajfpjggdbifjaa
open Go.RowKit
set_option linter.unusedVariables false
set_option linter.unusedSimpArgs false
set_option linter.unnecessarySimpa false

/-- A single is finite. -/
def finB (x : Nat) : Bool := decide (x % 2147483648 < 2139095040)
theorem finB_yes {x : Nat} (h : finB x = true) : x % FloatKind.f32.format.signWeight < FloatKind.f32.format.infRung := by
  rw [f32_sw, f32_inf]; simpa [finB] using h
theorem finB_no {x : Nat} (h : finB x = false) : isN .f32 x = true ∨ FloatKind.f32.format.read x = .infinity (x / FloatKind.f32.format.signWeight % 2 == 1) := by
  have h1 : ¬ x % 2147483648 < 2139095040 := by simpa [finB] using h
  by_cases h2 : x % FloatKind.f32.format.signWeight = FloatKind.f32.format.infRung
  · exact .inr (read_inf h2 (by decide))
  · refine .inl ((isN_iff .f32 x).2 ?_)
    rw [f32_sw, f32_inf] at h2 ⊢
    omega
/-- A word of magnitude 0 is 0. -/
theorem order_zero {k : FloatKind} {r : Nat} (h : bd k r 0) (h0 : 0 < k.format.infRung) : k.format.order r 0 = some .eq := by
  obtain ⟨m, e, h1, h2, h3⟩ := read_mag h.1
  have h4 : m = 0 := by
    have := h.2
    rw [← h3] at this
    have hp := Nat.two_pow_pos (e - k.format.leastPlace).toNat
    rcases Nat.eq_zero_or_pos m with h | h
    · exact h
    · have := Nat.mul_pos h hp; omega
  obtain ⟨n, e', i1, i2, i3⟩ := read_mag (f := k.format) (b := 0) (by rw [Nat.zero_mod]; exact h0)
  have h5 : n = 0 := by
    have e0 : magR k.format (0 % k.format.signWeight) = 0 := by rw [Nat.zero_mod]; unfold magR; rw [if_pos (binade_pos _)]
    rw [e0] at i3
    have hp := Nat.two_pow_pos (e' - k.format.leastPlace).toNat
    rcases Nat.eq_zero_or_pos n with h | h
    · exact h
    · have := Nat.mul_pos h hp; omega
  subst h4 h5
  unfold Ieee.Format.order
  rw [h1, i1]
  simp only [Ieee.Datum.order, Option.some.injEq, Int.compare_eq_eq]
  unfold Ieee.signed
  simp
theorem sub_self_num {x : Nat} (h : finB x = true) : ∃ r, floatBits .sub .f32 x x = some r ∧ FloatKind.f32.format.order r 0 = some .eq := by
  obtain ⟨m, e, h1, h2, h3⟩ := read_mag (finB_yes h)
  have hf : floatBits .sub .f32 x x = ((FloatKind.f32.format.read x).sum (FloatKind.f32.format.read x).opposite).map FloatKind.f32.format.write := by
    unfold floatBits
    rfl
  rw [hf, h1]
  simp only [Ieee.Datum.opposite, Ieee.Datum.sum, Option.map_some]
  refine ⟨_, rfl, order_zero ?_ (by decide)⟩
  refine bd_nearest (b := FloatKind.f32.format.leastPlace) ⟨0, by decide, by unfold magR; rw [if_pos (binade_pos _)]⟩ (by omega) (Int.le_refl _) ?_
  have hz : (Ieee.signed (x / FloatKind.f32.format.signWeight % 2 == 1) m (e - min e e).toNat + Ieee.signed (!(x / FloatKind.f32.format.signWeight % 2 == 1)) m (e - min e e).toNat).natAbs = 0 := by
    unfold Ieee.signed
    cases (x / FloatKind.f32.format.signWeight % 2 == 1) <;> simp
    all_goals omega
  rw [hz]
  simp
theorem sub_self_nan {x : Nat} (h : finB x = false) : floatBits .sub .f32 x x = none := by
  rcases finB_no h with h1 | h1
  · exact floatBits_nan1 h1
  · have hf : floatBits .sub .f32 x x = ((FloatKind.f32.format.read x).sum (FloatKind.f32.format.read x).opposite).map FloatKind.f32.format.write := by
      unfold floatBits
      rfl
    rw [hf, h1]
    simp [Ieee.Datum.opposite, Ieee.Datum.sum]
theorem fin_sub (x : Nat) (w : World) : (FloatKind.f32.format.order (frr .sub .f32 x x w) 0 == some .eq) = finB x := by
  cases h : finB x with
  | true =>
    obtain ⟨r, h1, h2⟩ := sub_self_num h
    simp [frr, h1, h2]
  | false =>
    have h1 := sub_self_nan h
    rw [order_fa, fa_frr, ← floatBits_fa, h1]
    rfl
theorem l01Finite_any (x : Nat) (w : World) : Calls Try.prog 149 #[.float .f32 x] w fun e w' => e = .returned (.bool (finB x)) ∧ Ext w w' := by
  have hf := fin_sub x w
  go_enter Try.func149, Try.ntmps149
  go_wp2
  go_ret
  exact ⟨by first | rfl | (rw [← hf]; rfl), (Ext.refl w).drewN _⟩

/-! ### By the program: a double widened -/
theorem order_max_le {r : Nat} (h : r < FloatKind.f64.format.infRung) : (FloatKind.f64.format.order r 9218868437227405311 == some .gt) = false := by
  have hr : r % FloatKind.f64.format.signWeight = r := Nat.mod_eq_of_lt (by rw [f64_inf] at h; rw [f64_sw]; omega)
  obtain ⟨m, e, h1, h2, h3⟩ := read_mag (f := FloatKind.f64.format) (b := r) (by rw [hr]; exact h)
  have hs : (r / FloatKind.f64.format.signWeight % 2 == 1) = false := by
    rw [Nat.div_eq_of_lt (by rw [f64_inf] at h; rw [f64_sw]; omega)]; rfl
  obtain ⟨n, e', i1, i2, i3⟩ := read_mag (f := FloatKind.f64.format) (b := 9218868437227405311) (by rw [f64_inf, f64_sw]; omega)
  have hs' : (9218868437227405311 / FloatKind.f64.format.signWeight % 2 == 1) = false := by rw [f64_sw]; rfl
  have hm : (9218868437227405311 : Nat) % FloatKind.f64.format.signWeight = 9218868437227405311 := by rw [f64_sw]
  rw [hs] at h1
  rw [hs'] at i1
  rw [hr] at h3
  rw [hm] at i3
  have hle : magR FloatKind.f64.format r ≤ magR FloatKind.f64.format 9218868437227405311 := magR_le (by rw [f64_inf] at h; omega)
  rw [← h3, ← i3] at hle
  have e1 : (e - FloatKind.f64.format.leastPlace).toNat = (e - min e e').toNat + (min e e' - FloatKind.f64.format.leastPlace).toNat := by omega
  have e2 : (e' - FloatKind.f64.format.leastPlace).toNat = (e' - min e e').toNat + (min e e' - FloatKind.f64.format.leastPlace).toNat := by omega
  rw [e1, e2, Nat.pow_add, Nat.pow_add, ← Nat.mul_assoc, ← Nat.mul_assoc] at hle
  have hle2 := Nat.le_of_mul_le_mul_right hle (Nat.two_pow_pos _)
  unfold Ieee.Format.order
  rw [h1, i1]
  simp only [Ieee.Datum.order]
  have hc : ¬ (compare (Ieee.signed false m (e - min e e').toNat) (Ieee.signed false n (e' - min e e').toNat) = .gt) := by
    rw [Int.compare_eq_gt]
    unfold Ieee.signed
    simp only [Nat.shiftLeft_eq, Bool.false_eq_true, if_false]
    omega
  simpa using hc
theorem order_max_inf : (FloatKind.f64.format.order FloatKind.f64.format.infRung 9218868437227405311 == some .gt) = true := by decide
theorem wdr_word {x : Nat} (nx : isN .f32 x = false) (w : World) : ∃ s r, wdr x w = FloatKind.f64.format.word s r ∧ r ≤ FloatKind.f64.format.infRung ∧ (decide (r < FloatKind.f64.format.infRung) = finB x) := by
  have rx : x % FloatKind.f32.format.signWeight ≤ FloatKind.f32.format.infRung := by
    rw [Bool.eq_false_iff] at nx
    have := mt (isN_iff .f32 x).2 nx
    omega
  rcases read_cases (f := FloatKind.f32.format) (by decide) rx with ⟨a1, m, e, a2, a3, a4⟩ | ⟨a1, a2⟩
  · have hfin := widen_finite (show Ieee.single.read x = _ from a2)
    have hf : floatToFloatBits .f32 x .f64 = some (Ieee.double.write (.number (x / FloatKind.f32.format.signWeight % 2 == 1) m e)) := by
      unfold floatToFloatBits
      rw [if_neg (by decide)]
      have a2' : FloatKind.f32.decode x = .number (x / FloatKind.f32.format.signWeight % 2 == 1) m e := a2
      rw [a2']
      show (if (Ieee.double.read (Ieee.double.write (.number (x / FloatKind.f32.format.signWeight % 2 == 1) m e))).isInfinity = true then none else some _) = _
      rw [hfin]; rfl
    have hw : Ieee.double.write (.number (x / FloatKind.f32.format.signWeight % 2 == 1) m e) = FloatKind.f64.format.word (x / FloatKind.f32.format.signWeight % 2 == 1) (nrung FloatKind.f64.format (x / FloatKind.f32.format.signWeight % 2 == 1) m e) := nearest_word _ _ _ _
    have hle := nrung_inf FloatKind.f64.format (x / FloatKind.f32.format.signWeight % 2 == 1) m e
    have hlt : nrung FloatKind.f64.format (x / FloatKind.f32.format.signWeight % 2 == 1) m e < FloatKind.f64.format.infRung := by
      rcases Nat.lt_or_eq_of_le hle with h | h
      · exact h
      · exfalso
        rw [hw, h] at hfin
        have hr : (FloatKind.f64.format.word (x / FloatKind.f32.format.signWeight % 2 == 1) FloatKind.f64.format.infRung) % FloatKind.f64.format.signWeight = FloatKind.f64.format.infRung := (word_rung (by decide)).1
        have := read_inf hr (by decide)
        have h2 : (FloatKind.f64.format.read (FloatKind.f64.format.word (x / FloatKind.f32.format.signWeight % 2 == 1) FloatKind.f64.format.infRung)).isInfinity = false := hfin
        rw [this] at h2
        simp [Ieee.Datum.isInfinity] at h2
    refine ⟨_, _, by unfold wdr; rw [hf]; exact hw, hle, ?_⟩
    have : finB x = true := by
      rw [f32_sw, f32_inf] at a1
      simpa [finB] using a1
    rw [this]
    simpa using hlt
  · have hf : floatToFloatBits .f32 x .f64 = some (Ieee.double.write (.infinity (x / FloatKind.f32.format.signWeight % 2 == 1))) := by
      unfold floatToFloatBits
      rw [if_neg (by decide)]
      have a2' : FloatKind.f32.decode x = .infinity (x / FloatKind.f32.format.signWeight % 2 == 1) := a2
      rw [a2']
      rfl
    refine ⟨_, FloatKind.f64.format.infRung, by unfold wdr; rw [hf]; rfl, Nat.le_refl _, ?_⟩
    have : finB x = false := by
      rw [f32_sw, f32_inf] at a1
      simp [finB, a1]
    rw [this]
    simp
theorem run_from64 (b : Nat) (w : World) : (callFunc 181 #[.int .u64 b]).run Try.prog w = .ok (.value (.float .f64 b)) w := by
  rw [run_callFunc_extern (fn := Try.f181) (e := Go.Extern.MathFloatBits.float64frombits) Try.func181 (by kernel_rfl) (by kernel_rfl) (by kernel_rfl) (by kernel_rfl)]
  rfl
theorem bits_clear (b : Nat) (hb : b < 18446744073709551616) : bits .andNot .u64 (b : Int) 9223372036854775808 = ((b % 9223372036854775808 : Nat) : Int) := by
  have h1 : BitVec.ofInt 64 (b : Int) = BitVec.ofNat 64 b := by simp
  have h2 : ~~~(BitVec.ofInt 64 9223372036854775808) = BitVec.ofNat 64 9223372036854775807 := by decide
  have h3 : (BitVec.ofInt 64 (b : Int) &&& ~~~(BitVec.ofInt 64 9223372036854775808)).toNat = b % 9223372036854775808 := by
    rw [h1, h2, BitVec.toNat_and, BitVec.toNat_ofNat, BitVec.toNat_ofNat, Nat.mod_eq_of_lt hb]
    exact Nat.and_two_pow_sub_one_eq_mod b 63
  show IntKind.u64.wrap (((BitVec.ofInt 64 (b : Int) &&& ~~~(BitVec.ofInt 64 9223372036854775808)).toNat : Nat) : Int) = _
  rw [h3, IntKind.wrap_u64]
  omega
set_option maxRecDepth 100000 in
theorem abs_any (b : Nat) (hb : b < 18446744073709551616) (w : World) : Calls Try.prog 173 #[.float .f64 b] w fun e w' => e = .returned (.float .f64 (b % 9223372036854775808)) ∧ w = w' := by
  have hd := run_bits64 b w
  have hbit := bits_clear b hb
  obtain ⟨c, hc⟩ : ∃ c, b % 9223372036854775808 = c := ⟨_, rfl⟩
  have HC := Lib.hid hc
  rw [hc] at hbit
  have hd2 := run_from64 c w
  clear hc
  go_enter Try.func173, Try.ntmps173
  go_wp2
  go_ret
  exact ⟨by rw [HC.out]; rfl, rfl⟩
theorem isNaN64_any (b : Nat) (w : World) : Calls Try.prog 176 #[.float .f64 b] w fun e w' => e = .returned (.bool (isN .f64 b)) ∧ w = w' := by
  cases h : isN .f64 b with
  | true =>
    have ho : FloatKind.f64.format.order b b = none := order_nan1 h
    go_enter Try.func176, Try.ntmps176
    go_wp2
    go_ret
    exact ⟨rfl, rfl⟩
  | false =>
    have ho : FloatKind.f64.format.order b b = some .eq := order_self h
    go_enter Try.func176, Try.ntmps176
    go_wp2
    go_ret
    exact ⟨rfl, rfl⟩
set_option maxRecDepth 100000 in
theorem isInf64_any (b : Nat) (hb : b < 18446744073709551616) (w : World) : Calls Try.prog 177 #[.float .f64 b, .int .i64 0] w fun e w' => e = .returned (.bool (FloatKind.f64.format.order (b % 9223372036854775808) 9218868437227405311 == some .gt)) ∧ w = w' := by
  go_enter Try.func177, Try.ntmps177
  go_wp2_with fail
  refine (abs_any b hb w).mono ?_
  rintro e w' ⟨rfl, rfl⟩
  go_wp2
  go_ret
  exact ⟨rfl, rfl⟩
theorem isFinite_any (x : Nat) (w : World) : Calls Try.prog 139 #[.float .f32 x] w fun e w' => e = .returned (.bool (finB x)) ∧ Ext w w' := by
  cases hN : isN .f32 x with
  | true =>
    have hf : Hid (finB x = false) := by
      have := (isN_iff .f32 x).1 hN
      rw [f32_sw, f32_inf] at this
      show _ = _
      simp [finB]; omega
    have hw : isN .f64 (wdr x w) = true := by
      have h1 := fa_wdr x w
      rw [fa_nan hN] at h1
      cases h2 : isN .f64 (wdr x w) with
      | true => rfl
      | false => rw [fa_num h2] at h1; cases h1
    have HX := Lib.hid ((Ext.refl w).drewN (wdn x))
    clear hN
    go_enter Try.func139, Try.ntmps139
    go_wp2_with fail
    generalize wdr x w = b at *
    generalize w.drewN (wdn x) = w1 at *
    go_enter Try.func167, Try.ntmps167
    go_wp2_with fail
    refine (isNaN64_any b _).mono ?_
    rw [hw]
    rintro e w' ⟨rfl, rfl⟩
    clear hw
    go_wp2
    go_ret
    exact ⟨by rw [hf.out]; rfl, HX.out⟩
  | false =>
    obtain ⟨s, r, h1, h2, h3⟩ := wdr_word hN w
    have hw : isN .f64 (wdr x w) = false := by
      rw [h1]
      exact isN_word .f64 s h2
    have hlt : wdr x w < 18446744073709551616 ∧ wdr x w % 9223372036854775808 = r := by
      rw [h1]
      rw [f64_inf] at h2
      unfold Ieee.Format.word
      rw [f64_sw]
      cases s
      · simp only [Bool.false_eq_true, if_false]; omega
      · simp only [if_true]; omega
    have ho : (FloatKind.f64.format.order r 9218868437227405311 == some .gt) = !finB x := by
      rw [← h3]
      rcases Nat.lt_or_eq_of_le h2 with h | h
      · rw [order_max_le h]; simp [h]
      · rw [h, order_max_inf]; simp
    have HX := Lib.hid ((Ext.refl w).drewN (wdn x))
    clear hN h1 h2 h3
    cases hq : finB x
    all_goals have HQ := Lib.hid hq
    all_goals rw [hq] at ho
    all_goals clear hq
    all_goals
      go_enter Try.func139, Try.ntmps139
      go_wp2_with fail
      generalize wdr x w = b at *
      generalize w.drewN (wdn x) = w1 at *
      go_enter Try.func167, Try.ntmps167
      go_wp2_with fail
      refine (isNaN64_any b _).mono ?_
      rw [hw]
      rintro e w' ⟨rfl, rfl⟩
      clear hw
      go_wp2_with fail
      refine (isInf64_any b hlt.1 _).mono ?_
      rw [hlt.2, ho]
      rintro e w' ⟨rfl, rfl⟩
      clear ho hlt
      go_wp2
      go_ret
      exact ⟨rfl, HX.out⟩
def leB (x : Nat) : Bool := finB x && (FloatKind.f32.format.order x 0 == some .gt || FloatKind.f32.format.order x 0 == some .eq)

theorem l03Least_any (x : Nat) (w : World) : Calls Try.prog 150 #[.float .f32 x] w fun e w' => e = .returned (.bool (leB x)) ∧ Ext w w' := by
  cases h : finB x with
  | false =>
    have HL : Hid (leB x = false) := by show _ = _; simp [leB, h]
    go_enter Try.func150, Try.ntmps150
    go_wp2_with fail
    refine (l01Finite_any x _).mono ?_
    rw [h]
    rintro e w' ⟨rfl, hX⟩
    go_wp2
    go_ret
    exact ⟨by rw [HL.out]; rfl, hX⟩
  | true =>
    have HL : Hid (leB x = (FloatKind.f32.format.order x 0 == some .gt || FloatKind.f32.format.order x 0 == some .eq)) := by show _ = _; simp [leB, h]
    go_enter Try.func150, Try.ntmps150
    go_wp2_with fail
    refine (l01Finite_any x _).mono ?_
    rw [h]
    rintro e w' ⟨rfl, hX⟩
    go_wp2
    go_ret
    exact ⟨by rw [HL.out]; rfl, hX⟩

theorem aMass_any (x : Nat) (w : World) : Calls Try.prog 107 #[.float .f32 x] w fun e w' => e = .returned (.bool (leB x)) ∧ Ext w w' := by
  cases h : finB x with
  | false =>
    have HL : Hid (leB x = false) := by show _ = _; simp [leB, h]
    go_enter Try.func107, Try.ntmps107
    go_wp2_with fail
    refine (isFinite_any x _).mono ?_
    rw [h]
    rintro e w' ⟨rfl, hX⟩
    go_wp2
    go_ret
    exact ⟨by rw [HL.out]; rfl, hX⟩
  | true =>
    have HL : Hid (leB x = (FloatKind.f32.format.order x 0 == some .gt || FloatKind.f32.format.order x 0 == some .eq)) := by show _ = _; simp [leB, h]
    go_enter Try.func107, Try.ntmps107
    go_wp2_with fail
    refine (isFinite_any x _).mono ?_
    rw [h]
    rintro e w' ⟨rfl, hX⟩
    go_wp2
    go_ret
    exact ⟨by rw [HL.out]; rfl, hX⟩
end Go.Proofs.Ytajfpjggdbifjaa
