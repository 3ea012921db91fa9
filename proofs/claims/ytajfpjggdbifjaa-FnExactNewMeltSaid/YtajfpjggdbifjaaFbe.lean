/-
  When two singles are the same: by their bits (the reference), by their order and signs (the program).
-/
import Derived.Laws.Externs
import Derived.Test.YtajfpjggdbifjaaFbd
namespace Go.Proofs.Ytajfpjggdbifjaa
open Go.RowKit
set_option linter.unusedVariables false
set_option linter.unusedSimpArgs false
set_option linter.unnecessarySimpa false

theorem f32_sw : FloatKind.f32.format.signWeight = 2147483648 := by decide
theorem f32_inf : FloatKind.f32.format.infRung = 2139095040 := by decide
theorem f32_bin : FloatKind.f32.format.binade = 8388608 := by decide
theorem f64_sw : FloatKind.f64.format.signWeight = 9223372036854775808 := by decide
theorem f64_inf : FloatKind.f64.format.infRung = 9218868437227405312 := by decide
theorem f64_bin : FloatKind.f64.format.binade = 4503599627370496 := by decide

/-- Each word that is no NaN, read. -/
theorem read_cases {f : Ieee.Format} (h2 : f.binade ≤ f.infRung) {b : Nat} (h : b % f.signWeight ≤ f.infRung) : (b % f.signWeight < f.infRung ∧ ∃ m e, f.read b = .number (b / f.signWeight % 2 == 1) m e ∧ f.leastPlace ≤ e ∧ m * 2 ^ (e - f.leastPlace).toNat = magR f (b % f.signWeight)) ∨ (b % f.signWeight = f.infRung ∧ f.read b = .infinity (b / f.signWeight % 2 == 1)) := by
  rcases Nat.lt_or_eq_of_le h with h | h
  · exact .inl ⟨h, read_mag h⟩
  · exact .inr ⟨h, read_inf h h2⟩
theorem signed_eq {s : Bool} {m n a b : Nat} (h : Ieee.signed s m a = Ieee.signed s n b) : m * 2 ^ a = n * 2 ^ b := by
  unfold Ieee.signed at h
  simp only [Nat.shiftLeft_eq] at h
  cases s
  · simp only [Bool.false_eq_true, if_false] at h; exact_mod_cast h
  · simp only [if_true] at h
    have : ((m * 2 ^ a : Nat) : Int) = ((n * 2 ^ b : Nat) : Int) := by omega
    exact_mod_cast this
/-- Equal in order, with the same sign: the same word. -/
theorem order_inj {x y : Nat} (hx : x < 4294967296) (hy : y < 4294967296) (nx : isN .f32 x = false) (ny : isN .f32 y = false) (hs : (2147483648 ≤ x) ↔ (2147483648 ≤ y)) (ho : FloatKind.f32.format.order x y = some .eq) : x = y := by
  have rx : x % FloatKind.f32.format.signWeight ≤ FloatKind.f32.format.infRung := by
    rw [Bool.eq_false_iff] at nx
    have := mt (isN_iff .f32 x).2 nx
    omega
  have ry : y % FloatKind.f32.format.signWeight ≤ FloatKind.f32.format.infRung := by
    rw [Bool.eq_false_iff] at ny
    have := mt (isN_iff .f32 y).2 ny
    omega
  have hr : x % FloatKind.f32.format.signWeight = y % FloatKind.f32.format.signWeight := by
    unfold Ieee.Format.order at ho
    have hss : (x / FloatKind.f32.format.signWeight % 2 == 1) = (y / FloatKind.f32.format.signWeight % 2 == 1) := by
      rw [f32_sw, Bool.eq_iff_iff]
      simp only [beq_iff_eq]
      omega
    rcases read_cases (f := FloatKind.f32.format) (by decide) rx with ⟨a1, m, e, a2, a3, a4⟩ | ⟨a1, a2⟩
    · rcases read_cases (f := FloatKind.f32.format) (by decide) ry with ⟨b1, n, e', b2, b3, b4⟩ | ⟨b1, b2⟩
      · rw [a2, b2, hss] at ho
        simp only [Ieee.Datum.order, Option.some.injEq] at ho
        have hc : Ieee.signed (y / FloatKind.f32.format.signWeight % 2 == 1) m (e - min e e').toNat = Ieee.signed (y / FloatKind.f32.format.signWeight % 2 == 1) n (e' - min e e').toNat := by
          rw [Int.compare_eq_eq] at ho; exact ho
        have h1 := signed_eq hc
        refine magR_inj (f := FloatKind.f32.format) ?_
        rw [← a4, ← b4]
        have e1 : (e - FloatKind.f32.format.leastPlace).toNat = (e - min e e').toNat + (min e e' - FloatKind.f32.format.leastPlace).toNat := by omega
        have e2 : (e' - FloatKind.f32.format.leastPlace).toNat = (e' - min e e').toNat + (min e e' - FloatKind.f32.format.leastPlace).toNat := by omega
        rw [e1, e2, Nat.pow_add, Nat.pow_add, ← Nat.mul_assoc, ← Nat.mul_assoc, h1]
      · rw [a2, b2] at ho
        simp only [Ieee.Datum.order, Option.some.injEq] at ho
        split at ho <;> cases ho
    · rcases read_cases (f := FloatKind.f32.format) (by decide) ry with ⟨b1, n, e', b2, b3, b4⟩ | ⟨b1, b2⟩
      · rw [a2, b2] at ho
        simp only [Ieee.Datum.order, Option.some.injEq] at ho
        split at ho <;> cases ho
      · omega
  rw [f32_sw] at hr
  omega

/-- The sign of a widened word. -/
theorem wdr_sign {x : Nat} (hx : x < 4294967296) (nx : isN .f32 x = false) (w : World) : wdr x w < 18446744073709551616 ∧ (9223372036854775808 ≤ wdr x w ↔ 2147483648 ≤ x) := by
  have rx : x % FloatKind.f32.format.signWeight ≤ FloatKind.f32.format.infRung := by
    rw [Bool.eq_false_iff] at nx
    have := mt (isN_iff .f32 x).2 nx
    omega
  have hword : ∀ (s : Bool) (r : Nat), r ≤ FloatKind.f64.format.infRung → (s = (x / FloatKind.f32.format.signWeight % 2 == 1)) → wdr x w = FloatKind.f64.format.word s r → wdr x w < 18446744073709551616 ∧ (9223372036854775808 ≤ wdr x w ↔ 2147483648 ≤ x) := by
    intro s r hr hs hw
    rw [f64_inf] at hr
    rw [f32_sw] at hs
    rw [hw]
    unfold Ieee.Format.word
    rw [f64_sw]
    cases s
    · have : ¬ x / 2147483648 % 2 = 1 := by simpa using hs.symm
      simp only [Bool.false_eq_true, if_false]
      omega
    · have : x / 2147483648 % 2 = 1 := by simpa using hs.symm
      simp only [if_true]
      omega
  rcases read_cases (f := FloatKind.f32.format) (by decide) rx with ⟨a1, m, e, a2, a3, a4⟩ | ⟨a1, a2⟩
  · have hf : floatToFloatBits .f32 x .f64 = some (Ieee.double.write (.number (x / FloatKind.f32.format.signWeight % 2 == 1) m e)) := by
      unfold floatToFloatBits
      rw [if_neg (by decide)]
      have a2' : FloatKind.f32.decode x = .number (x / FloatKind.f32.format.signWeight % 2 == 1) m e := a2
      rw [a2']
      have := widen_finite (show Ieee.single.read x = _ from a2)
      show (if (Ieee.double.read (Ieee.double.write (.number (x / FloatKind.f32.format.signWeight % 2 == 1) m e))).isInfinity = true then none else some _) = _
      rw [this]; rfl
    refine hword _ (nrung FloatKind.f64.format (x / FloatKind.f32.format.signWeight % 2 == 1) m e) (nrung_inf _ _ _ _) rfl ?_
    unfold wdr
    rw [hf]
    exact nearest_word _ _ _ _
  · have hf : floatToFloatBits .f32 x .f64 = some (Ieee.double.write (.infinity (x / FloatKind.f32.format.signWeight % 2 == 1))) := by
      unfold floatToFloatBits
      rw [if_neg (by decide)]
      have a2' : FloatKind.f32.decode x = .infinity (x / FloatKind.f32.format.signWeight % 2 == 1) := a2
      rw [a2']
      rfl
    refine hword _ FloatKind.f64.format.infRung (Nat.le_refl _) rfl ?_
    unfold wdr
    rw [hf]
    rfl

theorem run_bits64 (b : Nat) (w : World) : (callFunc 175 #[.float .f64 b]).run Try.prog w = .ok (.value (.int .u64 b)) w := by
  rw [run_callFunc_extern (fn := Try.f175) (e := Go.Extern.MathFloatBits.float64bits) Try.func175 (by kernel_rfl) (by kernel_rfl) (by kernel_rfl) (by kernel_rfl)]
  rfl

theorem run_bits32 (b : Nat) (w : World) : (callFunc 179 #[.float .f32 b]).run Try.prog w = .ok (.value (.int .u32 b)) w := by
  rw [run_callFunc_extern (fn := Try.f179) (e := Go.Extern.MathFloatBits.float32bits) Try.func179 (by kernel_rfl) (by kernel_rfl) (by kernel_rfl) (by kernel_rfl)]
  rfl

set_option maxRecDepth 100000 in
theorem signbit_any (b : Nat) (hb : b < 18446744073709551616) (w : World) : Calls Try.prog 165 #[.float .f64 b] w fun e w' => e = .returned (.bool (decide (9223372036854775808 ≤ b))) ∧ w = w' := by
  have hd := run_bits64 b w
  by_cases h : 9223372036854775808 ≤ b
  · have hw : IntKind.i64.wrap (b : Int) = (b : Int) - 18446744073709551616 := by rw [IntKind.wrap_i64]; omega
    have hl : decide ((b : Int) - 18446744073709551616 < 0) = true := by simp; omega
    go_enter Try.func165, Try.ntmps165
    go_wp2
    go_ret
    exact ⟨by simp [h], rfl⟩
  · have hw : IntKind.i64.wrap (b : Int) = (b : Int) := by rw [IntKind.wrap_i64]; omega
    have hl : decide ((b : Int) < 0) = false := by simp
    go_enter Try.func165, Try.ntmps165
    go_wp2
    go_ret
    exact ⟨by simp [h], rfl⟩

def bitsC (x : Nat) : Nat := if isN .f32 x = true then 2143289344 else x
theorem bitsC_iff {x y : Nat} : bitsC x = bitsC y ↔ fa .f32 x = fa .f32 y := by
  have h0 : isN .f32 2143289344 = true := by decide
  unfold bitsC fa
  cases hx : isN .f32 x <;> cases hy : isN .f32 y <;> simp
  · rintro rfl; rw [h0] at hx; cases hx
  · rintro rfl; rw [h0] at hy; cases hy
theorem bitsC_lt {x : Nat} (hx : x < 4294967296) : bitsC x < 4294967296 := by unfold bitsC; split <;> omega

set_option maxRecDepth 100000 in
theorem l01Bits_any (x : Nat) (hx : x < 4294967296) (w : World) : Calls Try.prog 171 #[.float .f32 x] w fun e w' => e = .returned (.int .i64 (bitsC x)) ∧ w = w' := by
  have hd := run_bits32 x w
  cases hn : isN .f32 x with
  | true =>
    have e1 : FloatKind.f32.format.order x x = none := order_nan1 hn
    have HB : Hid (bitsC x = 2143289344) := by show _ = _; simp [bitsC, hn]
    clear hn
    go_enter Try.func171, Try.ntmps171
    go_wp2
    go_ret
    exact ⟨by rw [HB.out]; rfl, rfl⟩
  | false =>
    have e1 : FloatKind.f32.format.order x x = some .eq := order_self hn
    have HB : Hid (bitsC x = x) := by show _ = _; simp [bitsC, hn]
    have hw : IntKind.i64.wrap (x : Int) = (x : Int) := by rw [IntKind.wrap_i64]; omega
    clear hn
    go_enter Try.func171, Try.ntmps171
    go_wp2
    go_ret
    exact ⟨by rw [HB.out]; rfl, rfl⟩

def sameB (x y : Nat) : Bool := decide (fa .f32 x = fa .f32 y)
theorem l01Same_any (x y : Nat) (hx : x < 4294967296) (hy : y < 4294967296) (w : World) : Calls Try.prog 145 #[.float .f32 x, .float .f32 y] w fun e w' => e = .returned (.bool (sameB x y)) ∧ w = w' := by
  have HS : Hid (sameB x y = ((bitsC x : Int) == (bitsC y : Int))) := by
    show _ = _
    unfold sameB
    rw [Bool.eq_iff_iff]
    simp only [decide_eq_true_eq, beq_iff_eq, ← bitsC_iff]
    omega
  go_enter Try.func145, Try.ntmps145
  go_wp2_with fail
  refine (l01Bits_any x hx _).mono ?_
  rintro e w1 ⟨rfl, rfl⟩
  go_wp2_with fail
  refine (l01Bits_any y hy _).mono ?_
  rintro e w1 ⟨rfl, rfl⟩
  generalize bitsC x = bx at *
  generalize bitsC y = bz at *
  go_wp2
  go_ret
  exact ⟨by rw [HS.out]; rfl, rfl⟩

theorem sameNumber_any (x y : Nat) (hx : x < 4294967296) (hy : y < 4294967296) (w : World) : Calls Try.prog 136 #[.float .f32 x, .float .f32 y] w fun e w' => e = .returned (.bool (sameB x y)) ∧ Ext w w' := by
  cases nx : isN .f32 x with
  | true =>
    have e1 : FloatKind.f32.format.order x x = none := order_nan1 nx
    cases ny : isN .f32 y with
    | true =>
      have e2 : FloatKind.f32.format.order y y = none := order_nan1 ny
      have HS : Hid (sameB x y = true) := by show _ = _; simp [sameB, fa_nan nx, fa_nan ny]
      clear nx ny
      go_enter Try.func136, Try.ntmps136
      go_wp2
      go_ret
      exact ⟨by rw [HS.out]; rfl, Ext.refl _⟩
    | false =>
      have e2 : FloatKind.f32.format.order y y = some .eq := order_self ny
      have HS : Hid (sameB x y = false) := by show _ = _; simp [sameB, fa_nan nx, fa_num ny]
      clear nx ny
      go_enter Try.func136, Try.ntmps136
      go_wp2
      go_ret
      exact ⟨by rw [HS.out]; rfl, Ext.refl _⟩
  | false =>
    have e1 : FloatKind.f32.format.order x x = some .eq := order_self nx
    cases ny : isN .f32 y with
    | true =>
      have e2 : FloatKind.f32.format.order y y = none := order_nan1 ny
      have HS : Hid (sameB x y = false) := by show _ = _; simp [sameB, fa_num nx, fa_nan ny]
      clear nx ny
      go_enter Try.func136, Try.ntmps136
      go_wp2
      go_ret
      exact ⟨by rw [HS.out]; rfl, Ext.refl _⟩
    | false =>
      have e2 : FloatKind.f32.format.order y y = some .eq := order_self ny
      cases ho : FloatKind.f32.format.order x y == some .eq with
      | false =>
        have HS : Hid (sameB x y = false) := by
          show _ = _
          unfold sameB
          rw [fa_num nx, fa_num ny]
          simp only [Option.some.injEq, decide_eq_false_iff_not]
          rintro rfl
          rw [e1] at ho
          simp at ho
        clear nx ny
        go_enter Try.func136, Try.ntmps136
        go_wp2
        go_ret
        exact ⟨by rw [HS.out]; rfl, Ext.refl _⟩
      | true =>
        have ho' : FloatKind.f32.format.order x y = some .eq := by simpa using ho
        have HS : Hid (∀ w1 w2 : World, sameB x y = (decide (9223372036854775808 ≤ wdr x w1) == decide (9223372036854775808 ≤ wdr y w2))) := by
          intro w1 w2
          unfold sameB
          rw [fa_num nx, fa_num ny, Bool.eq_iff_iff]
          simp only [Option.some.injEq, decide_eq_true_eq, beq_iff_eq]
          constructor
          · rintro rfl
            rw [Bool.eq_iff_iff]
            simp only [decide_eq_true_eq]
            rw [(wdr_sign hx nx w1).2, (wdr_sign hx nx w2).2]
          · intro h
            rw [Bool.eq_iff_iff] at h
            simp only [decide_eq_true_eq] at h
            rw [(wdr_sign hx nx w1).2, (wdr_sign hy ny w2).2] at h
            exact order_inj hx hy nx ny h ho'
        have HX : Hid (∀ w1 : World, wdr x w1 < 18446744073709551616) := fun w1 => (wdr_sign hx nx w1).1
        have HY : Hid (∀ w1 : World, wdr y w1 < 18446744073709551616) := fun w1 => (wdr_sign hy ny w1).1
        clear nx ny
        go_enter Try.func136, Try.ntmps136
        go_wp2_with fail
        refine (signbit_any _ (HX.out _) _).mono ?_
        rintro e w1 ⟨rfl, rfl⟩
        go_wp2_with fail
        refine (signbit_any _ (HY.out _) _).mono ?_
        rintro e w1 ⟨rfl, rfl⟩
        go_wp2
        go_ret
        exact ⟨by rw [HS.out _ _]; rfl, (Ext.refl _).drewN _⟩
end Go.Proofs.Ytajfpjggdbifjaa
