/-
  Absolute numbers; numbers of a field at an offset.
-/
import Derived.Test.YtajfpjggdbifjaaMeT
namespace Go.Proofs.Ytajfpjggdbifjaa
open Go.RowKit
set_option linter.unusedVariables false
set_option linter.unusedSimpArgs false
set_option linter.unnecessarySimpa false

theorem l02IndexO_any (p o1 : Nat) (W H x y : Int) (R : Bool) (a : Option Addr) (n c : Nat) (hW : 1 ≤ W ∧ W ≤ 16) (hH : 1 ≤ H ∧ H ≤ 16) (w : World) (hp : FldAtO w p o1 W H R a n c) :
    Calls Try.prog 172 #[.pointer (some ⟨p, o1, none⟩), .int .i64 x, .int .i64 y] w fun e w' => e = .returned (.int .i64 (cellR W H R x y)) ∧ Ext w w' := by
  obtain ⟨w1, w2⟩ := hW
  obtain ⟨h1, h2⟩ := hH
  have hb := cellR_bd R x y w1 h1
  have hm := mulF_bd w1 w2 h1 h2
  obtain ⟨a1, a2⟩ := placeR_bd R x w1
  obtain ⟨b1, b2⟩ := placeR_bd R y h1
  unfold cellR at hb ⊢
  have m1 := Int.mul_nonneg (a := W) (b := placeR R y H) (by omega) b1
  obtain ⟨hb1, hb2⟩ := hb
  obtain ⟨hm1, hm2⟩ := hm
  obtain ⟨p0, p1, p2, p3⟩ := hp
  go_enter Try.func172, Try.ntmps172
  go_wp2
  go_quiet ((go_at_call 180; exact Calls.quiet_of_same ((l02Place_R R _ _ (by omega) (by omega) _).mono fun _ _ h => ⟨h.1, h.2.symm⟩)))
  go_wp2
  go_ret
  exact ⟨rfl, (Ext.refl _).drewN _⟩

theorem l02AtO_any (p o1 : Nat) (W H x y : Int) (R : Bool) (b o n c : Nat) (xs : List Nat) (hz : xs.length = n) (hv : vldF W H n = true) (w : World) (hp : FldAtO w p o1 W H R (some ⟨b, o, none⟩) n c) (hA : VArr w (some ⟨b, o, none⟩) (flts xs)) :
    Calls Try.prog 157 #[.pointer (some ⟨p, o1, none⟩), .int .i64 x, .int .i64 y] w fun e w' => e = .returned (.float .f32 (aboutB W H R xs x y)) ∧ Ext w w' := by
  obtain ⟨hs, hl⟩ := vldF_iff.1 hv
  obtain ⟨⟨h1, h2⟩, h3, h4⟩ := szF_iff.1 hs
  have hb := cellR_bd R x y h1 h3
  obtain ⟨hm1, hm2⟩ := mulF_bd h1 h2 h3 h4
  obtain ⟨i, hi⟩ : ∃ i : Nat, cellR W H R x y = i := ⟨(cellR W H R x y).toNat, by omega⟩
  have hlt : i < n := by omega
  have hc := hA.ofFlts i (by omega)
  rw [List.getD_eq_getElem?_getD] at hc
  have HZ : Hid (aboutB W H R xs x y = xs[i]?.getD 0) := by show _ = _; unfold aboutB; rw [hi]; rfl
  rw [HZ.out]
  have hWW : 1 ≤ W ∧ W ≤ 16 := ⟨h1, h2⟩
  have hHH : 1 ≤ H ∧ H ≤ 16 := ⟨h3, h4⟩
  have HI := Lib.hid hi
  have HP := Lib.hid hp
  clear hi hb hA hv hs hl HZ hp
  generalize xs[i]?.getD 0 = z at *
  go_enter Try.func157, Try.ntmps157
  go_wp2
  refine region_grow (C := Ext w) (K := fun f _ v _ => v = .int .i64 i) ⟨fun _ _ h k => h.trans k, fun _ _ _ _ _ h _ => h⟩ (by kernel_rfl) (by kernel_rfl) ((Ext.refl w).drew) ?_
  repeat (refine grow_q rfl ?_; apply Exists.intro; refine ⟨fun w1 hw _ => ?_, ?_⟩; focus (obtain ⟨c0, c1, c2, c3⟩ := HP.out.ext hw; go_simp; rfl))
  refine grow_c1 172 rfl ?_
  apply Exists.intro
  refine ⟨fun w1 => ?_, ?_⟩
  · go_simp; rfl
  apply Exists.intro
  refine ⟨fun w1 hw _ => ?_, fun v w1 h => h, fun w1 => rfl, ?_⟩
  · refine (l02IndexO_any p o1 W H x y R _ n c hWW hHH _ (HP.out.ext hw)).mono fun e w' h => ?_
    rw [HI.out] at h; exact h
  repeat (refine grow_q rfl ?_; apply Exists.intro; refine ⟨fun w1 hw _ => ?_, ?_⟩; focus (have c3 := hw.cell hc; go_simp; rfl))
  refine grow_nil (fun w2 hw _ => ?_)
  go_simp
  go_wp2
  go_ret
  exact ⟨rfl, hw⟩

/-! ### Absolute numbers -/
def absO : Option Nat → Option Nat
  | some x => some (x % 2147483648)
  | none => none
theorem word_false (f : Ieee.Format) (r : Nat) : f.word false r = r := by
  unfold Ieee.Format.word
  simp
theorem f32_lp : FloatKind.f32.format.leastPlace = -149 := by decide
theorem f64_lp : FloatKind.f64.format.leastPlace = -1074 := by decide
theorem wdr_num {x m : Nat} {e : Int} {s : Bool} (h : FloatKind.f32.format.read x = .number s m e) (w : World) : wdr x w = FloatKind.f64.format.word s (nrung FloatKind.f64.format s m e) := by
  have hfin := widen_finite (show Ieee.single.read x = _ from h)
  have hf : floatToFloatBits .f32 x .f64 = some (Ieee.double.write (.number s m e)) := by
    unfold floatToFloatBits
    rw [if_neg (by decide)]
    have a2' : FloatKind.f32.decode x = .number s m e := h
    rw [a2']
    show (if (Ieee.double.read (Ieee.double.write (.number s m e))).isInfinity = true then none else some _) = _
    rw [hfin]; rfl
  unfold wdr
  rw [hf]
  exact nearest_word _ _ _ _
/-- Widened, without its sign, and narrowed again. -/
theorem narrow_abs {x : Nat} (nx : isN .f32 x = false) (w : World) : floatToFloatBits .f64 (wdr x w % 9223372036854775808) .f32 = some (x % 2147483648) := by
  have rx : x % FloatKind.f32.format.signWeight ≤ FloatKind.f32.format.infRung := by
    rw [Bool.eq_false_iff] at nx
    have := mt (isN_iff .f32 x).2 nx
    omega
  rcases read_cases (f := FloatKind.f32.format) (by decide) rx with ⟨a1, m, e, a2, a3, a4⟩ | ⟨a1, a2⟩
  · obtain ⟨m24, el, eh⟩ := read32 (show Ieee.single.read x = _ from a2)
    have hw := wdr_num a2 w
    generalize (x / FloatKind.f32.format.signWeight % 2 == 1) = s at *
    obtain ⟨T, hT⟩ : ∃ T : Nat, e - FloatKind.f64.format.leastPlace = T := ⟨(e - FloatKind.f64.format.leastPlace).toNat, by rw [f64_lp]; omega⟩
    have hTe : (e - FloatKind.f64.format.leastPlace).toNat = T := by omega
    obtain ⟨R, hR1, hR2⟩ := rung_of (f := FloatKind.f64.format) T m (by rw [f64_bin]; omega)
    have hRi : R < FloatKind.f64.format.infRung := by
      have h1 : (T + 2) * FloatKind.f64.format.binade < FloatKind.f64.format.infRung := by
        rw [f64_bin, f64_inf]
        rw [f64_lp] at hT
        omega
      omega
    have hle := nrung_le (f := FloatKind.f64.format) (neg := s) (mag := m) (place := e) (b := FloatKind.f64.format.leastPlace) (R := R) (by rw [f64_lp]; omega) (Int.le_refl _) (by rw [hTe, hR1]; simp)
    have hge := le_nrung (f := FloatKind.f64.format) (neg := s) (mag := m) (place := e) (b := FloatKind.f64.format.leastPlace) (R := R) (by rw [f64_lp]; omega) (Int.le_refl _) (by omega) (by rw [hTe, hR1]; simp)
    have hr : nrung FloatKind.f64.format s m e = R := by omega
    rw [hr] at hw
    have hb : wdr x w % 9223372036854775808 = R := by
      rw [hw]
      unfold Ieee.Format.word
      rw [f64_sw]
      rw [f64_inf] at hRi
      cases s
      · simp only [Bool.false_eq_true, if_false]; omega
      · simp only [if_true]; omega
    rw [hb]
    have hRm : R % FloatKind.f64.format.signWeight = R := Nat.mod_eq_of_lt (by rw [f64_sw]; rw [f64_inf] at hRi; omega)
    obtain ⟨m', e', b1, b2, b3⟩ := read_mag (f := FloatKind.f64.format) (b := R) (by rw [hRm]; exact hRi)
    have hsR : (R / FloatKind.f64.format.signWeight % 2 == 1) = false := by
      rw [Nat.div_eq_of_lt (by rw [f64_sw]; rw [f64_inf] at hRi; omega)]; rfl
    rw [hsR] at b1
    rw [hRm, hR1] at b3
    have hxm : x % FloatKind.f32.format.signWeight = x % 2147483648 := by rw [f32_sw]
    rw [hxm] at a1 a4
    generalize x % 2147483648 = X at *
    have q : (FloatKind.f32.format.leastPlace - FloatKind.f64.format.leastPlace).toNat + (e - FloatKind.f32.format.leastPlace).toNat = T := by rw [f32_lp] at *; rw [f64_lp] at *; omega
    have hval : magR FloatKind.f32.format X * 2 ^ (FloatKind.f32.format.leastPlace - FloatKind.f64.format.leastPlace).toNat = m * 2 ^ T := by
      rw [← a4, Nat.mul_assoc, ← Nat.pow_add, Nat.add_comm, q]
    have hle2 := nrung_le (f := FloatKind.f32.format) (neg := false) (mag := m') (place := e') (b := FloatKind.f64.format.leastPlace) (R := X) b2 (by rw [f32_lp, f64_lp]; omega) (by rw [b3, hval]; exact Nat.le_refl _)
    have hge2 := le_nrung (f := FloatKind.f32.format) (neg := false) (mag := m') (place := e') (b := FloatKind.f64.format.leastPlace) (R := X) b2 (by rw [f32_lp, f64_lp]; omega) (by omega) (by rw [b3, hval]; exact Nat.le_refl _)
    have hr2 : nrung FloatKind.f32.format false m' e' = X := by omega
    have hwr : Ieee.single.write (.number false m' e') = X := by
      have h1 : Ieee.single.write (.number false m' e') = FloatKind.f32.format.word false (nrung FloatKind.f32.format false m' e') := nearest_word _ _ _ _
      rw [h1, hr2, word_false]
    have hXm : X % FloatKind.f32.format.signWeight = X := Nat.mod_eq_of_lt (by rw [f32_sw]; rw [f32_inf] at a1; omega)
    obtain ⟨m2, e2, d1, _, _⟩ := read_mag (f := FloatKind.f32.format) (b := X) (by rw [hXm]; exact a1)
    unfold floatToFloatBits
    rw [if_neg (by decide)]
    have b1' : FloatKind.f64.decode R = .number false m' e' := b1
    rw [b1']
    show (if (Ieee.single.read (Ieee.single.write (.number false m' e'))).isInfinity = true then none else some (Ieee.single.write (.number false m' e'))) = _
    rw [hwr]
    have d1' : Ieee.single.read X = .number (X / FloatKind.f32.format.signWeight % 2 == 1) m2 e2 := d1
    rw [d1']
    rfl
  · have hf : floatToFloatBits .f32 x .f64 = some (Ieee.double.write (.infinity (x / FloatKind.f32.format.signWeight % 2 == 1))) := by
      unfold floatToFloatBits
      rw [if_neg (by decide)]
      have a2' : FloatKind.f32.decode x = .infinity (x / FloatKind.f32.format.signWeight % 2 == 1) := a2
      rw [a2']
      rfl
    have hb : wdr x w % 9223372036854775808 = 9218868437227405312 := by
      unfold wdr
      rw [hf]
      generalize (x / FloatKind.f32.format.signWeight % 2 == 1) = s
      cases s
      · show Ieee.double.write (.infinity false) % 9223372036854775808 = 9218868437227405312
        decide
      · show Ieee.double.write (.infinity true) % 9223372036854775808 = 9218868437227405312
        decide
    rw [hb]
    rw [f32_sw, f32_inf] at a1
    rw [a1]
    decide
theorem bits_clear' (b : Nat) : bits .andNot .u64 (b : Int) 9223372036854775808 = ((b % 9223372036854775808 : Nat) : Int) := by
  have h1 : BitVec.ofInt 64 (b : Int) = BitVec.ofNat 64 b := by simp
  have h2 : ~~~(BitVec.ofInt 64 9223372036854775808) = BitVec.ofNat 64 9223372036854775807 := by decide
  have h3 : (BitVec.ofInt 64 (b : Int) &&& ~~~(BitVec.ofInt 64 9223372036854775808)).toNat = b % 9223372036854775808 := by
    rw [h1, h2, BitVec.toNat_and, BitVec.toNat_ofNat, BitVec.toNat_ofNat]
    have := Nat.and_two_pow_sub_one_eq_mod (b % 2 ^ 64) 63
    have h4 : b % 2 ^ 64 % 2 ^ 63 = b % 9223372036854775808 := by omega
    rw [h4] at this
    exact this
  show IntKind.u64.wrap (((BitVec.ofInt 64 (b : Int) &&& ~~~(BitVec.ofInt 64 9223372036854775808)).toNat : Nat) : Int) = _
  rw [h3, IntKind.wrap_u64]
  omega
set_option maxRecDepth 100000 in
theorem abs_all (b : Nat) (w : World) : Calls Try.prog 173 #[.float .f64 b] w fun e w' => e = .returned (.float .f64 (b % 9223372036854775808)) ∧ w = w' := by
  have hd := run_bits64 b w
  have hbit := bits_clear' b
  obtain ⟨c, hc⟩ : ∃ c, b % 9223372036854775808 = c := ⟨_, rfl⟩
  have HC := Lib.hid hc
  rw [hc] at hbit
  have hd2 := run_from64 c w
  clear hc
  go_enter Try.func173, Try.ntmps173
  go_wp2
  go_ret
  exact ⟨by rw [HC.out]; rfl, rfl⟩
theorem absolute_any (x : Nat) (w : World) : Calls Try.prog 158 #[.float .f32 x] w fun e w' => ∃ r, e = .returned (.float .f32 r) ∧ fa .f32 r = absO (fa .f32 x) ∧ Ext w w' := by
  have key : narOk (wdr x w % 9223372036854775808) ∧ fnar (fa .f64 (wdr x w % 9223372036854775808)) = absO (fa .f32 x) := by
    cases hx : isN .f32 x with
    | true =>
      have h2 : isN .f64 (wdr x w) = true := by
        have h1 := fa_wdr x w
        rw [fa_nan hx] at h1
        cases h2 : isN .f64 (wdr x w) with
        | true => rfl
        | false => rw [fa_num h2] at h1; cases h1
      have h3 : isN .f64 (wdr x w % 9223372036854775808) = true := by
        have := (isN_iff .f64 _).1 h2
        refine (isN_iff .f64 _).2 ?_
        rw [f64_sw] at this ⊢
        rw [Nat.mod_mod]
        exact this
      exact ⟨.inl h3, by rw [fa_nan h3, fa_nan hx]; rfl⟩
    | false =>
      have h1 := narrow_abs hx w
      have h2 : isN .f64 (wdr x w % 9223372036854775808) = false := by
        cases h2 : isN .f64 (wdr x w % 9223372036854775808) with
        | false => rfl
        | true => rw [narrow_nan h2] at h1; cases h1
      exact ⟨.inr ⟨_, h1⟩, by rw [fa_num h2, fa_num hx]; exact h1⟩
  obtain ⟨hok, hfa⟩ := key
  have hrun := fun u => run_narrow (P := Try.prog) hok u (s := 36) (d := 28) (by kernel_rfl) (by kernel_rfl)
  have HFA := Lib.hid hfa
  have HOK := Lib.hid hok
  clear hfa hok
  go_enter Try.func158, Try.ntmps158
  go_wp2_with fail
  refine (abs_all _ _).mono ?_
  rintro e w' ⟨rfl, rfl⟩
  go_wp2
  go_ret
  exact ⟨_, rfl, by rw [fa_nar HOK.out, HFA.out], Ext.drewN (Ext.refl _) _⟩
/-- One and a number without its sign: as the reference finds it. -/
theorem add_size {u : Nat} (hu : isN .f32 u = false → u < 4294967296) : fop .add .f32 (some 1065353216) (fa .f32 (if (FloatKind.f32.format.order u 0 == some .lt) = true then Op.negFloat .f32 u else u)) = fop .add .f32 (some 1065353216) (absO (fa .f32 u)) := by
  cases hn : isN .f32 u with
  | true => rw [order_nan1 hn, fa_nan hn]; simp [fa_nan hn, absO]
  | false =>
    have hlt := hu hn
    have hneg : Op.negFloat .f32 u = u ^^^ 2147483648 := rfl
    rw [fa_num hn]
    have ru : u % FloatKind.f32.format.signWeight ≤ FloatKind.f32.format.infRung := by
      rw [Bool.eq_false_iff] at hn
      have := mt (isN_iff .f32 u).2 hn
      omega
    have hmn : isN .f32 (u % 2147483648) = false := by
      rw [Bool.eq_false_iff]
      intro h
      have := (isN_iff .f32 _).1 h
      rw [f32_sw] at this ru
      rw [Nat.mod_mod] at this
      omega
    by_cases hs : u < 2147483648
    · have hm : u % 2147483648 = u := Nat.mod_eq_of_lt hs
      have ho : (FloatKind.f32.format.order u 0 == some .lt) = false := by
        have hs0 : (u / FloatKind.f32.format.signWeight % 2 == 1) = false := by rw [f32_sw, Nat.div_eq_of_lt hs]; rfl
        obtain ⟨n0, e0, j1, j2, j3⟩ := read_mag (f := FloatKind.f32.format) (b := 0) (by decide)
        have hs1 : (0 / FloatKind.f32.format.signWeight % 2 == 1) = false := by decide
        have hz0 : n0 = 0 := by
          have e2 : magR FloatKind.f32.format (0 % FloatKind.f32.format.signWeight) = 0 := by decide
          rw [e2] at j3
          have hp := Nat.two_pow_pos (e0 - FloatKind.f32.format.leastPlace).toNat
          rcases Nat.eq_zero_or_pos n0 with h | h
          · exact h
          · have := Nat.mul_pos h hp; omega
        rw [hs1] at j1
        subst hz0
        unfold Ieee.Format.order
        rw [j1]
        rcases read_cases (f := FloatKind.f32.format) (by decide) ru with ⟨a1, m, e, a2, a3, a4⟩ | ⟨a1, a2⟩
        · rw [a2, hs0]
          simp only [Ieee.Datum.order]
          have hc : ¬ compare (Ieee.signed false m (e - min e e0).toNat) (Ieee.signed false 0 (e0 - min e e0).toNat) = .lt := by
            rw [Int.compare_eq_lt]
            unfold Ieee.signed
            simp only [Nat.shiftLeft_eq, Bool.false_eq_true, if_false, Nat.zero_mul]
            omega
          simpa using hc
        · rw [a2, hs0]
          simp [Ieee.Datum.order]
      rw [ho]
      simp only [Bool.false_eq_true, if_false]
      rw [fa_num hn]
      simp [absO, hm]
    · have hm : u % 2147483648 = u - 2147483648 := by omega
      have hx : u ^^^ 2147483648 = u % 2147483648 := by
        have h1 : (u ^^^ 2147483648) % 2 ^ 31 = u % 2 ^ 31 := by
          rw [Nat.xor_mod_two_pow]
          simp
        have h2 : (u ^^^ 2147483648) / 2 ^ 31 = 0 := by
          rw [Nat.xor_div_two_pow]
          have h3 : u / 2 ^ 31 = 1 := by omega
          rw [h3]
          decide
        have h4 := Nat.div_add_mod (u ^^^ 2147483648) (2 ^ 31)
        rw [h1, h2] at h4
        omega
      cases ho : (FloatKind.f32.format.order u 0 == some .lt) with
      | true =>
        simp only [if_true]
        rw [hneg, hx, fa_num hmn]
        rfl
      | false =>
        simp only [Bool.false_eq_true, if_false]
        rw [fa_num hn]
        have hz : u = 2147483648 := by
          have hs0 : (u / FloatKind.f32.format.signWeight % 2 == 1) = true := by
            rw [f32_sw]
            have : u / 2147483648 = 1 := by omega
            rw [this]; rfl
          obtain ⟨n0, e0, j1, j2, j3⟩ := read_mag (f := FloatKind.f32.format) (b := 0) (by decide)
          have hs1 : (0 / FloatKind.f32.format.signWeight % 2 == 1) = false := by decide
          have hz0 : n0 = 0 := by
            have e2 : magR FloatKind.f32.format (0 % FloatKind.f32.format.signWeight) = 0 := by decide
            rw [e2] at j3
            have hp := Nat.two_pow_pos (e0 - FloatKind.f32.format.leastPlace).toNat
            rcases Nat.eq_zero_or_pos n0 with h | h
            · exact h
            · have := Nat.mul_pos h hp; omega
          rw [hs1] at j1
          subst hz0
          unfold Ieee.Format.order at ho
          rw [j1] at ho
          rcases read_cases (f := FloatKind.f32.format) (by decide) ru with ⟨a1, m, e, a2, a3, a4⟩ | ⟨a1, a2⟩
          · rw [a2, hs0] at ho
            simp only [Ieee.Datum.order] at ho
            have hc : ¬ compare (Ieee.signed true m (e - min e e0).toNat) (Ieee.signed false 0 (e0 - min e e0).toNat) = .lt := by simpa using ho
            rw [Int.compare_eq_lt] at hc
            have hm0 : m * 2 ^ (e - min e e0).toNat = 0 := by
              unfold Ieee.signed at hc
              simp only [Nat.shiftLeft_eq, Bool.false_eq_true, if_false, if_true, Nat.zero_mul] at hc
              generalize m * 2 ^ (e - min e e0).toNat = t at hc ⊢
              omega
            have hm1 : m = 0 := by
              rcases Nat.eq_zero_or_pos m with h | h
              · exact h
              · have := Nat.mul_pos h (Nat.two_pow_pos (e - min e e0).toNat); omega
            rw [hm1, Nat.zero_mul] at a4
            have e3 : magR FloatKind.f32.format 0 = 0 := by decide
            have := magR_inj (f := FloatKind.f32.format) (a4.symm.trans e3.symm)
            rw [f32_sw] at this
            omega
          · rw [a2, hs0] at ho
            simp [Ieee.Datum.order] at ho
        subst hz
        decide
end Go.Proofs.Ytajfpjggdbifjaa
