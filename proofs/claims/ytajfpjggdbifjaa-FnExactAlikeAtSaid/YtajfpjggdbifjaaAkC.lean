/-
  Whole numbers' mean, and how far from it a whole number is: not at all, or not too little. Plain words.
-/
import Derived.Test.YtajfpjggdbifjaaAkB
namespace Go.Proofs.Ytajfpjggdbifjaa
open Go.RowKit
set_option linter.unusedVariables false
set_option linter.unusedSimpArgs false
set_option linter.unnecessarySimpa false

theorem quo_low {x y r N : Nat} (hx : x % FloatKind.f64.format.signWeight < FloatKind.f64.format.infRung) (hy : y % FloatKind.f64.format.signWeight < FloatKind.f64.format.infRung) (hx0 : magB .f64 x ≠ 0) (hy0 : magB .f64 y ≠ 0) (hr : rep FloatKind.f64.format N) (hN : 2 ^ 20 * N * magB .f64 y ≤ (2 ^ 20 - 1) * (magB .f64 x * unit .f64)) (h : floatBits .quo .f64 x y = some r) : N ≤ magB .f64 r := by
  obtain ⟨V, x', d, P, b, rfl, h1, h2, h3, h4, h5, _, _⟩ := quo_form hx hy hx0 hy0 h
  refine low_nearest (b := b) hr h1 h2 ?_
  rw [h3, h4]
  have h6 := Nat.mul_le_mul_right (2 ^ d) hN
  have h7 := Nat.le_trans h6 h5
  refine Nat.le_of_mul_le_mul_left (c := 2 ^ 20 * magB .f64 y) ?_ (Nat.mul_pos (Nat.two_pow_pos _) (Nat.pos_of_ne_zero hy0))
  calc 2 ^ 20 * magB .f64 y * (N * 2 ^ d) = 2 ^ 20 * N * magB .f64 y * 2 ^ d := by simp only [Nat.mul_assoc, Nat.mul_comm, Nat.mul_left_comm]
    _ ≤ 2 ^ 20 * (V * 2 ^ x') * magB .f64 y := h7
    _ = 2 ^ 20 * magB .f64 y * (V * 2 ^ x') := by simp only [Nat.mul_assoc, Nat.mul_comm, Nat.mul_left_comm]
theorem quo_high {x y r N : Nat} (hx : x % FloatKind.f64.format.signWeight < FloatKind.f64.format.infRung) (hy : y % FloatKind.f64.format.signWeight < FloatKind.f64.format.infRung) (hx0 : magB .f64 x ≠ 0) (hy0 : magB .f64 y ≠ 0) (hr : rep FloatKind.f64.format N) (hN : (2 ^ 20 + 1) * (magB .f64 x * unit .f64) ≤ 2 ^ 20 * N * magB .f64 y) (h : floatBits .quo .f64 x y = some r) : bd .f64 r N := by
  obtain ⟨V, x', d, P, b, rfl, h1, h2, h3, h4, _, h5, _⟩ := quo_form hx hy hx0 hy0 h
  refine bd_nearest (b := b) hr h1 h2 ?_
  rw [h3, h4]
  have h6 := Nat.mul_le_mul_right (2 ^ d) hN
  have h7 := Nat.le_trans h5 h6
  refine Nat.le_of_mul_le_mul_left (c := 2 ^ 20 * magB .f64 y) ?_ (Nat.mul_pos (Nat.two_pow_pos _) (Nat.pos_of_ne_zero hy0))
  calc 2 ^ 20 * magB .f64 y * (V * 2 ^ x') = 2 ^ 20 * (V * 2 ^ x') * magB .f64 y := by simp only [Nat.mul_assoc, Nat.mul_comm, Nat.mul_left_comm]
    _ ≤ 2 ^ 20 * N * magB .f64 y * 2 ^ d := h7
    _ = 2 ^ 20 * magB .f64 y * (N * 2 ^ d) := by simp only [Nat.mul_assoc, Nat.mul_comm, Nat.mul_left_comm]
theorem quo_exact {x y r t : Nat} (hx : x % FloatKind.f64.format.signWeight < FloatKind.f64.format.infRung) (hy : y % FloatKind.f64.format.signWeight < FloatKind.f64.format.infRung) (hx0 : magB .f64 x ≠ 0) (hy0 : magB .f64 y ≠ 0) (ht : t < 2 ^ 50) (he : magB .f64 x = t * magB .f64 y) (h : floatBits .quo .f64 x y = some r) : magB .f64 r = t * unit .f64 := by
  have hr : rep FloatKind.f64.format (t * unit .f64) := rep_unit0 (by omega)
  obtain ⟨V, x', d, P, b, rfl, h1, h2, h3, h4, _, _, h5⟩ := quo_form hx hy hx0 hy0 h
  have h6 := h5 t ht he
  refine Nat.le_antisymm ?_ ?_
  · exact (bd_nearest (b := b) hr h1 h2 (by rw [h3, h4, h6]; exact Nat.le_refl _)).2
  · exact low_nearest (b := b) hr h1 h2 (by rw [h3, h4, h6]; exact Nat.le_refl _)
theorem quo_zero {x y r : Nat} (hx : x % FloatKind.f64.format.signWeight < FloatKind.f64.format.infRung) (hy : y % FloatKind.f64.format.signWeight < FloatKind.f64.format.infRung) (hx0 : magB .f64 x = 0) (hy0 : magB .f64 y ≠ 0) (h : floatBits .quo .f64 x y = some r) : magB .f64 r = 0 := by
  obtain ⟨m, i, h1, h2, h3⟩ := read_gp hx
  obtain ⟨n, j, g1, g2, g3⟩ := read_gp hy
  have hn : n ≠ 0 := by rintro rfl; rw [Nat.zero_mul] at g3; exact hy0 g3.symm
  rw [hx0] at h3
  have hm : m = 0 := by
    rcases Nat.mul_eq_zero.1 h3 with q | q
    · exact q
    · exact absurd q (Nat.ne_of_gt (Nat.two_pow_pos _))
  subst hm
  simp only [floatBits, Ieee.Format.div, h1, g1, Ieee.Datum.quotient, if_neg hn, Option.map_some, Option.some.injEq, Nat.zero_shiftLeft, Nat.zero_div, Nat.zero_mod, Nat.mul_zero] at h
  rw [← h]
  exact zero_nearest _ _ _
theorem quo_sgn {x y r : Nat} (hx : x % FloatKind.f64.format.signWeight < FloatKind.f64.format.infRung) (hy : y % FloatKind.f64.format.signWeight < FloatKind.f64.format.infRung) (hy0 : magB .f64 y ≠ 0) (h : floatBits .quo .f64 x y = some r) : sgnB .f64 r = (sgnB .f64 x ^^ sgnB .f64 y) := by
  obtain ⟨m, i, h1, h2, h3⟩ := read_gp hx
  obtain ⟨n, j, g1, g2, g3⟩ := read_gp hy
  have hn : n ≠ 0 := by rintro rfl; rw [Nat.zero_mul] at g3; exact hy0 g3.symm
  simp only [floatBits, Ieee.Format.div, h1, g1, Ieee.Datum.quotient, if_neg hn, Option.map_some, Option.some.injEq] at h
  rw [← h]
  exact sgn_nearest _ _ _ _

/-- A whole number as a double. -/
theorem int_mag {n : Nat} (h : n < 2 ^ 53) : floatOfInt .f64 (n : Int) % FloatKind.f64.format.signWeight < FloatKind.f64.format.infRung ∧ sgnB .f64 (floatOfInt .f64 (n : Int)) = false ∧ magB .f64 (floatOfInt .f64 (n : Int)) = n * unit .f64 := by
  have hb := bd_int (n := (n : Int)) (M := n) (by simp) h
  have e1 : ((0 : Int) - FloatKind.f64.format.leastPlace) = -FloatKind.f64.format.leastPlace := by omega
  have ef : floatOfInt .f64 (n : Int) = FloatKind.f64.format.nearest false n 0 := by
    show FloatKind.f64.format.nearest (decide ((n : Int) < 0)) (n : Int).natAbs 0 = _
    rw [decide_eq_false (by omega), Int.natAbs_natCast]
  refine ⟨hb.1, by rw [ef]; exact sgn_nearest _ _ _ _, Nat.le_antisymm hb.2 ?_⟩
  rw [ef]
  refine low_nearest (b := FloatKind.f64.format.leastPlace) (rep_unit0 h) (by decide) (Int.le_refl _) ?_
  refine Nat.le_of_eq ?_
  have e0 : (FloatKind.f64.format.leastPlace - FloatKind.f64.format.leastPlace).toNat = 0 := by rw [Int.sub_self]; rfl
  unfold unit
  simp only [e0, e1, Nat.pow_zero, Nat.mul_one]

theorem rep_e {m q : Nat} (h : m < 2 ^ 53) (hq : q ≤ 1066) : rep FloatKind.f64.format (m * 2 ^ q) := by
  refine rep_of (by rw [f64_bin']; omega) ?_
  rw [f64_bin', f64_inf']
  have := Nat.mul_le_mul_right 4503599627370496 (show q + 2 ≤ 1068 by omega)
  omega
where
  f64_bin' : FloatKind.f64.format.binade = 4503599627370496 := by decide
  f64_inf' : FloatKind.f64.format.infRung = 9218868437227405312 := by decide

structure steps (E : Nat) : Prop where
  u : unit .f64 = 512 * (512 * (512 * E))
  r : ∀ m, m < 2 ^ 53 → rep FloatKind.f64.format (m * E)
  r2 : ∀ m, m < 2 ^ 53 → rep FloatKind.f64.format (m * (512 * E))
  r3 : ∀ m, m < 2 ^ 53 → rep FloatKind.f64.format (m * (512 * (512 * E)))
theorem steps_of {q : Nat} (e : (-FloatKind.f64.format.leastPlace).toNat = 9 + (9 + (9 + q))) (hq : q + 18 ≤ 1066) : steps (2 ^ q) := by
  have h9 : ∀ x : Nat, 2 ^ (9 + x) = 512 * 2 ^ x := fun x => Nat.pow_add 2 9 x
  refine ⟨?_, ?_, ?_, ?_⟩
  · unfold unit
    rw [e, h9, h9, h9]
  · intro m hm
    exact rep_e hm (by omega)
  · intro m hm
    rw [← h9]
    exact rep_e hm (by omega)
  · intro m hm
    rw [← h9, ← h9]
    exact rep_e hm (by omega)
theorem steps_ex : ∃ E, steps E := ⟨_, steps_of (q := 1047) (by decide) (by omega)⟩

/-- The mean of whole numbers is a given whole number, or not too near it. -/
theorem mean_gap {E T n t m : Nat} (hE : steps E) (h1 : 1 ≤ n) (h2 : n ≤ 256) (hT : T ≤ 256000) (ht : t ≤ 1000) (h : floatBits .quo .f64 (floatOfInt .f64 (T : Int)) (floatOfInt .f64 (n : Int)) = some m) :
    sgnB .f64 m = false ∧ (magB .f64 m = t * unit .f64 ∨ magB .f64 m + 512 * (512 * E) ≤ t * unit .f64 ∨ t * unit .f64 + 512 * (512 * E) ≤ magB .f64 m) := by
  have hu := hE.u
  have hr := hE.r3
  generalize 512 * (512 * E) = D at *
  obtain ⟨x1, x2, x3⟩ := int_mag (n := T) (by omega)
  obtain ⟨y1, y2, y3⟩ := int_mag (n := n) (by omega)
  have up := unit_pos .f64
  have hy0 : magB .f64 (floatOfInt .f64 (n : Int)) ≠ 0 := by
    rw [y3]; exact Nat.ne_of_gt (Nat.mul_pos h1 up)
  refine ⟨by rw [quo_sgn x1 y1 hy0 h, x2, y2]; rfl, ?_⟩
  rcases Nat.eq_zero_or_pos T with rfl | hTp
  · have hz := quo_zero x1 y1 (by rw [x3, Nat.zero_mul]) hy0 h
    rw [hz]
    rcases Nat.eq_zero_or_pos t with rfl | htp
    · left; rw [Nat.zero_mul]
    · right; left
      refine Nat.le_trans (Nat.le_of_eq (Nat.zero_add _)) ?_
      exact Nat.le_trans (Nat.le_trans (Nat.le_mul_of_pos_left _ (by decide)) (Nat.le_of_eq hu.symm)) (Nat.le_mul_of_pos_left _ htp)
  have hx0 : magB .f64 (floatOfInt .f64 (T : Int)) ≠ 0 := by
    rw [x3]; exact Nat.ne_of_gt (Nat.mul_pos hTp up)
  have hp : t * n ≤ 256000 := Nat.le_trans (Nat.mul_le_mul ht h2) (by decide)
  rcases Nat.lt_trichotomy T (t * n) with hlt | heq | hgt
  · right; left
    have htp : 1 ≤ t := by
      rcases Nat.eq_zero_or_pos t with rfl | h0
      · rw [Nat.zero_mul] at hlt; omega
      · exact h0
    have hb := quo_high (N := (512 * t - 1) * D) x1 y1 hx0 hy0 (hr _ (by omega)) (by
      rw [x3, y3]
      have q : (2 ^ 20 + 1) * (T * 512) ≤ 2 ^ 20 * ((512 * t - 1) * n) := by
        rw [Nat.sub_mul, Nat.one_mul, Nat.mul_assoc]
        omega
      calc (2 ^ 20 + 1) * (T * unit .f64 * unit .f64) = (2 ^ 20 + 1) * (T * 512) * (D * unit .f64) := by rw [hu]; simp only [Nat.mul_assoc, Nat.mul_comm, Nat.mul_left_comm]
        _ ≤ 2 ^ 20 * ((512 * t - 1) * n) * (D * unit .f64) := Nat.mul_le_mul_right _ q
        _ = 2 ^ 20 * ((512 * t - 1) * D) * (n * unit .f64) := by simp only [Nat.mul_assoc, Nat.mul_comm, Nat.mul_left_comm]) h
    have hb2 : magB .f64 m ≤ (512 * t - 1) * D := hb.2
    rw [hu, ← Nat.mul_assoc, Nat.mul_comm t 512]
    rw [Nat.sub_mul, Nat.one_mul] at hb2
    have : D ≤ 512 * t * D := Nat.le_mul_of_pos_left _ (by omega)
    omega
  · left
    refine quo_exact x1 y1 hx0 hy0 (by omega) ?_ h
    rw [x3, y3, heq, Nat.mul_assoc]
  · right; right
    have hb := quo_low (N := (512 * t + 1) * D) x1 y1 hx0 hy0 (hr _ (by omega)) (by
      rw [x3, y3]
      have q : 2 ^ 20 * ((512 * t + 1) * n) ≤ (2 ^ 20 - 1) * (T * 512) := by
        rw [Nat.add_mul, Nat.one_mul, Nat.mul_assoc]
        omega
      calc 2 ^ 20 * ((512 * t + 1) * D) * (n * unit .f64) = 2 ^ 20 * ((512 * t + 1) * n) * (D * unit .f64) := by simp only [Nat.mul_assoc, Nat.mul_comm, Nat.mul_left_comm]
        _ ≤ (2 ^ 20 - 1) * (T * 512) * (D * unit .f64) := Nat.mul_le_mul_right _ q
        _ = (2 ^ 20 - 1) * (T * unit .f64 * unit .f64) := by rw [hu]; simp only [Nat.mul_assoc, Nat.mul_comm, Nat.mul_left_comm]) h
    rw [Nat.add_mul, Nat.one_mul] at hb
    rw [hu, ← Nat.mul_assoc, Nat.mul_comm t 512]
    exact hb
end Go.Proofs.Ytajfpjggdbifjaa
