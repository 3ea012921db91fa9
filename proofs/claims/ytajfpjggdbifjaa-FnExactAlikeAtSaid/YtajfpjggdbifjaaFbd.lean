/-
  Floats: the magnitude of a rung, and what rounding does to bounds.
-/
import Derived.Test.YtajfpjggdbifjaaFlts
namespace Go.Proofs.Ytajfpjggdbifjaa
open Go.RowKit
set_option linter.unusedVariables false
set_option linter.unusedSimpArgs false
set_option linter.unnecessarySimpa false

/-! ### Rounding to a whole number -/
theorem cutE_le (neg : Bool) {N d K : Nat} (h : N ≤ K * 2 ^ d) : Ieee.Toward.even.cut neg N d ≤ K := by
  unfold Ieee.Toward.cut
  simp only [Nat.shiftLeft_eq, Nat.one_mul]
  by_cases hd : d ≤ N.log2 + 2
  · rw [Nat.min_eq_left hd]
    have hp : 0 < 2 ^ d := Nat.two_pow_pos d
    generalize 2 ^ d = D at *
    have hq : N / D ≤ K := by rw [Nat.div_le_iff_le_mul hp]; omega
    have h1 := Nat.div_add_mod N D
    by_cases he : N / D = K
    · have : N % D = 0 := by
        rw [he] at h1
        have : D * K = K * D := Nat.mul_comm _ _
        omega
      rw [this, he]
      have e1 : decide (D < 2 * 0) = false := by simp
      have e2 : (D == 2 * 0) = false := by simp; omega
      simp [e2]
    · have h2 : ∀ b : Bool, b.toNat ≤ 1 := by decide
      have := h2 (decide (D < 2 * (N % D)) || D == 2 * (N % D) && N / D % 2 == 1)
      omega
  · rw [Nat.min_eq_right (by omega)]
    have hlt : N < 2 ^ (N.log2 + 1) := Nat.lt_log2_self
    have e : 2 ^ (N.log2 + 2) = 2 * 2 ^ (N.log2 + 1) := by rw [Nat.pow_succ, Nat.mul_comm]
    generalize 2 ^ (N.log2 + 1) = D at *
    rw [e]
    have h0 : N / (2 * D) = 0 := Nat.div_eq_of_lt (by omega)
    have h1 : N % (2 * D) = N := Nat.mod_eq_of_lt (by omega)
    rw [h0, h1]
    have e1 : decide (2 * D < 2 * N) = false := by simp; omega
    have e2 : (2 * D == 2 * N) = false := by simp; omega
    rw [e1, e2]
    simp
theorem le_cutE (neg : Bool) {N d K : Nat} (h : K * 2 ^ d ≤ N) : K ≤ Ieee.Toward.even.cut neg N d := by
  unfold Ieee.Toward.cut
  simp only [Nat.shiftLeft_eq, Nat.one_mul]
  by_cases hd : d ≤ N.log2 + 2
  · rw [Nat.min_eq_left hd]
    have hp : 0 < 2 ^ d := Nat.two_pow_pos d
    have : K ≤ N / 2 ^ d := (Nat.le_div_iff_mul_le hp).2 h
    omega
  · have hlt : N < 2 ^ (N.log2 + 1) := Nat.lt_log2_self
    have h2 : 2 ^ (N.log2 + 1) ≤ 2 ^ d := Nat.pow_le_pow_right (by decide) (by omega)
    cases K with
    | zero => exact Nat.zero_le _
    | succ K =>
      have h3 : 2 ^ d ≤ (K + 1) * 2 ^ d := Nat.le_mul_of_pos_left _ (by omega)
      exact absurd (Nat.lt_of_lt_of_le hlt (Nat.le_trans h2 (Nat.le_trans h3 h))) (Nat.lt_irrefl _)

/-! ### The magnitude of a rung, in units of the least place -/
def magR (f : Ieee.Format) (r : Nat) : Nat := if r < f.binade then r else (f.binade + r % f.binade) * 2 ^ (r / f.binade - 1)
theorem binade_pos (f : Ieee.Format) : 0 < f.binade := Nat.two_pow_pos _
theorem magR_high {f : Ieee.Format} {t k : Nat} (h1 : f.binade ≤ k) (h2 : k < 2 * f.binade) : magR f (t * f.binade + k) = k * 2 ^ t := by
  have hb := binade_pos f
  unfold magR
  generalize f.binade = B at *
  have e1 : (t * B + k) / B = t + 1 := by
    rw [Nat.add_comm, Nat.add_mul_div_right _ _ hb]
    have : k / B = 1 := by
      rw [Nat.div_eq_iff hb]; omega
    omega
  have e2 : (t * B + k) % B = k - B := by
    rw [Nat.add_comm, Nat.add_mul_mod_self_right]
    have : k = B + (k - B) := by omega
    rw [this, Nat.add_mod_left, Nat.mod_eq_of_lt (by omega)]
    omega
  rw [if_neg (by have := Nat.zero_le (t * B); omega), e1, e2]
  congr 1
  omega
theorem rung_split {f : Ieee.Format} {r : Nat} (h : f.binade ≤ r) : ∃ t k, r = t * f.binade + k ∧ f.binade ≤ k ∧ k < 2 * f.binade := by
  have hb := binade_pos f
  generalize f.binade = B at *
  have h1 := Nat.div_add_mod r B
  have h2 := Nat.mod_lt r hb
  have h3 : 1 ≤ r / B := (Nat.le_div_iff_mul_le hb).2 (by omega)
  refine ⟨r / B - 1, B + r % B, ?_, by omega, by omega⟩
  rw [Nat.sub_mul, Nat.one_mul]
  have : B ≤ r / B * B := Nat.le_mul_of_pos_left _ h3
  rw [Nat.mul_comm] at h1
  omega
theorem magR_step (f : Ieee.Format) (r : Nat) : magR f r < magR f (r + 1) := by
  have hb := binade_pos f
  by_cases h : r + 1 < f.binade
  · unfold magR; rw [if_pos (by omega), if_pos h]; omega
  · by_cases h2 : r + 1 = f.binade
    · have := magR_high (f := f) (t := 0) (k := f.binade) (by omega) (by omega)
      rw [Nat.zero_mul, Nat.zero_add] at this
      rw [h2, this]
      unfold magR
      rw [if_pos (by omega)]
      omega
    · obtain ⟨t, k, rfl, hk1, hk2⟩ := rung_split (f := f) (r := r) (by omega)
      rw [magR_high hk1 hk2]
      have hp := Nat.two_pow_pos t
      by_cases h3 : k + 1 < 2 * f.binade
      · rw [Nat.add_assoc, magR_high (by omega) h3, Nat.add_mul]; omega
      · have : t * f.binade + k + 1 = (t + 1) * f.binade + f.binade := by rw [Nat.add_mul]; omega
        rw [this, magR_high (by omega) (by omega), Nat.pow_succ]
        have e : f.binade * (2 ^ t * 2) = (2 * f.binade) * 2 ^ t := by rw [Nat.mul_comm (2 ^ t), ← Nat.mul_assoc, Nat.mul_comm f.binade 2]
        rw [e]
        exact Nat.mul_lt_mul_of_pos_right hk2 hp
theorem magR_lt {f : Ieee.Format} {r s : Nat} (h : r < s) : magR f r < magR f s := by
  induction s with
  | zero => omega
  | succ s ih =>
    by_cases hs : r = s
    · subst hs; exact magR_step f r
    · exact Nat.lt_trans (ih (by omega)) (magR_step f s)
theorem magR_le {f : Ieee.Format} {r s : Nat} (h : r ≤ s) : magR f r ≤ magR f s := by
  rcases Nat.eq_or_lt_of_le h with rfl | h
  · omega
  · exact Nat.le_of_lt (magR_lt h)
theorem magR_inj {f : Ieee.Format} {r s : Nat} (h : magR f r = magR f s) : r = s := by
  rcases Nat.lt_trichotomy r s with h1 | h1 | h1
  · have := magR_lt (f := f) h1; omega
  · exact h1
  · have := magR_lt (f := f) h1; omega

/-! ### What a word stands for -/
theorem read_mag {f : Ieee.Format} {b : Nat} (h : b % f.signWeight < f.infRung) : ∃ m e, f.read b = .number (b / f.signWeight % 2 == 1) m e ∧ f.leastPlace ≤ e ∧ m * 2 ^ (e - f.leastPlace).toNat = magR f (b % f.signWeight) := by
  unfold Ieee.Format.read magR
  simp only
  by_cases h1 : b % f.signWeight < f.binade
  · rw [if_pos h1, if_pos h1]
    exact ⟨_, _, rfl, by omega, by simp⟩
  · rw [if_neg h1, if_neg h1, if_pos h]
    refine ⟨_, _, rfl, by omega, ?_⟩
    congr 2
    omega
theorem read_inf {f : Ieee.Format} {b : Nat} (h : b % f.signWeight = f.infRung) (h2 : f.binade ≤ f.infRung) : f.read b = .infinity (b / f.signWeight % 2 == 1) := by
  unfold Ieee.Format.read
  simp only
  rw [if_neg (by omega), if_neg (by omega), if_pos h]

/-! ### Rounding -/
def nrung (f : Ieee.Format) (neg : Bool) (mag : Nat) (place : Int) : Nat :=
  if mag = 0 then 0 else
    min (((max (place + mag.log2 - f.fractionBits) f.leastPlace) - f.leastPlace).toNat * f.binade + Ieee.Toward.even.cut neg (mag <<< (place - max (place + mag.log2 - f.fractionBits) f.leastPlace).toNat) (max (place + mag.log2 - f.fractionBits) f.leastPlace - place).toNat) f.infRung
theorem nearest_word (f : Ieee.Format) (neg : Bool) (mag : Nat) (place : Int) : f.nearest neg mag place = f.word neg (nrung f neg mag place) := by
  unfold Ieee.Format.nearest nrung
  split <;> rfl
theorem nrung_inf (f : Ieee.Format) (neg : Bool) (mag : Nat) (place : Int) : nrung f neg mag place ≤ f.infRung := by
  unfold nrung
  split
  · omega
  · exact Nat.min_le_right _ _
theorem kept_le {neg : Bool} {m K : Nat} {p l b : Int} (hp : b ≤ p) (hl : b ≤ l) (h : m * 2 ^ (p - b).toNat ≤ K * 2 ^ (l - b).toNat) : Ieee.Toward.even.cut neg (m <<< (p - l).toNat) (l - p).toNat ≤ K := by
  rw [Nat.shiftLeft_eq]
  refine cutE_le neg ?_
  rcases Int.le_total p l with h1 | h1
  · have e1 : (p - l).toNat = 0 := by omega
    have e2 : (l - b).toNat = (l - p).toNat + (p - b).toNat := by omega
    rw [e1, Nat.pow_zero, Nat.mul_one]
    rw [e2, Nat.pow_add, ← Nat.mul_assoc] at h
    exact Nat.le_of_mul_le_mul_right h (Nat.two_pow_pos _)
  · have e1 : (l - p).toNat = 0 := by omega
    have e2 : (p - b).toNat = (p - l).toNat + (l - b).toNat := by omega
    rw [e1, Nat.pow_zero, Nat.mul_one]
    rw [e2, Nat.pow_add, ← Nat.mul_assoc] at h
    exact Nat.le_of_mul_le_mul_right h (Nat.two_pow_pos _)
theorem le_kept {neg : Bool} {m K : Nat} {p l b : Int} (hp : b ≤ p) (hl : b ≤ l) (h : K * 2 ^ (l - b).toNat ≤ m * 2 ^ (p - b).toNat) : K ≤ Ieee.Toward.even.cut neg (m <<< (p - l).toNat) (l - p).toNat := by
  rw [Nat.shiftLeft_eq]
  refine le_cutE neg ?_
  rcases Int.le_total p l with h1 | h1
  · have e1 : (p - l).toNat = 0 := by omega
    have e2 : (l - b).toNat = (l - p).toNat + (p - b).toNat := by omega
    rw [e1, Nat.pow_zero, Nat.mul_one]
    rw [e2, Nat.pow_add, ← Nat.mul_assoc] at h
    exact Nat.le_of_mul_le_mul_right h (Nat.two_pow_pos _)
  · have e1 : (l - p).toNat = 0 := by omega
    have e2 : (p - b).toNat = (p - l).toNat + (l - b).toNat := by omega
    rw [e1, Nat.pow_zero, Nat.mul_one]
    rw [e2, Nat.pow_add, ← Nat.mul_assoc] at h
    exact Nat.le_of_mul_le_mul_right h (Nat.two_pow_pos _)
theorem binade_eq (f : Ieee.Format) : f.binade = 2 ^ f.fractionBits := rfl

/-- Rounded, a number not above a rung is not above it. -/
theorem nrung_le {f : Ieee.Format} {neg : Bool} {mag : Nat} {place b : Int} {R : Nat} (hp : b ≤ place) (hl : b ≤ f.leastPlace)
    (h : mag * 2 ^ (place - b).toNat ≤ magR f R * 2 ^ (f.leastPlace - b).toNat) : nrung f neg mag place ≤ R := by
  unfold nrung
  split
  · omega
  rename_i hm
  refine Nat.le_trans (Nat.min_le_left _ _) ?_
  have hlo := Nat.log2_self_le hm
  have hhi : mag < 2 ^ (mag.log2 + 1) := Nat.lt_log2_self
  generalize mag.log2 = L at *
  generalize hlast : max (place + (L : Int) - f.fractionBits) f.leastPlace = last
  obtain ⟨x, hx⟩ : ∃ x : Nat, place - b = x := ⟨(place - b).toNat, by omega⟩
  obtain ⟨y, hy⟩ : ∃ y : Nat, f.leastPlace - b = y := ⟨(f.leastPlace - b).toNat, by omega⟩
  obtain ⟨t, ht⟩ : ∃ t : Nat, last - f.leastPlace = t := ⟨(last - f.leastPlace).toNat, by omega⟩
  rw [hx, hy] at h
  rw [ht]
  simp only [Int.toNat_natCast] at h ⊢
  have hxp : (place - b).toNat = x := by omega
  have hlb : (last - b).toNat = y + t := by omega
  -- where the last digit is not that of a subnormal number
  have hbig : 0 < t → 2 ^ (y + t) * f.binade ≤ mag * 2 ^ x := by
    intro h0
    have e : L + x = y + t + f.fractionBits := by omega
    rw [binade_eq, ← Nat.pow_add, ← e, Nat.pow_add]
    exact Nat.mul_le_mul_right _ hlo
  have hsmall : mag * 2 ^ x < 2 * f.binade * 2 ^ (y + t) := by
    have e : L + 1 + x ≤ f.fractionBits + 1 + (y + t) := by omega
    have e2 : 2 * f.binade * 2 ^ (y + t) = 2 ^ (f.fractionBits + 1 + (y + t)) := by rw [binade_eq, Nat.pow_add _ (f.fractionBits + 1), Nat.pow_succ, Nat.mul_comm 2]
    rw [e2]
    refine Nat.lt_of_lt_of_le ?_ (Nat.pow_le_pow_right (by decide) e)
    rw [Nat.pow_add]
    exact Nat.mul_lt_mul_of_pos_right hhi (Nat.two_pow_pos _)
  have hK : ∀ K, mag * 2 ^ x ≤ K * 2 ^ (y + t) → Ieee.Toward.even.cut neg (mag <<< (place - last).toNat) (last - place).toNat ≤ K := by
    intro K hK
    exact kept_le (b := b) hp (by omega) (by rw [hxp, hlb]; exact hK)
  have h2b := hK (2 * f.binade) (Nat.le_of_lt hsmall)
  have hb := binade_pos f
  by_cases hR : R < f.binade
  · have e : magR f R = R := by unfold magR; rw [if_pos hR]
    rw [e] at h
    by_cases h0 : 0 < t
    · have h1 := hbig h0
      have h3 : 2 ^ (y + t) * f.binade ≤ R * 2 ^ y := Nat.le_trans h1 h
      rw [Nat.pow_add, Nat.mul_assoc, Nat.mul_comm] at h3
      have h4 := Nat.le_of_mul_le_mul_right h3 (Nat.two_pow_pos y)
      have h5 : f.binade ≤ 2 ^ t * f.binade := Nat.le_mul_of_pos_left _ (Nat.two_pow_pos t)
      omega
    · obtain rfl : t = 0 := by omega
      have := hK R (by simpa using h)
      omega
  · obtain ⟨tR, k, rfl, hk1, hk2⟩ := rung_split (f := f) (r := R) (by omega)
    rw [magR_high hk1 hk2, Nat.mul_assoc, ← Nat.pow_add] at h
    rcases Nat.lt_trichotomy t tR with h1 | h1 | h1
    · have : (t + 1) * f.binade ≤ tR * f.binade := Nat.mul_le_mul_right _ h1
      rw [Nat.add_mul] at this
      omega
    · subst h1
      have := hK k (by rw [Nat.add_comm y t]; exact h)
      omega
    · have h3 := Nat.le_trans (hbig (by omega)) h
      have e : y + t = (tR + y) + (t - tR) := by omega
      rw [e, Nat.pow_add, Nat.mul_assoc, Nat.mul_comm] at h3
      have h4 := Nat.le_of_mul_le_mul_right h3 (Nat.two_pow_pos _)
      have h5 : 2 * f.binade ≤ 2 ^ (t - tR) * f.binade := Nat.mul_le_mul_right _ (by
        have := Nat.pow_le_pow_right (show 0 < 2 by decide) (show 1 ≤ t - tR by omega)
        omega)
      omega

/-- Rounded, a number not below a rung is not below it. -/
theorem le_nrung {f : Ieee.Format} {neg : Bool} {mag : Nat} {place b : Int} {R : Nat} (hp : b ≤ place) (hl : b ≤ f.leastPlace) (hi : R ≤ f.infRung)
    (h : magR f R * 2 ^ (f.leastPlace - b).toNat ≤ mag * 2 ^ (place - b).toNat) : R ≤ nrung f neg mag place := by
  unfold nrung
  split
  · rename_i hm
    subst hm
    have hb := binade_pos f
    rw [Nat.zero_mul] at h
    have h1 : magR f R = 0 := by
      have := Nat.two_pow_pos (f.leastPlace - b).toNat
      rcases Nat.mul_eq_zero.1 (show magR f R * 2 ^ (f.leastPlace - b).toNat = 0 by omega) with h | h <;> omega
    have : magR f 0 = 0 := by unfold magR; rw [if_pos hb]
    have := magR_inj (h1.trans this.symm)
    omega
  rename_i hm
  refine Nat.le_min.2 ⟨?_, hi⟩
  have hlo := Nat.log2_self_le hm
  have hhi : mag < 2 ^ (mag.log2 + 1) := Nat.lt_log2_self
  generalize mag.log2 = L at *
  generalize hlast : max (place + (L : Int) - f.fractionBits) f.leastPlace = last
  obtain ⟨x, hx⟩ : ∃ x : Nat, place - b = x := ⟨(place - b).toNat, by omega⟩
  obtain ⟨y, hy⟩ : ∃ y : Nat, f.leastPlace - b = y := ⟨(f.leastPlace - b).toNat, by omega⟩
  obtain ⟨t, ht⟩ : ∃ t : Nat, last - f.leastPlace = t := ⟨(last - f.leastPlace).toNat, by omega⟩
  rw [hx, hy] at h
  rw [ht]
  simp only [Int.toNat_natCast] at h ⊢
  have hxp : (place - b).toNat = x := by omega
  have hlb : (last - b).toNat = y + t := by omega
  have hbig : 0 < t → 2 ^ (y + t) * f.binade ≤ mag * 2 ^ x := by
    intro h0
    have e : L + x = y + t + f.fractionBits := by omega
    rw [binade_eq, ← Nat.pow_add, ← e, Nat.pow_add]
    exact Nat.mul_le_mul_right _ hlo
  have hsmall : mag * 2 ^ x < 2 * f.binade * 2 ^ (y + t) := by
    have e : L + 1 + x ≤ f.fractionBits + 1 + (y + t) := by omega
    have e2 : 2 * f.binade * 2 ^ (y + t) = 2 ^ (f.fractionBits + 1 + (y + t)) := by rw [binade_eq, Nat.pow_add _ (f.fractionBits + 1), Nat.pow_succ, Nat.mul_comm 2]
    rw [e2]
    refine Nat.lt_of_lt_of_le ?_ (Nat.pow_le_pow_right (by decide) e)
    rw [Nat.pow_add]
    exact Nat.mul_lt_mul_of_pos_right hhi (Nat.two_pow_pos _)
  have hK : ∀ K, K * 2 ^ (y + t) ≤ mag * 2 ^ x → K ≤ Ieee.Toward.even.cut neg (mag <<< (place - last).toNat) (last - place).toNat := by
    intro K hK
    exact le_kept (b := b) hp (by omega) (by rw [hxp, hlb]; exact hK)
  have hb := binade_pos f
  have hkb : 0 < t → f.binade ≤ Ieee.Toward.even.cut neg (mag <<< (place - last).toNat) (last - place).toNat := fun h0 => hK _ (by rw [Nat.mul_comm]; exact hbig h0)
  by_cases hR : R < f.binade
  · have e : magR f R = R := by unfold magR; rw [if_pos hR]
    rw [e] at h
    by_cases h0 : 0 < t
    · have := hkb h0; omega
    · obtain rfl : t = 0 := by omega
      have := hK R (by simpa using h)
      omega
  · obtain ⟨tR, k, rfl, hk1, hk2⟩ := rung_split (f := f) (r := R) (by omega)
    rw [magR_high hk1 hk2, Nat.mul_assoc, ← Nat.pow_add] at h
    rcases Nat.lt_trichotomy t tR with h1 | h1 | h1
    · have h3 := Nat.lt_of_le_of_lt h hsmall
      have e : tR + y = (tR - t) + (y + t) := by omega
      rw [e, Nat.pow_add, ← Nat.mul_assoc] at h3
      have h4 := Nat.lt_of_mul_lt_mul_right h3
      have h5 : k * 2 ≤ k * 2 ^ (tR - t) := Nat.mul_le_mul_left _ (by
        have := Nat.pow_le_pow_right (show 0 < 2 by decide) (show 1 ≤ tR - t by omega)
        omega)
      omega
    · subst h1
      have := hK k (by rw [Nat.add_comm y t]; exact h)
      omega
    · have h3 : (tR + 1) * f.binade ≤ t * f.binade := Nat.mul_le_mul_right _ h1
      rw [Nat.add_mul] at h3
      have := hkb (by omega)
      omega

/-! ### Words -/
theorem word_rung {f : Ieee.Format} {neg : Bool} {r : Nat} (h : r < f.signWeight) : f.word neg r % f.signWeight = r ∧ (f.word neg r / f.signWeight % 2 == 1) = neg := by
  have hp : 0 < f.signWeight := Nat.two_pow_pos _
  unfold Ieee.Format.word
  cases neg
  · simp only [Bool.false_eq_true, if_false]
    exact ⟨Nat.mod_eq_of_lt h, by rw [Nat.div_eq_of_lt h]; rfl⟩
  · simp only [if_true]
    refine ⟨by rw [Nat.add_mod_left, Nat.mod_eq_of_lt h], ?_⟩
    rw [Nat.add_div_left _ hp, Nat.div_eq_of_lt h]; rfl
end Go.Proofs.Ytajfpjggdbifjaa
