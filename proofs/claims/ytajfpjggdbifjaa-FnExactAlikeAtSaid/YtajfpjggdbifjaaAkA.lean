/-
  Floats: results that are zero or not too small. Plain words.
-/
import Derived.Test.YtajfpjggdbifjaaFbf
namespace Go.Proofs.Ytajfpjggdbifjaa
open Go.RowKit
set_option linter.unusedVariables false
set_option linter.unusedSimpArgs false
set_option linter.unnecessarySimpa false

def sgnB (k : FloatKind) (b : Nat) : Bool := (b / k.format.signWeight % 2 == 1)
def magB (k : FloatKind) (b : Nat) : Nat := magR k.format (b % k.format.signWeight)
theorem sgn_nearest (k : FloatKind) (s : Bool) (m : Nat) (p : Int) : sgnB k (k.format.nearest s m p) = s := by
  rw [nearest_word]
  have h1 := nrung_inf k.format s m p
  have h2 := infRung_le k
  exact (word_rung (f := k.format) (neg := s) (r := nrung k.format s m p) (by omega)).2
theorem low_nearest {k : FloatKind} {s : Bool} {m N : Nat} {p b : Int} (hr : rep k.format N) (hp : b ≤ p) (hl : b ≤ k.format.leastPlace) (h : N * 2 ^ (k.format.leastPlace - b).toNat ≤ m * 2 ^ (p - b).toNat) : N ≤ magB k (k.format.nearest s m p) := by
  obtain ⟨R, h1, rfl⟩ := hr
  have hle := le_nrung (f := k.format) (neg := s) hp hl (Nat.le_of_lt h1) h
  have h2 := nrung_inf k.format s m p
  have h3 := infRung_le k
  unfold magB
  rw [nearest_word, (word_rung (f := k.format) (neg := s) (r := nrung k.format s m p) (by omega)).1]
  exact magR_le hle
theorem zero_nearest (k : FloatKind) (s : Bool) (p : Int) : magB k (k.format.nearest s 0 p) = 0 := by
  have h2 := infRung_le k
  have h0 : nrung k.format s 0 p = 0 := by unfold nrung; rw [if_pos rfl]
  unfold magB
  rw [nearest_word, h0, (word_rung (f := k.format) (neg := s) (r := 0) (by omega)).1]
  unfold magR
  rw [if_pos (binade_pos _)]
/-- Not negative, and zero or at least N. -/
structure gp (k : FloatKind) (b N : Nat) : Prop where
  fin : b % k.format.signWeight < k.format.infRung
  sgn : sgnB k b = false
  gap : magB k b = 0 ∨ N ≤ magB k b
theorem read_gp {k : FloatKind} {b : Nat} (h : b % k.format.signWeight < k.format.infRung) : ∃ m e, k.format.read b = .number (sgnB k b) m e ∧ k.format.leastPlace ≤ e ∧ m * 2 ^ (e - k.format.leastPlace).toNat = magB k b := read_mag h

theorem gp_add {k : FloatKind} {x y r N M : Nat} (hx : gp k x N) (hy : gp k y N) (hr : rep k.format N) (hb : bd k r M) (h : floatBits .add k x y = some r) : gp k r N := by
  obtain ⟨m, i, h1, h2, h3⟩ := read_gp hx.fin
  obtain ⟨n, j, g1, g2, g3⟩ := read_gp hy.fin
  rw [hx.sgn] at h1
  rw [hy.sgn] at g1
  have hfin := hb.1
  simp only [floatBits, Ieee.Format.add, h1, g1, Ieee.Datum.sum, Option.map_some, Option.some.injEq] at h
  have e1 : (i - k.format.leastPlace).toNat = (i - min i j).toNat + (min i j - k.format.leastPlace).toNat := by omega
  have e2 : (j - k.format.leastPlace).toNat = (j - min i j).toNat + (min i j - k.format.leastPlace).toNat := by omega
  have s1 : Ieee.signed false m (i - min i j).toNat = ((m * 2 ^ (i - min i j).toNat : Nat) : Int) := by
    unfold Ieee.signed; rw [if_neg (by decide), Nat.shiftLeft_eq]
  have s2 : Ieee.signed false n (j - min i j).toNat = ((n * 2 ^ (j - min i j).toNat : Nat) : Int) := by
    unfold Ieee.signed; rw [if_neg (by decide), Nat.shiftLeft_eq]
  rw [s1, s2] at h
  rw [e1, Nat.pow_add, ← Nat.mul_assoc] at h3
  rw [e2, Nat.pow_add, ← Nat.mul_assoc] at g3
  generalize m * 2 ^ (i - min i j).toNat = A at *
  generalize n * 2 ^ (j - min i j).toNat = B at *
  have e3 : ((A : Int) + (B : Int)).natAbs = A + B := by omega
  have e4 : (if (A : Int) + (B : Int) = 0 then (false && false) else decide ((A : Int) + (B : Int) < 0)) = false := by
    split
    · rfl
    · exact decide_eq_false (by omega)
  have h' : k.format.nearest false (A + B) (min i j) = r := by
    rw [← h]
    show _ = k.format.nearest _ _ _
    rw [e3, e4]
  rw [← h'] at hfin ⊢
  refine ⟨hfin, sgn_nearest k _ _ _, ?_⟩
  have h2p : 0 < 2 ^ (min i j - k.format.leastPlace).toNat := Nat.two_pow_pos _
  by_cases hz : A + B = 0
  · left
    rw [hz]
    exact zero_nearest k _ _
  · right
    refine low_nearest (b := k.format.leastPlace) hr (by omega) (Int.le_refl _) ?_
    rw [Int.sub_self, Int.toNat_zero, Nat.pow_zero, Nat.mul_one, Nat.add_mul, h3, g3]
    rcases hx.gap with hx0 | hx0
    · rcases hy.gap with hy0 | hy0
      · exfalso
        rw [hx0] at h3
        rw [hy0] at g3
        rcases Nat.mul_eq_zero.1 h3 with q | q
        · rcases Nat.mul_eq_zero.1 g3 with q' | q'
          · omega
          · omega
        · omega
      · omega
    · omega
/-- A square. -/
theorem gp_sqr {k : FloatKind} {x r A N M : Nat} (hl0 : k.format.leastPlace ≤ 0) (hf : x % k.format.signWeight < k.format.infRung) (hx : magB k x = 0 ∨ A ≤ magB k x) (hr : rep k.format N) (hN : N * unit k ≤ A * A) (hb : bd k r M) (h : floatBits .mul k x x = some r) : gp k r N := by
  obtain ⟨m, i, h1, h2, h3⟩ := read_gp hf
  have hfin := hb.1
  simp only [floatBits, Ieee.Format.mul, h1, Ieee.Datum.product, Option.map_some, Option.some.injEq] at h
  have h' : k.format.nearest false (m * m) (i + i) = r := by
    rw [← h]
    show _ = k.format.nearest _ _ _
    rw [Bool.xor_self]
  rw [← h'] at hfin ⊢
  refine ⟨hfin, sgn_nearest k _ _ _, ?_⟩
  rcases hx with hx | hx
  · left
    rw [hx] at h3
    have hm : m = 0 := by
      rcases Nat.mul_eq_zero.1 h3 with q | q
      · exact q
      · exact absurd q (Nat.ne_of_gt (Nat.two_pow_pos _))
    rw [hm]
    exact zero_nearest k _ _
  · right
    refine low_nearest (b := 2 * k.format.leastPlace) hr (by omega) (by omega) ?_
    have e1 : (i + i - 2 * k.format.leastPlace).toNat = (i - k.format.leastPlace).toNat + (i - k.format.leastPlace).toNat := by omega
    have e2 : (k.format.leastPlace - 2 * k.format.leastPlace).toNat = (-k.format.leastPlace).toNat := by omega
    rw [e1, e2, Nat.pow_add, Nat.mul_mul_mul_comm, h3]
    exact Nat.le_trans hN (Nat.mul_le_mul hx hx)
/-- A difference of two numbers that are not negative. -/
theorem sub_low {k : FloatKind} {x y r N : Nat} (hx : x % k.format.signWeight < k.format.infRung) (sx : sgnB k x = false) (hy : y % k.format.signWeight < k.format.infRung) (sy : sgnB k y = false) (h : floatBits .sub k x y = some r) :
    (magB k x = magB k y → magB k r = 0) ∧ (rep k.format N → magB k x + N ≤ magB k y ∨ magB k y + N ≤ magB k x → N ≤ magB k r) := by
  obtain ⟨m, i, h1, h2, h3⟩ := read_gp hx
  obtain ⟨n, j, g1, g2, g3⟩ := read_gp hy
  rw [sx] at h1
  rw [sy] at g1
  simp only [floatBits, Ieee.Format.sub, h1, g1, Ieee.Datum.opposite, Bool.not_false, Ieee.Datum.sum, Option.map_some, Option.some.injEq] at h
  have e1 : (i - k.format.leastPlace).toNat = (i - min i j).toNat + (min i j - k.format.leastPlace).toNat := by omega
  have e2 : (j - k.format.leastPlace).toNat = (j - min i j).toNat + (min i j - k.format.leastPlace).toNat := by omega
  have s1 : Ieee.signed false m (i - min i j).toNat = ((m * 2 ^ (i - min i j).toNat : Nat) : Int) := by
    unfold Ieee.signed; rw [if_neg (by decide), Nat.shiftLeft_eq]
  have s2 : Ieee.signed true n (j - min i j).toNat = -((n * 2 ^ (j - min i j).toNat : Nat) : Int) := by
    unfold Ieee.signed; rw [if_pos rfl, Nat.shiftLeft_eq]
  rw [s1, s2] at h
  rw [e1, Nat.pow_add, ← Nat.mul_assoc] at h3
  rw [e2, Nat.pow_add, ← Nat.mul_assoc] at g3
  generalize m * 2 ^ (i - min i j).toNat = A at *
  generalize n * 2 ^ (j - min i j).toNat = B at *
  have hP := Nat.two_pow_pos (min i j - k.format.leastPlace).toNat
  have h' : ∃ s, k.format.nearest s ((A : Int) + -(B : Int)).natAbs (min i j) = r := ⟨_, h⟩
  obtain ⟨s, h'⟩ := h'
  rw [← h', ← h3, ← g3]
  constructor
  · intro he
    have hAB : A = B := Nat.eq_of_mul_eq_mul_right hP he
    rw [hAB, show ((B : Int) + -(B : Int)).natAbs = 0 by omega]
    exact zero_nearest k _ _
  · intro hr hh
    refine low_nearest (b := k.format.leastPlace) hr (by omega) (Int.le_refl _) ?_
    rw [Int.sub_self, Int.toNat_zero, Nat.pow_zero, Nat.mul_one]
    rcases hh with hh | hh
    · have hle : A ≤ B := Nat.le_of_mul_le_mul_right (by omega) hP
      rw [show ((A : Int) + -(B : Int)).natAbs = B - A by omega, Nat.sub_mul]
      omega
    · have hle : B ≤ A := Nat.le_of_mul_le_mul_right (by omega) hP
      rw [show ((A : Int) + -(B : Int)).natAbs = A - B by omega, Nat.sub_mul]
      omega
end Go.Proofs.Ytajfpjggdbifjaa
