/-
  Floats: quotients, bounded closely from both sides. Plain words.
-/
import Derived.Test.YtajfpjggdbifjaaAkA
namespace Go.Proofs.Ytajfpjggdbifjaa
open Go.RowKit
set_option linter.unusedVariables false
set_option linter.unusedSimpArgs false
set_option linter.unnecessarySimpa false

/-- What a quotient of doubles is made from. -/
theorem quo_form {x y r : Nat} (hx : x % FloatKind.f64.format.signWeight < FloatKind.f64.format.infRung) (hy : y % FloatKind.f64.format.signWeight < FloatKind.f64.format.infRung) (hx0 : magB .f64 x ≠ 0) (hy0 : magB .f64 y ≠ 0) (h : floatBits .quo .f64 x y = some r) :
    ∃ (V x' d : Nat) (P b : Int), FloatKind.f64.format.nearest (sgnB .f64 x ^^ sgnB .f64 y) V P = r ∧ b ≤ P ∧ b ≤ FloatKind.f64.format.leastPlace ∧ (P - b).toNat = x' ∧ (FloatKind.f64.format.leastPlace - b).toNat = d ∧
      (2 ^ 20 - 1) * (magB .f64 x * unit .f64) * 2 ^ d ≤ 2 ^ 20 * (V * 2 ^ x') * magB .f64 y ∧
      2 ^ 20 * (V * 2 ^ x') * magB .f64 y ≤ (2 ^ 20 + 1) * (magB .f64 x * unit .f64) * 2 ^ d ∧
      ∀ t, t < 2 ^ 50 → magB .f64 x = t * magB .f64 y → V * 2 ^ x' = t * unit .f64 * 2 ^ d := by
  obtain ⟨m, i, h1, h2, h3⟩ := read_gp hx
  obtain ⟨n, j, g1, g2, g3⟩ := read_gp hy
  have hl0 : FloatKind.f64.format.leastPlace < 0 := by decide
  have hfb : FloatKind.f64.format.fractionBits = 52 := by decide
  have hn : n ≠ 0 := by rintro rfl; rw [Nat.zero_mul] at g3; exact hy0 g3.symm
  have hm : m ≠ 0 := by rintro rfl; rw [Nat.zero_mul] at h3; exact hx0 h3.symm
  rw [← h3, ← g3]
  unfold unit
  simp only [floatBits, Ieee.Format.div, h1, g1, Ieee.Datum.quotient, if_neg hn, Option.map_some, Option.some.injEq] at h
  have hmore : FloatKind.f64.format.fractionBits + 2 + n.log2 ≤ m.log2 + (FloatKind.f64.format.fractionBits + 2 + n.log2 - m.log2) := by omega
  generalize FloatKind.f64.format.fractionBits + 2 + n.log2 - m.log2 = more at *
  rw [Nat.shiftLeft_eq] at h
  have hD : 2 ^ 53 * n ≤ m * 2 ^ more := by
    have a1 : n < 2 ^ (n.log2 + 1) := Nat.lt_log2_self
    have a2 : 2 ^ (53 + (n.log2 + 1)) ≤ 2 ^ (m.log2 + more) := Nat.pow_le_pow_right (by decide) (by omega)
    have a3 : 2 ^ (m.log2 + more) ≤ m * 2 ^ more := by rw [Nat.pow_add]; exact Nat.mul_le_mul_right _ (Nat.log2_self_le hm)
    rw [Nat.pow_add] at a2
    have a4 := Nat.mul_le_mul_left (2 ^ 53) (Nat.le_of_lt a1)
    omega
  have hnp : 0 < n := Nat.pos_of_ne_zero hn
  have hlo : (2 ^ 20 - 1) * (2 * (m * 2 ^ more)) ≤ 2 ^ 20 * (n * (2 * (m * 2 ^ more / n) + (m * 2 ^ more % n != 0).toNat)) := by
    generalize m * 2 ^ more = D at *
    have q1 := Nat.div_add_mod D n
    have q2 := Nat.mod_lt D hnp
    generalize (D % n != 0).toNat = c
    rw [Nat.mul_add, Nat.mul_left_comm n 2]
    omega
  have hhi : 2 ^ 20 * (n * (2 * (m * 2 ^ more / n) + (m * 2 ^ more % n != 0).toNat)) ≤ (2 ^ 20 + 1) * (2 * (m * 2 ^ more)) := by
    generalize m * 2 ^ more = D at *
    have q1 := Nat.div_add_mod D n
    have b2 : ∀ b : Bool, b.toNat ≤ 1 := by decide
    have b3 := b2 (D % n != 0)
    generalize (D % n != 0).toNat = c at *
    have b5 : n * c ≤ n := by
      have := Nat.mul_le_mul_left n b3
      omega
    rw [Nat.mul_add, Nat.mul_left_comm n 2]
    omega
  have hex : ∀ K, m * 2 ^ more = K * n → 2 * (m * 2 ^ more / n) + (m * 2 ^ more % n != 0).toNat = 2 * K := by
    intro K hK
    rw [hK, Nat.mul_div_cancel _ hnp, Nat.mul_mod_left]
    simp
  generalize 2 * (m * 2 ^ more / n) + (m * 2 ^ more % n != 0).toNat = V at *
  generalize hP : i - j - (more : Int) - 1 = P at *
  generalize hL : FloatKind.f64.format.leastPlace = L at *
  obtain ⟨x', hx'⟩ : ∃ x' : Nat, P - min P L = x' := ⟨(P - min P L).toNat, by omega⟩
  obtain ⟨d, hd⟩ : ∃ d : Nat, L - min P L = d := ⟨(L - min P L).toNat, by omega⟩
  obtain ⟨jj, hjj⟩ : ∃ jj : Nat, j - L = jj := ⟨(j - L).toNat, by omega⟩
  obtain ⟨ii, hii⟩ : ∃ ii : Nat, i - L = ii := ⟨(i - L).toNat, by omega⟩
  obtain ⟨l, hl⟩ : ∃ l : Nat, -L = l := ⟨(-L).toNat, by omega⟩
  obtain ⟨c, hc⟩ : ∃ c : Nat, -1 - min P L = c := ⟨(-1 - min P L).toNat, by omega⟩
  have r1 : more + (x' + jj) = ii + c := by omega
  have r2 : d + l = c + 1 := by omega
  refine ⟨V, x', d, P, min P L, h, by omega, by omega, by omega, by omega, ?_, ?_, ?_⟩
  all_goals rw [hjj, hii, hl]
  all_goals simp only [Int.toNat_natCast]
  · have z := Nat.mul_le_mul_right (2 ^ (x' + jj)) hlo
    calc (2 ^ 20 - 1) * (m * 2 ^ ii * 2 ^ l) * 2 ^ d = (2 ^ 20 - 1) * (m * 2 ^ ii) * 2 ^ (d + l) := by rw [Nat.pow_add 2 d l]; simp only [Nat.mul_assoc, Nat.mul_comm, Nat.mul_left_comm]
      _ = (2 ^ 20 - 1) * (2 * m) * 2 ^ (ii + c) := by rw [r2, show (2 : Nat) ^ (c + 1) = 2 ^ c * 2 from Nat.pow_succ 2 c, Nat.pow_add 2 ii c]; simp only [Nat.mul_assoc, Nat.mul_comm, Nat.mul_left_comm]
      _ = (2 ^ 20 - 1) * (2 * (m * 2 ^ more)) * 2 ^ (x' + jj) := by rw [← r1, Nat.pow_add 2 more]; simp only [Nat.mul_assoc, Nat.mul_comm, Nat.mul_left_comm]
      _ ≤ 2 ^ 20 * (n * V) * 2 ^ (x' + jj) := z
      _ = 2 ^ 20 * (V * 2 ^ x') * (n * 2 ^ jj) := by rw [Nat.pow_add 2 x' jj]; simp only [Nat.mul_assoc, Nat.mul_comm, Nat.mul_left_comm]
  · have z := Nat.mul_le_mul_right (2 ^ (x' + jj)) hhi
    calc 2 ^ 20 * (V * 2 ^ x') * (n * 2 ^ jj) = 2 ^ 20 * (n * V) * 2 ^ (x' + jj) := by rw [Nat.pow_add 2 x' jj]; simp only [Nat.mul_assoc, Nat.mul_comm, Nat.mul_left_comm]
      _ ≤ (2 ^ 20 + 1) * (2 * (m * 2 ^ more)) * 2 ^ (x' + jj) := z
      _ = (2 ^ 20 + 1) * (2 * m) * 2 ^ (ii + c) := by rw [← r1, Nat.pow_add 2 more]; simp only [Nat.mul_assoc, Nat.mul_comm, Nat.mul_left_comm]
      _ = (2 ^ 20 + 1) * (m * 2 ^ ii) * 2 ^ (d + l) := by rw [r2, show (2 : Nat) ^ (c + 1) = 2 ^ c * 2 from Nat.pow_succ 2 c, Nat.pow_add 2 ii c]; simp only [Nat.mul_assoc, Nat.mul_comm, Nat.mul_left_comm]
      _ = (2 ^ 20 + 1) * (m * 2 ^ ii * 2 ^ l) * 2 ^ d := by rw [Nat.pow_add 2 d l]; simp only [Nat.mul_assoc, Nat.mul_comm, Nat.mul_left_comm]
  · intro t ht he
    by_cases hge : ii ≤ jj + more
    · obtain ⟨e, he2⟩ : ∃ e, jj + more = ii + e := ⟨jj + more - ii, by omega⟩
      have hK : m * 2 ^ more = t * 2 ^ e * n := by
        refine Nat.eq_of_mul_eq_mul_right (Nat.two_pow_pos ii) ?_
        calc m * 2 ^ more * 2 ^ ii = m * 2 ^ ii * 2 ^ more := by simp only [Nat.mul_assoc, Nat.mul_comm, Nat.mul_left_comm]
          _ = t * (n * 2 ^ jj) * 2 ^ more := by rw [he]
          _ = t * n * 2 ^ (jj + more) := by rw [Nat.pow_add]; simp only [Nat.mul_assoc, Nat.mul_comm, Nat.mul_left_comm]
          _ = t * 2 ^ e * n * 2 ^ ii := by rw [he2, Nat.pow_add]; simp only [Nat.mul_assoc, Nat.mul_comm, Nat.mul_left_comm]
      rw [hex _ hK]
      have r3 : e + 1 + x' = l + d := by omega
      calc 2 * (t * 2 ^ e) * 2 ^ x' = t * 2 ^ (e + 1 + x') := by rw [Nat.pow_add, Nat.pow_succ]; simp only [Nat.mul_assoc, Nat.mul_comm, Nat.mul_left_comm]
        _ = t * 2 ^ l * 2 ^ d := by rw [r3, Nat.pow_add, Nat.mul_assoc]
    · exfalso
      obtain ⟨e, he2⟩ : ∃ e, ii = jj + more + e := ⟨ii - (jj + more), by omega⟩
      have hK : m * 2 ^ more * 2 ^ e = t * n := by
        refine Nat.eq_of_mul_eq_mul_right (Nat.two_pow_pos jj) ?_
        calc m * 2 ^ more * 2 ^ e * 2 ^ jj = m * 2 ^ (jj + more + e) := by rw [Nat.pow_add, Nat.pow_add]; simp only [Nat.mul_assoc, Nat.mul_comm, Nat.mul_left_comm]
          _ = t * (n * 2 ^ jj) := by rw [← he2]; exact he
          _ = t * n * 2 ^ jj := by rw [Nat.mul_assoc]
      have q1 : m * 2 ^ more ≤ t * n := by
        rw [← hK]; exact Nat.le_mul_of_pos_right _ (Nat.two_pow_pos e)
      have q2 : t * n < 2 ^ 53 * n := Nat.mul_lt_mul_of_pos_right (Nat.lt_trans ht (by decide)) hnp
      omega
end Go.Proofs.Ytajfpjggdbifjaa
