/-
  Floats: how large results are; from double to single, and the root.
-/
import Derived.Laws.Externs
import Derived.Test.YtajfpjggdbifjaaFbd
namespace Go.Proofs.Ytajfpjggdbifjaa
open Go.RowKit
set_option linter.unusedVariables false
set_option linter.unusedSimpArgs false
set_option linter.unnecessarySimpa false

/-! ### Magnitudes that a format has -/
def rep (f : Ieee.Format) (N : Nat) : Prop := ∃ R, R < f.infRung ∧ magR f R = N
theorem rung_of {f : Ieee.Format} : ∀ (q m : Nat), m < 2 * f.binade → ∃ R, magR f R = m * 2 ^ q ∧ R ≤ (q + 2) * f.binade
  | 0, m, h => by
    by_cases hm : m < f.binade
    · exact ⟨m, by unfold magR; rw [if_pos hm]; simp, by omega⟩
    · exact ⟨0 * f.binade + m, magR_high (f := f) (Nat.le_of_not_lt hm) h, by omega⟩
  | q + 1, m, h => by
    by_cases hm : m < f.binade
    · obtain ⟨R, h1, h2⟩ := rung_of (f := f) q (2 * m) (by omega)
      refine ⟨R, by rw [h1, Nat.pow_succ, Nat.mul_comm 2 m, Nat.mul_assoc, Nat.mul_comm 2], Nat.le_trans h2 (Nat.mul_le_mul_right _ (by omega))⟩
    · exact ⟨(q + 1) * f.binade + m, magR_high (f := f) (Nat.le_of_not_lt hm) h, by rw [Nat.add_mul (q + 1) 2]; rw [Nat.add_mul] at *; omega⟩
theorem rep_of {f : Ieee.Format} {m q : Nat} (h : m < 2 * f.binade) (hq : (q + 2) * f.binade < f.infRung) : rep f (m * 2 ^ q) := by
  obtain ⟨R, h1, h2⟩ := rung_of (f := f) q m h
  exact ⟨R, by omega, h1⟩

/-- One, in units of the least place. -/
def unit (k : FloatKind) : Nat := 2 ^ (-k.format.leastPlace).toNat
theorem unit_pos (k : FloatKind) : 0 < unit k := Nat.two_pow_pos _

/-- A finite word of a magnitude not above N (in units of the least place). -/
def bd (k : FloatKind) (b N : Nat) : Prop := b % k.format.signWeight < k.format.infRung ∧ magR k.format (b % k.format.signWeight) ≤ N
theorem bd.mono {k : FloatKind} {b N M : Nat} (h : bd k b N) (hm : N ≤ M) : bd k b M := ⟨h.1, Nat.le_trans h.2 hm⟩
theorem bd_nearest {k : FloatKind} {s : Bool} {m N : Nat} {p b : Int} (hr : rep k.format N) (hp : b ≤ p) (hl : b ≤ k.format.leastPlace) (h : m * 2 ^ (p - b).toNat ≤ N * 2 ^ (k.format.leastPlace - b).toNat) : bd k (k.format.nearest s m p) N := by
  obtain ⟨R, h1, rfl⟩ := hr
  have hle := nrung_le (f := k.format) (neg := s) hp hl h
  have hw := infRung_le k
  rw [nearest_word]
  have e := (word_rung (f := k.format) (neg := s) (r := nrung k.format s m p) (by omega)).1
  unfold bd
  rw [e]
  exact ⟨by omega, magR_le hle⟩
theorem bd.read {k : FloatKind} {b N : Nat} (h : bd k b N) : ∃ s m e, k.format.read b = .number s m e ∧ k.format.leastPlace ≤ e ∧ m * 2 ^ (e - k.format.leastPlace).toNat ≤ N := by
  obtain ⟨m, e, h1, h2, h3⟩ := read_mag h.1
  exact ⟨_, m, e, h1, h2, by rw [h3]; exact h.2⟩

theorem signed_abs (s : Bool) (m a : Nat) : (Ieee.signed s m a).natAbs = m * 2 ^ a := by
  unfold Ieee.signed
  simp only [Nat.shiftLeft_eq]
  have e : (((m * 2 ^ a : Nat) : Int)).natAbs = m * 2 ^ a := Int.natAbs_natCast _
  cases s
  · simp only [Bool.false_eq_true, if_false]; exact e
  · simp only [if_true]; rw [Int.natAbs_neg]; exact e
theorem bd_sum {k : FloatKind} {s t : Bool} {m n : Nat} {i j : Int} {A B N : Nat} (hi : k.format.leastPlace ≤ i) (hj : k.format.leastPlace ≤ j) (hA : m * 2 ^ (i - k.format.leastPlace).toNat ≤ A) (hB : n * 2 ^ (j - k.format.leastPlace).toNat ≤ B) (hr : rep k.format N) (hN : A + B ≤ N) {r : Nat}
    (h : ((Ieee.Datum.number s m i).sum (Ieee.Datum.number t n j)).map k.format.write = some r) : bd k r N := by
  simp only [Ieee.Datum.sum, Option.map_some, Option.some.injEq] at h
  subst h
  refine bd_nearest (b := k.format.leastPlace) hr (by omega) (Int.le_refl _) ?_
  have e1 : (i - k.format.leastPlace).toNat = (i - min i j).toNat + (min i j - k.format.leastPlace).toNat := by omega
  have e2 : (j - k.format.leastPlace).toNat = (j - min i j).toNat + (min i j - k.format.leastPlace).toNat := by omega
  have h1 := Int.natAbs_add_le (Ieee.signed s m (i - min i j).toNat) (Ieee.signed t n (j - min i j).toNat)
  rw [signed_abs, signed_abs] at h1
  rw [e1, Nat.pow_add, ← Nat.mul_assoc] at hA
  rw [e2, Nat.pow_add, ← Nat.mul_assoc] at hB
  have h2 := Nat.mul_le_mul_right (2 ^ (min i j - k.format.leastPlace).toNat) h1
  rw [Nat.add_mul] at h2
  simp only [Int.sub_self, Int.toNat_zero, Nat.pow_zero, Nat.mul_one]
  omega
theorem bd_add {k : FloatKind} {x y A B N r : Nat} (hx : bd k x A) (hy : bd k y B) (hr : rep k.format N) (hN : A + B ≤ N) (h : floatBits .add k x y = some r) : bd k r N := by
  obtain ⟨s, m, i, h1, h2, h3⟩ := hx.read
  obtain ⟨t, n, j, g1, g2, g3⟩ := hy.read
  simp only [floatBits, Ieee.Format.add, h1, g1] at h
  exact bd_sum h2 g2 h3 g3 hr hN h
theorem bd_sub {k : FloatKind} {x y A B N r : Nat} (hx : bd k x A) (hy : bd k y B) (hr : rep k.format N) (hN : A + B ≤ N) (h : floatBits .sub k x y = some r) : bd k r N := by
  obtain ⟨s, m, i, h1, h2, h3⟩ := hx.read
  obtain ⟨t, n, j, g1, g2, g3⟩ := hy.read
  simp only [floatBits, Ieee.Format.sub, h1, g1, Ieee.Datum.opposite] at h
  exact bd_sum h2 g2 h3 g3 hr hN h
theorem bd_mul {k : FloatKind} {x y A B N r : Nat} (hl0 : k.format.leastPlace ≤ 0) (hx : bd k x A) (hy : bd k y B) (hr : rep k.format N) (hN : A * B ≤ N * unit k) (h : floatBits .mul k x y = some r) : bd k r N := by
  obtain ⟨s, m, i, h1, h2, h3⟩ := hx.read
  obtain ⟨t, n, j, g1, g2, g3⟩ := hy.read
  simp only [floatBits, Ieee.Format.mul, h1, g1, Ieee.Datum.product, Option.map_some, Option.some.injEq] at h
  subst h
  refine bd_nearest (b := 2 * k.format.leastPlace) hr (by omega) (by omega) ?_
  have e1 : (i + j - 2 * k.format.leastPlace).toNat = (i - k.format.leastPlace).toNat + (j - k.format.leastPlace).toNat := by omega
  have e2 : (k.format.leastPlace - 2 * k.format.leastPlace).toNat = (-k.format.leastPlace).toNat := by omega
  rw [e1, e2, Nat.pow_add]
  refine Nat.le_trans ?_ hN
  have := Nat.mul_le_mul h3 g3
  rw [Nat.mul_mul_mul_comm] at this
  exact this
/-- Divided by a number of at least 1. -/
theorem bd_quo {k : FloatKind} {x y A N r : Nat} (hl0 : k.format.leastPlace < 0) (hx : bd k x A) (hy : y % k.format.signWeight < k.format.infRung) (hy1 : unit k ≤ magR k.format (y % k.format.signWeight)) (hr : rep k.format N) (hN : 2 * A ≤ N) (h : floatBits .quo k x y = some r) : bd k r N := by
  obtain ⟨s, m, i, h1, h2, h3⟩ := hx.read
  obtain ⟨n, j, g1, g2, g3⟩ := read_mag hy
  rw [← g3] at hy1
  have hn : n ≠ 0 := by
    rintro rfl
    have := unit_pos k
    omega
  unfold unit at hy1
  simp only [floatBits, Ieee.Format.div, h1, g1, Ieee.Datum.quotient, if_neg hn, Option.map_some, Option.some.injEq] at h
  subst h
  generalize (y / k.format.signWeight % 2 == 1) = t
  have hmore : m ≠ 0 → k.format.fractionBits + 2 + n.log2 ≤ m.log2 + (k.format.fractionBits + 2 + n.log2 - m.log2) := fun _ => by omega
  generalize k.format.fractionBits + 2 + n.log2 - m.log2 = more at *
  rw [Nat.shiftLeft_eq]
  have hV : n * (2 * (m * 2 ^ more / n) + (m * 2 ^ more % n != 0).toNat) ≤ 4 * (m * 2 ^ more) := by
    by_cases hm : m = 0
    · subst hm; simp
    · have hD : n ≤ m * 2 ^ more := by
        have a1 : n < 2 ^ (n.log2 + 1) := Nat.lt_log2_self
        have a2 : 2 ^ (n.log2 + 1) ≤ 2 ^ (m.log2 + more) := Nat.pow_le_pow_right (by decide) (by have := hmore hm; omega)
        have a3 : 2 ^ (m.log2 + more) ≤ m * 2 ^ more := by rw [Nat.pow_add]; exact Nat.mul_le_mul_right _ (Nat.log2_self_le hm)
        omega
      generalize m * 2 ^ more = D at *
      have b1 := Nat.div_mul_le_self D n
      have b2 : ∀ b : Bool, b.toNat ≤ 1 := by decide
      have b3 := b2 (D % n != 0)
      generalize (D % n != 0).toNat = c at *
      rw [Nat.mul_add, Nat.mul_left_comm]
      have b4 : n * (D / n) ≤ D := by rw [Nat.mul_comm]; exact b1
      have b5 : n * c ≤ n := by
        have := Nat.mul_le_mul_left n b3
        omega
      omega
  generalize 2 * (m * 2 ^ more / n) + (m * 2 ^ more % n != 0).toNat = V at *
  generalize hP : i - j - (more : Int) - 1 = P
  generalize hL : k.format.leastPlace = L at *
  refine bd_nearest (b := min P L) hr (by omega) (by omega) ?_
  rw [hL]
  obtain ⟨x', hx'⟩ : ∃ x' : Nat, P - min P L = x' := ⟨(P - min P L).toNat, by omega⟩
  obtain ⟨d, hd⟩ : ∃ d : Nat, L - min P L = d := ⟨(L - min P L).toNat, by omega⟩
  obtain ⟨jj, hjj⟩ : ∃ jj : Nat, j - L = jj := ⟨(j - L).toNat, by omega⟩
  obtain ⟨ii, hii⟩ : ∃ ii : Nat, i - L = ii := ⟨(i - L).toNat, by omega⟩
  obtain ⟨l, hl⟩ : ∃ l : Nat, -L = l := ⟨(-L).toNat, by omega⟩
  obtain ⟨c, hc⟩ : ∃ c : Nat, -1 - min P L = c := ⟨(-1 - min P L).toNat, by omega⟩
  rw [hx', hd]
  rw [hjj, hl] at hy1
  rw [hii] at h3
  simp only [Int.toNat_natCast] at hy1 h3 ⊢
  have r1 : more + (x' + jj) = ii + c := by omega
  have r2 : d + l = c + 1 := by omega
  refine Nat.le_of_mul_le_mul_right ?_ (Nat.two_pow_pos l)
  calc V * 2 ^ x' * 2 ^ l ≤ V * 2 ^ x' * (n * 2 ^ jj) := Nat.mul_le_mul_left _ hy1
    _ = n * V * 2 ^ (x' + jj) := by rw [Nat.pow_add, Nat.mul_mul_mul_comm, Nat.mul_comm V n]
    _ ≤ 4 * (m * 2 ^ more) * 2 ^ (x' + jj) := Nat.mul_le_mul_right _ hV
    _ = 4 * (m * 2 ^ ii) * 2 ^ c := by rw [Nat.mul_assoc 4, Nat.mul_assoc m, ← Nat.pow_add, r1, Nat.pow_add, ← Nat.mul_assoc m, ← Nat.mul_assoc 4]
    _ ≤ 4 * A * 2 ^ c := Nat.mul_le_mul_right _ (Nat.mul_le_mul_left _ h3)
    _ = 2 * A * 2 ^ (c + 1) := by rw [Nat.pow_succ, Nat.mul_comm (2 ^ c) 2, ← Nat.mul_assoc, Nat.mul_right_comm 2 A 2]
    _ ≤ N * 2 ^ (c + 1) := Nat.mul_le_mul_right _ hN
    _ = N * 2 ^ d * 2 ^ l := by rw [← r2, Nat.pow_add, Nat.mul_assoc]

/-! ### The root -/
theorem rootFrom_le (n : Nat) : ∀ (todo root : Nat), root * root ≤ n → Ieee.Datum.rootFrom n todo root * Ieee.Datum.rootFrom n todo root ≤ n
  | 0, root, h => h
  | todo + 1, root, h => by
    unfold Ieee.Datum.rootFrom
    simp only
    refine rootFrom_le n todo _ ?_
    split
    · assumption
    · exact h
/-- The root up to which not-a-number. -/
def fsq : Option Nat → Option Nat
  | some x => FloatKind.f64.format.sqrt x
  | none => none
theorem sqrt_num {x r : Nat} (h : FloatKind.f64.format.sqrt x = some r) : isN .f64 r = false := map_num (fun _ h => root_num h) h
theorem sqrt_nan {x : Nat} (h : isN .f64 x = true) : FloatKind.f64.format.sqrt x = none := by
  obtain ⟨s, t, hd⟩ := read_nan h
  simp [Ieee.Format.sqrt, hd, Ieee.Datum.root]
theorem sqrt_fa (x : Nat) : FloatKind.f64.format.sqrt x = fsq (fa .f64 x) := by
  cases hx : isN .f64 x with
  | true => rw [fa_nan hx, sqrt_nan hx]; rfl
  | false => rw [fa_num hx]; rfl
theorem bd_sqrt {x A N r : Nat} (hx : bd .f64 x A) (hr : rep FloatKind.f64.format N) (hN : 4 * A * unit .f64 ≤ N * N) (h : FloatKind.f64.format.sqrt x = some r) : bd .f64 r N := by
  have hL2 : FloatKind.f64.format.leastPlace ≤ -2 := by decide
  unfold unit at hN
  obtain ⟨s, m, i, h1, h2, h3⟩ := hx.read
  unfold Ieee.Format.sqrt at h
  rw [h1] at h
  unfold Ieee.Datum.root at h
  simp only at h
  by_cases hm : m = 0
  · rw [if_pos hm] at h
    simp only [Option.map_some, Option.some.injEq] at h
    subst h hm
    exact bd_nearest (b := FloatKind.f64.format.leastPlace) hr (by omega) (Int.le_refl _) (by simp)
  rw [if_neg hm] at h
  cases s
  · simp only [Bool.false_eq_true, if_false, Option.map_some, Option.some.injEq] at h
    subst h
    generalize hmo : 2 * (FloatKind.f64.format.fractionBits + 2) - m.log2 = m1
    have hev : (i - ((m1 + ((i - (m1 : Int)) % 2).toNat : Nat) : Int)) % 2 = 0 := by omega
    generalize m1 + ((i - (m1 : Int)) % 2).toNat = more at *
    rw [Nat.shiftLeft_eq]
    have hW := rootFrom_le (m * 2 ^ more) ((m * 2 ^ more).log2 / 2 + 1) 0 (by omega)
    generalize Ieee.Datum.rootFrom (m * 2 ^ more) ((m * 2 ^ more).log2 / 2 + 1) 0 = W at *
    have hV : (2 * W + (W * W != m * 2 ^ more).toNat) * (2 * W + (W * W != m * 2 ^ more).toNat) ≤ 16 * (m * 2 ^ more) := by
      have hp : 1 ≤ m * 2 ^ more := Nat.mul_pos (by omega) (Nat.two_pow_pos _)
      have b2 : ∀ b : Bool, b.toNat ≤ 1 := by decide
      have b3 := b2 (W * W != m * 2 ^ more)
      generalize (W * W != m * 2 ^ more).toNat = c at *
      generalize m * 2 ^ more = D at *
      have h4 : (2 * W + c) * (2 * W + c) ≤ (2 * W + 1) * (2 * W + 1) := Nat.mul_le_mul (by omega) (by omega)
      by_cases hW0 : W = 0
      · subst hW0; omega
      · have h5 : (2 * W + 1) * (2 * W + 1) ≤ (4 * W) * (4 * W) := Nat.mul_le_mul (by omega) (by omega)
        have h6 : (4 * W) * (4 * W) = 16 * (W * W) := by rw [Nat.mul_mul_mul_comm]
        omega
    generalize 2 * W + (W * W != m * 2 ^ more).toNat = V at *
    generalize hP : (i - (more : Int)) / 2 - 1 = P
    have hP2 : 2 * P = i - more - 2 := by omega
    generalize hL : FloatKind.f64.format.leastPlace = L at *
    refine bd_nearest (b := min P L) hr (by omega) (by omega) ?_
    rw [hL]
    obtain ⟨l, hl⟩ : ∃ l : Nat, -L = l := ⟨(-L).toNat, by omega⟩
    rw [hl] at hN
    obtain ⟨x', hx'⟩ : ∃ x' : Nat, P - min P L = x' := ⟨(P - min P L).toNat, by omega⟩
    obtain ⟨d, hd⟩ : ∃ d : Nat, L - min P L = d := ⟨(L - min P L).toNat, by omega⟩
    obtain ⟨ii, hii⟩ : ∃ ii : Nat, i - L = ii := ⟨(i - L).toNat, by omega⟩
    obtain ⟨c, hc⟩ : ∃ c : Nat, L - 2 - 2 * min P L = c := ⟨(L - 2 - 2 * min P L).toNat, by omega⟩
    rw [hx', hd]
    rw [hii] at h3
    simp only [Int.toNat_natCast] at h3 hN ⊢
    have r1 : more + (x' + x') = ii + c := by omega
    have r2 : d + d + l = c + 2 := by omega
    refine Nat.mul_self_le_mul_self_iff.1 ?_
    refine Nat.le_of_mul_le_mul_right ?_ (Nat.two_pow_pos l)
    have q1 : V * 2 ^ x' * (V * 2 ^ x') = V * V * 2 ^ (x' + x') := by rw [Nat.pow_add, Nat.mul_mul_mul_comm]
    have q2 : N * 2 ^ d * (N * 2 ^ d) = N * N * 2 ^ (d + d) := by rw [Nat.pow_add, Nat.mul_mul_mul_comm]
    rw [q1, q2]
    generalize hT : 2 ^ l = T at *
    have q3 : V * V * 2 ^ (x' + x') ≤ 4 * A * 2 ^ (c + 2) := by
      calc V * V * 2 ^ (x' + x') ≤ 16 * (m * 2 ^ more) * 2 ^ (x' + x') := Nat.mul_le_mul_right _ hV
        _ = 16 * (m * 2 ^ ii) * 2 ^ c := by rw [Nat.mul_assoc 16, Nat.mul_assoc m, ← Nat.pow_add, r1, Nat.pow_add, ← Nat.mul_assoc m, ← Nat.mul_assoc 16]
        _ ≤ 16 * A * 2 ^ c := Nat.mul_le_mul_right _ (Nat.mul_le_mul_left _ h3)
        _ = 4 * A * 2 ^ (c + 2) := by rw [Nat.pow_add, Nat.mul_comm (2 ^ c), ← Nat.mul_assoc, Nat.mul_right_comm 4 A]
    have q4 : 2 ^ (d + d) * T = 2 ^ (c + 2) := by rw [← hT, ← Nat.pow_add, r2]
    calc V * V * 2 ^ (x' + x') * T ≤ 4 * A * 2 ^ (c + 2) * T := Nat.mul_le_mul_right _ q3
      _ = 4 * A * T * 2 ^ (c + 2) := Nat.mul_right_comm _ _ _
      _ ≤ N * N * 2 ^ (c + 2) := Nat.mul_le_mul_right _ hN
      _ = N * N * 2 ^ (d + d) * T := by rw [Nat.mul_assoc (N * N), q4]
  · simp at h

/-! ### From double to single -/
def fnar : Option Nat → Option Nat
  | some x => floatToFloatBits .f64 x .f32
  | none => none
def nar (b : Nat) (w : World) : Nat := match floatToFloatBits .f64 b .f32 with
  | some r => r
  | none => (Question.nanConv .f32 b).cut (w.tape w.drawn (.nanConv .f32 b))
def narn (b : Nat) : Nat := match floatToFloatBits .f64 b .f32 with
  | some _ => 0
  | none => 1
/-- A double that a single can hold. -/
def narOk (b : Nat) : Prop := isN .f64 b = true ∨ ∃ r, floatToFloatBits .f64 b .f32 = some r
theorem isN_narrow {b r : Nat} (h : floatToFloatBits .f64 b .f32 = some r) : isN .f32 r = false := by
  unfold floatToFloatBits at h
  rw [if_neg (by decide)] at h
  split at h
  · cases h
  · cases h; exact isN_write .f32 rfl
  · split at h
    · cases h
    · cases h; exact isN_write .f32 rfl
theorem narrow_nan {b : Nat} (h : isN .f64 b = true) : floatToFloatBits .f64 b .f32 = none := by
  obtain ⟨s, t, hd⟩ := read_nan h
  unfold floatToFloatBits
  rw [if_neg (by decide)]
  have hd' : FloatKind.f64.decode b = .nan s t := hd
  rw [hd']
theorem fa_nar {b : Nat} (h : narOk b) (w : World) : fa .f32 (nar b w) = fnar (fa .f64 b) := by
  rcases h with h | ⟨r, h⟩
  · unfold nar
    rw [narrow_nan h, fa_nan h, fa_nan (isN_cutConv _ _ _)]
    rfl
  · have hb : isN .f64 b = false := by
      cases hb : isN .f64 b with
      | false => rfl
      | true => rw [narrow_nan hb] at h; cases h
    unfold nar
    rw [h, fa_num hb, fa_num (isN_narrow h)]
    exact h.symm
theorem run_narrow {P : Program} {b : Nat} (h : narOk b) (w : World) {s d : TypeId} (hs : (P.underlying s).isSome = true) (hd : P.underlying d = some (.float .f32)) :
    (convert s d (.float .f64 b)).run P w = .ok (.float .f32 (nar b w)) (w.drewN (narn b)) := by
  rcases h with h | ⟨r, h⟩
  · have hb := narrow_nan h
    obtain ⟨sg, t, hd'⟩ := read_nan h
    obtain ⟨u, hs'⟩ := Option.isSome_iff_exists.1 hs
    have hd2 : FloatKind.f64.decode b = .nan sg t := hd'
    simp only [nar, narn, hb]
    cases u <;> simp [convert, run_underlying hs', run_underlying hd, Conv.floatToFloat, hd2, choose, Sem.run, Question.forced] <;> rfl
  · rw [run_convert_float_float w s d .f64 .f32 b r hs hd h]; simp [nar, narn, h]; rfl
/-- A double of at most 2 ^ 100 has a single. -/
theorem narOk_of {b : Nat} (h : bd .f64 b (2 ^ 100 * unit .f64)) : narOk b := by
  obtain ⟨s, m, e, h1, h2, h3⟩ := h.read
  refine .inr ⟨Ieee.single.write (.number s m e), ?_⟩
  unfold floatToFloatBits
  rw [if_neg (by decide)]
  have h1' : FloatKind.f64.decode b = .number s m e := h1
  rw [h1']
  have hr : rep FloatKind.f32.format (1 * 2 ^ 249) := rep_of (by decide) (by decide)
  have hd : FloatKind.f32.format.leastPlace - FloatKind.f64.format.leastPlace = 925 := by decide
  have hd0 : -FloatKind.f64.format.leastPlace = 1074 := by decide
  unfold unit at h3
  have hb : bd .f32 (FloatKind.f32.format.nearest s m e) (1 * 2 ^ 249) := by
    refine bd_nearest (b := FloatKind.f64.format.leastPlace) hr (by omega) (by omega) ?_
    generalize hu : (FloatKind.f32.format.leastPlace - FloatKind.f64.format.leastPlace).toNat = u
    generalize hv : (-FloatKind.f64.format.leastPlace).toNat = v at *
    have huv : 100 + v = 249 + u := by omega
    clear hu hv hd hd0
    rw [← Nat.pow_add, huv] at h3
    rw [Nat.one_mul, ← Nat.pow_add]
    exact h3
  obtain ⟨s', m', e', g1, _⟩ := hb.read
  have g2 : (FloatKind.f32.decode (FloatKind.f32.encode (.number s m e))) = .number s' m' e' := g1
  show (if (FloatKind.f32.decode (FloatKind.f32.encode (.number s m e))).isInfinity = true then none else some _) = _
  rw [g2]
  rfl

/-! ### Whole numbers as doubles -/
theorem rep_unit {M : Nat} (q : Nat) (hM : M < 2 ^ 53) (hq : q ≤ 900) : rep FloatKind.f64.format (M * 2 ^ q * unit .f64) := by
  have hu : (-FloatKind.f64.format.leastPlace).toNat ≤ 1074 := by decide
  unfold unit
  rw [Nat.mul_assoc, ← Nat.pow_add]
  refine rep_of (by have : 2 * FloatKind.f64.format.binade = 2 ^ 53 := by decide
                    omega) ?_
  generalize (-FloatKind.f64.format.leastPlace).toNat = v at *
  refine Nat.lt_of_le_of_lt (Nat.mul_le_mul_right _ (show q + v + 2 ≤ 2046 by omega)) (by decide)
theorem rep_unit0 {M : Nat} (hM : M < 2 ^ 53) : rep FloatKind.f64.format (M * unit .f64) := by
  have := rep_unit (M := M) 0 hM (by omega)
  rw [Nat.pow_zero, Nat.mul_one] at this
  exact this
theorem bd_int {n : Int} {M : Nat} (h : n.natAbs ≤ M) (hM : M < 2 ^ 53) : bd .f64 (floatOfInt .f64 n) (M * unit .f64) := by
  refine bd_nearest (b := FloatKind.f64.format.leastPlace) (rep_unit0 hM) (by decide) (Int.le_refl _) ?_
  have e1 : ((0 : Int) - FloatKind.f64.format.leastPlace) = -FloatKind.f64.format.leastPlace := by omega
  rw [e1, Int.sub_self, Int.toNat_zero, Nat.pow_zero, Nat.mul_one]
  exact Nat.mul_le_mul_right _ h
/-- A whole number from 1 on, as a double, is at least 1. -/
theorem int_ge1 {n : Nat} (h1 : 1 ≤ n) (h : n < 2 ^ 53) : floatOfInt .f64 (n : Int) % FloatKind.f64.format.signWeight < FloatKind.f64.format.infRung ∧ unit .f64 ≤ magR FloatKind.f64.format (floatOfInt .f64 (n : Int) % FloatKind.f64.format.signWeight) := by
  refine ⟨(bd_int (n := n) (M := n) (by simp) h).1, ?_⟩
  obtain ⟨R, h2, h3⟩ := rep_unit0 (M := 1) (by decide)
  have e1 : ((0 : Int) - FloatKind.f64.format.leastPlace) = -FloatKind.f64.format.leastPlace := by omega
  have hle := le_nrung (f := FloatKind.f64.format) (neg := decide ((n : Int) < 0)) (mag := (n : Int).natAbs) (place := 0) (b := FloatKind.f64.format.leastPlace) (R := R) (by decide) (Int.le_refl _) (by omega) (by
    rw [h3, e1, Int.sub_self, Int.toNat_zero, Nat.pow_zero, Nat.mul_one]
    exact Nat.mul_le_mul_right _ (by simpa using h1))
  have hw := infRung_le .f64
  have hi := nrung_inf FloatKind.f64.format (decide ((n : Int) < 0)) (n : Int).natAbs 0
  have e : floatOfInt .f64 (n : Int) % FloatKind.f64.format.signWeight = nrung FloatKind.f64.format (decide ((n : Int) < 0)) (n : Int).natAbs 0 := by
    show FloatKind.f64.format.nearest _ _ _ % _ = _
    rw [nearest_word]
    exact (word_rung (by omega)).1
  rw [e]
  have := magR_le (f := FloatKind.f64.format) hle
  rw [h3, Nat.one_mul] at this
  exact this
end Go.Proofs.Ytajfpjggdbifjaa
