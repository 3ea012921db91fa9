/-
  A square's mean is zero or not too small; so what it divides can be made a single. Plain words.
-/
import Derived.Test.YtajfpjggdbifjaaAkC
import Derived.Test.YtajfpjggdbifjaaAtP
namespace Go.Proofs.Ytajfpjggdbifjaa
open Go.RowKit
set_option linter.unusedVariables false
set_option linter.unusedSimpArgs false
set_option linter.unnecessarySimpa false

def posD (X : Option Nat) : Bool := ford .f64 X (fa .f64 0) == some .gt
def gpo (X : Option Nat) (N : Nat) : Prop := ∀ b, X = some b → gp .f64 b N

theorem gtr_mag {b : Nat} (hf : b % FloatKind.f64.format.signWeight < FloatKind.f64.format.infRung) (h : FloatKind.f64.format.order b 0 = some .gt) : magB .f64 b ≠ 0 := by
  intro h0
  obtain ⟨m, e, h1, h2, h3⟩ := read_gp hf
  rw [h0] at h3
  have hm : m = 0 := by
    rcases Nat.mul_eq_zero.1 h3 with q | q
    · exact q
    · exact absurd q (Nat.ne_of_gt (Nat.two_pow_pos _))
  have hz : FloatKind.f64.format.read 0 = .number false 0 (-1074) := by decide
  have s0 : ∀ (s : Bool) (n : Nat), Ieee.signed s 0 n = 0 := by
    intro s n
    unfold Ieee.signed
    rw [Nat.zero_shiftLeft]
    split <;> rfl
  unfold Ieee.Format.order at h
  rw [h1, hz, hm] at h
  simp only [Ieee.Datum.order, s0] at h
  exact absurd h (by decide)

theorem cellF_natA {W H k : Nat} (h0 : 0 < W) (h : k < H * W) : cellF W H ((k % W : Nat) : Int) ((k / W : Nat) : Int) = k := by
  have hu2 : k % W < W := Nat.mod_lt _ h0
  have hv2 : k / W < H := Nat.div_lt_of_lt_mul (by rw [Nat.mul_comm]; omega)
  have hm := Nat.mod_add_div k W
  generalize k % W = u at *
  generalize k / W = v at *
  rw [cellF_id (by omega) (by omega) (by omega) (by omega), ← Int.natCast_mul]
  omega

theorem dif_gap {E n : Nat} {zs : List Int} {z : Int} {r : Nat} (hE : steps E) (hs : 0 ≤ sumTo zs n ∧ sumTo zs n ≤ 256000) (h1 : 1 ≤ n) (h2 : n ≤ 256) (hz : 0 ≤ z ∧ z ≤ 1000) (h : fop .sub .f64 (intD z) (mnD zs n) = some r) :
    r % FloatKind.f64.format.signWeight < FloatKind.f64.format.infRung ∧ (magB .f64 r = 0 ∨ 512 * (512 * E) ≤ magB .f64 r) := by
  have hm := mnD_bd (zs := zs) hs h1 h2
  have hd : bdo (fop .sub .f64 (intD z) (mnD zs n)) (2 ^ 20 * unit .f64) :=
    bdo_sub (A := 1000 * unit .f64) (bdo_int (by omega) (by decide)) hm (rep_unit0 (by decide)) (by rw [← Nat.add_mul]; exact Nat.mul_le_mul_right _ (by decide))
  refine ⟨(hd r h).1, ?_⟩
  obtain ⟨x, m, g1, g2, g3⟩ := fop_some h
  have hmf := (hm m g2).1
  rw [intD_some] at g1
  cases g1
  unfold mnD at g2
  obtain ⟨a, b, k1, k2, k3⟩ := fop_some g2
  rw [intD_some] at k1 k2
  cases k1; cases k2
  obtain ⟨T, hT⟩ := Int.eq_ofNat_of_zero_le hs.1
  obtain ⟨t, rfl⟩ := Int.eq_ofNat_of_zero_le hz.1
  rw [hT] at k3 hs
  obtain ⟨ms, mg⟩ := mean_gap (t := t) hE h1 h2 (by omega) (by omega) k3
  obtain ⟨x1, x2, x3⟩ := int_mag (n := t) (by omega)
  obtain ⟨p, q⟩ := sub_low (N := 512 * (512 * E)) x1 x2 hmf ms g3
  have hr := hE.r3 1 (by decide)
  rw [Nat.one_mul] at hr
  rw [x3] at p q
  rcases mg with mg | mg | mg
  · left; exact p mg.symm
  · right; exact q hr (.inr mg)
  · right; exact q hr (.inl mg)

theorem sqr_gap {E : Nat} {X : Option Nat} {M : Nat} (hE : steps E) (hX : ∀ r, X = some r → r % FloatKind.f64.format.signWeight < FloatKind.f64.format.infRung ∧ (magB .f64 r = 0 ∨ 512 * (512 * E) ≤ magB .f64 r)) (hb : bdo (fop .mul .f64 X X) M) : gpo (fop .mul .f64 X X) (512 * E) := by
  intro r hr
  obtain ⟨x, y, h1, h2, h3⟩ := fop_some hr
  rw [h1] at h2
  cases h2
  obtain ⟨f, g⟩ := hX x h1
  have hrep := hE.r2 1 (by decide)
  rw [Nat.one_mul] at hrep
  refine gp_sqr (A := 512 * (512 * E)) (by decide) f g hrep ?_ (hb r hr) h3
  rw [hE.u]
  generalize 512 * E = D
  rw [Nat.mul_left_comm, ← Nat.mul_assoc]
  exact Nat.le_refl _

theorem sm_gap {E : Nat} {W H : Nat} {zs : List Int} {n : Nat} (hE : steps E) (hs : 0 ≤ sumTo zs n ∧ sumTo zs n ≤ 256000) (h1 : 1 ≤ n) (h2 : n ≤ 256) (hz : ∀ k, k < n → 0 ≤ zs[k]?.getD 0 ∧ zs[k]?.getD 0 ≤ 1000) (ht : ∀ u v, 0 ≤ topZ W H zs u v ∧ topZ W H zs u v ≤ 1000) (hW : 0 < W) (hn : n = H * W) : ∀ k, k ≤ n → gpo (smD W H zs n 0 0 k) (512 * E)
  | 0, _ => by
    intro b hb
    unfold smD at hb
    rw [show fa .f64 0 = some 0 from by decide] at hb
    cases hb
    exact ⟨by rw [Nat.zero_mod]; decide, by decide, .inl (by unfold magB; rw [Nat.zero_mod]; unfold magR; rw [if_pos (binade_pos _)])⟩
  | k + 1, h => by
    have hm := mnD_bd (zs := zs) hs h1 h2
    have he : topZ W H zs (((k % ((W : Nat) : Int).toNat : Nat) : Int) + 0) (((k / ((W : Nat) : Int).toNat : Nat) : Int) + 0) = zs[k]?.getD 0 := by
      rw [Int.add_zero, Int.add_zero, Int.toNat_natCast]
      unfold topZ
      rw [cellF_natA hW (by omega), Int.toNat_natCast]
    have hb : bdo (trmD W H zs n 0 0 k) (1 * 2 ^ 40 * unit .f64) := trmD_bd hm (hz k (by omega)) ht
    have hb2 := smD_bd (W := W) (H := H) (x := 0) (y := 0) hm hz ht (k + 1) h (by omega)
    have hq : gpo (trmD W H zs n 0 0 k) (512 * E) := by
      unfold trmD at hb ⊢
      rw [he] at hb ⊢
      exact sqr_gap hE (fun r hr => dif_gap hE hs h1 h2 (hz k (by omega)) hr) hb
    have hp := sm_gap hE hs h1 h2 hz ht hW hn k (by omega)
    have hrep := hE.r2 1 (by decide)
    rw [Nat.one_mul] at hrep
    intro b hb'
    have hb3 := hb2 b hb'
    obtain ⟨x, y, g1, g2, g3⟩ := fop_some hb'
    exact gp_add (hp x g1) (hq y g2) hrep hb3 g3

theorem al_pos {E : Nat} {W H : Int} {zs : List Int} {n : Nat} (hE : steps E) (hv : vldH W H zs = true) (hz : zs.length = n) (hp : posD (alD W H zs n 0 0) = true) {b : Nat} (hb : alD W H zs n 0 0 = some b) :
    b % FloatKind.f64.format.signWeight < FloatKind.f64.format.infRung ∧ magB .f64 b ≠ 0 ∧ E ≤ magB .f64 b := by
  have hf := (alD_bd (x := 0) (y := 0) hv hz b hb).1
  have hg : magB .f64 b ≠ 0 := by
    refine gtr_mag hf ?_
    have h9 : b = b := rfl
    unfold posD at hp
    have hn : fa .f64 b = some b := by
      refine fa_num ?_
      cases hN : isN .f64 b with
      | false => rfl
      | true =>
        have := (isN_iff .f64 b).1 hN
        omega
    rw [hb, ← hn, ← order_fa] at hp
    simpa using hp
  refine ⟨hf, hg, ?_⟩
  obtain ⟨hW, hH, hnn, ⟨hn1, hn2⟩, hb2⟩ := vld_facts hv hz
  have hs := sumTo_bd (M := 1000) (by omega) hz hb2 n (Nat.le_refl _)
  obtain ⟨Wn, rfl⟩ := Int.eq_ofNat_of_zero_le (show 0 ≤ W by omega)
  obtain ⟨Hn, rfl⟩ := Int.eq_ofNat_of_zero_le (show 0 ≤ H by omega)
  have hnn2 : n = Hn * Wn := by
    rw [Nat.mul_comm]
    have : (n : Int) = ((Wn * Hn : Nat) : Int) := by rw [Int.natCast_mul]; omega
    omega
  have hsm := sm_gap hE (zs := zs) (n := n) (W := Wn) (H := Hn) (by omega) (by omega) hn2 hb2 (topZ_bd hb2 (by omega) (by omega) hnn) (by omega) hnn2 n (Nat.le_refl _)
  unfold alD at hb
  obtain ⟨x, y, g1, g2, g3⟩ := fop_some hb
  rw [intD_some] at g2
  cases g2
  obtain ⟨y1, y2, y3⟩ := int_mag (n := n) (by omega)
  have up := unit_pos .f64
  have hy0 : magB .f64 (floatOfInt .f64 (n : Int)) ≠ 0 := by
    rw [y3]; exact Nat.ne_of_gt (Nat.mul_pos (by omega) up)
  obtain ⟨x1, x2, x3⟩ := hsm x g1
  have hx0 : magB .f64 x ≠ 0 := fun h0 => hg (quo_zero x1 y1 h0 hy0 g3)
  have hxE : 512 * E ≤ magB .f64 x := by
    rcases x3 with x3 | x3
    · exact absurd x3 hx0
    · exact x3
  have hrep := hE.r 1 (by decide)
  rw [Nat.one_mul] at hrep
  refine quo_low x1 y1 hx0 hy0 hrep ?_ g3
  rw [y3]
  calc 2 ^ 20 * E * (n * unit .f64) = 2 ^ 20 * (n * E) * unit .f64 := by simp only [Nat.mul_assoc, Nat.mul_comm, Nat.mul_left_comm]
    _ ≤ (2 ^ 20 - 1) * magB .f64 x * unit .f64 := by
      refine Nat.mul_le_mul_right _ ?_
      have := Nat.mul_le_mul_right E hn2
      omega
    _ = (2 ^ 20 - 1) * (magB .f64 x * unit .f64) := by rw [Nat.mul_assoc]

theorem quo_zero_bd {x y r : Nat} (hx : x % FloatKind.f64.format.signWeight < FloatKind.f64.format.infRung) (hy : y % FloatKind.f64.format.signWeight < FloatKind.f64.format.infRung) (hx0 : magB .f64 x = 0) (hy0 : magB .f64 y ≠ 0) (h : floatBits .quo .f64 x y = some r) : bd .f64 r (0 * unit .f64) := by
  obtain ⟨m, i, h1, h2, h3⟩ := read_gp hx
  obtain ⟨n, j, g1, g2, g3⟩ := read_gp hy
  have hn : n ≠ 0 := by rintro rfl; rw [Nat.zero_mul] at g3; exact hy0 g3.symm
  rw [hx0] at h3
  have hm : m = 0 := by
    rcases Nat.mul_eq_zero.1 h3 with q | q
    · exact q
    · exact absurd q (Nat.ne_of_gt (Nat.two_pow_pos _))
  subst hm
  simp only [floatBits, Ieee.Format.div, h1, g1, Ieee.Datum.quotient, if_neg hn, Option.map_some, Option.some.injEq, Nat.zero_shiftLeft, Nat.zero_div, Nat.zero_mod, Nat.mul_zero] at h
  rw [← h]
  refine bd_nearest (b := min _ FloatKind.f64.format.leastPlace) (rep_unit0 (by decide)) (Int.min_le_left _ _) (Int.min_le_right _ _) ?_
  refine Nat.le_trans (Nat.le_of_eq ?_) (Nat.zero_le _)
  simp

theorem rat_bd {W H : Int} {zs : List Int} {n : Nat} {x y : Int} (hv : vldH W H zs = true) (hz : zs.length = n) (hp : posD (alD W H zs n 0 0) = true) : bdo (fop .quo .f64 (alD W H zs n x y) (alD W H zs n 0 0)) (2 ^ 100 * unit .f64) := by
  intro r hr
  obtain ⟨E, hE⟩ := steps_ex
  obtain ⟨a, b, g1, g2, g3⟩ := fop_some hr
  obtain ⟨b1, b2, b3⟩ := al_pos hE hv hz hp g2
  obtain ⟨a1, a2⟩ := alD_bd (x := x) (y := y) hv hz a g1
  have a3 : magB .f64 a ≤ 2 ^ 49 * unit .f64 := a2
  by_cases ha : magB .f64 a = 0
  · exact (quo_zero_bd a1 b1 ha b2 g3).mono (Nat.mul_le_mul_right _ (by decide))
  · have hq : bd .f64 r (1 * 2 ^ 100 * unit .f64) := by
      refine quo_high a1 b1 ha b2 (rep_unit 100 (by decide) (by decide)) ?_ g3
      have hu : unit .f64 = 134217728 * E := by rw [hE.u]; omega
      generalize magB .f64 a = A at *
      generalize magB .f64 b = B at *
      calc (2 ^ 20 + 1) * (A * unit .f64) ≤ (2 ^ 20 + 1) * (2 ^ 49 * unit .f64 * unit .f64) := Nat.mul_le_mul_left _ (Nat.mul_le_mul_right _ a3)
        _ = (2 ^ 20 + 1) * (2 ^ 49 * unit .f64 * (134217728 * E)) := by rw [← hu]
        _ = ((2 ^ 20 + 1) * (2 ^ 49 * 134217728)) * (unit .f64 * E) := by simp only [Nat.mul_assoc, Nat.mul_comm, Nat.mul_left_comm]
        _ ≤ (2 ^ 20 * (1 * 2 ^ 100)) * (unit .f64 * E) := Nat.mul_le_mul_right _ (by decide)
        _ = 2 ^ 20 * (1 * 2 ^ 100 * unit .f64) * E := by simp only [Nat.mul_assoc, Nat.mul_comm, Nat.mul_left_comm]
        _ ≤ 2 ^ 20 * (1 * 2 ^ 100 * unit .f64) * B := Nat.mul_le_mul_left _ b3
    exact hq.mono (Nat.mul_le_mul_right _ (by decide))
end Go.Proofs.Ytajfpjggdbifjaa
