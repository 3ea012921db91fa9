/-
  Contracts of sums, cells and tops of heights, by the reference and by the program.
-/
import Derived.Test.YtajfpjggdbifjaaHtsI
namespace Go.Proofs.Ytajfpjggdbifjaa
open Go.RowKit
set_option linter.unusedVariables false
set_option linter.unusedSimpArgs false
set_option linter.unnecessarySimpa false

theorem vld_facts {W H : Int} {zs : List Int} {n : Nat} (hv : vldH W H zs = true) (hz : zs.length = n) : (2 ≤ W ∧ W ≤ 16) ∧ (2 ≤ H ∧ H ≤ 16) ∧ (n : Int) = W * H ∧ (4 ≤ n ∧ n ≤ 256) ∧ ∀ k, k < n → 0 ≤ zs[k]?.getD 0 ∧ zs[k]?.getD 0 ≤ 1000 := by
  obtain ⟨h1, h2, h3⟩ := vldH_iff.1 hv
  obtain ⟨⟨a, b⟩, c, d⟩ := szH_iff.1 h1
  have hm := mul_bd (by omega) b (by omega) d
  have hm2 := Int.mul_le_mul a c (by omega) (by omega)
  refine ⟨⟨a, b⟩, ⟨c, d⟩, by rw [← hz]; exact h2, ⟨by omega, by omega⟩, fun k hk => ?_⟩
  exact inB_iff.1 (allIn_true h3 (k := k) (by omega))

def sumTo (zs : List Int) (k : Nat) : Int := (zs.take k).sum
theorem sumTo_zero (zs : List Int) : sumTo zs 0 = 0 := by simp [sumTo]
theorem sumTo_succ (zs : List Int) {k : Nat} (h : k < zs.length) : sumTo zs (k + 1) = sumTo zs k + zs[k]?.getD 0 := by
  unfold sumTo
  rw [List.take_succ_eq_append_getElem h, List.sum_append]
  simp [h]
theorem sumTo_bd {zs : List Int} {n : Nat} {M : Int} (hM : 0 ≤ M) (hz : zs.length = n) (h : ∀ k, k < n → 0 ≤ zs[k]?.getD 0 ∧ zs[k]?.getD 0 ≤ M) : ∀ k, k ≤ n → 0 ≤ sumTo zs k ∧ sumTo zs k ≤ M * k
  | 0, _ => by simp [sumTo]
  | k + 1, hk => by
    have ih := sumTo_bd hM hz h k (by omega)
    have hb := h k (by omega)
    rw [sumTo_succ zs (by omega)]
    have : M * ((k + 1 : Nat) : Int) = M * k + M := by rw [Int.natCast_add, Int.mul_add]; simp
    omega

theorem l05Atoms_any (p : Nat) (W H : Int) (a : Option Addr) (n c : Nat) (zs : List Int) (hz : zs.length = n) (hv : vldH W H zs = true) (w : World) (hp : HtsAt w p W H a n c) (hA : VArr w a (ints zs)) :
    Calls Try.prog 160 #[.pointer (some ⟨p, 0, none⟩)] w fun e w' => e = .returned (.int .i64 (sumTo zs n)) ∧ Ext w w' := by
  obtain ⟨_, _, _, ⟨hn1, hn2⟩, hb⟩ := vld_facts hv hz
  have HB := Lib.hid (sumTo_bd (M := 1000) (by omega) hz hb)
  have HZ := Lib.hid hz
  have HE := Lib.hid hb
  clear hb hz hv
  obtain ⟨p0, p1, p2⟩ := hp
  go_enter Try.func160, Try.ntmps160
  go_wp2
  go_loopw [3, 10] (fun s i wr => ∃ k : Nat, k ≤ n ∧ i = .int .i64 k ∧ s = .int .i64 (sumTo zs k) ∧ Ext w wr) (fun _ i _ => n - (intOf i).toNat)
  case atStart => exact ⟨0, Nat.zero_le _, rfl, by rw [sumTo_zero], Ext.refl _⟩
  case round =>
    obtain ⟨k, hk, rfl, rfl, hX⟩ := hrel
    have HX := Lib.hid hX
    have a2 := hX.cell p2
    clear p0 p1 p2
    by_cases hlt : k < n
    · have h1 := hA.ext hX
      obtain ⟨b, o, rfl⟩ := hA.starts (i := k) (by simpa [HZ.out] using hlt)
      have hc := h1.ofInts k (by rw [HZ.out]; exact hlt)
      obtain ⟨s1, s2⟩ := HB.out k (by omega)
      obtain ⟨e1, e2⟩ := HE.out k hlt
      have HS := Lib.hid (sumTo_succ zs (k := k) (by rw [HZ.out]; exact hlt))
      clear h1 hX hA
      go_wp2
      go_roundw
      case rel => exact ⟨k + 1, by omega, by go_num, by rw [HS.out], HX.out⟩
      case measure => simp [intOf]; omega
    · obtain rfl : k = n := by omega
      clear hX
      go_wp2
      go_ret
      exact ⟨rfl, HX.out⟩

theorem atoms_any (W H : Int) (a : Option Addr) (n c : Nat) (zs : List Int) (hz : zs.length = n) (hv : vldH W H zs = true) (w : World) (hA : VArr w a (ints zs)) :
    Calls Try.prog 162 #[.agg #[.int .i64 W, .int .i64 H, .slice a n c]] w fun e w' => e = .returned (.int .i64 (sumTo zs n)) ∧ Ext w w' := by
  obtain ⟨_, _, _, ⟨hn1, hn2⟩, hb⟩ := vld_facts hv hz
  have HB := Lib.hid (sumTo_bd (M := 1000) (by omega) hz hb)
  have HZ := Lib.hid hz
  have HE := Lib.hid hb
  clear hb hz hv
  go_enter Try.func162, Try.ntmps162
  go_wp2
  go_loopw [3, 9] (fun s i wr => ∃ k : Nat, k ≤ n ∧ i = .int .i64 k ∧ s = .int .i64 (sumTo zs k) ∧ Ext w wr) (fun _ i _ => n - (intOf i).toNat)
  case atStart => exact ⟨0, Nat.zero_le _, rfl, by rw [sumTo_zero], (Ext.refl _).alloc _⟩
  case round =>
    obtain ⟨k, hk, rfl, rfl, hX⟩ := hrel
    have HX := Lib.hid hX
    by_cases hlt : k < n
    · have h1 := hA.ext hX
      obtain ⟨b, o, rfl⟩ := hA.starts (i := k) (by simpa [HZ.out] using hlt)
      have hc := h1.ofInts k (by rw [HZ.out]; exact hlt)
      obtain ⟨s1, s2⟩ := HB.out k (by omega)
      obtain ⟨e1, e2⟩ := HE.out k hlt
      have HS := Lib.hid (sumTo_succ zs (k := k) (by rw [HZ.out]; exact hlt))
      clear h1 hX hA
      go_wp2
      go_roundw
      case rel => exact ⟨k + 1, by omega, by go_num, by rw [HS.out], HX.out⟩
      case measure => simp [intOf]; omega
    · obtain rfl : k = n := by omega
      clear hX
      go_wp2
      go_ret
      exact ⟨rfl, HX.out⟩

/-- What AtomsIn answers. -/
def atomsR (W H : Int) (zs : List Int) : Int := if vldH W H zs = true then sumTo zs zs.length else 0

end Go.Proofs.Ytajfpjggdbifjaa
