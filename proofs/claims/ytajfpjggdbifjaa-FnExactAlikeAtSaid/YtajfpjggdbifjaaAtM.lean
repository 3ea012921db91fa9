/-
  LayersOf, by the program and by the reference.
-/
import Derived.Test.YtajfpjggdbifjaaAtA
import Derived.Test.YtajfpjggdbifjaaPost
namespace Go.Proofs.Ytajfpjggdbifjaa
open Go.RowKit
set_option linter.unusedVariables false
set_option linter.unusedSimpArgs false
set_option linter.unnecessarySimpa false

/-- The greatest of the first k, and of 0. -/
def mxI (zs : List Int) : Nat → Int
  | 0 => 0
  | k + 1 => max (mxI zs k) (zs[k]?.getD 0)
theorem mxI_bd {zs : List Int} {n : Nat} (h : ∀ k, k < n → 0 ≤ zs[k]?.getD 0 ∧ zs[k]?.getD 0 ≤ 1000) : ∀ k, k ≤ n → 0 ≤ mxI zs k ∧ mxI zs k ≤ 1000
  | 0, _ => by simp [mxI]
  | k + 1, hk => by
    have h1 := mxI_bd h k (by omega)
    have h2 := h k (by omega)
    unfold mxI
    omega
theorem mxI_ge (zs : List Int) : ∀ (k j : Nat), j < k → zs[j]?.getD 0 ≤ mxI zs k
  | 0, j, h => by omega
  | k + 1, j, h => by
    unfold mxI
    by_cases hj : j = k
    · subst hj; omega
    · have := mxI_ge zs k j (by omega); omega
/-- How many of the first k are above a level. -/
def abv (zs : List Int) : Nat → Nat → Nat
  | 0, _ => 0
  | k + 1, j => abv zs k j + (if (j : Int) < zs[k]?.getD 0 then 1 else 0)
theorem abv_le (zs : List Int) : ∀ k j, abv zs k j ≤ k
  | 0, j => by simp [abv]
  | k + 1, j => by
    have := abv_le zs k j
    unfold abv
    split <;> omega
def layZ (zs : List Int) (n : Nat) : List Int := (List.range (mxI zs n).toNat).map fun j => (abv zs n j : Int)
theorem layZ_of {zs : List Int} {n M : Nat} {ys : List Int} (hM : mxI zs n = (M : Int)) (hl : ys.length = M) (h : ∀ j, j < M → ys[j]?.getD 0 = (abv zs n j : Int)) : ys = layZ zs n := by
  unfold layZ
  rw [hM, Int.toNat_natCast]
  refine List.ext_getElem? fun j => ?_
  by_cases hj : j < M
  · have := h j hj
    rw [List.getElem?_eq_getElem (by omega)] at this ⊢
    simp only [Option.getD_some] at this
    simp [hj, this]
  · rw [List.getElem?_eq_none (by omega), List.getElem?_eq_none (by simp; omega)]
def layR (W H : Int) (zs : List Int) (n : Nat) : List Int := if vldH W H zs then layZ zs n else []
theorem layR_no {W H : Int} {zs : List Int} {n : Nat} (h : vldH W H zs = false) : layR W H zs n = [] := by simp [layR, h]
theorem layR_yes {W H : Int} {zs : List Int} {n : Nat} (h : vldH W H zs = true) : layR W H zs n = layZ zs n := by simp [layR, h]
def listB (w : World) (L : List Int) (ok : Bool) (e : Ending) (w' : World) : Prop :=
  ∃ a m c, e = .returned (.tuple #[.slice a m c, .bool ok]) ∧ Ext w w' ∧ w'.ownsRow w.heap.size 2 1 (.slice a m c) m (ints L) ∧ L.length = m ∧ m ≤ 1048576
theorem own_int_atL {w : World} {base : Nat} {e : TypeId} {g n m c : Nat} {zs : List Int} (h : w.ownsRow base e 1 (.slice (some ⟨g, 0, none⟩) n c) m (ints zs)) {k : Nat} (hk : k < zs.length) : w.cell? ⟨g, k, none⟩ = some (.int .i64 (zs[k]?.getD 0)) ∧ w.frozen? ⟨g, k, none⟩ = false := by
  have := (ownsRow_varr h).ofInts k hk
  simp only [Nat.zero_add, List.getD_eq_getElem?_getD] at this
  exact ⟨this, ownsRow_frozen h k⟩

theorem l00MaxH_any (x y : Int) (w : World) : Calls Try.prog 182 #[.int .i64 x, .int .i64 y] w fun e w' => e = .returned (.int .i64 (max x y)) ∧ w = w' := by
  go_enter Try.func182, Try.ntmps182
  by_cases h : y < x
  · have e : decide (y < x) = true := by simpa using h
    have HM := Lib.hid (show max x y = x by omega)
    go_wp2
    go_ret
    exact ⟨by rw [HM.out]; rfl, rfl⟩
  · have e : decide (y < x) = false := by simpa using h
    have HM := Lib.hid (show max x y = y by omega)
    go_wp2
    go_ret
    exact ⟨by rw [HM.out]; rfl, rfl⟩

end Go.Proofs.Ytajfpjggdbifjaa
