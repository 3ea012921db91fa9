/-
  ShiftHeights, by the program and by the reference.
-/
import Derived.Test.YtajfpjggdbifjaaAtG
namespace Go.Proofs.Ytajfpjggdbifjaa
open Go.RowKit
set_option linter.unusedVariables false
set_option linter.unusedSimpArgs false
set_option linter.unnecessarySimpa false

def shiftG (W H : Int) (zs : List Int) (x y : Int) (u v : Int) : Int := zs[(cellF W H (u - x) (v - y)).toNat]?.getD 0
def shiftZ (W H : Int) (zs : List Int) (x y : Int) : List Int := gridV W.toNat (shiftG W H zs x y) (H.toNat * W.toNat)
def shiftOk (W H : Int) (zs : List Int) (x y : Int) : Bool := vldH W H zs && (inB x (-16) 16 && inB y (-16) 16)

theorem toNat_mul {W H : Int} (h1 : 0 ≤ W) (h2 : 0 ≤ H) : ((H.toNat * W.toNat : Nat) : Int) = W * H := by
  rw [Int.natCast_mul, Int.toNat_of_nonneg h1, Int.toNat_of_nonneg h2, Int.mul_comm]

theorem gridV_all {lo hi : Int} {W : Nat} {g : Int → Int → Int} {k : Nat} (h : ∀ x y, lo ≤ g x y ∧ g x y ≤ hi) : allIn lo hi (gridV W g k) = true := by
  unfold allIn gridV
  rw [List.all_map, List.all_eq_true]
  intro i _
  exact inB_iff.2 (h _ _)

theorem shiftZ_vld {W H : Int} {zs : List Int} (hv : vldH W H zs = true) (x y : Int) : vldH W H (shiftZ W H zs x y) = true := by
  obtain ⟨hW, hH, hn, ⟨hn1, hn2⟩, hb⟩ := vld_facts hv rfl
  obtain ⟨h1, h2, h3⟩ := vldH_iff.1 hv
  refine vldH_iff.2 ⟨h1, ?_, gridV_all fun u v => ?_⟩
  · rw [shiftZ, gridV_length, toNat_mul (by omega) (by omega)]
  · unfold shiftG
    obtain ⟨c1, c2⟩ := cellF_bd (u - x) (v - y) (show 1 ≤ W by omega) (show 1 ≤ H by omega)
    exact hb _ (by omega)

end Go.Proofs.Ytajfpjggdbifjaa
