/-
  FlatHeights, by the program and by the reference.
-/
import Derived.Test.YtajfpjggdbifjaaAtE
namespace Go.Proofs.Ytajfpjggdbifjaa
open Go.RowKit
set_option linter.unusedVariables false
set_option linter.unusedSimpArgs false
set_option linter.unnecessarySimpa false

theorem giveH_no {w : World} {W H : Int} {zs : List Int} {e : Ending} {w' : World} (h : vldH W H zs = false) (k : newH w 0 0 [] false e w') : giveH w W H zs e w' := by
  unfold giveH; rw [h]; exact k
theorem giveH_yes {w : World} {W H : Int} {zs : List Int} {e : Ending} {w' : World} (h : vldH W H zs = true) (k : newH w W H zs true e w') : giveH w W H zs e w' := by
  unfold giveH; rw [h]; exact k
theorem vldH_size {W H : Int} {zs : List Int} (h : szH W H = false) : vldH W H zs = false := by simp [vldH, h]

def flatZ (W H top : Int) : List Int := gridV W.toNat (fun _ _ => top) (H.toNat * W.toNat)

end Go.Proofs.Ytajfpjggdbifjaa
