/-
  Heights moved: l05Own, ShiftHeights by the program and by the reference.
-/
import Derived.Test.YtajfpjggdbifjaaAtF
import Derived.Test.YtajfpjggdbifjaaLib5
namespace Go.Proofs.Ytajfpjggdbifjaa
open Go.RowKit
set_option linter.unusedVariables false
set_option linter.unusedSimpArgs false
set_option linter.unnecessarySimpa false

/-- An answer under a condition. -/
def keepH (w : World) (ok : Bool) (W H : Int) (zs : List Int) (e : Ending) (w' : World) : Prop := newH w (keepI ok W) (keepI ok H) (keepL ok zs) ok e w'
theorem keepH_no {w : World} {ok : Bool} {W H : Int} {zs : List Int} {e : Ending} {w' : World} (h : ok = false) (k : newH w 0 0 [] false e w') : keepH w ok W H zs e w' := by
  unfold keepH; rw [h]; exact k
theorem keepH_yes {w : World} {ok : Bool} {W H : Int} {zs : List Int} {e : Ending} {w' : World} (h : ok = true) (k : newH w W H zs true e w') : keepH w ok W H zs e w' := by
  unfold keepH; rw [h]; exact k

end Go.Proofs.Ytajfpjggdbifjaa
