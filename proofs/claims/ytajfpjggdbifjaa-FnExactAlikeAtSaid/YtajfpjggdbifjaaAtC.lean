/-
  Contracts of TopAt and SameHeights, by the reference and by the program.
-/
import Derived.Test.YtajfpjggdbifjaaAtB
namespace Go.Proofs.Ytajfpjggdbifjaa
open Go.RowKit
set_option linter.unusedVariables false
set_option linter.unusedSimpArgs false
set_option linter.unnecessarySimpa false

/-- What TopAt answers. -/
def topR (W H : Int) (zs : List Int) (x y : Int) : Int := if hasF W H zs x y = true then zs[(cellF W H x y).toNat]?.getD 0 else 0

/-- Which heights are the same. -/
def sameH (W H W' H' : Int) (zs zs' : List Int) : Bool := W == W' && H == H' && decide (zs = zs')

end Go.Proofs.Ytajfpjggdbifjaa
