/-
  LabelAbout and CountOfLabel, by the program and by the reference.
-/
import Derived.Test.YtpmcjojipbiinaaGrD
namespace Go.Proofs.Ytpmcjojipbiinaa
open Go.RowKit
set_option linter.unusedVariables false
set_option linter.unusedSimpArgs false
set_option linter.unnecessarySimpa false

theorem keepI_no {b : Bool} {x : Int} (h : b = false) : keepI b x = 0 := by simp [keepI, h]
theorem keepI_yes {b : Bool} {x : Int} (h : b = true) : keepI b x = x := by simp [keepI, h]

def aboutOk (W H : Int) (zs : List Int) (x y : Int) : Bool := vldG W H zs && (inB x (-1000) 1000 && inB y (-1000) 1000)
def aboutR (W H : Int) (zs : List Int) (x y : Int) : Int := keepI (aboutOk W H zs x y) (zs[(cellF W H x y).toNat]?.getD 0)

end Go.Proofs.Ytpmcjojipbiinaa
