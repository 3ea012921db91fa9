/-
  The sums and differences about a cell, by the program and by the reference.
-/
import Derived.Test.YtaakkdcpkllgoaaFlB
namespace Go.Proofs.Ytaakkdcpkllgoaa
open Go.RowKit
set_option linter.unusedVariables false
set_option linter.unusedSimpArgs false
set_option linter.unnecessarySimpa false

def sidesG (W H : Int) (R : Bool) (fs : List (Option Nat)) (x y : Int) : Option Nat :=
  fop .add .f32 (fop .add .f32 (aboutV W H R fs (x - 1) y) (aboutV W H R fs (x + 1) y)) (fop .add .f32 (aboutV W H R fs x (y - 1)) (aboutV W H R fs x (y + 1)))
def laplaceG (W H : Int) (R : Bool) (fs : List (Option Nat)) (x y : Int) : Option Nat :=
  fop .sub .f32 (sidesG W H R fs x y) (fop .mul .f32 (fa .f32 1082130432) (aboutV W H R fs x y))

end Go.Proofs.Ytaakkdcpkllgoaa
