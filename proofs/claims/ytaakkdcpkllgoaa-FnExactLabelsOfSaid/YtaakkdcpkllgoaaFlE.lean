/-
  The numbers of a cell: laplace, nine, slopes; by the program and by the reference. (Printed by gen_fields.py.)
-/
import Derived.Test.YtaakkdcpkllgoaaFlD
namespace Go.Proofs.Ytaakkdcpkllgoaa
open Go.RowKit
set_option linter.unusedVariables false
set_option linter.unusedSimpArgs false
set_option linter.unnecessarySimpa false

def nineG (W H : Int) (R : Bool) (fs : List (Option Nat)) (x y : Int) : Option Nat :=
  fop .quo .f32 (fop .sub .f32 (fop .add .f32 (fop .mul .f32 (fa .f32 1082130432) (sidesG W H R fs x y)) (fop .add .f32 (fop .add .f32 (aboutV W H R fs (x - 1) (y - 1)) (aboutV W H R fs (x + 1) (y - 1))) (fop .add .f32 (aboutV W H R fs (x - 1) (y + 1)) (aboutV W H R fs (x + 1) (y + 1))))) (fop .mul .f32 (fa .f32 1101004800) (aboutV W H R fs x y))) (fa .f32 1086324736)
def slopeXG (W H : Int) (R : Bool) (fs : List (Option Nat)) (x y : Int) : Option Nat :=
  fop .mul .f32 (fa .f32 1056964608) (fop .sub .f32 (aboutV W H R fs (x + 1) y) (aboutV W H R fs (x - 1) y))
def slopeYG (W H : Int) (R : Bool) (fs : List (Option Nat)) (x y : Int) : Option Nat :=
  fop .mul .f32 (fa .f32 1056964608) (fop .sub .f32 (aboutV W H R fs x (y + 1)) (aboutV W H R fs x (y - 1)))

end Go.Proofs.Ytaakkdcpkllgoaa
