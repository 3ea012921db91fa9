/-
  MirrorGrains, by the program and by the reference.
-/
import Derived.Test.YtpmcjojipbiinaaGrF
namespace Go.Proofs.Ytpmcjojipbiinaa
open Go.RowKit
set_option linter.unusedVariables false
set_option linter.unusedSimpArgs false
set_option linter.unnecessarySimpa false

def mirrorG (W H : Int) (zs : List Int) (u v : Int) : Int := zs[(cellF W H (W - 1 - u) v).toNat]?.getD 0
def mirrorZ (W H : Int) (zs : List Int) : List Int := gridV W.toNat (mirrorG W H zs) (H.toNat * W.toNat)
theorem tmod_nat (k W : Nat) : (k : Int).tmod (W : Int) = ((k % W : Nat) : Int) := rfl
theorem tdiv_nat (k W : Nat) : (k : Int).tdiv (W : Int) = ((k / W : Nat) : Int) := rfl
theorem gridV_next (W : Nat) (g : Int → Int → Int) (k : Nat) : gridV W g (k + 1) = gridV W g k ++ [g ((k % W : Nat) : Int) ((k / W : Nat) : Int)] := by
  unfold gridV
  rw [List.range_succ, List.map_append]
  simp only [List.map_cons, List.map_nil]

end Go.Proofs.Ytpmcjojipbiinaa
