/-
  FlatGrains by the reference.
-/
import Derived.Test.YtpmcjojipbiinaaGrB
namespace Go.Proofs.Ytpmcjojipbiinaa
open Go.RowKit
set_option linter.unusedVariables false
set_option linter.unusedSimpArgs false
set_option linter.unnecessarySimpa false

theorem toNat_mul {W H : Int} (h1 : 0 ≤ W) (h2 : 0 ≤ H) : ((H.toNat * W.toNat : Nat) : Int) = W * H := by
  rw [Int.natCast_mul, Int.toNat_of_nonneg h1, Int.toNat_of_nonneg h2, Int.mul_comm]
theorem flatZ_succ (W : Nat) (top : Int) (k : Nat) : gridV W (fun _ _ => top) (k + 1) = gridV W (fun _ _ => top) k ++ [top] := by
  unfold gridV
  rw [List.range_succ, List.map_append]
  simp only [List.map_cons, List.map_nil]

end Go.Proofs.Ytpmcjojipbiinaa
