/-
  FlatGrains, by the program and by the reference.
-/
import Derived.Test.YtpmcjojipbiinaaGrA
namespace Go.Proofs.Ytpmcjojipbiinaa
open Go.RowKit
set_option linter.unusedVariables false
set_option linter.unusedSimpArgs false
set_option linter.unnecessarySimpa false

theorem isLabel_any (z : Int) (w : World) : Calls Try.prog 77 #[.int .i64 z] w fun e w' => e = .returned (.bool (inB z 0 63)) ∧ w = w' := by
  go_enter Try.func77, Try.ntmps77
  go_wp2_with (go_at_call 30; refine (within_any _ _ _ _).mono ?_; rintro e w' ⟨rfl, rfl⟩)
  go_ret
  exact ⟨rfl, rfl⟩

def flatZ (W H l : Int) : List Int := gridV W.toNat (fun _ _ => l) (H.toNat * W.toNat)
def flatOk (W H l : Int) : Bool := szG W H && inB l 0 63

end Go.Proofs.Ytpmcjojipbiinaa
