/-
  Seeds: what follows, what is drawn; by the program and by the reference.
-/
import Derived.Test.YtpmcjojipbiinaaGrR
import Derived.Test.YtpmcjojipbiinaaFlo
namespace Go.Proofs.Ytpmcjojipbiinaa
open Go.RowKit
set_option linter.unusedVariables false
set_option linter.unusedSimpArgs false
set_option linter.unnecessarySimpa false

/-- The seed that follows. -/
def nxtS (s : Int) : Int := (1103515245 * s + 12345) % 2147483648
theorem nxtS_bd (s : Int) : 0 ≤ nxtS s ∧ nxtS s ≤ 2147483647 := by unfold nxtS; omega
theorem draw_any (s : Int) (h1 : 0 ≤ s) (h2 : s ≤ 2147483647) (w : World) : Calls Try.prog 50 #[.int .i64 s] w fun e w' => e = .returned (.tuple #[.int .i64 (nxtS s), .int .i64 (nxtS s / 65536)]) ∧ w = w' := by
  have HR : Hid (nxtS s = (1103515245 * s + 12345) % 2147483648) := rfl
  go_enter Try.func50, Try.ntmps50
  go_wp2
  go_ret2
  rw [HR.out]
  exact ⟨rfl, rfl⟩

theorem isSeed_any (z : Int) (w : World) : Calls Try.prog 48 #[.int .i64 z] w fun e w' => e = .returned (.bool (inB z 0 2147483647)) ∧ w = w' := by
  go_enter Try.func48, Try.ntmps48
  go_wp2_with (go_at_call 30; refine (within_any _ _ _ _).mono ?_; rintro e w' ⟨rfl, rfl⟩)
  go_ret
  exact ⟨rfl, rfl⟩
theorem l02Seed_any (z : Int) (w : World) : Calls Try.prog 40 #[.int .i64 z] w fun e w' => e = .returned (.bool (inB z 0 2147483647)) ∧ w = w' := by
  go_enter Try.func40, Try.ntmps40
  go_wp2_with (go_at_call 41; refine (l00In_any _ _ _ _).mono ?_; rintro e w' ⟨rfl, rfl⟩)
  go_ret
  exact ⟨rfl, rfl⟩
theorem l02Next_any (s : Int) (h1 : 0 ≤ s) (h2 : s ≤ 2147483647) (w : World) : Calls Try.prog 43 #[.int .i64 s] w fun e w' => e = .returned (.int .i64 (nxtS s)) ∧ w = w' := by
  have HR : Hid (nxtS s = (1103515245 * s + 12345) % 2147483648) := rfl
  go_enter Try.func43, Try.ntmps43
  go_wp2
  go_ret
  rw [HR.out]
  exact ⟨rfl, rfl⟩

end Go.Proofs.Ytpmcjojipbiinaa
