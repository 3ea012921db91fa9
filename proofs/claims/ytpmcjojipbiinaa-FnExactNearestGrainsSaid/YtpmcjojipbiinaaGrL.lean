/-
  slices.Clone of integers.
-/
import Derived.Test.YtpmcjojipbiinaaGrK
import Derived.Lib.SliceRun
namespace Go.Proofs.Ytpmcjojipbiinaa
open Go.RowKit
set_option linter.unusedVariables false
set_option linter.unusedSimpArgs false
set_option linter.unnecessarySimpa false

set_option maxRecDepth 100000 in
theorem clone_any (b o : Nat) (n c : Nat) (zs : List Int) (hz : zs.length = n) (hn : n ≤ 1048576) (w : World) (hA : VArr w (some ⟨b, o, none⟩) (ints zs)) :
    Calls Try.prog 49 #[.slice (some ⟨b, o, none⟩) n c] w fun e w' => ∃ a' c', e = .returned (.slice a' n c') ∧ Ext w w' ∧ w'.ownsRow w.heap.size 2 1 (.slice a' n c') n (ints zs) := by
  obtain ⟨i0, hi, hz0, hz1, hz2⟩ := info_parts info64
  have hX := (Ext.refl w).alloc (.cells #[] 2)
  have b0 := heap_new w (.cells #[] 2)
  have hA1 := hA.ext hX
  have e0 := Lib.run_eql_slice_nil (P := Try.prog) w 23 2 (some ⟨b, o, none⟩) n c 0 0 Try.underlying23
  go_enter Try.func49, Try.ntmps49
  go_wp2_with (at_builtin; refine wpList_copy rfl _ _ 23 2 rfl i0 (.int .i64 0) 8 w.heap.size w.heap.size n c (some ⟨b, o, none⟩) (ints zs) Try.underlying23 hi hz0 hz1 hz2 rfl (Nat.le_refl _) b0 (by simp [hz]) hA1 (by unfold maxLen; omega) (by omega) rfl rfl ?_)
  intro a' c' w1 hO hX1
  go_wp2
  go_ret
  exact ⟨a', c', rfl, hX.trans hX1, hO⟩
end Go.Proofs.Ytpmcjojipbiinaa
