/-
  The front of a queue.
-/
import Derived.Test.YtaakkdcpkllgoaaCoQ
namespace Go.Proofs.Ytaakkdcpkllgoaa
open Go.RowKit
set_option linter.unusedVariables false
set_option linter.unusedSimpArgs false
set_option linter.unnecessarySimpa false

theorem Que.head {w : World} {B : Nat} {g o n c : Nat} {x : Int} {xs : List Int} (h : Que w B (.slice (some ⟨g, o, none⟩) n c) (x :: xs)) : w.cell? ⟨g, o, none⟩ = some (.int .i64 x) := by
  have := h.cell (j := 0) (by simp)
  simpa using this
set_option maxRecDepth 100000 in
theorem run_front {a : Addr} {n c : Nat} (u : World) : (Instr.slice 22 (.slice (some a) (n + 1) c) (some (.int .i64 1)) none none).run Try.prog u = .ok (.slice (some (if c = 1 then a else a.add 1)) n (c - 1)) u := by
  have h1 : (1 : Int) ≤ ((n + 1 : Nat) : Int) := by omega
  rw [run_slice_l (P := Try.prog) u 22 (some a) (n + 1) c Try.underlying22 .i64 1 (by omega) h1]
  have hs : (sizeOf (Try.prog.elem 22)).run Try.prog u = .ok 1 u := by kernel_rfl
  rw [hs]
  simp only [Result.andThen, sliced]
  by_cases hc : c = 1
  · simp [hc]
  · simp [hc]
theorem que_front {w : World} {B : Nat} {g o n c : Nat} {x : Int} {xs : List Int} (h : Que w B (.slice (some ⟨g, o, none⟩) n c) (x :: xs)) : ∃ v, (∀ u, (Instr.slice 22 (.slice (some ⟨g, o, none⟩) (xs.length + 1) c) (some (.int .i64 1)) none none).run Try.prog u = .ok v u) ∧ Que w B v xs ∧ v.ownBlock = some g := by
  refine ⟨_, run_front, ?_, ?_⟩
  · have := h.front
    by_cases hc : c = 1
    · simpa [hc] using this
    · simpa [hc, Addr.add] using this
  · by_cases hc : c = 1
    · simp [hc, Value.ownBlock]
    · simp [hc, Value.ownBlock, Addr.add]
end Go.Proofs.Ytaakkdcpkllgoaa
