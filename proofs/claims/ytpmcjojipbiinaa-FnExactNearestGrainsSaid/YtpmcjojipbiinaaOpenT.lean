/-
  How the statements' slices of singles read.
-/
import Derived.Test.YtpmcjojipbiinaaOpenF
namespace Go.Proofs.Ytpmcjojipbiinaa
open Go.ChangeShapes Go.WideShapes Go.ChangeAt Go.RowKit Go.Joins
set_option linter.unusedVariables false
set_option linter.unusedSimpArgs false
set_option linter.unnecessarySimpa false

set_option maxRecDepth 100000 in
theorem open_fslicev {H : Type} {enc : TypeId × Value → H} {w : World} {spare : Nat → Bool} {held : Bool} {b0 : Nat} {v : Value} {d : DataW H} {p : List MemPlace}
    (hv : Value.okWide Try.prog w .any b0 22 v) (h : DataW.Trod enc Try.prog w 0 spare held 22 v d p) : ∃ (a : Option Addr) (n c : Nat) (zs : List Nat), v = .slice a n c ∧ zs.length = n ∧ n ≤ 9223372036854775807 ∧ VArr w a (flts zs) := by
  obtain ⟨fuel, hf⟩ := h
  have e : v.cells.toList = [v] := by
    obtain ⟨a, n, c, rfl⟩ := okWide_slice Try.underlying22 hv
    rfl
  rw [e] at hf
  exact open_varrF hf
end Go.Proofs.Ytpmcjojipbiinaa
