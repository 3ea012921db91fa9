/-
  Contracts of the functions that hand on heights: told, l05Give; and of 'built', which fills heights by a closure.
-/
import Derived.Test.YtajfpjggdbifjaaAtC
import Derived.Test.YtajfpjggdbifjaaLib3
namespace Go.Proofs.Ytajfpjggdbifjaa
open Go.RowKit
set_option linter.unusedVariables false
set_option linter.unusedSimpArgs false
set_option linter.unnecessarySimpa false

theorem Ext.fin3 {w w5 : World} {q : Nat} (hX : Ext w w5) (hq : w.heap.size ≤ q) (v0 v1 v2 : Value) : Ext w (((w5.setCell ⟨q, 0, none⟩ v0).setCell ⟨q, 1, none⟩ v1).setCell ⟨q, 2, none⟩ v2) :=
  Below.setCell (Below.setCell (Below.setCell hX hq _) hq _) hq _

end Go.Proofs.Ytajfpjggdbifjaa
