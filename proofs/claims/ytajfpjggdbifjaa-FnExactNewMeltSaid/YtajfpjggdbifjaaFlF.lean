/-
  LaplaceField by the reference: all cells.
-/
import Derived.Test.YtajfpjggdbifjaaFlE
namespace Go.Proofs.Ytajfpjggdbifjaa
open Go.RowKit
set_option linter.unusedVariables false
set_option linter.unusedSimpArgs false
set_option linter.unnecessarySimpa false

theorem FillF.of_ext {w : World} {r q : Nat} {W H : Int} {R : Bool} {xs : List Nat} {wr wr' : World} {k : Nat} (h : FillF w r q W H R xs wr k) (e : Ext wr wr') : FillF w r q W H R xs wr' k :=
  let ⟨a, c, h1, h2⟩ := h.own; ⟨h.ext.trans e, e.block h.res, a, c, e.block h1, ownsRow_ext h2 e⟩

end Go.Proofs.Ytajfpjggdbifjaa
