/-
  A slice of singles copied, without its place.
-/
import Derived.Test.YtpmcjojipbiinaaNgC
import Derived.Test.YtpmcjojipbiinaaFlts
namespace Go.Proofs.Ytpmcjojipbiinaa
open Go.RowKit
set_option linter.unusedVariables false
set_option linter.unusedSimpArgs false

theorem toFloat32S_ex (a : Option Addr) (n c : Nat) (zs : List Nat) (hz : zs.length = n) (hn : n ≤ 1048576) (w : World) (hA : VArr w a (flts zs)) :
    Calls Try.prog 8 #[.slice a n c] w fun e w' => ∃ b, e = .returned (.slice (some ⟨b, 0, none⟩) n n) ∧ Ext w w' ∧
      w'.ownsRow w.heap.size 35 1 (.slice (some ⟨b, 0, none⟩) n n) n (flts zs) :=
  (toFloat32S_any a n c zs hz hn w hA).mono fun e w' h => ⟨_, h.1, h.2.1, h.2.2⟩
end Go.Proofs.Ytpmcjojipbiinaa
