/-
  More rules of the walk over a region that draws its order: calls whose arguments and answers are found on the way.
-/
import Derived.Test.YtajfpjggdbifjaaLib
namespace Go.Proofs.Ytajfpjggdbifjaa
open Go.RowKit
set_option linter.unusedVariables false
set_option linter.unusedSimpArgs false
section
variable {P : Program} {ops : Array Oper} {C : World → Prop} {K : FuncId → Array Value → Value → World → Prop} {QW : Act → World → Prop} {a : Act} {G : Facts} {H : World → Prop} {o : Oper} {rest : List Oper}
/-- A call of function f whose answer is one value. -/
theorem grow_c1 (f : FuncId) (hw : Region.wanted o (yielded ops a.tmps) = true)
    (h : ∃ args, (∀ w, (execOp a.eval o).run P w = .ok (.enter f args) w) ∧ ∃ c, (∀ w, C w → known ops G o w → Calls P f args w (fun e w'' => e = .returned c ∧ Ext w w'')) ∧ (∀ v w, K f args v w → v = c) ∧ (∀ w, K f args c w) ∧
      wpGrow P ops C K (fin C QW) rest (a.put o.dst c) (upd G o.dst fun _ => True) H) : wpGrow P ops C K (fin C QW) (o :: rest) a G H := by
  obtain ⟨args, hr, c, h1, hS, hK, h2⟩ := h
  exact grow_call1 hw hr hS hK h1 h2
/-- A call of function f, its contract 'K'. -/
theorem grow_cg (f : FuncId) (S : Value → Prop) (F : Value → World → Prop) (hw : Region.wanted o (yielded ops a.tmps) = true)
    (h : ∃ args, (∀ w, (execOp a.eval o).run P w = .ok (.enter f args) w) ∧ (∀ w, C w → known ops G o w → Calls P f args w (fun e w'' => ∃ v, e = .returned v ∧ Ext w w'' ∧ K f args v w'')) ∧ (∀ v w, K f args v w → S v ∧ F v w) ∧
      ∀ v, S v → wpGrow P ops C K (fin C QW) rest (a.put o.dst v) (upd G o.dst (F v)) (fun w => H w ∧ F v w)) : wpGrow P ops C K (fin C QW) (o :: rest) a G H := by
  obtain ⟨args, hr, h1, hS, h2⟩ := h
  exact grow_call S F hw hr hS h1 h2
end
end Go.Proofs.Ytajfpjggdbifjaa
