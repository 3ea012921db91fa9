/-
  How the statements' arguments read: fields by value, whose values are a slice of singles.
-/
import Derived.Test.YtpmcjojipbiinaaRows
import Derived.Test.YtpmcjojipbiinaaOpen
import Derived.Test.YtpmcjojipbiinaaFld
import Derived.Deep.Slices
namespace Go.Proofs.Ytpmcjojipbiinaa
open Go.ChangeShapes Go.WideShapes Go.ChangeAt Go.RowKit Go.Joins
set_option linter.unusedVariables false
set_option linter.unusedSimpArgs false
set_option linter.unnecessarySimpa false

theorem cells_float32 : Try.prog.cellsOf 35 = 1 := by kernel_rfl

theorem trod_flt {H : Type} {enc : TypeId × Value → H} {P : Program} {w : World} {base : Nat} {spare : Nat → Bool} {held : Bool} {fuel : Nat} {t : TypeId} {cs : List Value} {x : DataW H × List MemPlace} {k : FloatKind} (ht : P.underlying t = some (.float k)) (h : DataW.trod enc P w base spare held fuel t cs = some x) : ∃ n, cs = [.float k n] ∧ x = (.lit (.float k n), []) ∧ (Lit.float k n).wf = true := by
  cases fuel with
  | zero => simp [DataW.trod] at h
  | succ n =>
    unfold DataW.trod at h
    rw [ht] at h
    split at h <;> simp_all

theorem open_varrF {H : Type} {enc : TypeId × Value → H} {w : World} {spare : Nat → Bool} {held : Bool} {fuel : Nat} {v : Value} {x : DataW H × List MemPlace}
    (h : DataW.trod enc Try.prog w 0 spare held fuel 22 [v] = some x) : ∃ (a : Option Addr) (n c : Nat) (zs : List Nat), v = .slice a n c ∧ zs.length = n ∧ n ≤ 9223372036854775807 ∧ VArr w a (flts zs) := by
  rcases Go.Deep.open_slice1 Try.underlying22 cells_float32 h with ⟨hcs, hx⟩ | ⟨a, len, cap, m, n, V, D, Pl, hcs, _, hl, hm, hmm, _, hx⟩
  · simp only [List.cons.injEq, and_true] at hcs
    exact ⟨none, 0, 0, [], hcs, rfl, by omega, VArr.nil _ _⟩
  · simp only [List.cons.injEq, and_true] at hcs
    have hm' : cap ≤ 9223372036854775807 := hm
    have hlen : len ≤ m := by rw [hmm]; split <;> omega
    obtain ⟨B, hB⟩ := Go.Deep.choose_lt (α := Nat) (n := len) (p := fun i b => V i = .float .f32 b) (fun i hi => by
      obtain ⟨b, h1, h2, _⟩ := trod_flt Try.underlying35 (hx i (by omega)).2
      exact ⟨b, by simpa using h1⟩)
    refine ⟨some a, len, cap, (List.range len).map B, hcs, by simp, by omega, fun i v hv => ?_⟩
    have hi : i < len := by
      have := (List.getElem?_eq_some_iff.1 hv).1
      simpa using this
    have hc := (hx i (by omega)).1
    have h0 := (hx 0 (by omega)).1
    obtain ⟨b, o, spot⟩ := a
    have hspot : spot = none := by simpa [Addr.add] using World.cell?_spot h0
    subst hspot
    refine ⟨b, o, rfl, ?_⟩
    rw [flts_get (by simpa using hi)] at hv
    rw [Addr.add_lit] at hc
    rw [hc, hB i hi]
    cases hv
    simp [List.getD, hi]

end Go.Proofs.Ytpmcjojipbiinaa
