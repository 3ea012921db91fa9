/-
  How the statements' arguments read: heights by value, whose tops are a slice of integers.
-/
import Derived.Test.YtajfpjggdbifjaaRows
import Derived.Test.YtajfpjggdbifjaaNum
import Derived.Test.YtajfpjggdbifjaaLib5
import Derived.ProofKit
import Derived.OpenShut
import Derived.Lib.SmallJoins
namespace Go.Proofs.Ytajfpjggdbifjaa
open Go.ChangeShapes Go.WideShapes Go.ChangeAt Go.RowKit Go.Joins
set_option linter.unusedVariables false
set_option linter.unusedSimpArgs false
set_option linter.unnecessarySimpa false

theorem ownK : ownKnob Try.prog.godebug = none := by kernel_rfl
theorem laidOutK : laidOutB Try.prog = true := by kernel_rfl
theorem cells_int64 : Try.prog.cellsOf 2 = 1 := by kernel_rfl

theorem cells_lawsHeights : Try.prog.cellsOf 78 = 3 := by kernel_rfl

theorem open_varr {H : Type} {enc : TypeId × Value → H} {w : World} {spare : Nat → Bool} {held : Bool} {fuel : Nat} {v : Value} {x : DataW H × List MemPlace}
    (h : DataW.trod enc Try.prog w 0 spare held fuel 42 [v] = some x) : ∃ (a : Option Addr) (n c : Nat) (zs : List Int), v = .slice a n c ∧ zs.length = n ∧ n ≤ 9223372036854775807 ∧ VArr w a (ints zs) := by
  rcases open_ints Try.underlying42 Try.underlying2 cells_int64 h with ⟨hcs, hx⟩ | ⟨a, len, cap, zs, hcs, _, hl, hm, hz, hx, hcell, hwz⟩
  · simp only [List.cons.injEq, and_true] at hcs
    exact ⟨none, 0, 0, [], hcs, rfl, by omega, VArr.nil _ _⟩
  · simp only [List.cons.injEq, and_true] at hcs
    have hm' : cap ≤ 9223372036854775807 := hm
    have hlen : len ≤ zs.length := by rw [hz]; split <;> omega
    refine ⟨some a, len, cap, zs.take len, hcs, by simp; omega, by omega, fun i v hv => ?_⟩
    have hi : i < len := by
      have := (List.getElem?_eq_some_iff.1 hv).1
      simp at this; omega
    have hc := hcell i (by omega)
    have h0 := hcell 0 (by omega)
    obtain ⟨b, o, spot⟩ := a
    have hspot : spot = none := by simpa [Addr.add] using World.cell?_spot h0
    subst hspot
    refine ⟨b, o, rfl, ?_⟩
    rw [ints_get (by simp; omega)] at hv
    rw [Addr.add_lit] at hc
    rw [hc]
    cases hv
    simp [List.getD, List.getElem?_take, hi]

set_option maxRecDepth 100000 in
theorem open_heights {H : Type} {enc : TypeId × Value → H} {w : World} {spare : Nat → Bool} {held : Bool} {b0 : Nat} {v : Value} {d : DataW H} {p : List MemPlace}
    (hv : Value.okWide Try.prog w .any b0 78 v) (h : DataW.Trod enc Try.prog w 0 spare held 78 v d p) :
    ∃ (W H : Int) (a : Option Addr) (n c : Nat) (zs : List Int), v = .agg #[.int .i64 W, .int .i64 H, .slice a n c] ∧ zs.length = n ∧ n ≤ 9223372036854775807 ∧ VArr w a (ints zs) ∧ (Lit.int .i64 W).wf = true ∧ (Lit.int .i64 H).wf = true := by
  obtain ⟨c0, c1, c2, y0, y1, y2, n, rfl, rfl, rfl, h0, h1, h2⟩ := open_agg3 Try.underlying78 (by kernel_rfl) cells_lawsHeights hv h
  obtain ⟨W, e0, _, w0⟩ := DataW.trod_int Try.underlying2 h0
  obtain ⟨H, e1, _, w1⟩ := DataW.trod_int Try.underlying2 h1
  obtain ⟨a, n, c, zs, rfl, hz, hn, hA⟩ := open_varr h2
  simp only [List.cons.injEq, and_true] at e0 e1
  subst e0 e1
  exact ⟨W, H, a, n, c, zs, rfl, hz, hn, hA, w0, w1⟩

set_option maxRecDepth 100000 in
theorem open_slicev {H : Type} {enc : TypeId × Value → H} {w : World} {spare : Nat → Bool} {held : Bool} {b0 : Nat} {v : Value} {d : DataW H} {p : List MemPlace}
    (hv : Value.okWide Try.prog w .any b0 42 v) (h : DataW.Trod enc Try.prog w 0 spare held 42 v d p) : ∃ (a : Option Addr) (n c : Nat) (zs : List Int), v = .slice a n c ∧ zs.length = n ∧ n ≤ 9223372036854775807 ∧ VArr w a (ints zs) := by
  obtain ⟨fuel, hf⟩ := h
  have e : v.cells.toList = [v] := by
    obtain ⟨a, n, c, rfl⟩ := okWide_slice Try.underlying42 hv
    rfl
  rw [e] at hf
  exact open_varr hf

end Go.Proofs.Ytajfpjggdbifjaa
