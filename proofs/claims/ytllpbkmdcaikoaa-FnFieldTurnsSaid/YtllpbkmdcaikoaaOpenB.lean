/-
  How the statements' bytes read.
-/
import Derived.Test.YtllpbkmdcaikoaaOpenF
import Derived.Test.YtllpbkmdcaikoaaFtC
namespace Go.Proofs.Ytllpbkmdcaikoaa
open Go.ChangeShapes Go.WideShapes Go.ChangeAt Go.RowKit Go.Joins
set_option linter.unusedVariables false
set_option linter.unusedSimpArgs false
set_option linter.unnecessarySimpa false

theorem cells_uint8 : Try.prog.cellsOf 5 = 1 := by kernel_rfl
theorem open_barr {H : Type} {enc : TypeId × Value → H} {w : World} {spare : Nat → Bool} {held : Bool} {fuel : Nat} {v : Value} {x : DataW H × List MemPlace}
    (h : DataW.trod enc Try.prog w 0 spare held fuel 53 [v] = some x) : ∃ (a : Option Addr) (n c : Nat) (zs : List Int), v = .slice a n c ∧ zs.length = n ∧ n ≤ 9223372036854775807 ∧ wfB zs ∧ VArr w a (byts zs) := by
  rcases open_ints Try.underlying53 Try.underlying5 cells_uint8 h with ⟨hcs, hx⟩ | ⟨a, len, cap, zs, hcs, _, hl, hm, hz, hx, hcell, hwz⟩
  · simp only [List.cons.injEq, and_true] at hcs
    exact ⟨none, 0, 0, [], hcs, rfl, by omega, fun i h => by simp at h, VArr.nil _ _⟩
  · simp only [List.cons.injEq, and_true] at hcs
    have hm' : cap ≤ 9223372036854775807 := hm
    have hlen : len ≤ zs.length := by rw [hz]; split <;> omega
    refine ⟨some a, len, cap, zs.take len, hcs, by simp; omega, by omega, fun i hi => ?_, fun i v hv => ?_⟩
    · have hi' : i < len := by simp at hi; omega
      have hw := hwz (zs[i]'(by omega)) (List.getElem_mem _)
      rw [List.getElem?_take, if_pos hi', List.getElem?_eq_getElem (by omega)]
      simp [Lit.wf, IntKind.min, IntKind.max, IntKind.signed, IntKind.bits] at hw
      simp only [Option.getD_some]
      omega
    have hi : i < len := by
      have := (List.getElem?_eq_some_iff.1 hv).1
      simp [byts] at this; omega
    have hc := hcell i (by omega)
    have h0 := hcell 0 (by omega)
    obtain ⟨b, o, spot⟩ := a
    have hspot : spot = none := by simpa [Addr.add] using World.cell?_spot h0
    subst hspot
    refine ⟨b, o, rfl, ?_⟩
    rw [byts_get (by simp; omega)] at hv
    rw [Addr.add_lit] at hc
    rw [hc]
    cases hv
    simp [List.getD, List.getElem?_take, hi]
set_option maxRecDepth 100000 in
theorem open_bytev {H : Type} {enc : TypeId × Value → H} {w : World} {spare : Nat → Bool} {held : Bool} {b0 : Nat} {v : Value} {d : DataW H} {p : List MemPlace}
    (hv : Value.okWide Try.prog w .any b0 53 v) (h : DataW.Trod enc Try.prog w 0 spare held 53 v d p) : ∃ (a : Option Addr) (n c : Nat) (zs : List Int), v = .slice a n c ∧ zs.length = n ∧ n ≤ 9223372036854775807 ∧ wfB zs ∧ VArr w a (byts zs) := by
  obtain ⟨fuel, hf⟩ := h
  have e : v.cells.toList = [v] := by
    obtain ⟨a, n, c, rfl⟩ := okWide_slice Try.underlying53 hv
    rfl
  rw [e] at hf
  exact open_barr hf
end Go.Proofs.Ytllpbkmdcaikoaa
