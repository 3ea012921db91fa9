/-
  Fields by value, whose values are words of singles.
-/
import Derived.Test.YtajfpjggdbifjaaOpenF
import Derived.Test.YtajfpjggdbifjaaFsA
namespace Go.Proofs.Ytajfpjggdbifjaa
open Go.ChangeShapes Go.WideShapes Go.ChangeAt Go.RowKit Go.Joins
set_option linter.unusedVariables false
set_option linter.unusedSimpArgs false
set_option linter.unnecessarySimpa false

theorem open_varrW {H : Type} {enc : TypeId × Value → H} {w : World} {spare : Nat → Bool} {held : Bool} {fuel : Nat} {v : Value} {x : DataW H × List MemPlace}
    (h : DataW.trod enc Try.prog w 0 spare held fuel 24 [v] = some x) : ∃ (a : Option Addr) (n c : Nat) (zs : List Nat), v = .slice a n c ∧ zs.length = n ∧ n ≤ 9223372036854775807 ∧ VArr w a (flts zs) ∧ wfF zs := by
  rcases Go.Deep.open_slice1 Try.underlying24 cells_float32 h with ⟨hcs, hx⟩ | ⟨a, len, cap, m, n, V, D, Pl, hcs, _, hl, hm, hmm, _, hx⟩
  · simp only [List.cons.injEq, and_true] at hcs
    exact ⟨none, 0, 0, [], hcs, rfl, by omega, VArr.nil _ _, fun k hk => absurd hk (by simp)⟩
  · simp only [List.cons.injEq, and_true] at hcs
    have hm' : cap ≤ 9223372036854775807 := hm
    have hlen : len ≤ m := by rw [hmm]; split <;> omega
    obtain ⟨B, hB⟩ := Go.Deep.choose_lt (α := Nat) (n := len) (p := fun i b => V i = .float .f32 b ∧ b < 4294967296) (fun i hi => by
      obtain ⟨b, h1, h2, h3⟩ := trod_flt Try.underlying28 (hx i (by omega)).2
      exact ⟨b, by simpa using h1, by simpa [Lit.wf] using h3⟩)
    refine ⟨some a, len, cap, (List.range len).map B, hcs, by simp, by omega, fun i v hv => ?_, fun k hk => ?_⟩
    rotate_left
    · have hk' : k < len := by simpa using hk
      simpa [hk'] using (hB k hk').2
    have hi : i < len := by
      have := (List.getElem?_eq_some_iff.1 hv).1
      simpa using this
    have hc := (hx i (by omega)).1
    have h0 := (hx 0 (by omega)).1
    obtain ⟨b, o, spot⟩ := a
    have hspot : spot = none := by simpa [Addr.add] using World.cell?_spot h0
    subst hspot
    refine ⟨b, o, rfl, ?_⟩
    rw [flts_get (by simpa using hi)] at hv
    rw [Addr.add_lit] at hc
    rw [hc, (hB i hi).1]
    cases hv
    simp [List.getD, hi]

set_option maxRecDepth 100000 in
theorem open_fieldw {H : Type} {enc : TypeId × Value → H} {w : World} {spare : Nat → Bool} {held : Bool} {b0 : Nat} {v : Value} {d : DataW H} {p : List MemPlace}
    (hv : Value.okWide Try.prog w .any b0 56 v) (h : DataW.Trod enc Try.prog w 0 spare held 56 v d p) :
    ∃ (W H : Int) (R : Bool) (a : Option Addr) (n c : Nat) (zs : List Nat), v = .agg #[.int .i64 W, .int .i64 H, .bool R, .slice a n c] ∧ zs.length = n ∧ n ≤ 9223372036854775807 ∧ VArr w a (flts zs) ∧ wfF zs ∧ (Lit.int .i64 W).wf = true ∧ (Lit.int .i64 H).wf = true := by
  obtain ⟨c0, c1, c2, c3, y0, y1, y2, y3, n, rfl, rfl, rfl, h0, h1, h2, h3⟩ := open_agg4 Try.underlying56 (by kernel_rfl) cells_lawsField hv h
  obtain ⟨W, e0, _, w0⟩ := DataW.trod_int Try.underlying2 h0
  obtain ⟨H, e1, _, w1⟩ := DataW.trod_int Try.underlying2 h1
  obtain ⟨R, e2, _⟩ := DataW.trod_bool Try.underlying4 h2
  obtain ⟨a, n, c, zs, rfl, hz, hn, hA, hw⟩ := open_varrW h3
  simp only [List.cons.injEq, and_true] at e0 e1 e2
  subst e0 e1 e2
  exact ⟨W, H, R, a, n, c, zs, rfl, hz, hn, hA, hw, w0, w1⟩
end Go.Proofs.Ytajfpjggdbifjaa
