/-
  How the statements' melts read. (Printed by gen_melt.py.)
-/
import Derived.Test.YtajfpjggdbifjaaOpenW
import Derived.Test.YtajfpjggdbifjaaMeA
namespace Go.Proofs.Ytajfpjggdbifjaa
open Go.ChangeShapes Go.WideShapes Go.ChangeAt Go.RowKit Go.Joins
set_option linter.unusedVariables false
set_option linter.unusedSimpArgs false
set_option linter.unnecessarySimpa false

theorem cells_i64M : Try.prog.cellsOf 2 = 1 := by kernel_rfl
theorem cells_boolM : Try.prog.cellsOf 4 = 1 := by kernel_rfl
theorem cells_floatsM : Try.prog.cellsOf 24 = 1 := by kernel_rfl
theorem cells_lawsMelt : Try.prog.cellsOf 58 = 14 := by kernel_rfl
theorem open_fieldcells {H : Type} {enc : TypeId × Value → H} {w : World} {spare : Nat → Bool} {held : Bool} {fuel : Nat} {x : DataW H × List MemPlace} {c0 c1 c2 c3 : Value}
    (h : DataW.trod enc Try.prog w 0 spare held fuel 56 [c0, c1, c2, c3] = some x) :
    ∃ (W H : Int) (R : Bool) (a : Option Addr) (n c : Nat) (zs : List Nat), c0 = .int .i64 W ∧ c1 = .int .i64 H ∧ c2 = .bool R ∧ c3 = .slice a n c ∧ zs.length = n ∧ n ≤ 9223372036854775807 ∧ VArr w a (flts zs) ∧ wfF zs := by
  obtain ⟨y0, y1, y2, y3, n, _, _, h0, h1, h2, h3⟩ := trod_struct4 Try.underlying56 h
  have g0 : DataW.trod enc Try.prog w 0 spare held n 2 [c0] = some y0 := by simpa [cells_i64M] using h0
  have g1 : DataW.trod enc Try.prog w 0 spare held n 2 [c1] = some y1 := by simpa [cells_i64M] using h1
  have g2 : DataW.trod enc Try.prog w 0 spare held n 4 [c2] = some y2 := by simpa [cells_boolM] using h2
  have g3 : DataW.trod enc Try.prog w 0 spare held n 24 [c3] = some y3 := by simpa [cells_floatsM] using h3
  obtain ⟨W, e0, _, w0⟩ := DataW.trod_int Try.underlying2 g0
  obtain ⟨H, e1, _, w1⟩ := DataW.trod_int Try.underlying2 g1
  obtain ⟨R, e2, _⟩ := DataW.trod_bool Try.underlying4 g2
  obtain ⟨a, n, c, zs, rfl, hz, hn, hA, hw⟩ := open_varrW g3
  simp only [List.cons.injEq, and_true] at e0 e1 e2
  exact ⟨W, H, R, a, n, c, zs, e0, e1, e2, rfl, hz, hn, hA, hw⟩
theorem array14 {α : Type} {cs : Array α} (h : cs.size = 14) : ∃ c0 c1 c2 c3 c4 c5 c6 c7 c8 c9 c10 c11 c12 c13, cs = #[c0, c1, c2, c3, c4, c5, c6, c7, c8, c9, c10, c11, c12, c13] := by
  obtain ⟨l⟩ := cs
  match l, h with
  | [c0, c1, c2, c3, c4, c5, c6, c7, c8, c9, c10, c11, c12, c13], _ => exact ⟨c0, c1, c2, c3, c4, c5, c6, c7, c8, c9, c10, c11, c12, c13, rfl⟩
set_option maxRecDepth 100000 in
theorem open_melt {H : Type} {enc : TypeId × Value → H} {w : World} {spare : Nat → Bool} {held : Bool} {b0 : Nat} {v : Value} {d : DataW H} {p : List MemPlace}
    (hv : Value.okWide Try.prog w .any b0 58 v) (h : DataW.Trod enc Try.prog w 0 spare held 58 v d p) :
    ∃ (W H : Int) (R : Bool) (a : Option Addr) (n c : Nat) (W' H' : Int) (R' : Bool) (a' : Option Addr) (n' c' : Nat) (f1 f2 f3 f4 f5 : Nat) (k : Int) (xs xs' : List Nat), v = .agg #[.int .i64 W, .int .i64 H, .bool R, .slice a n c, .int .i64 W', .int .i64 H', .bool R', .slice a' n' c', .float .f32 f1, .float .f32 f2, .float .f32 f3, .float .f32 f4, .float .f32 f5, .int .i64 k] ∧ xs.length = n ∧ n ≤ 9223372036854775807 ∧ VArr w a (flts xs) ∧ wfF xs ∧ xs'.length = n' ∧ n' ≤ 9223372036854775807 ∧ VArr w a' (flts xs') ∧ wfF xs' ∧ (Lit.int .i64 k).wf = true ∧ (f1 < 4294967296 ∧ f2 < 4294967296 ∧ f3 < 4294967296 ∧ f4 < 4294967296 ∧ f5 < 4294967296) := by
  obtain ⟨cs, rfl, hsz⟩ := okWide_struct Try.underlying58 hv
  obtain ⟨c0, c1, c2, c3, c4, c5, c6, c7, c8, c9, c10, c11, c12, c13, rfl⟩ := array14 (hsz.trans cells_lawsMelt)
  obtain ⟨fuel, hf⟩ := h
  have hf' : DataW.trod enc Try.prog w 0 spare held fuel 58 [c0, c1, c2, c3, c4, c5, c6, c7, c8, c9, c10, c11, c12, c13] = some (d, p) := hf
  obtain ⟨ys, m, _, _, _, hlen, hg⟩ := DataW.trod_struct Try.underlying58 hf'
  match ys, hlen with
  | [y0, y1, y2, y3, y4, y5, y6, y7], _ =>
    have g0 : DataW.trod enc Try.prog w 0 spare held m 56 [c0, c1, c2, c3] = some y0 := by have := hg 0 _ rfl; simpa [cells_lawsField] using this
    have g1 : DataW.trod enc Try.prog w 0 spare held m 56 [c4, c5, c6, c7] = some y1 := by have := hg 1 _ rfl; simpa [cells_lawsField] using this
    have g2 : DataW.trod enc Try.prog w 0 spare held m 28 [c8] = some y2 := by have := hg 2 _ rfl; simpa [cells_float32] using this
    have g3 : DataW.trod enc Try.prog w 0 spare held m 28 [c9] = some y3 := by have := hg 3 _ rfl; simpa [cells_float32] using this
    have g4 : DataW.trod enc Try.prog w 0 spare held m 28 [c10] = some y4 := by have := hg 4 _ rfl; simpa [cells_float32] using this
    have g5 : DataW.trod enc Try.prog w 0 spare held m 28 [c11] = some y5 := by have := hg 5 _ rfl; simpa [cells_float32] using this
    have g6 : DataW.trod enc Try.prog w 0 spare held m 28 [c12] = some y6 := by have := hg 6 _ rfl; simpa [cells_float32] using this
    have g7 : DataW.trod enc Try.prog w 0 spare held m 2 [c13] = some y7 := by have := hg 7 _ rfl; simpa [cells_i64M] using this
    obtain ⟨W, H, R, a, n, c, zs, rfl, rfl, rfl, rfl, hz, hn, hA, hw⟩ := open_fieldcells g0
    obtain ⟨W', H', R', a', n', c', zs', rfl, rfl, rfl, rfl, hz', hn', hA', hw'⟩ := open_fieldcells g1
    obtain ⟨f1, e1, _, v1⟩ := trod_flt Try.underlying28 g2
    obtain ⟨f2, e2, _, v2⟩ := trod_flt Try.underlying28 g3
    obtain ⟨f3, e3, _, v3⟩ := trod_flt Try.underlying28 g4
    obtain ⟨f4, e4, _, v4⟩ := trod_flt Try.underlying28 g5
    obtain ⟨f5, e5, _, v5⟩ := trod_flt Try.underlying28 g6
    obtain ⟨k, e6, _, v6⟩ := DataW.trod_int Try.underlying2 g7
    simp only [List.cons.injEq, and_true] at e1 e2 e3 e4 e5 e6
    subst e1 e2 e3 e4 e5 e6
    exact ⟨W, H, R, a, n, c, W', H', R', a', n', c', f1, f2, f3, f4, f5, k, zs, zs', rfl, hz, hn, hA, hw, hz', hn', hA', hw', v6, by simpa [Lit.wf] using v1, by simpa [Lit.wf] using v2, by simpa [Lit.wf] using v3, by simpa [Lit.wf] using v4, by simpa [Lit.wf] using v5⟩
end Go.Proofs.Ytajfpjggdbifjaa
