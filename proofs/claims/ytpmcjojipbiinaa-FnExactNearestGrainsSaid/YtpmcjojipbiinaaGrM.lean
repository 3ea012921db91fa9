/-
  PutLabel by the reference.
-/
import Derived.Test.YtpmcjojipbiinaaGrL
namespace Go.Proofs.Ytpmcjojipbiinaa
open Go.RowKit
set_option linter.unusedVariables false
set_option linter.unusedSimpArgs false
set_option linter.unnecessarySimpa false

def putOk (W H : Int) (zs : List Int) (x y l : Int) : Bool := hasF W H zs x y && inB l 0 63
def putZ (W : Int) (zs : List Int) (x y l : Int) : List Int := zs.set (x + W * y).toNat l
theorem ne_of_row {w : World} {base e n m c g q : Nat} {T : TypeId} {xs : List Value} {ca : Array Value} {fr : Nat × Nat} (hO : w.ownsRow base e 1 (.slice (some ⟨g, 0, none⟩) n c) m xs) (hT : T ≠ e) (D : w.heap[q]? = some (.cells ca T fr)) : q ≠ g := by
  rintro rfl
  rcases hO.2 with ⟨h, _⟩ | ⟨g', cap, cur, h, hb, hg, _⟩
  · simp at h
  · simp only [Value.slice.injEq, Option.some.injEq, Addr.mk.injEq, and_true, true_and] at h
    obtain ⟨rfl, rfl, rfl⟩ := h
    rw [hg] at D
    simp only [Option.some.injEq, Obj.cells.injEq] at D
    exact hT D.2.1.symm
theorem own_int_at {w : World} {base : Nat} {e : TypeId} {g n m c : Nat} {zs : List Int} (h : w.ownsRow base e 1 (.slice (some ⟨g, 0, none⟩) n c) m (ints zs)) {k : Nat} (hk : k < zs.length) : w.cell? ⟨g, k, none⟩ = some (.int .i64 (zs[k]?.getD 0)) ∧ w.frozen? ⟨g, k, none⟩ = false := by
  have := (ownsRow_varr h).ofInts k hk
  simp only [Nat.zero_add, List.getD_eq_getElem?_getD] at this
  exact ⟨this, ownsRow_frozen h k⟩

end Go.Proofs.Ytpmcjojipbiinaa
