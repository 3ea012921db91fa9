/-
  ShiftHeights by the reference.
-/
import Derived.Test.YtajfpjggdbifjaaAtH
namespace Go.Proofs.Ytajfpjggdbifjaa
open Go.RowKit
set_option linter.unusedVariables false
set_option linter.unusedSimpArgs false
set_option linter.unnecessarySimpa false

theorem l05Shift_any (x y : Int) (w : World) : Calls Try.prog 124 #[.int .i64 x, .int .i64 y] w fun e w' => e = .returned (.bool (inB x (-16) 16 && inB y (-16) 16)) ∧ w = w' := by
  cases hx : inB x (-16) 16 with
  | false =>
    go_enter Try.func124, Try.ntmps124
    go_wp2_with (go_at_call 151; refine (l00In_any _ _ _ _).mono ?_; rw [hx]; rintro e w' ⟨rfl, rfl⟩)
    go_ret
    exact ⟨rfl, rfl⟩
  | true =>
    go_enter Try.func124, Try.ntmps124
    go_wp2_with fail
    refine (l00In_any _ _ _ _).mono ?_
    rw [hx]
    rintro e w' ⟨rfl, rfl⟩
    go_wp2_with (go_at_call 151; refine (l00In_any _ _ _ _).mono ?_; rintro e w' ⟨rfl, rfl⟩)
    go_ret
    exact ⟨rfl, rfl⟩

/-- What stands while a copy is filled anew. -/
structure Refill (w : World) (p r q : Nat) (W H : Int) (a : Option Addr) (n c : Nat) (g c' : Nat) (zs : List Int) (wr : World) : Prop where
  ext : Ext w wr
  arg : wr.heap[p]? = some (.cells #[.int .i64 W, .int .i64 H, .slice a n c] 81 (0, 0))
  res : wr.heap[r]? = some (.cells #[.int .i64 0, .int .i64 0, .slice none 0 0] 81 (0, 0))
  box : wr.heap[q]? = some (.cells #[.int .i64 W, .int .i64 H, .slice (some ⟨g, 0, none⟩) n c'] 81 (0, 0))
  row : wr.ownsRow w.heap.size 2 1 (.slice (some ⟨g, 0, none⟩) n c') n (ints zs)

theorem Refill.of_ext {w : World} {p r q : Nat} {W H : Int} {a : Option Addr} {n c g c' : Nat} {zs : List Int} {wr wr' : World} (h : Refill w p r q W H a n c g c' zs wr) (e : Ext wr wr') : Refill w p r q W H a n c g c' zs wr' :=
  ⟨h.ext.trans e, e.block h.arg, e.block h.res, e.block h.box, ownsRow_ext h.row e⟩
theorem ne_of_row {w : World} {base e n m c g q : Nat} {T : TypeId} {xs : List Value} {ca : Array Value} {fr : Nat × Nat} (hO : w.ownsRow base e 1 (.slice (some ⟨g, 0, none⟩) n c) m xs) (hT : T ≠ e) (D : w.heap[q]? = some (.cells ca T fr)) : q ≠ g := by
  rintro rfl
  rcases hO.2 with ⟨h, _⟩ | ⟨g', cap, cur, h, hb, hg, _⟩
  · simp at h
  · simp only [Value.slice.injEq, Option.some.injEq, Addr.mk.injEq, and_true, true_and] at h
    obtain ⟨rfl, rfl, rfl⟩ := h
    rw [hg] at D
    simp only [Option.some.injEq, Obj.cells.injEq] at D
    exact hT D.2.1.symm
theorem Refill.set {w : World} {p r q : Nat} {W H : Int} {a : Option Addr} {n c g c' : Nat} {zs : List Int} {wr : World} (h : Refill w p r q W H a n c g c' zs wr) (hg : w.heap.size ≤ g) (k : Nat) (z : Int) : Refill w p r q W H a n c g c' (zs.set k z) (wr.setCell ⟨g, k, none⟩ (.int .i64 z)) :=
  ⟨Below.setCell h.ext hg _, by rw [cells_setOther (ne_of_row h.row (by decide) h.arg)]; exact h.arg, by rw [cells_setOther (ne_of_row h.row (by decide) h.res)]; exact h.res,
    by rw [cells_setOther (ne_of_row h.row (by decide) h.box)]; exact h.box, by rw [← ints_set]; exact oneCell_setCell h.row _⟩

theorem own_int_at {w : World} {base : Nat} {e : TypeId} {g n m c : Nat} {zs : List Int} (h : w.ownsRow base e 1 (.slice (some ⟨g, 0, none⟩) n c) m (ints zs)) {k : Nat} (hk : k < zs.length) : w.cell? ⟨g, k, none⟩ = some (.int .i64 (zs[k]?.getD 0)) ∧ w.frozen? ⟨g, k, none⟩ = false := by
  have := (ownsRow_varr h).ofInts k hk
  simp only [Nat.zero_add, List.getD_eq_getElem?_getD] at this
  exact ⟨this, ownsRow_frozen h k⟩

theorem tmod_nat (k W : Nat) : (k : Int).tmod (W : Int) = ((k % W : Nat) : Int) := rfl
theorem tdiv_nat (k W : Nat) : (k : Int).tdiv (W : Int) = ((k / W : Nat) : Int) := rfl

end Go.Proofs.Ytajfpjggdbifjaa
