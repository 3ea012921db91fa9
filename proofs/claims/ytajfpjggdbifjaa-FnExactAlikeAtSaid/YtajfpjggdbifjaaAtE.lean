/-
  Contract of 'built', which fills heights by a closure.
-/
import Derived.Test.YtajfpjggdbifjaaAtD
import Derived.Test.YtajfpjggdbifjaaLib4
namespace Go.Proofs.Ytajfpjggdbifjaa
open Go.RowKit
set_option linter.unusedVariables false
set_option linter.unusedSimpArgs false
set_option linter.unnecessarySimpa false

/-- The first k values of a grid, row by row. -/
def gridV (W : Nat) (g : Int → Int → Int) (k : Nat) : List Int := (List.range k).map fun i => g ((i % W : Nat) : Int) ((i / W : Nat) : Int)
@[simp] theorem gridV_length (W : Nat) (g : Int → Int → Int) (k : Nat) : (gridV W g k).length = k := by simp [gridV]
theorem gridV_succ {W : Nat} (g : Int → Int → Int) {x y : Nat} (hx : x < W) : gridV W g (y * W + x + 1) = gridV W g (y * W + x) ++ [g x y] := by
  have h1 : (y * W + x) % W = x := by rw [Nat.mul_add_mod_self_right]; exact Nat.mod_eq_of_lt hx
  have h2 : (y * W + x) / W = y := by rw [Nat.mul_comm, Nat.mul_add_div (by omega), Nat.div_eq_of_lt hx]; rfl
  unfold gridV
  rw [List.range_succ, List.map_append]
  simp only [List.map_cons, List.map_nil, h1, h2]
theorem ints_append (xs ys : List Int) : ints (xs ++ ys) = ints xs ++ ints ys := by simp [ints]

/-- What stands while heights are filled: the result's box at p, the heights' at q. -/
structure Filling (w : World) (W H : Int) (zs : List Int) (q : Nat) (wr : World) (k : Nat) : Prop where
  ext : Ext w wr
  res : wr.heap[w.heap.size]? = some (.cells #[.int .i64 0, .int .i64 0, .slice none 0 0] 81 (0, 0))
  own : ∃ a c, wr.heap[q]? = some (.cells #[.int .i64 W, .int .i64 H, .slice a k c] 81 (0, 0)) ∧ wr.ownsRow w.heap.size 2 1 (.slice a k c) k (ints zs)

theorem Filling.of_ext {w : World} {W H : Int} {zs : List Int} {q : Nat} {wr wr' : World} {k : Nat} (h : Filling w W H zs q wr k) (e : Ext wr wr') : Filling w W H zs q wr' k :=
  let ⟨a, c, h1, h2⟩ := h.own; ⟨h.ext.trans e, e.block h.res, a, c, e.block h1, ownsRow_ext h2 e⟩

/-- One element more. -/
theorem Filling.push {w : World} {W H : Int} {zs : List Int} {q : Nat} {wr w1 : World} {k c : Nat} {a : Option Addr} {z : Int} {v' : Value} (hX : Ext w wr) (hq : w.heap.size < q)
    (hR : wr.heap[w.heap.size]? = some (.cells #[.int .i64 0, .int .i64 0, .slice none 0 0] 81 (0, 0)))
    (hB : wr.heap[q]? = some (.cells #[.int .i64 W, .int .i64 H, .slice a k c] 81 (0, 0)))
    (hO : wr.ownsRow w.heap.size 2 1 (.slice a k c) k (ints zs))
    (hown : w1.ownsRow w.heap.size 2 1 v' (k + 1) (ints zs ++ [.int .i64 z])) (hg : wr.grownBy w1 (Value.slice a k c).ownBlock) :
    Filling w W H (zs ++ [z]) q (w1.setCell ⟨q, 2, none⟩ v') (k + 1) := by
  obtain ⟨a', c', rfl⟩ := ownsRow_shape hown
  obtain ⟨h1, h2⟩ := appended hX hO hg
  obtain ⟨h3, h4, h5⟩ := stored (i := 2) (u := .slice a' (k + 1) c') h1 (by decide) (by omega) (h2 (by decide) hB) hown
  refine ⟨h3, ?_, a', c', h4, ?_⟩
  · rw [cells_setOther (by omega)]; exact h2 (by decide) hR
  · rw [ints_append]; exact h5
/-- The box's cell in front of the store. -/
theorem Filling.cellAt {w : World} {W H : Int} {zs : List Int} {q : Nat} {wr w1 : World} {k c : Nat} {a : Option Addr} (hX : Ext w wr)
    (hB : wr.heap[q]? = some (.cells #[.int .i64 W, .int .i64 H, .slice a k c] 81 (0, 0)))
    (hO : wr.ownsRow w.heap.size 2 1 (.slice a k c) k (ints zs)) (hg : wr.grownBy w1 (Value.slice a k c).ownBlock) :
    w1.heap[q]? = some (.cells #[.int .i64 W, .int .i64 H, .slice a k c] 81 (0, 0)) :=
  (appended hX hO hg).2 (by decide) hB

/-- Heights of one's own, as an answer. -/
def newH (w : World) (W H : Int) (zs : List Int) (ok : Bool) (e : Ending) (w' : World) : Prop :=
  ∃ a n c, e = .returned (.tuple #[.agg #[.int .i64 W, .int .i64 H, .slice a n c], .bool ok]) ∧ Ext w w' ∧ w'.ownsRow w.heap.size 2 1 (.slice a n c) n (ints zs) ∧ zs.length = n ∧ n ≤ 1048576

/-- Heights handed on if they are valid. -/
def keepI (b : Bool) (x : Int) : Int := if b then x else 0
def keepL (b : Bool) (zs : List Int) : List Int := if b then zs else []
def giveH (w : World) (W H : Int) (zs : List Int) (e : Ending) (w' : World) : Prop := newH w (keepI (vldH W H zs) W) (keepI (vldH W H zs) H) (keepL (vldH W H zs) zs) (vldH W H zs) e w'

end Go.Proofs.Ytajfpjggdbifjaa
