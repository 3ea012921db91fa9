/-
  Fields made by a function of the place: 'made'; and l02New.
-/
import Derived.Test.YtdggpkgbncmlbaaFld
import Derived.Test.YtdggpkgbncmlbaaLate
namespace Go.Proofs.Ytdggpkgbncmlbaa
open Go.RowKit
set_option linter.unusedVariables false
set_option linter.unusedSimpArgs false
set_option linter.unnecessarySimpa false

theorem Ext.fin4 {w w5 : World} {q : Nat} (hX : Ext w w5) (hq : w.heap.size ≤ q) (v0 v1 v2 v3 : Value) : Ext w ((((w5.setCell ⟨q, 0, none⟩ v0).setCell ⟨q, 1, none⟩ v1).setCell ⟨q, 2, none⟩ v2).setCell ⟨q, 3, none⟩ v3) :=
  Below.setCell (Below.setCell (Below.setCell (Below.setCell hX hq _) hq _) hq _) hq _
/-- Four stores fill a box. -/
theorem stored4 {w w1 : World} {e T : TypeId} {ca : Array Value} {B q m : Nat} {u0 u1 u2 u3 : Value} {v : Value} {xs : List Value} (hX : Ext w w1) (hT : T ≠ e) (hq : w.heap.size ≤ q) (D : w1.heap[q]? = some (.cells ca T (0, 0))) (hO : w1.ownsRow B e 1 v m xs) :
    Ext w ((((w1.setCell ⟨q, 0, none⟩ u0).setCell ⟨q, 1, none⟩ u1).setCell ⟨q, 2, none⟩ u2).setCell ⟨q, 3, none⟩ u3) ∧ ((((w1.setCell ⟨q, 0, none⟩ u0).setCell ⟨q, 1, none⟩ u1).setCell ⟨q, 2, none⟩ u2).setCell ⟨q, 3, none⟩ u3).ownsRow B e 1 v m xs := by
  have hne : ∀ {w2 : World} {ca : Array Value}, w2.heap[q]? = some (.cells ca T (0, 0)) → w2.ownsRow B e 1 v m xs → ∀ (i : Nat) (u : Value), (w2.setCell ⟨q, i, none⟩ u).ownsRow B e 1 v m xs ∧ (w2.setCell ⟨q, i, none⟩ u).heap[q]? = some (.cells (ca.setIfInBounds i u) T (0, 0)) := by
    intro w2 ca D hO i u
    refine ⟨ownsRow_setCell_other hO ?_ u, cells_setCell D u⟩
    intro hh
    rcases hO.2 with ⟨rfl, _⟩ | ⟨g, cap, cur, rfl, hb, hg, _⟩
    · simp [Value.ownBlock] at hh
    · simp only [Value.ownBlock, Option.some.injEq] at hh
      subst hh
      rw [hg] at D
      simp only [Option.some.injEq, Obj.cells.injEq] at D
      exact hT D.2.1.symm
  obtain ⟨a1, a2⟩ := hne D hO 0 u0
  obtain ⟨b1, b2⟩ := hne a2 a1 1 u1
  obtain ⟨c1, c2⟩ := hne b2 b1 2 u2
  obtain ⟨d1, d2⟩ := hne c2 c1 3 u3
  exact ⟨hX.fin4 hq u0 u1 u2 u3, d1⟩
theorem ownsRow_emptyF {w : World} {B b : Nat} {e : TypeId} (hB : B ≤ b) (hb : w.heap[b]? = some (.cells #[] e (0, 0))) : w.ownsRow B e 1 (.slice (some ⟨b, 0, none⟩) 0 0) 0 [] :=
  ⟨rfl, .inr ⟨b, 0, #[], rfl, hB, hb, Nat.le_refl _, by simp [maxLen], rfl, rfl⟩⟩

/-- The first k values of a grid, row by row. -/
def gridF (W : Nat) (g : Int → Int → Option Nat) (k : Nat) : List (Option Nat) := (List.range k).map fun i => g ((i % W : Nat) : Int) ((i / W : Nat) : Int)
@[simp] theorem gridF_length (W : Nat) (g : Int → Int → Option Nat) (k : Nat) : (gridF W g k).length = k := by simp [gridF]
theorem gridF_next (W : Nat) (g : Int → Int → Option Nat) (k : Nat) : gridF W g (k + 1) = gridF W g k ++ [g ((k % W : Nat) : Int) ((k / W : Nat) : Int)] := by
  unfold gridF
  rw [List.range_succ, List.map_append]
  simp only [List.map_cons, List.map_nil]
theorem gridF_succ {W : Nat} (g : Int → Int → Option Nat) {x y : Nat} (hx : x < W) : gridF W g (y * W + x + 1) = gridF W g (y * W + x) ++ [g x y] := by
  have h1 : (y * W + x) % W = x := by rw [Nat.mul_add_mod_self_right]; exact Nat.mod_eq_of_lt hx
  have h2 : (y * W + x) / W = y := by rw [Nat.mul_comm, Nat.mul_add_div (by omega), Nat.div_eq_of_lt hx]; rfl
  rw [gridF_next, h1, h2]
theorem gridF_get {W : Nat} (g : Int → Int → Option Nat) {k i : Nat} (h : i < k) : fat (gridF W g k) i = g ((i % W : Nat) : Int) ((i / W : Nat) : Int) := by
  simp [fat, gridF, h]
theorem gridF_congr {W : Nat} {g h : Int → Int → Option Nat} {k : Nat} (e : ∀ i, i < k → g ((i % W : Nat) : Int) ((i / W : Nat) : Int) = h ((i % W : Nat) : Int) ((i / W : Nat) : Int)) : gridF W g k = gridF W h k := by
  unfold gridF
  exact List.map_congr_left fun i hi => e i (by simpa using hi)
theorem tmodF_nat (k W : Nat) : (k : Int).tmod (W : Int) = ((k % W : Nat) : Int) := rfl
theorem tdivF_nat (k W : Nat) : (k : Int).tdiv (W : Int) = ((k / W : Nat) : Int) := rfl

/-- What stands while a field is filled: the box of the result at r, the field's at q. -/
structure FillF (w : World) (r q : Nat) (W H : Int) (R : Bool) (xs : List Nat) (wr : World) (k : Nat) : Prop where
  ext : Ext w wr
  res : wr.heap[r]? = some (.cells #[.int .i64 0, .int .i64 0, .bool false, .slice none 0 0] 85 (0, 0))
  own : ∃ a c, wr.heap[q]? = some (.cells #[.int .i64 W, .int .i64 H, .bool R, .slice a k c] 85 (0, 0)) ∧ wr.ownsRow w.heap.size 41 1 (.slice a k c) k (flts xs)

/-- One element more. -/
theorem FillF.push {w : World} {r q : Nat} {W H : Int} {R : Bool} {xs : List Nat} {wr w1 : World} {k c : Nat} {a : Option Addr} {z : Nat} {v' : Value} (hX : Ext w wr) (hq : w.heap.size ≤ q) (hrq : r < q)
    (hR : wr.heap[r]? = some (.cells #[.int .i64 0, .int .i64 0, .bool false, .slice none 0 0] 85 (0, 0)))
    (hB : wr.heap[q]? = some (.cells #[.int .i64 W, .int .i64 H, .bool R, .slice a k c] 85 (0, 0)))
    (hO : wr.ownsRow w.heap.size 41 1 (.slice a k c) k (flts xs))
    (hown : w1.ownsRow w.heap.size 41 1 v' (k + 1) (flts xs ++ [.float .f32 z])) (hg : wr.grownBy w1 (Value.slice a k c).ownBlock) :
    FillF w r q W H R (xs ++ [z]) (w1.setCell ⟨q, 3, none⟩ v') (k + 1) := by
  obtain ⟨a', c', rfl⟩ := ownsRow_shape hown
  obtain ⟨h1, h2⟩ := appended hX hO hg
  obtain ⟨h3, h4, h5⟩ := stored (i := 3) (u := .slice a' (k + 1) c') h1 (by decide) (by omega) (h2 (by decide) hB) hown
  refine ⟨h3, ?_, a', c', h4, ?_⟩
  · rw [cells_setOther (by omega)]; exact h2 (by decide) hR
  · rw [flts_append]; exact h5
/-- The box's cell in front of the store. -/
theorem FillF.cellAt {w : World} {q : Nat} {W H : Int} {R : Bool} {xs : List Nat} {wr w1 : World} {k c : Nat} {a : Option Addr} (hX : Ext w wr)
    (hB : wr.heap[q]? = some (.cells #[.int .i64 W, .int .i64 H, .bool R, .slice a k c] 85 (0, 0)))
    (hO : wr.ownsRow w.heap.size 41 1 (.slice a k c) k (flts xs)) (hg : wr.grownBy w1 (Value.slice a k c).ownBlock) :
    w1.heap[q]? = some (.cells #[.int .i64 W, .int .i64 H, .bool R, .slice a k c] 85 (0, 0)) :=
  (appended hX hO hg).2 (by decide) hB

/-- A field of one's own, alone. -/
def newF (w : World) (W H : Int) (R : Bool) (fs : List (Option Nat)) (e : Ending) (w' : World) : Prop :=
  ∃ a n c xs, e = .returned (.agg #[.int .i64 W, .int .i64 H, .bool R, .slice a n c]) ∧ Ext w w' ∧ w'.ownsRow w.heap.size 41 1 (.slice a n c) n (flts xs) ∧ xs.length = n ∧ n ≤ 1048576 ∧ fas xs = fs

def kI (b : Bool) (x : Int) : Int := if b then x else 0
def kB (b : Bool) (x : Bool) : Bool := if b then x else false
def kL (b : Bool) (fs : List (Option Nat)) : List (Option Nat) := if b then fs else []
/-- A field and whether there is one. -/
def twoF (w : World) (W H : Int) (R : Bool) (fs : List (Option Nat)) (ok : Bool) (e : Ending) (w' : World) : Prop :=
  ∃ a n c xs, e = .returned (.tuple #[.agg #[.int .i64 W, .int .i64 H, .bool R, .slice a n c], .bool ok]) ∧ Ext w w' ∧ w'.ownsRow w.heap.size 41 1 (.slice a n c) n (flts xs) ∧ xs.length = n ∧ n ≤ 1048576 ∧ fas xs = fs
/-- An answer under a condition. -/
def keepF (w : World) (ok : Bool) (W H : Int) (R : Bool) (fs : List (Option Nat)) (e : Ending) (w' : World) : Prop := twoF w (kI ok W) (kI ok H) (kB ok R) (kL ok fs) ok e w'
theorem keepF_no {w : World} {ok : Bool} {W H : Int} {R : Bool} {fs : List (Option Nat)} {e : Ending} {w' : World} (h : ok = false) (k : twoF w 0 0 false [] false e w') : keepF w ok W H R fs e w' := by
  unfold keepF; rw [h]; exact k
theorem keepF_yes {w : World} {ok : Bool} {W H : Int} {R : Bool} {fs : List (Option Nat)} {e : Ending} {w' : World} (h : ok = true) (k : twoF w W H R fs true e w') : keepF w ok W H R fs e w' := by
  unfold keepF; rw [h]; exact k
theorem twoF_none {w w' : World} (h : Ext w w') : twoF w 0 0 false [] false (.returned (.tuple #[.agg #[.int .i64 0, .int .i64 0, .bool false, .slice none 0 0], .bool false])) w' :=
  ⟨none, 0, 0, [], rfl, h, World.ownsRow_nil _ _ _ _, rfl, by omega, rfl⟩

end Go.Proofs.Ytdggpkgbncmlbaa
