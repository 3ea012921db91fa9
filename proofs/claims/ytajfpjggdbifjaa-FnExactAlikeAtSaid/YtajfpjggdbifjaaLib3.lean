/-
  Plain words for the statements' own walks: rows apart from each other and from boxes; what stays when a row is marked.
-/
import Derived.Test.YtajfpjggdbifjaaLib2
namespace Go.Proofs.Ytajfpjggdbifjaa
open Go.RowKit
set_option linter.unusedVariables false
set_option linter.unusedSimpArgs false

theorem lt_of_block {w : World} {q : Nat} {o : Obj} (h : w.heap[q]? = some o) : q < w.heap.size := (Array.getElem?_eq_some_iff.1 h).1

/-- A block of another element type stays when a row is written. -/
theorem block_keep {w w' : World} {base : Nat} {e T : TypeId} {v : Value} {n : Nat} {xs : List Value} {q : Nat} {ca : Array Value} {fr : Nat × Nat} (hT : T ≠ e) (hO : w.ownsRow base e 1 v n xs) (hG : w.grownBy w' v.ownBlock) (D : w.heap[q]? = some (.cells ca T fr)) : w'.heap[q]? = some (.cells ca T fr) := by
  rw [hG.block q (lt_of_block D) ?_]; exact D
  intro hq
  rcases hO.2 with ⟨rfl, _⟩ | ⟨g, cap, cur, rfl, hb, hg, _⟩
  · simp [Value.ownBlock] at hq
  · simp only [Value.ownBlock, Option.some.injEq] at hq
    subst hq
    rw [hg] at D
    simp only [Option.some.injEq, Obj.cells.injEq] at D
    exact hT D.2.1.symm

/-- An earlier row stays when a later one is written. -/
theorem row_keep1 {w w' : World} {base base' : Nat} {e e' : TypeId} {s : Nat} {v v' : Value} {n n' : Nat} {xs xs' : List Value} (hO : w.ownsRow base e s v n xs) (hO' : w.ownsRow base' e' 1 v' n' xs') (hl : ∀ g, v.ownBlock = some g → g < base') (hG : w.grownBy w' v'.ownBlock) : w'.ownsRow base e s v n xs :=
  hO.kept hG (by
    cases hv : v.ownBlock with
    | none => exact .inl rfl
    | some g =>
      refine .inr fun hh => ?_
      have h1 := hl g hv
      have h2 := (hO'.lt g hh.symm).1
      omega)
/-- A later row stays when an earlier one is written. -/
theorem row_keep2 {w w' : World} {base base' : Nat} {e e' : TypeId} {s : Nat} {v v' : Value} {n n' : Nat} {xs xs' : List Value} (hO : w.ownsRow base e s v n xs) (hO' : w.ownsRow base' e' 1 v' n' xs') (hl : ∀ g, v'.ownBlock = some g → g < base) (hG : w.grownBy w' v'.ownBlock) : w'.ownsRow base e s v n xs :=
  hO.kept hG (by
    cases hv : v.ownBlock with
    | none => exact .inl rfl
    | some g =>
      refine .inr fun hh => ?_
      have h1 := hl g hh.symm
      have h2 := (hO.lt g hv).1
      omega)
/-- What lies below the row stays. -/
theorem Ext.rowv {a b c : World} {base : Nat} {e : TypeId} {s : Nat} {v : Value} {n : Nat} {xs : List Value} (h : Ext a b) (hO : b.ownsRow base e s v n xs) (hb : a.heap.size ≤ base) (k : b.grownBy c v.ownBlock) : Ext a c :=
  Below.mk (k.os.trans (Below.os h)) (k.tape.trans (Below.tape h)) (k.output.trans (Below.output h)) (Nat.le_trans (Below.size h) k.size) fun i hi =>
    (k.block i (Nat.lt_of_lt_of_le hi (Below.size h)) (by
      intro e
      have := (hO.lt i e.symm).1
      omega)).trans (Below.block h i hi)

/-- A copy, as a region's contract: whatever is handed over. -/
def toPostHeights (w0 : World) (args : Array Value) (v : Value) (w : World) : Prop :=
  ∀ W H a n c, args = #[.agg #[.int .i64 W, .int .i64 H, .slice a n c]] → ∃ b, v = .agg #[.int .i64 W, .int .i64 H, .slice (some ⟨b, 0, none⟩) n n] ∧ ∀ zs : List Int, zs.length = n → VArr w0 a (ints zs) → VArr w (some ⟨b, 0, none⟩) (ints zs)
theorem toPostHeights.ext {w0 : World} {args : Array Value} {v : Value} {w w' : World} (h : toPostHeights w0 args v w) (e : Ext w w') : toPostHeights w0 args v w' := fun W H a n c ha =>
  let ⟨b, hb, hv⟩ := h W H a n c ha; ⟨b, hb, fun zs hz h0 => (hv zs hz h0).ext e⟩
theorem toPostHeights_get {w0 : World} {v : Value} {w : World} {W H : Int} {a : Option Addr} {n c : Nat} {zs : List Int} (h : toPostHeights w0 #[.agg #[.int .i64 W, .int .i64 H, .slice a n c]] v w) (hz : zs.length = n) (h0 : VArr w0 a (ints zs)) :
    (∃ b, v = .agg #[.int .i64 W, .int .i64 H, .slice (some ⟨b, 0, none⟩) n n]) ∧ ∃ b, v = .agg #[.int .i64 W, .int .i64 H, .slice (some ⟨b, 0, none⟩) n n] ∧ VArr w (some ⟨b, 0, none⟩) (ints zs) :=
  let ⟨b, hb, hv⟩ := h W H a n c rfl; ⟨⟨b, hb⟩, b, hb, hv zs hz h0⟩
theorem VArr.unique {w : World} {a : Option Addr} : ∀ {vs vs' : List Value}, vs.length = vs'.length → VArr w a vs → VArr w a vs' → vs = vs' := by
  intro vs vs' hl h h'
  refine List.ext_getElem? fun i => ?_
  by_cases hi : i < vs.length
  · have e1 := List.getElem?_eq_getElem hi
    have e2 := List.getElem?_eq_getElem (show i < vs'.length by omega)
    obtain ⟨b, o, ha, hc⟩ := h i _ e1
    obtain ⟨b', o', ha', hc'⟩ := h' i _ e2
    rw [ha] at ha'
    simp only [Option.some.injEq, Addr.mk.injEq, and_true] at ha'
    obtain ⟨rfl, rfl⟩ := ha'
    rw [e1, e2, ← hc, ← hc']
  · rw [List.getElem?_eq_none (by omega), List.getElem?_eq_none (by omega)]
theorem ints_inj {zs zs' : List Int} (h : ints zs = ints zs') : zs = zs' := by
  unfold ints at h
  exact (List.map_inj_right (fun a b h => by simpa using h)).1 h
theorem toPostHeights_mk {w0 : World} {w : World} {W H : Int} {a : Option Addr} {n c b : Nat} {zs : List Int} (hz : zs.length = n) (h0 : VArr w0 a (ints zs)) (hv : VArr w (some ⟨b, 0, none⟩) (ints zs)) :
    toPostHeights w0 #[.agg #[.int .i64 W, .int .i64 H, .slice a n c]] (.agg #[.int .i64 W, .int .i64 H, .slice (some ⟨b, 0, none⟩) n n]) w := by
  intro W' H' a' n' c' he
  simp at he
  obtain ⟨rfl, rfl, rfl, rfl, rfl⟩ := he
  refine ⟨b, rfl, fun zs' hz' h' => ?_⟩
  have := ints_inj (VArr.unique (by simp [hz, hz']) h0 h')
  subst this
  exact hv
end Go.Proofs.Ytajfpjggdbifjaa
