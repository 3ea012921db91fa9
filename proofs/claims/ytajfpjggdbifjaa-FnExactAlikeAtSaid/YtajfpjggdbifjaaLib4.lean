/-
  Plain words for boxes whose row grows: what an append of one element leaves; a box filled whole.
-/
import Derived.Test.YtajfpjggdbifjaaLib3
namespace Go.Proofs.Ytajfpjggdbifjaa
open Go.RowKit
set_option linter.unusedVariables false
set_option linter.unusedSimpArgs false
set_option linter.unnecessarySimpa false

/-- The row behind an append has a slice's shape. -/
theorem ownsRow_shape {w : World} {base : Nat} {e : TypeId} {v : Value} {n : Nat} {xs : List Value} (h : w.ownsRow base e 1 v n xs) : ∃ a c, v = .slice a n c := by
  obtain ⟨h1, h2⟩ := h
  rcases h2 with ⟨rfl, rfl⟩ | ⟨g, cap, cur, rfl, _⟩
  · exact ⟨_, _, rfl⟩
  · exact ⟨_, _, rfl⟩

theorem cell_one_new (w : World) (x : Value) (t : TypeId) : ∀ j u, [x][j]? = some u → (w.alloc (.cells #[x] t)).cell? ((⟨w.heap.size, 0, none⟩ : Addr).add j) = some u := by
  intro j u hj
  match j, hj with
  | 0, hj =>
    simp at hj
    subst hj
    simp [Addr.add]

theorem cell_one_at {w : World} {x : Value} {b : Nat} {t : TypeId} {fr : Nat × Nat} (h : w.heap[b]? = some (.cells #[x] t fr)) : ∀ j u, [x][j]? = some u → w.cell? ((⟨b, 0, none⟩ : Addr).add j) = some u := by
  intro j u hj
  match j, hj with
  | 0, hj =>
    simp at hj
    subst hj
    simp [Addr.add, block_cell h]

theorem ownsRow_alloc' {w : World} {base : Nat} {e : TypeId} {v : Value} {n : Nat} {xs : List Value} (h : w.ownsRow base e 1 v n xs) (o : Obj) : (w.alloc o).ownsRow base e 1 v n xs := ownsRow_ext h ((Ext.refl w).alloc o)

/-- Another block of another element type stays where a row is written or moved. -/
theorem block_apart {w w' : World} {base : Nat} {e T : TypeId} {v : Value} {n : Nat} {xs : List Value} {q : Nat} {ca : Array Value} {fr : Nat × Nat} (hT : T ≠ e) (hO : w.ownsRow base e 1 v n xs) (hG : w.grownBy w' v.ownBlock) (D : w.heap[q]? = some (.cells ca T fr)) : w'.heap[q]? = some (.cells ca T fr) := by
  rw [hG.block q (lt_of_block D) ?_]; exact D
  intro hq
  rcases hO.2 with ⟨rfl, _⟩ | ⟨g, cap, cur, rfl, hb, hg, _⟩
  · simp [Value.ownBlock] at hq
  · simp only [Value.ownBlock, Option.some.injEq] at hq
    subst hq
    rw [hg] at D
    simp only [Option.some.injEq, Obj.cells.injEq] at D
    exact hT D.2.1.symm

theorem cells_setCell {w : World} {q i : Nat} {ca : Array Value} {T : TypeId} {fr : Nat × Nat} (D : w.heap[q]? = some (.cells ca T fr)) (u : Value) : (w.setCell ⟨q, i, none⟩ u).heap[q]? = some (.cells (ca.setIfInBounds i u) T fr) := by
  simp [World.setCell, Array.getElem?_modify, D]
theorem cells_setOther {w : World} {q q' i : Nat} (h : q' ≠ q) (u : Value) : (w.setCell ⟨q, i, none⟩ u).heap[q']? = w.heap[q']? := Below.heap_setCell _ _ _ _ (by simpa using h)

/-- What an append leaves in front of the store into the box's slice. -/
theorem appended {w wr w1 : World} {e : TypeId} {a : Option Addr} {k c : Nat} {xs : List Value} (hX : Ext w wr) (hO : wr.ownsRow w.heap.size e 1 (.slice a k c) k xs) (hg : wr.grownBy w1 (Value.slice a k c).ownBlock) :
    Ext w w1 ∧ (∀ {q : Nat} {ca : Array Value} {T' : TypeId} {fr : Nat × Nat}, T' ≠ e → wr.heap[q]? = some (.cells ca T' fr) → w1.heap[q]? = some (.cells ca T' fr)) :=
  ⟨Ext.rowv hX hO (Nat.le_refl _) hg, fun hT' D => block_apart hT' hO hg D⟩

/-- .. and behind it. -/
theorem stored {w w1 : World} {e T : TypeId} {ca : Array Value} {q i m : Nat} {u : Value} {v : Value} {xs : List Value} (hX : Ext w w1) (hT : T ≠ e) (hq : w.heap.size ≤ q) (D : w1.heap[q]? = some (.cells ca T (0, 0))) (hO : w1.ownsRow w.heap.size e 1 v m xs) :
    Ext w (w1.setCell ⟨q, i, none⟩ u) ∧ (w1.setCell ⟨q, i, none⟩ u).heap[q]? = some (.cells (ca.setIfInBounds i u) T (0, 0)) ∧ (w1.setCell ⟨q, i, none⟩ u).ownsRow w.heap.size e 1 v m xs := by
  refine ⟨Below.setCell hX hq _, cells_setCell D u, ownsRow_setCell_other hO ?_ u⟩
  intro hh
  rcases hO.2 with ⟨rfl, _⟩ | ⟨g, cap, cur, rfl, hb, hg, _⟩
  · simp [Value.ownBlock] at hh
  · simp only [Value.ownBlock, Option.some.injEq] at hh
    subst hh
    rw [hg] at D
    simp only [Option.some.injEq, Obj.cells.injEq] at D
    exact hT D.2.1.symm
/-- Three stores fill a box. -/
theorem stored3 {w w1 : World} {e T : TypeId} {ca : Array Value} {q m : Nat} {u0 u1 u2 : Value} {v : Value} {xs : List Value} (hX : Ext w w1) (hT : T ≠ e) (hq : w.heap.size ≤ q) (D : w1.heap[q]? = some (.cells ca T (0, 0))) (hO : w1.ownsRow w.heap.size e 1 v m xs) :
    Ext w (((w1.setCell ⟨q, 0, none⟩ u0).setCell ⟨q, 1, none⟩ u1).setCell ⟨q, 2, none⟩ u2) ∧ (((w1.setCell ⟨q, 0, none⟩ u0).setCell ⟨q, 1, none⟩ u1).setCell ⟨q, 2, none⟩ u2).ownsRow w.heap.size e 1 v m xs := by
  obtain ⟨h1, h2, h3⟩ := stored (i := 0) (u := u0) hX hT hq D hO
  obtain ⟨h4, h5, h6⟩ := stored (i := 1) (u := u1) h1 hT hq h2 h3
  obtain ⟨h7, h8, h9⟩ := stored (i := 2) (u := u2) h4 hT hq h5 h6
  exact ⟨h7, h9⟩

theorem grownBy_setRow (w : World) (g : Nat) (cs : Array Value) : w.grownBy (w.setRow g cs) (some g) :=
  ⟨rfl, rfl, rfl, by simp, fun k hk hr => setRow_other w g k cs (by intro e; apply hr; simp [e])⟩
theorem ownsRow_box {w w' : World} {base : Nat} {e T : TypeId} {v : Value} {n g : Nat} {xs : List Value} {ca : Array Value} {fr : Nat × Nat} (hO : w.ownsRow base e 1 v n xs) (hT : T ≠ e) (D : w.heap[g]? = some (.cells ca T fr)) (hG : w.grownBy w' (some g)) : w'.ownsRow base e 1 v n xs :=
  hO.kept hG (by
    rcases hO.2 with ⟨rfl, _⟩ | ⟨g', cap, cur, rfl, hb, hg, _⟩
    · exact .inl rfl
    · refine .inr fun hh => ?_
      simp only [Value.ownBlock, Option.some.injEq] at hh
      subst hh
      rw [hg] at D
      simp only [Option.some.injEq, Obj.cells.injEq] at D
      exact hT D.2.1.symm)

/-- A box that is filled whole; the world behind it is known by its blocks alone. -/
theorem store_box {P : Program} {ops : Array Oper} {rest : List Oper} {o : Oper} {a : Act} {w : World} {Q : Exit → Act → World → Prop} (hgd : o.guard = none) (ty : TypeId) (x y : Operand) (ho : o.op = .store ty x y)
    (g : Nat) (cells : Array Value) (hx : a.eval x = .pointer (some ⟨g, 0, none⟩)) (hy : a.eval y = .agg cells)
    (t : TypeId) (old : Array Value) (hg : w.heap[g]? = some (.cells old t (0, 0))) (hi : (P.info? ty).map (·.size) = some cells.size)
    (hold : old.size = cells.size) (h1 : cells.all (·.oneCell') = true)
    (h : ∀ w', w.grownBy w' (some g) → w'.heap[g]? = some (.cells cells t (0, 0)) → wpList P ops Q rest (a.put o.dst undef) w') : wpList P ops Q (o :: rest) a w :=
  wpList_store_row hgd ty x y ho g cells hx hy t old hg hi hold h1 (h _ (grownBy_setRow w g cells) (setRow_heap w g old cells t (0, 0) hg))

section
variable {P : Program} {ops : Array Oper} {C : World → Prop} {K : FuncId → Array Value → Value → World → Prop} {QW : Act → World → Prop} {a : Act} {G : Facts} {H : World → Prop} {o : Oper} {rest : List Oper}
/-- A new block, behind what was there. -/
theorem grow_newB {mk : Nat → Value} {ob : Obj} (B : Nat) (hw : Region.wanted o (yielded ops a.tmps) = true) (hinj : ∀ b b', mk b = mk b' → b = b') (hB : ∀ w, C w → B ≤ w.heap.size)
    (h1 : ∀ w, C w → known ops G o w → (execOp a.eval o).run P w = .ok (.value (mk w.heap.size)) (w.alloc ob))
    (h2 : ∀ b, B ≤ b → wpGrow P ops C K (fin C QW) rest (a.put o.dst (mk b)) (upd G o.dst fun w => w.heap[b]? = some ob) (fun w => H w ∧ w.heap[b]? = some ob)) : wpGrow P ops C K (fin C QW) (o :: rest) a G H := by
  refine grow_gen (fun v => ∃ b, v = mk b ∧ B ≤ b) (fun v w => ∀ b, v = mk b → w.heap[b]? = some ob) hw (fun w hc hk => ?_) (fun v ⟨b, hv, hb⟩ => ?_)
  · rw [h1 w hc hk]
    refine ⟨(Ext.refl w).alloc ob, fun v w' hg => ⟨⟨_, hg.1.symm, hB w hc⟩, fun b hb => hg.2.block ?_⟩⟩
    have := hinj _ _ (hg.1.trans hb)
    subst this
    exact (MapKept.heap_alloc w _).1
  · subst hv
    refine wpGrow_mono rest _ _ _ _ _ (fun t w => ?_) (fun w h => ⟨h.1, h.2 b rfl⟩) (h2 b hb)
    unfold upd
    split
    · intro h; exact h b rfl
    · exact id
end
end Go.Proofs.Ytajfpjggdbifjaa
