/-
  Plain words on memory, with no program in them: a slice's cells, rows of the call's own, and the steps of a walk over a region that draws its order.
-/
import Derived.WalkKit
import Derived.BigQuiet
import Derived.Lib.Hide
import Derived.Test.YtajfpjggdbifjaaGro
namespace Go.Proofs.Ytajfpjggdbifjaa
open Go.RowKit
set_option linter.unusedVariables false
set_option linter.unusedSimpArgs false
set_option linter.unnecessarySimpa false

theorem Ext.drewN {a w : World} (h : Ext a w) (n : Nat) : Ext a (w.drewN n) := Ext.trans h (Below.mk rfl rfl rfl (Nat.le_refl _) (fun _ _ => rfl))

/-! ### Slices that are read -/
/-- The slice that starts at 'a' holds these values. -/
def VArr (w : World) (a : Option Addr) (vs : List Value) : Prop := ∀ i v, vs[i]? = some v → ∃ b o, a = some ⟨b, o, none⟩ ∧ w.cell? ⟨b, o + i, none⟩ = some v

theorem VArr.ext {w w' : World} {a : Option Addr} {vs : List Value} (h : VArr w a vs) (e : Ext w w') : VArr w' a vs := fun i v hv =>
  let ⟨b, o, ha, hc⟩ := h i v hv; ⟨b, o, ha, e.cell hc⟩
theorem VArr.nil (w : World) (a : Option Addr) : VArr w a [] := fun i v h => by simp at h
theorem VArr.at {w : World} {b o : Nat} {vs : List Value} (h : VArr w (some ⟨b, o, none⟩) vs) {i : Nat} {v : Value} (hv : vs[i]? = some v) : w.cell? ⟨b, o + i, none⟩ = some v := by
  obtain ⟨b', o', ha, hc⟩ := h i v hv
  simp only [Option.some.injEq, Addr.mk.injEq, and_true] at ha
  obtain ⟨rfl, rfl⟩ := ha
  exact hc
theorem VArr.starts {w : World} {a : Option Addr} {vs : List Value} (h : VArr w a vs) {i : Nat} (hi : i < vs.length) : ∃ b o, a = some ⟨b, o, none⟩ := by
  obtain ⟨b, o, ha, _⟩ := h i _ (List.getElem?_eq_getElem hi)
  exact ⟨b, o, ha⟩

/-- Integers. -/
def ints (zs : List Int) : List Value := zs.map (Value.int .i64)
@[simp] theorem ints_length (zs : List Int) : (ints zs).length = zs.length := by simp [ints]
theorem ints_get {zs : List Int} {i : Nat} (h : i < zs.length) : (ints zs)[i]? = some (.int .i64 (zs.getD i 0)) := by
  simp [ints, h, List.getD]
theorem VArr.ofInts {w : World} {b o : Nat} {zs : List Int} (h : VArr w (some ⟨b, o, none⟩) (ints zs)) : ∀ i, i < zs.length → w.cell? ⟨b, o + i, none⟩ = some (.int .i64 (zs.getD i 0)) :=
  fun i hi => h.at (ints_get hi)

/-! ### Rows of the call's own -/
theorem oneCell_setCell {w : World} {base : Nat} {e : TypeId} {g n cap : Nat} {xs : List Value} (h : w.ownsRow base e 1 (.slice (some ⟨g, 0, none⟩) n cap) n xs) {i : Nat} (u : Value) :
    (w.setCell ⟨g, i, none⟩ u).ownsRow base e 1 (.slice (some ⟨g, 0, none⟩) n cap) n (xs.set i u) := by
  obtain ⟨h1, h2⟩ := h
  refine ⟨by simpa using h1, ?_⟩
  rcases h2 with ⟨h2, _⟩ | ⟨g', cap', cur, hv, hb, hh, hle, hm, hs, ht⟩
  · cases h2
  · simp only [Value.slice.injEq, Option.some.injEq, Addr.mk.injEq, and_true, true_and] at hv
    obtain ⟨rfl, rfl⟩ := hv
    refine .inr ⟨g, cap, cur.setIfInBounds i u, rfl, hb, ?_, hle, hm, by simpa using hs, ?_⟩
    · simp [World.setCell, Array.getElem?_modify, hh]
    · simp only [Nat.mul_one] at ht ⊢
      rw [← ht, Array.toList_setIfInBounds, List.take_set]

theorem ownsRow_setCell_other {w : World} {base : Nat} {e : TypeId} {size : Nat} {v : Value} {n : Nat} {xs : List Value} (h : w.ownsRow base e size v n xs) {a : Addr} (ha : v.ownBlock ≠ some a.block) (u : Value) : (w.setCell a u).ownsRow base e size v n xs := by
  obtain ⟨h1, h2⟩ := h
  refine ⟨h1, ?_⟩
  rcases h2 with h2 | ⟨g, cap, cur, hv, hg, hh, r⟩
  · exact Or.inl h2
  · refine Or.inr ⟨g, cap, cur, hv, hg, ?_, r⟩
    subst hv
    simp only [Value.ownBlock, ne_eq, Option.some.injEq] at ha
    rw [Below.heap_setCell _ _ _ _ ha]; exact hh

theorem ownsRow_varr {w : World} {base : Nat} {e : TypeId} {a : Option Addr} {n m c : Nat} {xs : List Value} (h : w.ownsRow base e 1 (.slice a n c) m xs) : VArr w a xs := by
  intro i v hv
  obtain ⟨h1, h2⟩ := h
  rcases h2 with ⟨h2, h3⟩ | ⟨g, cap, cur, he, hb, hh, hle, hm, hs, ht⟩
  · subst h3
    have : xs = [] := List.eq_nil_of_length_eq_zero (by simpa using h1)
    subst this; simp at hv
  · simp only [Value.slice.injEq] at he
    obtain ⟨rfl, rfl, rfl⟩ := he
    refine ⟨g, 0, rfl, ?_⟩
    rw [← ht, List.getElem?_take] at hv
    split at hv
    · rw [Nat.zero_add, cell_of_row w g i cur e (0, 0) hh]; simpa using hv
    · cases hv

theorem ownsRow_frozen {w : World} {base : Nat} {e : TypeId} {g n m c : Nat} {xs : List Value} (h : w.ownsRow base e 1 (.slice (some ⟨g, 0, none⟩) n c) m xs) (i : Nat) : w.frozen? ⟨g, i, none⟩ = false := by
  obtain ⟨_, h2⟩ := h
  rcases h2 with ⟨h2, _⟩ | ⟨g', cap, cur, he, hb, hh, _⟩
  · cases h2
  · simp only [Value.slice.injEq, Option.some.injEq, Addr.mk.injEq, and_true] at he
    obtain ⟨rfl, rfl, rfl⟩ := he
    simp [World.frozen?, hh]

theorem ownsRow_len {w : World} {base : Nat} {e : TypeId} {a : Option Addr} {n m c : Nat} {xs : List Value} (h : w.ownsRow base e 1 (.slice a n c) m xs) : n = xs.length ∧ m = n := by
  obtain ⟨h1, h2⟩ := h
  rcases h2 with ⟨h2, h3⟩ | ⟨g, cap, cur, he, _⟩
  · simp only [Value.slice.injEq] at h2; omega
  · simp only [Value.slice.injEq] at he; omega
theorem ownsRow_cell {w : World} {base : Nat} {e : TypeId} {g n m c : Nat} {xs : List Value} (h : w.ownsRow base e 1 (.slice (some ⟨g, 0, none⟩) n c) m xs) {i : Nat} (hi : i < n) : ∃ v, w.cell? ⟨g, i, none⟩ = some v := by
  have hl := ownsRow_len h
  have := (ownsRow_varr h).at (List.getElem?_eq_getElem (show i < xs.length by omega))
  rw [Nat.zero_add] at this
  exact ⟨_, this⟩

/-- What a call that writes at most into one row of its caller's leaves. -/
theorem Ext.of_grown {w w' : World} (h : w.grownBy w' none) : Ext w w' := ⟨h.os, h.tape, h.output, h.size, fun k hk => h.block k hk (by simp)⟩
theorem Ext.grown {w w' : World} (h : Ext w w') (row : Option Nat) : w.grownBy w' row := ⟨h.os, h.tape, h.output, Below.size h, fun k hk _ => Below.block h k hk⟩
theorem grownBy_trans {a b c : World} {row : Option Nat} (h : a.grownBy b row) (k : b.grownBy c row) : a.grownBy c row :=
  ⟨k.os.trans h.os, k.tape.trans h.tape, k.output.trans h.output, Nat.le_trans h.size k.size, fun i hi hr => (k.block i (Nat.lt_of_lt_of_le hi h.size) hr).trans (h.block i hi hr)⟩
theorem grownBy_setCell {a w : World} {g i : Nat} (h : a.grownBy w (some g)) (u : Value) : a.grownBy (w.setCell ⟨g, i, none⟩ u) (some g) :=
  ⟨h.os, h.tape, h.output, by simpa [World.setCell] using h.size, fun k hk hr => by
    rw [Below.heap_setCell _ _ _ _ (by intro e; apply hr; simp [e])]; exact h.block k hk hr⟩
/-- A row that is not the one written stays. -/
theorem VArr.grown {w w' : World} {a : Option Addr} {vs : List Value} {row : Option Nat} (h : VArr w a vs) (hg : w.grownBy w' row) (hne : ∀ p, a = some p → some p.block ≠ row) : VArr w' a vs := fun i v hv =>
  let ⟨b, o, ha, hc⟩ := h i v hv; ⟨b, o, ha, hg.cell hc (by have := hne _ ha; exact this)⟩
/-- A row made behind B is none of what was there: the call that writes it leaves what was there. -/
theorem Ext.row {a b c : World} {g : Nat} (h : Ext a b) (k : b.grownBy c (some g)) (hg : a.heap.size ≤ g) : Ext a c :=
  ⟨k.os.trans h.os, k.tape.trans h.tape, k.output.trans h.output, Nat.le_trans h.size k.size, fun i hi =>
    (k.block i (Nat.lt_of_lt_of_le hi h.size) (by intro e; simp at e; omega)).trans (Below.block h i hi)⟩
theorem ownsRow_ext {w w' : World} {base : Nat} {e : TypeId} {size : Nat} {v : Value} {n : Nat} {xs : List Value} (h : w.ownsRow base e size v n xs) (k : Ext w w') : w'.ownsRow base e size v n xs :=
  h.kept (k.grown (some (w.heap.size))) (by
    cases hv : v.ownBlock with
    | none => exact .inl rfl
    | some b => refine .inr ?_; have := (h.lt b hv).2; intro e; simp at e; omega)
theorem ownsRow_mono {w : World} {base base' : Nat} {e : TypeId} {size : Nat} {v : Value} {n : Nat} {xs : List Value} (h : w.ownsRow base e size v n xs) (hb : base' ≤ base) : w.ownsRow base' e size v n xs := by
  obtain ⟨h1, h2⟩ := h
  refine ⟨h1, ?_⟩
  rcases h2 with h2 | ⟨g, cap, cur, hv, hg, r⟩
  · exact .inl h2
  · exact .inr ⟨g, cap, cur, hv, by omega, r⟩
/-- The two shapes of a row of the call's own. -/
theorem ownsRow_cases {w : World} {base : Nat} {e : TypeId} {a : Option Addr} {n m c : Nat} {xs : List Value} (h : w.ownsRow base e 1 (.slice a n c) m xs) :
    (a = none ∧ n = 0 ∧ c = 0 ∧ xs = [] ∧ m = 0) ∨ ∃ g, a = some ⟨g, 0, none⟩ ∧ base ≤ g ∧ g < w.heap.size ∧ n ≤ c ∧ c ≤ maxLen ∧ m = n := by
  have h' := h
  obtain ⟨h1, h2⟩ := h
  rcases h2 with ⟨h2, h3⟩ | ⟨g, cap, cur, he, hb, hh, hle, hm, _⟩
  · simp only [Value.slice.injEq] at h2
    obtain ⟨rfl, rfl, rfl⟩ := h2
    subst h3
    exact .inl ⟨rfl, rfl, rfl, List.eq_nil_of_length_eq_zero (by simpa using h1), rfl⟩
  · simp only [Value.slice.injEq] at he
    obtain ⟨rfl, rfl, rfl⟩ := he
    exact .inr ⟨g, rfl, hb, (Array.getElem?_eq_some_iff.1 hh).1, hle, hm, rfl⟩

theorem Grown.of_ext {w w' : World} (h : Ext w w') : w.keptBut w' (fun _ => False) := Below.frame h _

theorem heap_new (w : World) (o : Obj) : (w.alloc o).heap[w.heap.size]? = some o := (MapKept.heap_alloc w o).1
theorem heap_old (w : World) (o : Obj) {k : Nat} (h : k < w.heap.size) : (w.alloc o).heap[k]? = w.heap[k]? := Below.heap_alloc w o k h
theorem heap_new1 (w : World) (o o' : Obj) : ((w.alloc o).alloc o').heap[w.heap.size + 1]? = some o' := by
  have := heap_new (w.alloc o) o'; simpa using this
theorem heap_new2 (w : World) (o o' o'' : Obj) : (((w.alloc o).alloc o').alloc o'').heap[w.heap.size + 1 + 1]? = some o'' := by
  have := heap_new ((w.alloc o).alloc o') o''; simpa using this
theorem heap_mid1 (w : World) (o o' : Obj) : ((w.alloc o).alloc o').heap[w.heap.size]? = some o := by
  rw [heap_old _ _ (by simp)]; exact heap_new w o
theorem heap_mid2 (w : World) (o o' o'' : Obj) : (((w.alloc o).alloc o').alloc o'').heap[w.heap.size + 1]? = some o' := by
  rw [heap_old _ _ (by simp)]; exact heap_new1 w o o'
theorem heap_mid3 (w : World) (o o' o'' : Obj) : (((w.alloc o).alloc o').alloc o'').heap[w.heap.size]? = some o := by
  rw [heap_old _ _ (by simp; omega)]; exact heap_mid1 w o o'

/-- What a block known whole gives the walk. -/
theorem block_cell {w : World} {b : Nat} {cs : Array Value} {T : TypeId} {fr : Nat × Nat} (h : w.heap[b]? = some (.cells cs T fr)) (i : Nat) : w.cell? ⟨b, i, none⟩ = cs[i]? := cell_of_row w b i cs T fr h
theorem block_free {w : World} {b : Nat} {cs : Array Value} {T : TypeId} (h : w.heap[b]? = some (.cells cs T (0, 0))) (i : Nat) : w.frozen? ⟨b, i, none⟩ = false := by simp [World.frozen?, h]
theorem block1 {w : World} {b : Nat} {v0 : Value} {T : TypeId} (h : w.heap[b]? = some (.cells #[v0] T (0, 0))) : w.cell? ⟨b, 0, none⟩ = some v0 ∧ w.frozen? ⟨b, 0, none⟩ = false := ⟨block_cell h 0, block_free h 0⟩
theorem block3 {w : World} {b : Nat} {v0 v1 v2 : Value} {T : TypeId} (h : w.heap[b]? = some (.cells #[v0, v1, v2] T (0, 0))) :
    (w.cell? ⟨b, 0, none⟩ = some v0 ∧ w.cell? ⟨b, 1, none⟩ = some v1 ∧ w.cell? ⟨b, 2, none⟩ = some v2) ∧ w.frozen? ⟨b, 0, none⟩ = false ∧ w.frozen? ⟨b, 1, none⟩ = false ∧ w.frozen? ⟨b, 2, none⟩ = false :=
  ⟨⟨block_cell h 0, block_cell h 1, block_cell h 2⟩, block_free h 0, block_free h 1, block_free h 2⟩

/-! ### Rules of the walk over a region that draws its order -/
section
variable {P : Program} {ops : Array Oper} {C : World → Prop} {K : FuncId → Array Value → Value → World → Prop} {QW : Act → World → Prop} {a : Act} {G : Facts} {H : World → Prop} {o : Oper} {rest : List Oper}

/-- What is asked behind the region. -/
def fin (C : World → Prop) (QW : Act → World → Prop) : Cont := fun a' _ H => ∀ w', C w' → H w' → QW a' w'

theorem wpGrow_mono : ∀ (l : List Oper) (a : Act) (G G' : Facts) (H H' : World → Prop), (∀ t w, G t w → G' t w) → (∀ w, H w → H' w) →
    wpGrow P ops C K (fin C QW) l a G' H' → wpGrow P ops C K (fin C QW) l a G H
  | [], a, G, G', H, H', _, hH, h => fun w hc hw => h w hc (hH w hw)
  | o :: l, a, G, G', H, H', hG, hH, h => by
    have kn : ∀ w, known ops G o w → known ops G' o w := fun w h t ht => hG t w (h t ht)
    unfold wpGrow at *
    split
    · rename_i hw; rw [if_pos hw] at h
      refine ⟨fun w hc hk => h.1 w hc (kn w hk), fun v hv => ?_⟩
      have gv : ∀ w, opGives P ops C K G o a v w → opGives P ops C K G' o a v w := fun w ⟨w1, c1, k1, g1⟩ => ⟨w1, c1, kn _ k1, g1⟩
      obtain ⟨w, hc, hh, g⟩ := hv
      refine wpGrow_mono l _ _ _ _ _ (fun t w => ?_) (fun w hh => ⟨hH w hh.1, gv w hh.2⟩) (h.2 v ⟨w, hc, hH w hh, gv w g⟩)
      unfold upd
      split
      · exact gv w
      · exact hG t w
    · rename_i hw; rw [if_neg hw] at h
      refine wpGrow_mono l _ _ _ _ _ (fun t w => ?_) hH h
      unfold upd
      split
      · exact id
      · exact hG t w

theorem grow_nil (h : ∀ w', C w' → H w' → QW a w') : wpGrow P ops C K (fin C QW) [] a G H := h

theorem grow_skip (hw : Region.wanted o (yielded ops a.tmps) = false) (h : wpGrow P ops C K (fin C QW) rest (a.put o.dst undef) (upd G o.dst fun _ => True) H) : wpGrow P ops C K (fin C QW) (o :: rest) a G H := by
  unfold wpGrow; rw [if_neg (by rw [hw]; exact Bool.false_ne_true)]; exact h

/-- THE GENERAL STEP: what is known of the value alone ('S') and of the value in memory ('F'). -/
theorem grow_gen (S : Value → Prop) (F : Value → World → Prop) (hw : Region.wanted o (yielded ops a.tmps) = true)
    (h1 : ∀ w, C w → known ops G o w → okUpon P K w ((execOp a.eval o).run P w) ∧ ∀ v w', givesUpon K v w' ((execOp a.eval o).run P w) → S v ∧ F v w')
    (h2 : ∀ v, S v → wpGrow P ops C K (fin C QW) rest (a.put o.dst v) (upd G o.dst (F v)) (fun w => H w ∧ F v w)) : wpGrow P ops C K (fin C QW) (o :: rest) a G H := by
  unfold wpGrow; rw [if_pos hw]
  refine ⟨fun w hc hk => (h1 w hc hk).1, fun v ⟨w, hc, hh, w1, c1, k1, g1⟩ => ?_⟩
  have hS := ((h1 w1 c1 k1).2 v w g1).1
  refine wpGrow_mono rest _ _ _ _ _ (fun t w => ?_) (fun w hh => ⟨hh.1, ?_⟩) (h2 v hS)
  · unfold upd
    split
    · rintro ⟨w1, c1, k1, g1⟩; exact ((h1 w1 c1 k1).2 v w g1).2
    · exact id
  · obtain ⟨w1, c1, k1, g1⟩ := hh.2
    exact ((h1 w1 c1 k1).2 v w g1).2

/-- One value, in every world of the class. -/
theorem grow_det {c : Value} (hw : Region.wanted o (yielded ops a.tmps) = true)
    (h1 : ∀ w, C w → known ops G o w → (execOp a.eval o).run P w = .ok (.value c) w)
    (h2 : wpGrow P ops C K (fin C QW) rest (a.put o.dst c) (upd G o.dst fun _ => True) H) : wpGrow P ops C K (fin C QW) (o :: rest) a G H := by
  refine grow_gen (fun v => v = c) (fun _ _ => True) hw (fun w hc hk => ?_) (fun v hv => ?_)
  · rw [h1 w hc hk]
    exact ⟨Ext.refl _, fun v w' hg => ⟨hg.1.symm, trivial⟩⟩
  · subst hv
    exact wpGrow_mono rest _ _ _ _ _ (fun _ _ h => h) (fun _ h => h.1) h2

/-- The same, the value found on the way. -/
theorem grow_q (hw : Region.wanted o (yielded ops a.tmps) = true)
    (h : ∃ c, (∀ w, C w → known ops G o w → (execOp a.eval o).run P w = .ok (.value c) w) ∧ wpGrow P ops C K (fin C QW) rest (a.put o.dst c) (upd G o.dst fun _ => True) H) : wpGrow P ops C K (fin C QW) (o :: rest) a G H := by
  obtain ⟨c, h1, h2⟩ := h
  exact grow_det hw h1 h2

/-- A call, by the callee's contract. -/
theorem grow_call {f : FuncId} {args : Array Value} (S : Value → Prop) (F : Value → World → Prop) (hw : Region.wanted o (yielded ops a.tmps) = true)
    (hr : ∀ w, (execOp a.eval o).run P w = .ok (.enter f args) w) (hS : ∀ v w, K f args v w → S v ∧ F v w)
    (h1 : ∀ w, C w → known ops G o w → Calls P f args w (fun e w'' => ∃ v, e = .returned v ∧ Ext w w'' ∧ K f args v w''))
    (h2 : ∀ v, S v → wpGrow P ops C K (fin C QW) rest (a.put o.dst v) (upd G o.dst (F v)) (fun w => H w ∧ F v w)) : wpGrow P ops C K (fin C QW) (o :: rest) a G H :=
  grow_gen S F hw (fun w hc hk => by rw [hr w]; exact ⟨⟨rfl, h1 w hc hk⟩, fun v w' hg => hS v w' hg⟩) h2

/-- A call whose answer is one value. -/
theorem grow_call1 {f : FuncId} {args : Array Value} {c : Value} (hw : Region.wanted o (yielded ops a.tmps) = true)
    (hr : ∀ w, (execOp a.eval o).run P w = .ok (.enter f args) w) (hS : ∀ v w, K f args v w → v = c) (hK : ∀ w, K f args c w)
    (h1 : ∀ w, C w → known ops G o w → Calls P f args w (fun e w'' => e = .returned c ∧ Ext w w''))
    (h2 : wpGrow P ops C K (fin C QW) rest (a.put o.dst c) (upd G o.dst fun _ => True) H) : wpGrow P ops C K (fin C QW) (o :: rest) a G H := by
  refine grow_call (fun v => v = c) (fun _ _ => True) hw hr (fun v w h => ⟨hS v w h, trivial⟩) (fun w hc hk => (h1 w hc hk).mono fun e w'' ⟨he, hx⟩ => ⟨c, he, hx, hK w''⟩) (fun v hv => ?_)
  subst hv
  exact wpGrow_mono rest _ _ _ _ _ (fun _ _ h => h) (fun _ h => h.1) h2

/-- A new block. -/
theorem grow_new {mk : Nat → Value} {ob : Obj} (hw : Region.wanted o (yielded ops a.tmps) = true) (hinj : ∀ b b', mk b = mk b' → b = b')
    (h1 : ∀ w, C w → known ops G o w → (execOp a.eval o).run P w = .ok (.value (mk w.heap.size)) (w.alloc ob))
    (h2 : ∀ b, wpGrow P ops C K (fin C QW) rest (a.put o.dst (mk b)) (upd G o.dst fun w => w.heap[b]? = some ob) (fun w => H w ∧ w.heap[b]? = some ob)) : wpGrow P ops C K (fin C QW) (o :: rest) a G H := by
  refine grow_gen (fun v => ∃ b, v = mk b) (fun v w => ∀ b, v = mk b → w.heap[b]? = some ob) hw (fun w hc hk => ?_) (fun v ⟨b, hv⟩ => ?_)
  · rw [h1 w hc hk]
    refine ⟨(Ext.refl w).alloc ob, fun v w' hg => ⟨⟨_, hg.1.symm⟩, fun b hb => hg.2.block ?_⟩⟩
    have := hinj _ _ (hg.1.trans hb)
    subst this
    exact (MapKept.heap_alloc w _).1
  · subst hv
    refine wpGrow_mono rest _ _ _ _ _ (fun t w => ?_) (fun w h => ⟨h.1, h.2 b rfl⟩) (h2 b)
    unfold upd
    split
    · intro h; exact h b rfl
    · exact id
end

theorem region_grow {P : Program} {C : World → Prop} {K : FuncId → Array Value → Value → World → Prop} {id : Nat} {Q : Exit → Act → World → Prop} {a : Act} {w : World} {l : List Oper} (hC : Closed C K) (hm : P.follows .mixedOrders = true) (hB : Region.lexB .any l.toArray = true) (h0 : C w.drew)
    (h : wpGrow P l.toArray C K (fin C fun a' w' => Q .normal a' w') l a (fun _ _ => True) (fun _ => True)) : (Code.region id l.toArray true).wp P Q a w := wp_region_grow hC hm hB h0 h
theorem region_grow_tail {P : Program} {C : World → Prop} {K : FuncId → Array Value → Value → World → Prop} {id : Nat} {Q : Exit → Act → World → Prop} {a : Act} {w : World} {l : List Oper} (n : Nat) (hC : Closed C K) (hm : P.follows .mixedOrders = true) (hB : Region.lexTailB .any l.toArray n = true) (h0 : C w.drew)
    (h : wpGrow P l.toArray C K (fin C fun a' w' => wpList P l.toArray Q (l.drop n) a' w') (l.take n) a (fun _ _ => True) (fun _ => True)) : (Code.region id l.toArray true).wp P Q a w := wp_region_grow_tail n hC hm hB h0 h
end Go.Proofs.Ytajfpjggdbifjaa
