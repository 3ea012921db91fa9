/-
  Filling components: what a search marks, whatever its order. Plain lists, no program.
-/
import Derived.Test.YtdggpkgbncmlbaaLib5
namespace Go.Proofs.Ytdggpkgbncmlbaa
set_option linter.unusedVariables false
set_option linter.unusedSimpArgs false
set_option linter.unnecessarySimpa false

/-- What stands at a place. -/
def atZ (z : List Int) (j : Nat) : Int := z[j]?.getD 0
theorem atZ_set_same {z : List Int} {k : Nat} {x : Int} (h : k < z.length) : atZ (z.set k x) k = x := by simp [atZ, h]
theorem atZ_set_other {z : List Int} {k j : Nat} {x : Int} (h : k ≠ j) : atZ (z.set k x) j = atZ z j := by simp [atZ, List.getElem?_set_ne h]
theorem atZ_ext {z z' : List Int} (hl : z.length = z'.length) (h : ∀ j, j < z.length → atZ z j = atZ z' j) : z = z' := by
  refine List.ext_getElem hl fun j h1 h2 => ?_
  have := h j h1
  simpa [atZ, h1, h2] using this

/-- What is reached from i over places that are free. -/
inductive Rch (A : Nat → Nat → Prop) (o : List Int) (i : Nat) : Nat → Prop
  | base : Rch A o i i
  | step {j k : Nat} : Rch A o i j → A j k → atZ o k < 0 → Rch A o i k
/-- All that is reached is marked, nothing else. -/
structure FillOk (A : Nat → Nat → Prop) (n : Nat) (o : List Int) (i : Nat) (m : Int) (z : List Int) : Prop where
  len : z.length = n
  yes : ∀ j, j < n → Rch A o i j → atZ z j = m
  no : ∀ j, j < n → ¬ Rch A o i j → atZ z j = atZ o j
theorem FillOk.unique {A : Nat → Nat → Prop} {n : Nat} {o : List Int} {i : Nat} {m : Int} {z z' : List Int} (h : FillOk A n o i m z) (h' : FillOk A n o i m z') : z = z' := by
  refine atZ_ext (by rw [h.len, h'.len]) fun j hj => ?_
  rw [h.len] at hj
  by_cases hr : Rch A o i j
  · rw [h.yes j hj hr, h'.yes j hj hr]
  · rw [h.no j hj hr, h'.no j hj hr]
open Classical in
theorem FillOk.exists (A : Nat → Nat → Prop) (n : Nat) (o : List Int) (i : Nat) (m : Int) : ∃ z, FillOk A n o i m z := by
  refine ⟨(List.range n).map fun j => if Rch A o i j then m else atZ o j, by simp, fun j hj hr => ?_, fun j hj hr => ?_⟩
  · simp [atZ, hj, hr]
  · simp [atZ, hj, hr]

/-- The first k places are done: what is marked, and how many searches there were. -/
inductive St (A : Nat → Nat → Prop) (cnt : Nat → Bool) (n : Nat) : Nat → List Int → Nat → Prop
  | zero : St A cnt n 0 (List.replicate n (-1)) 0
  | skip {k m : Nat} {z : List Int} : St A cnt n k z m → (0 ≤ atZ z k ∨ cnt k = false) → St A cnt n (k + 1) z m
  | fill {k m : Nat} {z z' : List Int} : St A cnt n k z m → atZ z k < 0 → cnt k = true → FillOk A n z k m z' → St A cnt n (k + 1) z' (m + 1)
theorem St.unique {A : Nat → Nat → Prop} {cnt : Nat → Bool} {n : Nat} : ∀ {k : Nat} {z z' : List Int} {m m' : Nat}, St A cnt n k z m → St A cnt n k z' m' → z = z' ∧ m = m'
  | 0, _, _, _, _, .zero, .zero => ⟨rfl, rfl⟩
  | k + 1, _, _, _, _, .skip h a, .skip h' a' => St.unique h h'
  | k + 1, _, _, _, _, .skip h a, .fill h' b c d => by
    obtain ⟨rfl, rfl⟩ := St.unique h h'
    rcases a with a | a
    · omega
    · rw [c] at a; cases a
  | k + 1, _, _, _, _, .fill h' b c d, .skip h a => by
    obtain ⟨rfl, rfl⟩ := St.unique h h'
    rcases a with a | a
    · omega
    · rw [c] at a; cases a
  | k + 1, _, _, _, _, .fill h b c d, .fill h' b' c' d' => by
    obtain ⟨rfl, rfl⟩ := St.unique h h'
    exact ⟨d.unique d', rfl⟩
theorem St.exists (A : Nat → Nat → Prop) (cnt : Nat → Bool) (n : Nat) : ∀ k, ∃ z m, St A cnt n k z m
  | 0 => ⟨_, _, .zero⟩
  | k + 1 => by
    obtain ⟨z, m, h⟩ := St.exists A cnt n k
    by_cases h1 : 0 ≤ atZ z k ∨ cnt k = false
    · exact ⟨z, m, .skip h h1⟩
    · obtain ⟨z', h2⟩ := FillOk.exists A n z k m
      exact ⟨z', m + 1, .fill h (by omega) (by cases hc : cnt k <;> simp_all) h2⟩
theorem St.len {A : Nat → Nat → Prop} {cnt : Nat → Bool} {n : Nat} : ∀ {k : Nat} {z : List Int} {m : Nat}, St A cnt n k z m → z.length = n
  | _, _, _, .zero => by simp
  | _, _, _, .skip h _ => h.len
  | _, _, _, .fill _ _ _ d => d.len
theorem St.le {A : Nat → Nat → Prop} {cnt : Nat → Bool} {n : Nat} : ∀ {k : Nat} {z : List Int} {m : Nat}, St A cnt n k z m → m ≤ k
  | _, _, _, .zero => Nat.le_refl _
  | _, _, _, .skip h _ => by have := h.le; omega
  | _, _, _, .fill h _ _ _ => by have := h.le; omega

/-! ### One search -/
/-- How many places are free. -/
def negs (z : List Int) : Nat := z.countP fun x => decide (x < 0)
theorem negs_set {z : List Int} {k : Nat} {m : Int} (hk : k < z.length) (h : atZ z k < 0) (hm : 0 ≤ m) : negs (z.set k m) + 1 = negs z := by
  unfold negs
  have h0 : z[k] < 0 := by simpa [atZ, hk] using h
  have e1 : z = z.take k ++ z[k] :: z.drop (k + 1) := by rw [← List.drop_eq_getElem_cons hk, List.take_append_drop]
  have e2 : z.set k m = z.take k ++ m :: z.drop (k + 1) := by rw [List.set_eq_take_append_cons_drop, if_pos hk]
  have e3 := congrArg (List.countP fun x => decide (x < 0)) e1
  rw [List.countP_append, List.countP_cons] at e3
  rw [e2, List.countP_append, List.countP_cons]
  have h1 : decide (z[k] < 0) = true := by simpa using h0
  have h2 : decide (m < 0) = false := by simp; omega
  rw [h1] at e3
  rw [h2]
  simp only [if_true, Bool.false_eq_true, if_false] at e3 ⊢
  omega
theorem negs_le (z : List Int) : negs z ≤ z.length := List.countP_le_length

/-- What stands while a search goes on: z is marked so far, q are the open places. -/
structure Fi (A : Nat → Nat → Prop) (n : Nat) (o : List Int) (i : Nat) (m : Int) (z : List Int) (q : List Nat) : Prop where
  len : z.length = n
  pos : 0 ≤ m
  cell : ∀ j, j < n → atZ z j = atZ o j ∨ (atZ o j < 0 ∧ atZ z j = m ∧ Rch A o i j)
  own : atZ z i = m
  mem : ∀ j, j ∈ q → j < n ∧ atZ z j = m ∧ atZ o j < 0
  room : q.length + negs z ≤ n
  closed : ∀ j, j < n → atZ o j < 0 → atZ z j = m → j ∉ q → ∀ k, k < n → A j k → atZ o k < 0 → atZ z k = m
/-- The beginning. -/
theorem Fi.start {A : Nat → Nat → Prop} {n : Nat} {o : List Int} {i m : Nat} (hl : o.length = n) (hi : i < n) (ho : atZ o i < 0) : Fi A n o i m (o.set i m) [i] := by
  refine ⟨by simp [hl], by omega, fun j hj => ?_, atZ_set_same (by omega), fun j hj => ?_, ?_, fun j hj h1 h2 h3 => ?_⟩
  · by_cases h : i = j
    · subst h; exact .inr ⟨ho, atZ_set_same (by omega), .base⟩
    · exact .inl (atZ_set_other h)
  · simp only [List.mem_singleton] at hj
    subst hj
    exact ⟨hi, atZ_set_same (by omega), ho⟩
  · have h1 := negs_set (z := o) (k := i) (m := m) (by omega) ho (by omega)
    have h2 := negs_le o
    simp
    omega
  · exfalso
    have : i ≠ j := fun h => h3 (by simp [h])
    rw [atZ_set_other this] at h2
    omega
/-- The end. -/
theorem Fi.done {A : Nat → Nat → Prop} {n : Nat} {o : List Int} {i : Nat} {m : Int} {z : List Int} (h : Fi A n o i m z []) (hA : ∀ j k, A j k → k < n) (hi : i < n) (ho : atZ o i < 0) : FillOk A n o i m z := by
  have hy : ∀ j, Rch A o i j → j < n ∧ atZ o j < 0 ∧ atZ z j = m := by
    intro j hr
    induction hr with
    | base => exact ⟨hi, ho, h.own⟩
    | step hr ha hk ih => exact ⟨hA _ _ ha, hk, h.closed _ ih.1 ih.2.1 ih.2.2 (by simp) _ (hA _ _ ha) ha hk⟩
  refine ⟨h.len, fun j hj hr => (hy j hr).2.2, fun j hj hr => ?_⟩
  rcases h.cell j hj with h1 | ⟨_, _, h2⟩
  · exact h1
  · exact absurd h2 hr

/-- What stands while the neighbours of a place p are looked at: D are those that are done. -/
structure Fn (A : Nat → Nat → Prop) (n : Nat) (o : List Int) (i : Nat) (m : Int) (p : Nat) (D : Nat → Prop) (z : List Int) (q : List Nat) : Prop where
  len : z.length = n
  pos : 0 ≤ m
  cell : ∀ j, j < n → atZ z j = atZ o j ∨ (atZ o j < 0 ∧ atZ z j = m ∧ Rch A o i j)
  own : atZ z i = m
  mem : ∀ j, j ∈ q → j < n ∧ atZ z j = m ∧ atZ o j < 0
  room : q.length + negs z + 1 ≤ n
  closed : ∀ j, j < n → atZ o j < 0 → atZ z j = m → j ∉ q → j ≠ p → ∀ k, k < n → A j k → atZ o k < 0 → atZ z k = m
  here : p < n ∧ atZ z p = m ∧ Rch A o i p
  part : ∀ k, k < n → D k → A p k → atZ o k < 0 → atZ z k = m
theorem Fi.reach {A : Nat → Nat → Prop} {n : Nat} {o : List Int} {i : Nat} {m : Int} {z : List Int} {q : List Nat} (h : Fi A n o i m z q) {p : Nat} (hp : p ∈ q) : Rch A o i p := by
  obtain ⟨h1, h2, h3⟩ := h.mem p hp
  rcases h.cell p h1 with h4 | ⟨_, _, h4⟩
  · have := h.pos; omega
  · exact h4
/-- A place is taken off the open ones. -/
theorem Fi.pop {A : Nat → Nat → Prop} {n : Nat} {o : List Int} {i : Nat} {m : Int} {z : List Int} {q q' : List Nat} {p : Nat} (h : Fi A n o i m z q) (hp : p ∈ q) (hq : ∀ j, j ∈ q → j = p ∨ j ∈ q') (hq' : ∀ j, j ∈ q' → j ∈ q) (hl : q'.length + 1 = q.length) : Fn A n o i m p (fun _ => False) z q' :=
  ⟨h.len, h.pos, h.cell, h.own, fun j hj => h.mem j (hq' j hj), by have := h.room; omega,
    fun j hj h1 h2 h3 h4 => h.closed j hj h1 h2 fun h5 => (hq j h5).elim h4 h3, ⟨(h.mem p hp).1, (h.mem p hp).2.1, h.reach hp⟩, fun k _ hk => hk.elim⟩
/-- A neighbour that needs no mark. -/
theorem Fn.pass {A : Nat → Nat → Prop} {n : Nat} {o : List Int} {i : Nat} {m : Int} {p : Nat} {D D' : Nat → Prop} {z : List Int} {q : List Nat} (h : Fn A n o i m p D z q) (hD : ∀ k, k < n → D' k → D k ∨ ¬ A p k ∨ 0 ≤ atZ z k) : Fn A n o i m p D' z q :=
  ⟨h.len, h.pos, h.cell, h.own, h.mem, h.room, h.closed, h.here, fun k hk hd ha ho => by
    rcases hD k hk hd with h1 | h1 | h1
    · exact h.part k hk h1 ha ho
    · exact absurd ha h1
    · rcases h.cell k hk with h2 | ⟨_, h2, _⟩
      · omega
      · exact h2⟩
/-- A neighbour that is marked, and open from now on. -/
theorem Fn.push {A : Nat → Nat → Prop} {n : Nat} {o : List Int} {i : Nat} {m : Int} {p : Nat} {D D' : Nat → Prop} {z : List Int} {q q' : List Nat} {k : Nat} (h : Fn A n o i m p D z q) (hk : k < n) (ha : A p k) (hz : atZ z k < 0) (hD : ∀ k', k' < n → D' k' → D k' ∨ k' = k) (hq : ∀ j, j ∈ q' ↔ j ∈ q ∨ j = k) (hl : q'.length = q.length + 1) : Fn A n o i m p D' (z.set k m) q' := by
  have hm := h.pos
  have hkl : k < z.length := by rw [h.len]; exact hk
  have ho : atZ o k < 0 := by
    rcases h.cell k hk with h1 | ⟨_, h1, _⟩
    · omega
    · omega
  have hne : ∀ j, atZ z j = m → k ≠ j := fun j hj e => by subst e; omega
  have keep : ∀ j, atZ z j = m → atZ (z.set k m) j = m := fun j hj => by rw [atZ_set_other (hne j hj)]; exact hj
  refine ⟨by simp [h.len], hm, fun j hj => ?_, keep i h.own, fun j hj => ?_, ?_, fun j hj h1 h2 h3 h4 k' hk' ha' ho' => ?_, ⟨h.here.1, keep p h.here.2.1, h.here.2.2⟩, fun k' hk' hd ha' ho' => ?_⟩
  · by_cases e : k = j
    · subst e; exact .inr ⟨ho, atZ_set_same hkl, .step h.here.2.2 ha ho⟩
    · rw [atZ_set_other e]; exact h.cell j hj
  · rcases (hq j).1 hj with h1 | rfl
    · obtain ⟨a1, a2, a3⟩ := h.mem j h1
      exact ⟨a1, keep j a2, a3⟩
    · exact ⟨hk, atZ_set_same hkl, ho⟩
  · have := negs_set (m := m) hkl hz hm
    have := h.room
    omega
  · have hjk : k ≠ j := fun e => h3 ((hq j).2 (.inr e.symm))
    rw [atZ_set_other hjk] at h2
    by_cases e : k = k'
    · subst e; exact atZ_set_same hkl
    · rw [atZ_set_other e]
      exact h.closed j hj h1 h2 (fun h5 => h3 ((hq j).2 (.inl h5))) h4 k' hk' ha' ho'
  · by_cases e : k = k'
    · subst e; exact atZ_set_same hkl
    · rw [atZ_set_other e]
      rcases hD k' hk' hd with h1 | h1
      · exact h.part k' hk' h1 ha' ho'
      · exact absurd h1.symm e
/-- All neighbours are done. -/
theorem Fn.whole {A : Nat → Nat → Prop} {n : Nat} {o : List Int} {i : Nat} {m : Int} {p : Nat} {D : Nat → Prop} {z : List Int} {q : List Nat} (h : Fn A n o i m p D z q) (hD : ∀ k, k < n → A p k → D k) : Fi A n o i m z q :=
  ⟨h.len, h.pos, h.cell, h.own, h.mem, by have := h.room; omega, fun j hj h1 h2 h3 k hk ha ho => by
    by_cases e : j = p
    · subst e; exact h.part k hk (hD k hk ha) ha ho
    · exact h.closed j hj h1 h2 h3 e k hk ha ho⟩
end Go.Proofs.Ytdggpkgbncmlbaa
