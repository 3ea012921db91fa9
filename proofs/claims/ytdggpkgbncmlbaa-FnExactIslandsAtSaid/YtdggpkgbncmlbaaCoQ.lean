/-
  A list of numbers of the call's own that is taken from and added to: at an offset, with room or without.
-/
import Derived.ArgAppend
import Derived.Test.YtdggpkgbncmlbaaInts
import Derived.Test.YtdggpkgbncmlbaaLib4
namespace Go.Proofs.Ytdggpkgbncmlbaa
open Go.RowKit
set_option linter.unusedVariables false
set_option linter.unusedSimpArgs false
set_option linter.unnecessarySimpa false

/-- The slice v of the call's own (its block at B or behind) holds the numbers xs. -/
def Que (w : World) (B : Nat) (v : Value) (xs : List Int) : Prop :=
  ∃ g o c cur, v = .slice (some ⟨g, o, none⟩) xs.length c ∧ B ≤ g ∧ w.heap[g]? = some (.cells cur 2 (0, 0)) ∧ xs.length ≤ c ∧ c ≤ maxLen ∧ o + c ≤ cur.size ∧ ∀ j, j < xs.length → cur[o + j]? = some (.int .i64 (xs[j]?.getD 0))
theorem Que.block {w : World} {B : Nat} {v : Value} {xs : List Int} (h : Que w B v xs) : ∃ g, v.ownBlock = some g ∧ B ≤ g ∧ g < w.heap.size := by
  obtain ⟨g, o, c, cur, rfl, hB, hg, _⟩ := h
  exact ⟨g, rfl, hB, (Array.getElem?_eq_some_iff.1 hg).1⟩
theorem Que.cell {w : World} {B : Nat} {g o n c : Nat} {xs : List Int} (h : Que w B (.slice (some ⟨g, o, none⟩) n c) xs) {j : Nat} (hj : j < xs.length) : w.cell? ⟨g, o + j, none⟩ = some (.int .i64 (xs[j]?.getD 0)) := by
  obtain ⟨g', o', c', cur, he, hB, hg, h1, h2, h3, h4⟩ := h
  simp at he
  obtain ⟨⟨rfl, rfl⟩, rfl, rfl⟩ := he
  simp [World.cell?, hg, h4 j hj]
theorem Que.shape {w : World} {B : Nat} {v : Value} {xs : List Int} (h : Que w B v xs) : ∃ g o c, v = .slice (some ⟨g, o, none⟩) xs.length c ∧ xs.length ≤ c ∧ B ≤ g := by
  obtain ⟨g, o, c, cur, rfl, hB, hg, h1, _⟩ := h
  exact ⟨g, o, c, rfl, h1, hB⟩
/-- It looks at its own block alone. -/
theorem Que.keep {w w' : World} {B : Nat} {v : Value} {xs : List Int} (h : Que w B v xs) (hb : ∀ k, v.ownBlock = some k → w'.heap[k]? = w.heap[k]?) : Que w' B v xs := by
  obtain ⟨g, o, c, cur, rfl, hB, hg, h1⟩ := h
  exact ⟨g, o, c, cur, rfl, hB, (hb g rfl).trans hg, h1⟩
theorem Que.ext {w w' : World} {B : Nat} {v : Value} {xs : List Int} (h : Que w B v xs) (e : Ext w w') : Que w' B v xs := by
  obtain ⟨g, o, c, cur, rfl, hB, hg, h1⟩ := h
  exact ⟨g, o, c, cur, rfl, hB, e.block hg, h1⟩
/-- A list of one number, just laid. -/
theorem Que.one {w : World} {B b : Nat} {z : Int} (hB : B ≤ b) (h : w.heap[b]? = some (.cells #[.int .i64 z] 2 (0, 0))) : Que w B (.slice (some ⟨b, 0, none⟩) 1 1) [z] :=
  ⟨b, 0, 1, _, rfl, hB, h, Nat.le_refl _, by unfold maxLen; omega, by simp, fun j hj => by
    obtain rfl : j = 0 := by simpa using hj
    rfl⟩
/-- The last is taken off. -/
theorem Que.back {w : World} {B g o n c : Nat} {xs : List Int} {x : Int} (h : Que w B (.slice (some ⟨g, o, none⟩) n c) (xs ++ [x])) : Que w B (.slice (some ⟨g, o, none⟩) xs.length c) xs := by
  obtain ⟨g', o', c', cur, he, hB, hg, h1, h2, h3, h4⟩ := h
  simp at he
  obtain ⟨⟨rfl, rfl⟩, rfl, rfl⟩ := he
  refine ⟨g, o, c, cur, rfl, hB, hg, by simp at h1; omega, h2, h3, fun j hj => ?_⟩
  rw [h4 j (by simp; omega), List.getElem?_append_left hj]
/-- The first is taken off. -/
theorem Que.front {w : World} {B g o n c : Nat} {xs : List Int} {x : Int} (h : Que w B (.slice (some ⟨g, o, none⟩) n c) (x :: xs)) : Que w B (.slice (some (if c = 1 then ⟨g, o, none⟩ else ⟨g, o + 1, none⟩)) xs.length (c - 1)) xs := by
  obtain ⟨g', o', c', cur, he, hB, hg, h1, h2, h3, h4⟩ := h
  simp at he
  obtain ⟨⟨rfl, rfl⟩, rfl, rfl⟩ := he
  simp at h1
  by_cases hc : c = 1
  · rw [if_pos hc]
    refine ⟨g, o, c - 1, cur, rfl, hB, hg, by omega, by omega, by omega, fun j hj => by omega⟩
  · rw [if_neg hc]
    refine ⟨g, o + 1, c - 1, cur, rfl, hB, hg, by omega, by omega, by omega, fun j hj => ?_⟩
    have := h4 (j + 1) (by simp; omega)
    simpa [Nat.add_assoc, Nat.add_comm 1 j] using this
theorem que_of_row {w : World} {B B' : Nat} {v : Value} {xs : List Int} {m : Nat} (hB : B ≤ B') (hm : 0 < m) (h : w.ownsRow B' 2 1 v m (ints xs)) (hl : xs.length = m) : Que w B v xs := by
  rcases h.2 with ⟨_, h0⟩ | ⟨g, c, cur, rfl, hb, hg, h1, h2, h3, h4⟩
  · omega
  · subst hl
    refine ⟨g, 0, c, cur, rfl, by omega, hg, h1, h2, by omega, fun j hj => ?_⟩
    have h5 : (cur.toList.take (xs.length * 1))[j]? = some (.int .i64 (xs[j]?.getD 0)) := by
      rw [h4]
      simp [ints, hj]
    rw [List.getElem?_take_of_lt (by omega)] at h5
    simpa using h5

/-- One number more, for the walk. -/
theorem wpList_append_q {P : Program} (w : World) {ops : Array Oper} {rest : List Oper} {o : Oper} {a : Act} {Q : Exit → Act → World → Prop} (hgd : o.guard = none) (s x : Operand) (t : TypeId)
    (ho : o.op = .call { callee := .builtin .append, args := #[s, x], argTypes := #[t, t] })
    (B : Nat) (i : TypeInfo) (z0 : Value) (ht : P.underlying t = some (.slice 2)) (hi : P.info? 2 = some i) (hz : i.zero = some z0) (hsize : i.size = 1) (hby : i.bytes = 8) (hzs : z0.cells.size = 1)
    (v : Value) (xs : List Int) (hs : a.eval s = v) (hq : Que w B v xs)
    (ad : Addr) (c : Nat) (z : Int) (hx : a.eval x = .slice (some ad) 1 c) (hc : w.cell? ad = some (.int .i64 z)) (h63 : xs.length + 1 ≤ 1048576) (hB : B ≤ w.heap.size)
    (h : ∀ v' w', Que w' B v' (xs ++ [z]) → w.grownBy w' v.ownBlock → (∀ k, v'.ownBlock = some k → k < w.heap.size → v.ownBlock = some k) → wpList P ops Q rest (a.put o.dst v') w') : wpList P ops Q (o :: rest) a w := by
  have key : ∃ v' w', (Builtin.append_ #[t, t] o.type #[v, .slice (some ad) 1 c]).run P w = .ok v' w' ∧ Que w' B v' (xs ++ [z]) ∧ w.grownBy w' v.ownBlock ∧ (∀ k, v'.ownBlock = some k → k < w.heap.size → v.ownBlock = some k) := by
    obtain ⟨g, of, cp, cur, rfl, hBg, hg, h1, h2, h3, h4⟩ := hq
    have had : ∀ j u, [Value.int .i64 z][j]? = some u → w.cell? (ad.add j) = some u := by
      intro j u hj
      match j, hj with
      | 0, hj =>
        simp at hj
        subst hj
        obtain ⟨b', o', sp⟩ := ad
        have hsp : sp = none := by simpa using World.cell?_spot hc
        subst hsp
        simpa [Addr.add] using hc
    have holds : ∀ j u, (ints xs)[j]? = some u → w.cell? ((⟨g, of, none⟩ : Addr).add j) = some u := by
      intro j u hj
      have hjl : j < xs.length := by simpa using (List.getElem?_eq_some_iff.1 hj).1
      simp [ints, hjl] at hj
      subst hj
      rw [Addr.add_lit]
      have := h4 j hjl
      simp [hjl] at this
      simp [World.cell?, hg, this]
    by_cases hroom : xs.length + 1 ≤ cp
    · have hlt : of + xs.length < cur.size := by omega
      have hcell : (w.cell? ⟨g, of + xs.length, none⟩).isSome = true := by simp [World.cell?, hg, hlt]
      have hrun := run_append_room_cells (P := P) w t o.type 2 i ht hi g of xs.length cp ad 1 c [.int .i64 z] (by simp [hsize]) had (by intro u hu; simp at hu; subst hu; rfl) hroom
        (fun j hj => by obtain rfl : j = 0 := by simpa using hj
                        rw [hsize, Nat.mul_one, Nat.add_zero]; exact hcell)
        (fun j hj => by simp [World.frozen?, hg])
      rw [hsize, Nat.mul_one] at hrun
      refine ⟨_, _, hrun, ?_, ?_, ?_⟩
      · refine ⟨g, of, cp, cur.setIfInBounds (of + xs.length) (.int .i64 z), by simp, hBg, cells_setCell hg _, by simp; omega, h2, by simpa using h3, fun j hj => ?_⟩
        simp at hj
        by_cases hjx : j = xs.length
        · subst hjx
          simp [hlt]
        · rw [Array.getElem?_setIfInBounds_ne (by omega), h4 j (by omega), List.getElem?_append_left (by omega)]
      · exact ⟨rfl, rfl, rfl, by simp [World.setCells, World.setCell], fun k hk hne => cells_setOther (by simpa [Value.ownBlock] using hne) _⟩
      · intro k hk _; exact hk
    · obtain ⟨v', w', hr, ho', hg'⟩ := run_append_arg_grows (P := P) w t o.type 2 i z0 1 8 ht hi hz hsize hby hzs (by decide) ⟨g, of, none⟩ xs.length cp (ints xs) (by simp) holds ad 1 c [.int .i64 z] rfl had (by omega) (by unfold maxLen; omega) (by omega)
      refine ⟨v', w', hr, ?_, ⟨hg'.os, hg'.tape, hg'.output, hg'.size, fun k hk _ => hg'.block k hk (by simp)⟩, ?_⟩
      · refine que_of_row (m := xs.length + 1) hB (Nat.succ_pos _) ?_ (by simp)
        have e : ints xs ++ [.int .i64 z] = ints (xs ++ [z]) := by simp [ints]
        rw [← e]
        exact ho'
      · intro k hk hlt
        have := (ho'.lt k hk).1
        omega
  obtain ⟨v', w', hr, h2, h3, h4⟩ := key
  refine wpList_plain hgd fun K hK' => ?_
  unfold Oper.wp
  simp [execOp, ho, resolve, invoke, builtin, hs, hx, hr, Result.andThen]
  exact hK' _ _ (h v' w' h2 h3 h4)
end Go.Proofs.Ytdggpkgbncmlbaa
