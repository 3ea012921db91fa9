/-
  Plain words: two rows of the call's own that grow in turn.
-/
import Derived.Test.YtajfpjggdbifjaaLib5
namespace Go.Proofs.Ytajfpjggdbifjaa
open Go.RowKit
set_option linter.unusedVariables false
set_option linter.unusedSimpArgs false
set_option linter.unnecessarySimpa false

/-- A row stays when a row apart from it is written. -/
theorem row_keepA {w w' : World} {base : Nat} {e : TypeId} {s : Nat} {v v' : Value} {n : Nat} {xs : List Value} (hO : w.ownsRow base e s v n xs) (hl : ∀ g, v.ownBlock = some g → v'.ownBlock ≠ some g) (hG : w.grownBy w' v'.ownBlock) : w'.ownsRow base e s v n xs :=
  hO.kept hG (by
    cases hv : v.ownBlock with
    | none => exact .inl rfl
    | some g => exact .inr fun hh => hl g hv hh.symm)
theorem apart_symm {v v' : Value} (h : ∀ g, v.ownBlock = some g → v'.ownBlock ≠ some g) : ∀ g, v'.ownBlock = some g → v.ownBlock ≠ some g := fun g h1 h2 => h g h2 h1
/-- Whoever's block is its old one or a new one keeps apart from what there was. -/
theorem apart_new {w : World} {base : Nat} {e : TypeId} {s : Nat} {v u v' : Value} {n : Nat} {xs : List Value} (hO : w.ownsRow base e s u n xs) (hl : ∀ g, u.ownBlock = some g → v.ownBlock ≠ some g) (hn : ∀ g, v'.ownBlock = some g → v.ownBlock = some g ∨ w.heap.size ≤ g) : ∀ g, u.ownBlock = some g → v'.ownBlock ≠ some g := fun g h1 h2 => by
  rcases hn g h2 with h | h
  · exact hl g h1 h
  · have := (hO.lt g h1).2
    omega

section
variable {P : Program} {w : World}
/-- Append to a row of one's own: the block is the old one or a new one. -/
theorem wpList_append_apart {ops : Array Oper} {rest : List Oper} {o : Oper} {a : Act} {Q : Exit → Act → World → Prop} (hgd : o.guard = none) (s x : Operand) (t : TypeId)
    (ho : o.op = .call { callee := .builtin .append, args := #[s, x], argTypes := #[t, t] })
    (base : Nat) (e : TypeId) (i : TypeInfo) (z : Value) (bytes : Nat) (ht : P.underlying t = some (.slice e)) (hi : P.info? e = some i) (hz : i.zero = some z)
    (hsize : i.size = 1) (hby : i.bytes = bytes) (hzs : z.cells.size = 1)
    (v : Value) (n : Nat) (xs : List Value) (hs : a.eval s = v) (hown : w.ownsRow base e 1 v n xs)
    (ad : Addr) (m c : Nat) (news : List Value) (hx : a.eval x = .slice (some ad) m c) (hl : news.length = m * 1) (hnews : ∀ j u, news[j]? = some u → w.cell? (ad.add j) = some u) (h1 : ∀ u ∈ news, u.oneCell' = true)
    (h63 : n + m ≤ maxLen) (hbytes : (n + m) * bytes ≤ 140737488355328) (hbase : base ≤ w.heap.size)
    (h : ∀ v' w', w'.ownsRow base e 1 v' (n + m) (xs ++ news) → w.grownBy w' v.ownBlock → (∀ g, v'.ownBlock = some g → v.ownBlock = some g ∨ w.heap.size ≤ g) → wpList P ops Q rest (a.put o.dst v') w') : wpList P ops Q (o :: rest) a w := by
  refine wpList_plain hgd fun K hK => ?_
  obtain ⟨v', w', hr, h2, h3, h4⟩ := run_append_own (P := P) w base t o.type e i z 1 bytes ht hi hz hsize hby hzs (by omega) v n xs hown ad m c news hl hnews h1 h63 hbytes hbase
  have h5 : ∀ g, v'.ownBlock = some g → v.ownBlock = some g ∨ w.heap.size ≤ g := by
    rcases hown.2 with ⟨rfl, rfl⟩ | ⟨g, cap, cur, rfl, hbg, hg, hnc, hcm, hcs, htake⟩
    · -- out of nothing: the block is none of those that there were
      intro g hg
      have hX := (h2.lt g hg).2
      by_cases hlt : w.heap.size ≤ g
      · exact .inr hlt
      · exfalso
        have hx0 : xs = [] := List.eq_nil_of_length_eq_zero (by simpa using hown.1)
        subst hx0
        by_cases hm : m = 0
        · rw [h4.2 ⟨rfl, hm⟩] at hg
          simp [Value.ownBlock] at hg
        · have hr2 := run_append_nil (P := P) w t o.type e i z ht hi hz ad m c news (by rw [hsize]; exact hl) hnews (by omega) (by simp only [maxLen] at h63; omega) (by have hb := hbytes; simp only [Nat.zero_add] at hb; rw [hby]; omega)
          rw [hr] at hr2
          cases hr2
          simp only [Value.ownBlock, Option.some.injEq] at hg
          omega
    · by_cases hroom : n + m ≤ cap
      · have hfit : n * i.size + news.length ≤ cur.size := by rw [hl, hcs, hsize, ← Nat.add_mul]; exact Nat.mul_le_mul_right _ hroom
        have hr2 := run_append_room (P := P) w t o.type e i ht hi g n cap cur hg ad m c news (by rw [hsize]; exact hl) hnews h1 hroom hfit
        rw [hr] at hr2
        cases hr2
        intro g' hg'
        exact .inl hg'
      · have holds : ∀ j u, xs[j]? = some u → w.cell? ((⟨g, 0, none⟩ : Addr).add j) = some u := hown.cells (g := g) rfl
        have hr2 := run_append_grow (P := P) w t o.type e i z ht hi hz ⟨g, 0, none⟩ n cap xs (by rw [hsize]; exact hown.1) holds ad m c news (by rw [hsize]; exact hl) hnews (by omega) (by simp only [maxLen] at h63; omega) (by rw [hby]; exact growslice_fits (by omega) hbytes)
        rw [hr] at hr2
        cases hr2
        intro g' hg'
        simp only [Value.ownBlock, Option.some.injEq] at hg'
        exact .inr (by omega)
  unfold Oper.wp execOp
  simp only [ho, resolve, invoke, builtin, Sem.run_bind, Sem.run_pure, Result.andThen_ok, List.map_toArray, List.map_cons, List.map_nil, hs, hx, hr]
  exact hK _ _ (h v' w' h2 h3 h5)
end
end Go.Proofs.Ytajfpjggdbifjaa
