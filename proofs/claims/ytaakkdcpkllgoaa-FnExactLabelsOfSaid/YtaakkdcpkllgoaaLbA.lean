/-
  The labels that occur, in their order: the sorted list without repeats is the list of the numbers from 0 to 63 that are counted at all. Plain lists, no program.
-/
import Derived.Test.YtaakkdcpkllgoaaGrF
import Derived.Lib.SlicesCompact
namespace Go.Proofs.Ytaakkdcpkllgoaa
set_option linter.unusedVariables false
set_option linter.unusedSimpArgs false
set_option linter.unnecessarySimpa false

/-- The numbers under k that occur in zs. -/
def labTo (zs : List Int) (n k : Nat) : List Int := ((List.range k).filter fun (j : Nat) => decide (0 < cntTo zs (j : Int) n)).map fun (j : Nat) => (j : Int)
theorem labTo_zero (zs : List Int) (n : Nat) : labTo zs n 0 = [] := rfl
theorem labTo_succ (zs : List Int) (n k : Nat) : labTo zs n (k + 1) = labTo zs n k ++ if 0 < cntTo zs (k : Int) n then [(k : Int)] else [] := by
  unfold labTo
  rw [List.range_succ, List.filter_append, List.map_append]
  congr 1
  by_cases h : 0 < cntTo zs (k : Int) n <;> simp [h]
theorem labTo_len (zs : List Int) (n k : Nat) : (labTo zs n k).length ≤ k := by
  unfold labTo
  rw [List.length_map]
  exact Nat.le_trans (List.length_filter_le _ _) (by simp)

/-- Two lists that rise and have the same members are one. -/
theorem rising_eq : ∀ (a b : List Int), a.Pairwise (· < ·) → b.Pairwise (· < ·) → (∀ x, x ∈ a ↔ x ∈ b) → a = b
  | [], [], _, _, _ => rfl
  | [], y :: b, _, _, h => by have := (h y).2 (by simp); simp at this
  | x :: a, [], _, _, h => by have := (h x).1 (by simp); simp at this
  | x :: a, y :: b, ha, hb, h => by
    rw [List.pairwise_cons] at ha hb
    have hxy : x = y := by
      rcases List.mem_cons.1 ((h x).1 (by simp)) with e | e
      · exact e
      · rcases List.mem_cons.1 ((h y).2 (by simp)) with e' | e'
        · exact e'.symm
        · have h1 := hb.1 x e
          have h2 := ha.1 y e'
          omega
    subst hxy
    have : a = b := rising_eq a b ha.2 hb.2 fun z => by
      have h1 := h z
      simp only [List.mem_cons] at h1
      constructor
      · intro hz
        rcases h1.1 (.inr hz) with e | e
        · subst e; have := ha.1 z hz; omega
        · exact e
      · intro hz
        rcases h1.2 (.inr hz) with e | e
        · subst e; have := hb.1 z hz; omega
        · exact e
    rw [this]

open Go.Lib in
theorem compact_rising (d : Array Int) (hs : ∀ i j, i ≤ j → j < d.size → d[i]! ≤ d[j]!) : ∀ m, m ≤ d.size → (compactUpTo d m).Pairwise (· < ·) ∧ (∀ x, x ∈ compactUpTo d m ↔ ∃ j, j < m ∧ d[j]! = x)
  | 0, _ => by simp [compactUpTo]
  | m + 1, hm => by
    obtain ⟨h1, h2⟩ := compact_rising d hs m (by omega)
    rw [compactUpTo_succ]
    by_cases hk : keeps d m = true
    · rw [if_pos hk]
      refine ⟨?_, fun x => ?_⟩
      · rw [List.pairwise_append]
        refine ⟨h1, by simp, fun x hx y hy => ?_⟩
        simp at hy
        subst hy
        obtain ⟨j, hj, rfl⟩ := (h2 x).1 hx
        simp only [keeps, decide_eq_true_eq] at hk
        rcases hk with h0 | hne
        · omega
        · have a := hs j (m - 1) (by omega) (by omega)
          have b := hs (m - 1) m (by omega) (by omega)
          omega
      · rw [List.mem_append, h2]
        simp only [List.mem_singleton]
        constructor
        · rintro (⟨j, hj, e⟩ | e)
          · exact ⟨j, by omega, e⟩
          · exact ⟨m, by omega, e.symm⟩
        · rintro ⟨j, hj, e⟩
          by_cases c : j < m
          · exact .inl ⟨j, c, e⟩
          · have : j = m := by omega
            subst this; exact .inr e.symm
    · rw [if_neg hk, List.append_nil]
      refine ⟨h1, fun x => ?_⟩
      rw [h2]
      have hk' : ¬ (m = 0 ∨ d[m]! ≠ d[m - 1]!) := by simpa [keeps] using hk
      constructor
      · rintro ⟨j, hj, e⟩; exact ⟨j, by omega, e⟩
      · rintro ⟨j, hj, e⟩
        by_cases c : j < m
        · exact ⟨j, c, e⟩
        · have : j = m := by omega
          subst this
          refine ⟨j - 1, by omega, ?_⟩
          have : d[j]! = d[j - 1]! := by
            by_cases q : d[j]! = d[j - 1]!
            · exact q
            · exact absurd (.inr q) hk'
          rw [← this]; exact e

def sorted (zs : List Int) : List Int := zs.mergeSort fun x y => decide (x ≤ y)
theorem sorted_len (zs : List Int) : (sorted zs).length = zs.length := by simp [sorted]
theorem sorted_mem (zs : List Int) (x : Int) : x ∈ sorted zs ↔ x ∈ zs := by simp [sorted]
theorem sorted_le (zs : List Int) (i j : Nat) (h : i ≤ j) (hj : j < (sorted zs).toArray.size) : (sorted zs).toArray[i]! ≤ (sorted zs).toArray[j]! := by
  have hp : (sorted zs).Pairwise fun x y => decide (x ≤ y) = true := List.pairwise_mergeSort (fun a b c h1 h2 => by simp at *; omega) (fun a b => by simp; omega) zs
  have hj' : j < (sorted zs).length := by simpa using hj
  rcases Nat.lt_or_ge i j with c | c
  · have := List.pairwise_iff_getElem.1 hp i j (by omega) hj' c
    simp only [decide_eq_true_eq] at this
    rw [getElem!_pos _ i (by simp; omega), getElem!_pos _ j (by simpa using hj')]
    simpa using this
  · have : i = j := by omega
    subst this; exact Int.le_refl _

theorem cntTo_pos (zs : List Int) (l : Int) : 0 < cntTo zs l zs.length ↔ l ∈ zs := by
  unfold cntTo
  rw [List.take_length, List.length_pos_iff_exists_mem]
  constructor
  · rintro ⟨x, hx⟩
    rw [List.mem_filter] at hx
    simp at hx
    rw [← hx.2]; exact hx.1
  · intro h
    exact ⟨l, List.mem_filter.2 ⟨h, by simp⟩⟩

/-- What the program's set is, is what the reference collects. -/
theorem compact_labels (zs : List Int) (h : ∀ x, x ∈ zs → 0 ≤ x ∧ x ≤ 63) : Lib.compact (sorted zs) = labTo zs zs.length 64 := by
  have hc := compact_rising (sorted zs).toArray (sorted_le zs) (sorted zs).length (by simp)
  refine rising_eq _ _ hc.1 ?_ fun x => ?_
  · unfold labTo
    rw [List.pairwise_map]
    refine List.Pairwise.filter _ ?_
    refine List.Pairwise.imp ?_ (List.pairwise_lt_range (n := 64))
    intro a b h; omega
  · have e1 : x ∈ Lib.compact (sorted zs) ↔ x ∈ zs := by
      unfold Lib.compact
      rw [hc.2, ← sorted_mem zs x]
      constructor
      · rintro ⟨j, hj, rfl⟩
        rw [getElem!_pos _ j (by simpa using hj)]
        simp
      · intro hx
        obtain ⟨j, hj, e⟩ := List.getElem_of_mem hx
        exact ⟨j, hj, by rw [getElem!_pos _ j (by simpa using hj)]; simpa using e⟩
    rw [e1]
    unfold labTo
    simp only [List.mem_map, List.mem_filter, List.mem_range, decide_eq_true_eq]
    constructor
    · intro hx
      have := h x hx
      refine ⟨x.toNat, ⟨by omega, ?_⟩, by omega⟩
      rw [show ((x.toNat : Nat) : Int) = x by omega]
      exact (cntTo_pos zs x).2 hx
    · rintro ⟨j, ⟨hj, hp⟩, rfl⟩
      exact (cntTo_pos zs _).1 hp
end Go.Proofs.Ytaakkdcpkllgoaa
