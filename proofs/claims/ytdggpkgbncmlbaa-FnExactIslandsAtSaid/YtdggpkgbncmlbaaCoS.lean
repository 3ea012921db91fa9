/-
  How many places each component has. Plain lists, no program.
-/
import Derived.Test.YtdggpkgbncmlbaaCoA
namespace Go.Proofs.Ytdggpkgbncmlbaa
set_option linter.unusedVariables false
set_option linter.unusedSimpArgs false
set_option linter.unnecessarySimpa false

def cntE (z : List Int) (m : Int) : Nat := z.countP fun x => x == m
/-- The sizes of the first M components. -/
def szOf (z : List Int) (M : Nat) : List Int := (List.range M).map fun (i : Nat) => ((cntE z (i : Int) : Nat) : Int)
@[simp] theorem szOf_length (z : List Int) (M : Nat) : (szOf z M).length = M := by simp [szOf]
theorem szOf_get {z : List Int} {M k : Nat} (h : k < M) : (szOf z M)[k]?.getD 0 = ((cntE z k : Nat) : Int) := by simp [szOf, h]

theorem negs_cons (x : Int) (z : List Int) : negs (x :: z) = negs z + if x < 0 then 1 else 0 := by
  unfold negs
  rw [List.countP_cons]
  by_cases h : x < 0 <;> simp [h]
theorem cntE_cons (x m : Int) (z : List Int) : cntE (x :: z) m = cntE z m + if x = m then 1 else 0 := by
  unfold cntE
  rw [List.countP_cons]
  by_cases h : x = m <;> simp [h]
theorem fill_counts (m : Int) (hm : 0 ≤ m) : ∀ (z z' : List Int), z.length = z'.length → (∀ j, j < z.length → (atZ z j < 0 ∧ atZ z' j = m) ∨ atZ z' j = atZ z j) → (∀ x, x ∈ z → x < m) →
    negs z = negs z' + cntE z' m ∧ (∀ i, 0 ≤ i → i < m → cntE z' i = cntE z i) ∧ ∀ x, x ∈ z' → x < m + 1
  | [], [], _, _, _ => by simp [negs, cntE]
  | [], _ :: _, h, _, _ => by simp at h
  | _ :: _, [], h, _, _ => by simp at h
  | x :: z, y :: z', h, hj, hx => by
    obtain ⟨h1, h2, h3⟩ := fill_counts m hm z z' (by simpa using h) (fun j hl => by simpa [atZ] using hj (j + 1) (by simpa using hl)) fun u hu => hx u (by simp [hu])
    have h0 := hj 0 (by simp)
    have hxm := hx x (by simp)
    simp only [atZ, List.getElem?_cons_zero, Option.getD_some] at h0
    rw [negs_cons, negs_cons, cntE_cons]
    refine ⟨?_, fun i hi him => ?_, fun u hu => ?_⟩
    · rcases h0 with ⟨a, b⟩ | a
      · rw [if_pos a, if_pos b, if_neg (by omega)]; omega
      · rw [a, if_neg (by omega : ¬ x = m)]; split <;> omega
    · rw [cntE_cons, cntE_cons, h2 i hi him]
      rcases h0 with ⟨a, b⟩ | a
      · rw [if_neg (by omega), if_neg (by omega)]
      · rw [a]
    · rcases List.mem_cons.1 hu with rfl | hu
      · rcases h0 with ⟨a, b⟩ | a <;> omega
      · exact h3 u hu
theorem Rch.free {A : Nat → Nat → Prop} {o : List Int} {i j : Nat} (h : Rch A o i j) (hi : atZ o i < 0) : atZ o j < 0 := by
  induction h with
  | base => exact hi
  | step _ _ h _ => exact h
open Classical in
theorem FillOk.counts {A : Nat → Nat → Prop} {n : Nat} {o z : List Int} {i : Nat} {m : Nat} (h : FillOk A n o i m z) (hl : o.length = n) (hi : atZ o i < 0) (hx : ∀ x, x ∈ o → x < (m : Int)) :
    negs o = negs z + cntE z m ∧ (∀ k, 0 ≤ k → k < (m : Int) → cntE z k = cntE o k) ∧ ∀ x, x ∈ z → x < (m : Int) + 1 :=
  fill_counts m (by omega) o z (by rw [hl, h.len]) (fun j hj => by
    rw [hl] at hj
    by_cases hr : Rch A o i j
    · exact .inl ⟨hr.free hi, h.yes j hj hr⟩
    · exact .inr (h.no j hj hr)) hx
theorem St.under {A : Nat → Nat → Prop} {cnt : Nat → Bool} {n : Nat} : ∀ {k : Nat} {z : List Int} {m : Nat}, St A cnt n k z m → ∀ x, x ∈ z → x < (m : Int)
  | _, _, _, .zero => fun x hx => by have := (List.mem_replicate.1 hx).2; omega
  | _, _, _, .skip h _ => h.under
  | _, _, _, .fill h a _ d => fun x hx => by have := (d.counts h.len a h.under).2.2 x hx; omega
theorem szOf_fill {A : Nat → Nat → Prop} {cnt : Nat → Bool} {n k m : Nat} {z z' : List Int} (h : St A cnt n k z m) (a : atZ z k < 0) (d : FillOk A n z k m z') (L : Nat) (hL : L + negs z' = negs z) : szOf z' (m + 1) = szOf z m ++ [(L : Int)] := by
  obtain ⟨h1, h2, _⟩ := d.counts h.len a h.under
  unfold szOf
  rw [List.range_succ, List.map_append]
  congr 1
  · exact List.map_congr_left fun i hi => by
      have := List.mem_range.1 hi
      rw [h2 i (by omega) (by omega)]
  · simp only [List.map_cons, List.map_nil, List.cons.injEq, and_true]
    omega
/-- Each component has a place. -/
theorem FillOk.some {A : Nat → Nat → Prop} {n : Nat} {o z : List Int} {i : Nat} {m : Int} (h : FillOk A n o i m z) (hi : i < n) : 0 < cntE z m := by
  have := h.yes i hi .base
  have hm : m ∈ z := by
    have hl : i < z.length := by rw [h.len]; exact hi
    have e : z[i] = m := by simpa [atZ, hl] using this
    exact e ▸ List.getElem_mem hl
  exact List.countP_pos_iff.2 ⟨m, hm, by simp⟩
theorem cntE_take {z : List Int} {k : Nat} (hk : k < z.length) (m : Int) : cntE (z.take (k + 1)) m = cntE (z.take k) m + if atZ z k = m then 1 else 0 := by
  have e : z[k] = atZ z k := by simp [atZ, hk]
  unfold cntE
  rw [List.take_succ_eq_append_getElem hk, List.countP_append, e]
  by_cases h : atZ z k = m <;> simp [h]
theorem cntE_le (z : List Int) (m : Int) : cntE z m ≤ z.length := List.countP_le_length
theorem szOf_neg {z : List Int} {k M : Nat} (hk : k < z.length) (h : atZ z k < 0) : szOf (z.take (k + 1)) M = szOf (z.take k) M :=
  List.map_congr_left fun i _ => by rw [cntE_take hk, if_neg (by omega), Nat.add_zero]
theorem szOf_pos {z : List Int} {k M v : Nat} (hk : k < z.length) (h : atZ z k = v) (hv : v < M) : szOf (z.take (k + 1)) M = (szOf (z.take k) M).set v (((cntE (z.take k) v : Nat) : Int) + 1) := by
  refine List.ext_getElem (by simp) fun j h1 h2 => ?_
  simp only [szOf_length] at h1
  rw [List.getElem_set]
  by_cases e : v = j
  · subst e
    simp [szOf, cntE_take hk, h]
  · have : ¬ (v : Int) = j := by omega
    simp [szOf, cntE_take hk, h, e, this]
theorem szOf_zero (z : List Int) (M : Nat) : szOf (z.take 0) M = List.replicate M 0 := by
  refine List.ext_getElem (by simp) fun j h1 h2 => by simp [szOf, cntE]
end Go.Proofs.Ytdggpkgbncmlbaa
