/-
  Contracts of the small functions on numbers: bounds, places, seeds; and 'areWithin' over a slice.
-/
import Derived.Test.YtajfpjggdbifjaaInts
namespace Go.Proofs.Ytajfpjggdbifjaa
open Go.RowKit
set_option linter.unusedVariables false
set_option linter.unusedSimpArgs false
set_option linter.unnecessarySimpa false

def inB (z lo hi : Int) : Bool := decide (lo ≤ z) && decide (z ≤ hi)
theorem inB_iff {z lo hi : Int} : inB z lo hi = true ↔ lo ≤ z ∧ z ≤ hi := by simp [inB]
theorem inB_yes {z lo hi : Int} (h1 : lo ≤ z) (h2 : z ≤ hi) : inB z lo hi = true := inB_iff.2 ⟨h1, h2⟩
theorem inB_not {z lo hi : Int} : inB z lo hi = false ↔ ¬ (lo ≤ z ∧ z ≤ hi) := by rw [← inB_iff]; simp
def allIn (lo hi : Int) (zs : List Int) : Bool := zs.all fun z => inB z lo hi
theorem allIn_two {lo hi a b : Int} : allIn lo hi [a, b] = (inB a lo hi && inB b lo hi) := by simp [allIn]
theorem allIn_false {lo hi : Int} {zs : List Int} (h : allIn lo hi zs = false) : ∃ k, k < zs.length ∧ inB (zs[k]?.getD 0) lo hi = false ∧ ∀ j, j < k → inB (zs[j]?.getD 0) lo hi = true := by
  unfold allIn at h
  induction zs with
  | nil => simp at h
  | cons z zs ih =>
    simp only [List.all_cons, Bool.and_eq_false_iff] at h
    by_cases hz : inB z lo hi = true
    · rcases h with h | h
      · rw [hz] at h; cases h
      · obtain ⟨k, h1, h2, h3⟩ := ih h
        refine ⟨k + 1, by simpa using h1, by simpa using h2, fun j hj => ?_⟩
        cases j with
        | zero => simpa using hz
        | succ j => simpa using h3 j (by omega)
    · exact ⟨0, by simp, by simpa using hz, fun j hj => by omega⟩
theorem allIn_true {lo hi : Int} {zs : List Int} (h : allIn lo hi zs = true) {k : Nat} (hk : k < zs.length) : inB (zs[k]?.getD 0) lo hi = true := by
  unfold allIn at h
  have := List.all_eq_true.1 h (zs[k]) (List.getElem_mem hk)
  simpa [hk] using this

theorem within_any (n l h : Int) (w : World) : Calls Try.prog 68 #[.int .i64 n, .int .i64 l, .int .i64 h] w fun e w' => e = .returned (.bool (inB n l h)) ∧ w = w' := by
  go_enter Try.func68, Try.ntmps68
  by_cases h1 : l ≤ n
  · have e1 : decide (l ≤ n) = true := by simpa using h1
    go_wp2
    all_goals go_ret
    all_goals simp [inB, e1]
  · have e1 : decide (l ≤ n) = false := by simpa using h1
    go_wp2
    all_goals go_ret
    all_goals simp [inB, e1]
theorem l00In_any (n l h : Int) (w : World) : Calls Try.prog 151 #[.int .i64 n, .int .i64 l, .int .i64 h] w fun e w' => e = .returned (.bool (inB n l h)) ∧ w = w' := by
  go_enter Try.func151, Try.ntmps151
  by_cases h1 : l ≤ n
  · have e1 : decide (l ≤ n) = true := by simpa using h1
    go_wp2
    all_goals go_ret
    all_goals simp [inB, e1]
  · have e1 : decide (l ≤ n) = false := by simpa using h1
    go_wp2
    all_goals go_ret
    all_goals simp [inB, e1]

/-- The closure of 'areWithin'. -/
theorem areWithin1_any (z lo hi : Int) (A B : Addr) (w : World) (hA : w.cell? A = some (.int .i64 lo)) (hB : w.cell? B = some (.int .i64 hi)) :
    Calls Try.prog 134 #[.int .i64 z, .pointer (some A), .pointer (some B)] w fun e w' => e = .returned (.bool (!inB z lo hi)) ∧ w = w' := by
  go_enter Try.func134, Try.ntmps134
  go_wp2_with (go_at_call 68; refine (within_any _ _ _ _).mono ?_; rintro e w' ⟨rfl, rfl⟩)
  go_ret
  exact ⟨rfl, rfl⟩

theorem indexFunc_yes (a : Option Addr) (n c : Nat) (zs : List Int) (hz : zs.length = n) (hn : n ≤ 1152921504606846976) (lo hi : Int) (A B : Addr) (w : World) (hA : w.cell? A = some (.int .i64 lo)) (hB : w.cell? B = some (.int .i64 hi)) (hV : VArr w a (ints zs)) (hall : allIn lo hi zs = true) :
    Calls Try.prog 164 #[.slice a n c, .func (.func 134) #[] #[.pointer (some A), .pointer (some B)]] w fun e w' => e = .returned (.int .i64 (-1)) ∧ Ext w w' := by
  have HZ := Lib.hid hz
  have HALL := Lib.hid hall
  clear hz hall
  go_enter Try.func164, Try.ntmps164
  go_wp2
  go_loopw [8] (fun i wr => ∃ k : Nat, k ≤ n ∧ i = .int .i64 k ∧ Ext w wr) (fun i _ => n - (intOf i).toNat)
  case atStart => exact ⟨0, Nat.zero_le _, rfl, Ext.refl _⟩
  case round =>
    obtain ⟨k, hk, rfl, hX⟩ := hrel
    have HX := Lib.hid hX
    by_cases hlt : k < n
    · have h1 := hV.ext hX
      have a1 := hX.cell hA
      have b1 := hX.cell hB
      obtain ⟨b, o, rfl⟩ := hV.starts (i := k) (by simpa [HZ.out] using hlt)
      have hc := h1.ofInts k (by rw [HZ.out]; exact hlt)
      have hin := allIn_true HALL.out (k := k) (by rw [HZ.out]; exact hlt)
      have e1 : (!inB (zs[k]?.getD 0) lo hi) = false := by rw [hin]; rfl
      clear h1 hX hV hin hA hB
      go_wp2_with (go_at_call 134; refine (areWithin1_any _ lo hi A B _ a1 b1).mono ?_; rintro e w' ⟨rfl, rfl⟩)
      go_roundw
      case rel => exact ⟨k + 1, by omega, by go_num, HX.out⟩
      case measure => simp [intOf]; omega
    · obtain rfl : k = n := by omega
      clear hX
      go_wp2
      go_ret
      exact ⟨rfl, HX.out⟩

theorem indexFunc_no (a : Option Addr) (n c : Nat) (zs : List Int) (hz : zs.length = n) (hn : n ≤ 1152921504606846976) (lo hi : Int) (A B : Addr) (w : World) (hA : w.cell? A = some (.int .i64 lo)) (hB : w.cell? B = some (.int .i64 hi)) (hV : VArr w a (ints zs)) (hall : allIn lo hi zs = false) :
    Calls Try.prog 164 #[.slice a n c, .func (.func 134) #[] #[.pointer (some A), .pointer (some B)]] w fun e w' => (∃ m : Nat, m ≤ n ∧ e = .returned (.int .i64 m)) ∧ Ext w w' := by
  obtain ⟨q, hq, hq1, hq2⟩ := allIn_false hall
  have HZ := Lib.hid hz
  have HQ := Lib.hid hq2
  rw [hz] at hq
  clear hz hall hq2
  have HQ1 := Lib.hid hq1
  clear hq1
  go_enter Try.func164, Try.ntmps164
  go_wp2
  go_loopw [8] (fun i wr => ∃ k : Nat, k ≤ q ∧ i = .int .i64 k ∧ Ext w wr) (fun i _ => q - (intOf i).toNat)
  case atStart => exact ⟨0, Nat.zero_le _, rfl, Ext.refl _⟩
  case round =>
    obtain ⟨k, hk, rfl, hX⟩ := hrel
    have HX := Lib.hid hX
    have hlt : k < n := by omega
    have h1 := hV.ext hX
    have a1 := hX.cell hA
    have b1 := hX.cell hB
    obtain ⟨b, o, rfl⟩ := hV.starts (i := k) (by simpa [HZ.out] using hlt)
    have hc := h1.ofInts k (by rw [HZ.out]; exact hlt)
    clear h1 hX hV hA hB
    by_cases hkq : k < q
    · have e1 : (!inB (zs[k]?.getD 0) lo hi) = false := by rw [HQ.out k hkq]; rfl
      go_wp2_with (go_at_call 134; refine (areWithin1_any _ lo hi A B _ a1 b1).mono ?_; rintro e w' ⟨rfl, rfl⟩)
      go_roundw
      case rel => exact ⟨k + 1, by omega, by go_num, HX.out⟩
      case measure => simp [intOf]; omega
    · obtain rfl : k = q := by omega
      have e1 : (!inB (zs[k]?.getD 0) lo hi) = true := by rw [HQ1.out]; rfl
      go_wp2_with (go_at_call 134; refine (areWithin1_any _ lo hi A B _ a1 b1).mono ?_; rintro e w' ⟨rfl, rfl⟩)
      go_ret
      exact ⟨⟨k, by omega, rfl⟩, HX.out⟩

theorem areWithin_any (a : Option Addr) (n c : Nat) (zs : List Int) (hz : zs.length = n) (hn : n ≤ 1152921504606846976) (lo hi : Int) (w : World) (hV : VArr w a (ints zs)) :
    Calls Try.prog 75 #[.int .i64 lo, .int .i64 hi, .slice a n c] w fun e w' => e = .returned (.bool (allIn lo hi zs)) ∧ Ext w w' := by
  have hX : Ext w ((w.alloc (.cells #[.int .i64 lo] 2)).alloc (.cells #[.int .i64 hi] 2)) := ((Ext.refl w).alloc _).alloc _
  have hV' := hV.ext hX
  have HX := Lib.hid hX
  clear hX hV
  have c1 : ((w.alloc (.cells #[.int .i64 lo] 2)).alloc (.cells #[.int .i64 hi] 2)).cell? ⟨w.heap.size, 0, none⟩ = some (.int .i64 lo) := by
    rw [World.cell?_alloc_lt _ _ _ (by simp)]; simp
  have c2 : ((w.alloc (.cells #[.int .i64 lo] 2)).alloc (.cells #[.int .i64 hi] 2)).cell? ⟨w.heap.size + 1, 0, none⟩ = some (.int .i64 hi) := by
    have := World.cell?_alloc_new (w.alloc (.cells #[.int .i64 lo] 2)) #[.int .i64 hi] 2 0
    simpa using this
  cases hall : allIn lo hi zs with
  | true =>
    go_enter Try.func75, Try.ntmps75
    go_wp2_with (first | (go_at_call 164; refine (indexFunc_yes a n c zs hz hn lo hi _ _ _ c1 c2 hV' hall).mono ?_; rintro e w' ⟨rfl, hw⟩) | go_in)
    go_ret
    exact ⟨rfl, HX.out.trans (by assumption)⟩
  | false =>
    go_enter Try.func75, Try.ntmps75
    go_wp2_with (first | (go_at_call 164; refine (indexFunc_no a n c zs hz hn lo hi _ _ _ c1 c2 hV' hall).mono ?_; rintro e w' ⟨⟨m, hm, rfl⟩, hw⟩) | go_in)
    go_ret
    exact ⟨rfl, HX.out.trans (by assumption)⟩
end Go.Proofs.Ytajfpjggdbifjaa
