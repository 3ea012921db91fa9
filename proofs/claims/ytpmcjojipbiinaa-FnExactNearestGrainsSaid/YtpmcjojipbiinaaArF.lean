/-
  Lists of singles: whether all are finite, by the program.
-/
import Derived.Test.YtpmcjojipbiinaaMeB
namespace Go.Proofs.Ytpmcjojipbiinaa
open Go.RowKit
set_option linter.unusedVariables false
set_option linter.unusedSimpArgs false
set_option linter.unnecessarySimpa false

set_option maxRecDepth 100000 in
theorem indexFuncF_any (a : Option Addr) (n c : Nat) (xs : List Nat) (q : Nat → Bool) (FC : FuncId) (hz : xs.length = n) (hn : n ≤ 1048576) (w : World) (hcC : ∀ args u, Sem.run Try.prog (callFunc FC args) u = .ok (.enter FC args) u)
    (hC : ∀ (x : Nat) u, Calls Try.prog FC #[.float .f32 x] u fun e u' => e = .returned (.bool (q x)) ∧ Ext u u') (hA : VArr w a (flts xs)) :
    Calls Try.prog 89 #[.slice a n c, .func (.func FC) #[] #[]] w fun e w' => ∃ z : Int, e = .returned (.int .i64 z) ∧ decide (0 ≤ z) = xs.any q ∧ Ext w w' := by
  have HZ := Lib.hid hz
  have HC := Lib.hid hC
  have HA := Lib.hid hA
  clear hz hC hA
  go_enter Try.func89, Try.ntmps89
  go_wp2
  go_loopw [8] (fun i wr => ∃ k : Nat, k ≤ n ∧ i = .int .i64 k ∧ (∀ j, j < k → q (xs[j]?.getD 0) = false) ∧ Ext w wr) (fun i _ => n - (intOf i).toNat)
  case atStart => exact ⟨0, Nat.zero_le _, rfl, fun j hj => by omega, Ext.refl _⟩
  case round =>
    obtain ⟨k, hk, rfl, hup, hE⟩ := hrel
    have HU := Lib.hid hup
    have HE := Lib.hid hE
    clear hup hE
    by_cases hlt : k < n
    · obtain ⟨b, o, rfl⟩ := HA.out.starts (i := k) (by simp; rw [HZ.out]; exact hlt)
      have hc := (HA.out.ext HE.out).ofFlts k (by rw [HZ.out]; exact hlt)
      rw [List.getD_eq_getElem?_getD] at hc
      have HN : Hid (q (xs[k]?.getD 0) = true → xs.any q = true) := fun h => by
        have hk2 : k < xs.length := by rw [HZ.out]; exact hlt
        rw [List.any_eq_true]
        exact ⟨xs[k], List.getElem_mem hk2, by simpa [hk2] using h⟩
      have HY : Hid (q (xs[k]?.getD 0) = false → ∀ j, j < k + 1 → q (xs[j]?.getD 0) = false) := fun h j hj => by
        by_cases e : j = k
        · subst e; exact h
        · exact HU.out j (by omega)
      generalize xs[k]?.getD 0 = x at *
      go_wp2_with fail
      refine (HC.out x _).mono ?_
      clear hc
      cases hq : q x with
      | true =>
        rintro e w1 ⟨rfl, hX1⟩
        have HR := Lib.hid (HN.out hq)
        clear hq
        go_wp2
        go_ret
        exact ⟨(k : Int), rfl, by rw [HR.out]; simp, HE.out.trans hX1⟩
      | false =>
        rintro e w1 ⟨rfl, hX1⟩
        have HR := Lib.hid (HY.out hq)
        have HE1 := Lib.hid (HE.out.trans hX1)
        clear hq hX1 HE
        go_wp2
        go_roundw
        case rel => exact ⟨k + 1, by omega, by go_num, HR.out, HE1.out⟩
        case measure => simp [intOf]; omega
    · obtain rfl : k = n := by omega
      have HR : Hid (xs.any q = false) := by
        show _ = _
        rw [List.any_eq_false]
        intro x hx
        obtain ⟨j, hj, he⟩ := List.getElem_of_mem hx
        have := HU.out j (by rw [← HZ.out]; exact hj)
        simpa [hj, he] using this
      go_wp2
      go_ret
      exact ⟨-1, rfl, by rw [HR.out]; rfl, HE.out⟩
set_option maxRecDepth 100000 in
theorem containsFuncF_any (a : Option Addr) (n c : Nat) (xs : List Nat) (q : Nat → Bool) (FC : FuncId) (hz : xs.length = n) (hn : n ≤ 1048576) (w : World) (hcC : ∀ args u, Sem.run Try.prog (callFunc FC args) u = .ok (.enter FC args) u)
    (hC : ∀ (x : Nat) u, Calls Try.prog FC #[.float .f32 x] u fun e u' => e = .returned (.bool (q x)) ∧ Ext u u') (hA : VArr w a (flts xs)) :
    Calls Try.prog 69 #[.slice a n c, .func (.func FC) #[] #[]] w fun e w' => e = .returned (.bool (xs.any q)) ∧ Ext w w' := by
  have HC := Lib.hid hC
  clear hC
  go_enter Try.func69, Try.ntmps69
  go_wp2_with fail
  refine (indexFuncF_any a n c xs q FC hz hn _ hcC HC.out hA).mono ?_
  rintro e w1 ⟨z, rfl, hd, hX⟩
  have HD := Lib.hid hd
  clear hd
  go_wp2
  go_ret
  exact ⟨by rw [← HD.out]; rfl, hX⟩
theorem areFin1_any (x : Nat) (w : World) : Calls Try.prog 70 #[.float .f32 x] w fun e w' => e = .returned (.bool (!finB x)) ∧ Ext w w' := by
  go_enter Try.func70, Try.ntmps70
  go_wp2_with fail
  refine (isFinite_any x _).mono ?_
  rintro e w1 ⟨rfl, hX⟩
  go_wp2
  go_ret
  exact ⟨rfl, hX⟩
theorem any_not_all (p : Nat → Bool) (xs : List Nat) : xs.any (fun x => !p x) = !xs.all p := by
  induction xs with
  | nil => rfl
  | cons x xs ih => simp [ih]
theorem areFinite_any (a : Option Addr) (n c : Nat) (xs : List Nat) (hz : xs.length = n) (hn : n ≤ 1048576) (w : World) (hA : VArr w a (flts xs)) :
    Calls Try.prog 31 #[.slice a n c] w fun e w' => e = .returned (.bool (xs.all finB)) ∧ Ext w w' := by
  have HN : Hid ((!xs.any fun x => !finB x) = xs.all finB) := by show _ = _; rw [any_not_all]; simp
  go_enter Try.func31, Try.ntmps31
  go_wp2_with fail
  refine (containsFuncF_any a n c xs (fun x => !finB x) 70 hz hn _ (fun args u => by go_simp) areFin1_any hA).mono ?_
  rintro e w1 ⟨rfl, hX⟩
  go_wp2
  go_ret
  exact ⟨by rw [← HN.out]; rfl, hX⟩
end Go.Proofs.Ytpmcjojipbiinaa
