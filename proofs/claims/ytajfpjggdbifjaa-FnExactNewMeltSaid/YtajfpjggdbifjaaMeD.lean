/-
  Valid melts by the program: the parts.
-/
import Derived.Test.YtajfpjggdbifjaaMeF
namespace Go.Proofs.Ytajfpjggdbifjaa
open Go.RowKit
set_option linter.unusedVariables false
set_option linter.unusedSimpArgs false
set_option linter.unnecessarySimpa false

set_option maxRecDepth 100000 in
theorem indexFuncF_any (a : Option Addr) (n c : Nat) (xs : List Nat) (q : Nat → Bool) (FC : FuncId) (hz : xs.length = n) (hn : n ≤ 1048576) (w : World) (hcC : ∀ args u, Sem.run Try.prog (callFunc FC args) u = .ok (.enter FC args) u)
    (hC : ∀ (x : Nat) u, Calls Try.prog FC #[.float .f32 x] u fun e u' => e = .returned (.bool (q x)) ∧ Ext u u') (hA : VArr w a (flts xs)) :
    Calls Try.prog 152 #[.slice a n c, .func (.func FC) #[] #[]] w fun e w' => ∃ z : Int, e = .returned (.int .i64 z) ∧ decide (0 ≤ z) = xs.any q ∧ Ext w w' := by
  have HZ := Lib.hid hz
  have HC := Lib.hid hC
  have HA := Lib.hid hA
  clear hz hC hA
  go_enter Try.func152, Try.ntmps152
  go_wp2
  go_loopw [8] (fun i wr => ∃ k : Nat, k ≤ n ∧ i = .int .i64 k ∧ (∀ j, j < k → q (xs[j]?.getD 0) = false) ∧ Ext w wr) (fun i _ => n - (intOf i).toNat)
  case atStart => exact ⟨0, Nat.zero_le _, rfl, fun j hj => by omega, Ext.refl _⟩
  case round =>
    obtain ⟨k, hk, rfl, hup, hE⟩ := hrel
    have HU := Lib.hid hup
    have HE := Lib.hid hE
    clear hup hE
    by_cases hlt : k < n
    · obtain ⟨b, o, rfl⟩ := HA.out.starts (i := k) (by simp; rw [HZ.out]; exact hlt)
      have hc := (HA.out.ext HE.out).ofFlts k (by rw [HZ.out]; exact hlt)
      rw [List.getD_eq_getElem?_getD] at hc
      have HN : Hid (q (xs[k]?.getD 0) = true → xs.any q = true) := fun h => by
        have hk2 : k < xs.length := by rw [HZ.out]; exact hlt
        rw [List.any_eq_true]
        exact ⟨xs[k], List.getElem_mem hk2, by simpa [hk2] using h⟩
      have HY : Hid (q (xs[k]?.getD 0) = false → ∀ j, j < k + 1 → q (xs[j]?.getD 0) = false) := fun h j hj => by
        by_cases e : j = k
        · subst e; exact h
        · exact HU.out j (by omega)
      generalize xs[k]?.getD 0 = x at *
      go_wp2_with fail
      refine (HC.out x _).mono ?_
      clear hc
      cases hq : q x with
      | true =>
        rintro e w1 ⟨rfl, hX1⟩
        have HR := Lib.hid (HN.out hq)
        clear hq
        go_wp2
        go_ret
        exact ⟨(k : Int), rfl, by rw [HR.out]; simp, HE.out.trans hX1⟩
      | false =>
        rintro e w1 ⟨rfl, hX1⟩
        have HR := Lib.hid (HY.out hq)
        have HE1 := Lib.hid (HE.out.trans hX1)
        clear hq hX1 HE
        go_wp2
        go_roundw
        case rel => exact ⟨k + 1, by omega, by go_num, HR.out, HE1.out⟩
        case measure => simp [intOf]; omega
    · obtain rfl : k = n := by omega
      have HR : Hid (xs.any q = false) := by
        show _ = _
        rw [List.any_eq_false]
        intro x hx
        obtain ⟨j, hj, he⟩ := List.getElem_of_mem hx
        have := HU.out j (by rw [← HZ.out]; exact hj)
        simpa [hj, he] using this
      go_wp2
      go_ret
      exact ⟨-1, rfl, by rw [HR.out]; rfl, HE.out⟩
set_option maxRecDepth 100000 in
theorem containsFuncF_any (a : Option Addr) (n c : Nat) (xs : List Nat) (q : Nat → Bool) (FC : FuncId) (hz : xs.length = n) (hn : n ≤ 1048576) (w : World) (hcC : ∀ args u, Sem.run Try.prog (callFunc FC args) u = .ok (.enter FC args) u)
    (hC : ∀ (x : Nat) u, Calls Try.prog FC #[.float .f32 x] u fun e u' => e = .returned (.bool (q x)) ∧ Ext u u') (hA : VArr w a (flts xs)) :
    Calls Try.prog 105 #[.slice a n c, .func (.func FC) #[] #[]] w fun e w' => e = .returned (.bool (xs.any q)) ∧ Ext w w' := by
  have HC := Lib.hid hC
  clear hC
  go_enter Try.func105, Try.ntmps105
  go_wp2_with fail
  refine (indexFuncF_any a n c xs q FC hz hn _ hcC HC.out hA).mono ?_
  rintro e w1 ⟨z, rfl, hd, hX⟩
  have HD := Lib.hid hd
  clear hd
  go_wp2
  go_ret
  exact ⟨by rw [← HD.out]; rfl, hX⟩
theorem areFin1_any (x : Nat) (w : World) : Calls Try.prog 138 #[.float .f32 x] w fun e w' => e = .returned (.bool (!finB x)) ∧ Ext w w' := by
  go_enter Try.func138, Try.ntmps138
  go_wp2_with fail
  refine (isFinite_any x _).mono ?_
  rintro e w1 ⟨rfl, hX⟩
  go_wp2
  go_ret
  exact ⟨rfl, hX⟩
theorem any_not_all (p : Nat → Bool) (xs : List Nat) : xs.any (fun x => !p x) = !xs.all p := by
  induction xs with
  | nil => rfl
  | cons x xs ih => simp [ih]
theorem areFinite_any (a : Option Addr) (n c : Nat) (xs : List Nat) (hz : xs.length = n) (hn : n ≤ 1048576) (w : World) (hA : VArr w a (flts xs)) :
    Calls Try.prog 88 #[.slice a n c] w fun e w' => e = .returned (.bool (xs.all finB)) ∧ Ext w w' := by
  have HN : Hid ((!xs.any fun x => !finB x) = xs.all finB) := by show _ = _; rw [any_not_all]; simp
  go_enter Try.func88, Try.ntmps88
  go_wp2_with fail
  refine (containsFuncF_any a n c xs (fun x => !finB x) 138 hz hn _ (fun args u => by go_simp) areFin1_any hA).mono ?_
  rintro e w1 ⟨rfl, hX⟩
  go_wp2
  go_ret
  exact ⟨by rw [← HN.out]; rfl, hX⟩
theorem finiteField_any (W H : Int) (R : Bool) (a : Option Addr) (n c : Nat) (xs : List Nat) (hz : xs.length = n) (hn : n ≤ 1048576) (w : World) (hA : VArr w a (flts xs)) :
    Calls Try.prog 104 #[.agg #[.int .i64 W, .int .i64 H, .bool R, .slice a n c]] w fun e w' => e = .returned (.bool (xs.all finB)) ∧ Ext w w' := by
  have hX := (Ext.refl w).alloc (.cells #[.int .i64 W, .int .i64 H, .bool R, .slice a n c] 26)
  have b0 := heap_new w (.cells #[.int .i64 W, .int .i64 H, .bool R, .slice a n c] 26)
  obtain ⟨⟨c0, c1, c2, c3⟩, _⟩ := block4 b0
  go_enter Try.func104, Try.ntmps104
  go_wp2_with fail
  clear c0 c1 c2 c3 b0
  refine (areFinite_any a n c xs hz hn _ (hA.ext hX)).mono ?_
  rintro e w1 ⟨rfl, hX1⟩
  go_wp2
  go_ret
  exact ⟨rfl, hX.trans hX1⟩
theorem not_gt1 {x : Nat} (h : ge0 x = true) : (FloatKind.f32.format.order x 1065353216 == some .lt || FloatKind.f32.format.order x 1065353216 == some .eq) = !gt1 x := by
  have hx : isN .f32 x = false := by
    cases hn : isN .f32 x with
    | false => rfl
    | true => unfold ge0 at h; rw [order_nan1 hn] at h; cases h
  unfold gt1
  have hs : ∃ c, FloatKind.f32.format.order x 1065353216 = some c := by
    unfold Ieee.Format.order
    have hx2 : (FloatKind.f32.format.read x).isNaN = false := hx
    have hy : (FloatKind.f32.format.read 1065353216).isNaN = false := by decide
    cases h1 : FloatKind.f32.format.read x with
    | nan s t => rw [h1] at hx2; simp [Ieee.Datum.isNaN] at hx2
    | infinity s =>
      cases h2 : FloatKind.f32.format.read 1065353216 with
      | nan s t => rw [h2] at hy; simp [Ieee.Datum.isNaN] at hy
      | infinity s' => simp [Ieee.Datum.order]
      | number s' m e => simp [Ieee.Datum.order]
    | number s m e =>
      cases h2 : FloatKind.f32.format.read 1065353216 with
      | nan s t => rw [h2] at hy; simp [Ieee.Datum.isNaN] at hy
      | infinity s' => simp [Ieee.Datum.order]
      | number s' m e => simp [Ieee.Datum.order]
  obtain ⟨c, hc⟩ := hs
  rw [hc]
  cases c <;> rfl
theorem validMelt1_any (x : Nat) (w : World) : Calls Try.prog 106 #[.float .f32 x] w fun e w' => e = .returned (.bool (!phB x)) ∧ Ext w w' := by
  cases h : ge0 x with
  | false =>
    have HR : Hid ((!phB x) = true) := by show _ = _; simp [phB, h]
    unfold ge0 at h
    go_enter Try.func106, Try.ntmps106
    go_wp2
    go_ret
    exact ⟨by rw [HR.out]; rfl, Ext.refl _⟩
  | true =>
    have h1 := not_gt1 h
    have HR : Hid ((!phB x) = gt1 x) := by show _ = _; simp [phB, h]
    unfold ge0 at h
    cases hg : gt1 x
    all_goals
      rw [hg] at h1
      rw [hg] at HR
      clear hg
      go_enter Try.func106, Try.ntmps106
      go_wp2
      go_ret
      exact ⟨by rw [HR.out]; rfl, Ext.refl _⟩
end Go.Proofs.Ytajfpjggdbifjaa
