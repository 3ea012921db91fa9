/-
  Cells of a melt, and numbers that are told if they are finite. (Printed by gen_melt.py.)
-/
import Derived.Test.YtajfpjggdbifjaaMeH
namespace Go.Proofs.Ytajfpjggdbifjaa
open Go.RowKit
set_option linter.unusedVariables false
set_option linter.unusedSimpArgs false
set_option linter.unnecessarySimpa false

def isC (vm : Bool) (W H x y : Int) : Bool := vm && (inB x 0 (W - 1) && inB y 0 (H - 1))
theorem finB_nan {r : Nat} (h : isN .f32 r = true) : finB r = false := by
  have := (isN_iff .f32 r).1 h
  rw [f32_sw, f32_inf] at this
  simp [finB]; omega
/-- What is told of a number, up to which not-a-number. -/
def toldO : Option Nat → Option Nat × Bool
  | some r => if finB r then (some r, true) else (some 0, false)
  | none => (some 0, false)
theorem isN_zero : isN .f32 0 = false := by decide
theorem told_fa (r : Nat) : (toldO (fa .f32 r)).2 = finB r ∧ fa .f32 (if finB r then r else 0) = (toldO (fa .f32 r)).1 := by
  cases h : isN .f32 r with
  | true =>
    have hf := finB_nan h
    rw [fa_nan h, hf]
    exact ⟨rfl, by simp [toldO, fa_num isN_zero]⟩
  | false =>
    rw [fa_num h]
    cases hf : finB r with
    | true => simp [toldO, hf, fa_num h]
    | false => simp [toldO, hf, fa_num isN_zero]
def toldP (w : World) (r : Nat) (e : Ending) (w' : World) : Prop := e = .returned (.tuple #[.float .f32 (if finB r then r else 0), .bool (finB r)]) ∧ Ext w w'
theorem told_any (r : Nat) (w : World) : Calls Try.prog 109 #[.float .f32 r] w (toldP w r) := by
  cases h : finB r
  all_goals
    have HF := Lib.hid h
    go_enter Try.func109, Try.ntmps109
    go_wp2_with fail
    refine (isFinite_any r _).mono ?_
    rw [h]
    rintro e w1 ⟨rfl, hX⟩
    clear h
    go_wp2
    go_ret2
    exact ⟨by rw [HF.out]; rfl, hX⟩
theorem l03Number_any (r : Nat) (w : World) : Calls Try.prog 110 #[.float .f32 r] w (toldP w r) := by
  cases h : finB r
  all_goals
    have HF := Lib.hid h
    go_enter Try.func110, Try.ntmps110
    go_wp2_with fail
    refine (l01Finite_any r _).mono ?_
    rw [h]
    rintro e w1 ⟨rfl, hX⟩
    clear h
    go_wp2
    go_ret2
    exact ⟨by rw [HF.out]; rfl, hX⟩

set_option maxRecDepth 100000 in
set_option maxHeartbeats 2000000 in
theorem isCell_any (W H : Int) (R : Bool) (a : Option Addr) (n c : Nat) (W' H' : Int) (R' : Bool) (a' : Option Addr) (n' c' : Nat) (f1 f2 f3 f4 f5 : Nat) (k : Int) (x y : Int) (xs xs' : List Nat) (hz : xs.length = n) (hz' : xs'.length = n') (hn : n ≤ 1048576) (hn' : n' ≤ 1048576) (w : World) (hA : VArr w a (flts xs)) (hA' : VArr w a' (flts xs')) :
    Calls Try.prog 121 #[.agg #[.int .i64 W, .int .i64 H, .bool R, .slice a n c, .int .i64 W', .int .i64 H', .bool R', .slice a' n' c', .float .f32 f1, .float .f32 f2, .float .f32 f3, .float .f32 f4, .float .f32 f5, .int .i64 k], .int .i64 x, .int .i64 y] w fun e w' => e = .returned (.bool (isC (vldM W H R n W' H' R' n' xs xs' f1 f2 f3 f4 f5 k) W H x y)) ∧ Ext w w' := by
  have hX := (Ext.refl w).alloc (.cells #[.int .i64 W, .int .i64 H, .bool R, .slice a n c, .int .i64 W', .int .i64 H', .bool R', .slice a' n' c', .float .f32 f1, .float .f32 f2, .float .f32 f3, .float .f32 f4, .float .f32 f5, .int .i64 k] 62)
  have b0 := heap_new w (.cells #[.int .i64 W, .int .i64 H, .bool R, .slice a n c, .int .i64 W', .int .i64 H', .bool R', .slice a' n' c', .float .f32 f1, .float .f32 f2, .float .f32 f3, .float .f32 f4, .float .f32 f5, .int .i64 k] 62)
  have hA1 := hA.ext hX
  have hA1' := hA'.ext hX
  obtain ⟨⟨c0, c1, c2, c3, c4, c5, c6, c7, c8, c9, c10, c11, c12, c13⟩, _⟩ := block14 b0
  go_enter Try.func121, Try.ntmps121
  go_wp2_with fail
  clear c0 c1 c2 c3 c4 c5 c6 c7 c8 c9 c10 c11 c12 c13
  generalize w.alloc (.cells #[.int .i64 W, .int .i64 H, .bool R, .slice a n c, .int .i64 W', .int .i64 H', .bool R', .slice a' n' c', .float .f32 f1, .float .f32 f2, .float .f32 f3, .float .f32 f4, .float .f32 f5, .int .i64 k] 62) = w0 at *
  generalize w.heap.size = p at *
  refine (implValidM_any W H R a n c W' H' R' a' n' c' f1 f2 f3 f4 f5 k xs xs' hz hz' hn hn' _ hA1 hA1').mono ?_
  cases hv : vldM W H R n W' H' R' n' xs xs' f1 f2 f3 f4 f5 k with
  | false =>
    rintro e w1 ⟨rfl, hX1⟩
    have HR : Hid (isC (vldM W H R n W' H' R' n' xs xs' f1 f2 f3 f4 f5 k) W H x y = false) := by show _ = _; rw [hv]; rfl
    have HX := Lib.hid (hX.trans hX1)
    clear hX1 hv hX b0
    go_wp2
    go_ret
    exact ⟨by rw [HR.out]; rfl, HX.out⟩
  | true =>
    have ht : twoB W H R n W' H' R' n' = true := by simp only [vldM, Bool.and_eq_true] at hv; exact hv.1.1
    have hvp : vldF W H n = true := by simp only [twoB, Bool.and_eq_true] at ht; exact ht.1.1
    obtain ⟨⟨hW1, hW2⟩, hH1, hH2⟩ := szF_iff.1 (vldF_iff.1 hvp).1
    rintro e w1 ⟨rfl, hX1⟩
    have HR : Hid (isC (vldM W H R n W' H' R' n' xs xs' f1 f2 f3 f4 f5 k) W H x y = (inB x 0 (W - 1) && inB y 0 (H - 1))) := by show _ = _; rw [hv]; rfl
    have HX := Lib.hid (hX.trans hX1)
    have c0 := block_cell (hX1.block b0) 0
    have c1 := block_cell (hX1.block b0) 1
    clear hX1 hv ht hvp hX b0
    cases hi : inB x 0 (W - 1) with
    | false =>
      have HI := Lib.hid hi
      clear hi
      go_wp2_with (go_at_call 68; refine (within_any _ _ _ _).mono ?_; rw [HI.out]; rintro e w' ⟨rfl, rfl⟩)
      go_ret
      exact ⟨by rw [HR.out, HI.out]; rfl, HX.out⟩
    | true =>
      have HI := Lib.hid hi
      clear hi
      go_wp2_with fail
      refine (within_any _ _ _ _).mono ?_
      rw [HI.out]
      rintro e w' ⟨rfl, rfl⟩
      go_wp2_with (go_at_call 68; refine (within_any _ _ _ _).mono ?_; rintro e w' ⟨rfl, rfl⟩)
      go_ret
      exact ⟨by rw [HR.out, HI.out]; rfl, HX.out⟩

set_option maxRecDepth 100000 in
set_option maxHeartbeats 2000000 in
theorem l03Cell_any (p : Nat) (W H : Int) (R : Bool) (a : Option Addr) (n c : Nat) (W' H' : Int) (R' : Bool) (a' : Option Addr) (n' c' : Nat) (f1 f2 f3 f4 f5 : Nat) (k : Int) (x y : Int) (xs xs' : List Nat) (hz : xs.length = n) (hz' : xs'.length = n') (hn : n ≤ 1048576) (hn' : n' ≤ 1048576) (w : World) (hp : w.heap[p]? = some (.cells #[.int .i64 W, .int .i64 H, .bool R, .slice a n c, .int .i64 W', .int .i64 H', .bool R', .slice a' n' c', .float .f32 f1, .float .f32 f2, .float .f32 f3, .float .f32 f4, .float .f32 f5, .int .i64 k] 62 (0, 0))) (hA : VArr w a (flts xs)) (hA' : VArr w a' (flts xs')) :
    Calls Try.prog 116 #[.pointer (some ⟨p, 0, none⟩), .int .i64 x, .int .i64 y] w fun e w' => e = .returned (.bool (isC (vldM W H R n W' H' R' n' xs xs' f1 f2 f3 f4 f5 k) W H x y)) ∧ Ext w w' := by
  go_enter Try.func116, Try.ntmps116
  go_wp2_with fail
  refine (l03Is_any p W H R a n c W' H' R' a' n' c' f1 f2 f3 f4 f5 k xs xs' hz hz' hn hn' _ hp hA hA').mono ?_
  cases hv : vldM W H R n W' H' R' n' xs xs' f1 f2 f3 f4 f5 k with
  | false =>
    rintro e w1 ⟨rfl, hX1⟩
    have HR : Hid (isC (vldM W H R n W' H' R' n' xs xs' f1 f2 f3 f4 f5 k) W H x y = false) := by show _ = _; rw [hv]; rfl
    have HX := Lib.hid (hX1)
    clear hX1 hv hp
    go_wp2
    go_ret
    exact ⟨by rw [HR.out]; rfl, HX.out⟩
  | true =>
    have ht : twoB W H R n W' H' R' n' = true := by simp only [vldM, Bool.and_eq_true] at hv; exact hv.1.1
    have hvp : vldF W H n = true := by simp only [twoB, Bool.and_eq_true] at ht; exact ht.1.1
    obtain ⟨⟨hW1, hW2⟩, hH1, hH2⟩ := szF_iff.1 (vldF_iff.1 hvp).1
    rintro e w1 ⟨rfl, hX1⟩
    have HR : Hid (isC (vldM W H R n W' H' R' n' xs xs' f1 f2 f3 f4 f5 k) W H x y = (inB x 0 (W - 1) && inB y 0 (H - 1))) := by show _ = _; rw [hv]; rfl
    have HX := Lib.hid (hX1)
    have c0 := block_cell (hX1.block hp) 0
    have c1 := block_cell (hX1.block hp) 1
    clear hX1 hv ht hvp hp
    cases hi : inB x 0 (W - 1) with
    | false =>
      have HI := Lib.hid hi
      clear hi
      go_wp2_with (go_at_call 151; refine (l00In_any _ _ _ _).mono ?_; rw [HI.out]; rintro e w' ⟨rfl, rfl⟩)
      go_ret
      exact ⟨by rw [HR.out, HI.out]; rfl, HX.out⟩
    | true =>
      have HI := Lib.hid hi
      clear hi
      go_wp2_with fail
      refine (l00In_any _ _ _ _).mono ?_
      rw [HI.out]
      rintro e w' ⟨rfl, rfl⟩
      go_wp2_with (go_at_call 151; refine (l00In_any _ _ _ _).mono ?_; rintro e w' ⟨rfl, rfl⟩)
      go_ret
      exact ⟨by rw [HR.out, HI.out]; rfl, HX.out⟩
end Go.Proofs.Ytajfpjggdbifjaa
