/-
  ValueAbout, by the program and by the reference.
-/
import Derived.Test.YtllpbkmdcaikoaaFlB
namespace Go.Proofs.Ytllpbkmdcaikoaa
open Go.RowKit
set_option linter.unusedVariables false
set_option linter.unusedSimpArgs false
set_option linter.unnecessarySimpa false

def abOk (W H : Int) (n : Nat) (x y : Int) : Bool := vldF W H n && (inB x (-1000) 1000 && inB y (-1000) 1000)
def abR (W H : Int) (R : Bool) (xs : List Nat) (x y : Int) : Nat := if abOk W H xs.length x y then aboutB W H R xs x y else 0
theorem abR_no {W H : Int} {R : Bool} {xs : List Nat} {x y : Int} (h : abOk W H xs.length x y = false) : abR W H R xs x y = 0 := by simp [abR, h]
theorem abR_yes {W H : Int} {R : Bool} {xs : List Nat} {x y : Int} (h : abOk W H xs.length x y = true) : abR W H R xs x y = aboutB W H R xs x y := by simp [abR, h]

theorem specValueAbout_any (W H : Int) (R : Bool) (x y : Int) (a : Option Addr) (n c : Nat) (zs : List Nat) (hz : zs.length = n) (hn : n ≤ 1048576) (w : World) (hA : VArr w a (flts zs)) :
    Calls Try.prog 25 #[.agg #[.int .i64 W, .int .i64 H, .bool R, .slice a n c], .int .i64 x, .int .i64 y] w fun e w' => ∃ fr, e = .returned (.tuple #[.float .f32 fr, .bool (abOk W H zs.length x y)]) ∧ Ext w w' ∧ fa .f32 fr = fa .f32 (abR W H R zs x y) := by
  have hX := (Ext.refl w).alloc (.cells #[.int .i64 W, .int .i64 H, .bool R, .slice a n c] 27)
  have b0 := heap_new w (.cells #[.int .i64 W, .int .i64 H, .bool R, .slice a n c] 27)
  have hA1 := hA.ext hX
  go_enter Try.func25, Try.ntmps25
  go_wp2_with fail
  refine (l02Is_any _ W H R a n c (by omega) _ (FldAt.box b0)).mono ?_
  generalize w.alloc (.cells #[.int .i64 W, .int .i64 H, .bool R, .slice a n c] 27) = w0 at *
  generalize w.heap.size = p at *
  cases hv : vldF W H n with
  | false =>
    rintro e w1 ⟨rfl, hX1⟩
    have HX := Lib.hid (hX.trans hX1)
    have HR : Hid (abOk W H zs.length x y = false) := by show _ = _; simp [abOk, hz, hv]
    clear hX hX1 b0 hA hA1 hv hz
    go_wp2
    go_ret2
    exact ⟨0, by rw [HR.out]; rfl, HX.out, by rw [abR_no HR.out]⟩
  | true =>
    rintro e w1 ⟨rfl, hX1⟩
    cases hx : inB x (-1000) 1000 with
    | false =>
      have HX := Lib.hid (hX.trans hX1)
      have HR : Hid (abOk W H zs.length x y = false) := by show _ = _; simp [abOk, hz, hv, hx]
      have HI := Lib.hid hx
      clear hX hX1 b0 hA hA1 hv hz hx
      go_wp2_with (go_at_call 67; refine (l00In_any _ _ _ _).mono ?_; rw [HI.out]; rintro e w' ⟨rfl, rfl⟩)
      go_ret2
      exact ⟨0, by rw [HR.out]; rfl, HX.out, by rw [abR_no HR.out]⟩
    | true =>
      cases hy : inB y (-1000) 1000 with
      | false =>
        have HX := Lib.hid (hX.trans hX1)
        have HR : Hid (abOk W H zs.length x y = false) := by show _ = _; simp [abOk, hz, hv, hx, hy]
        have HI := Lib.hid hx
        have HJ := Lib.hid hy
        clear hX hX1 b0 hA hA1 hv hz hx hy
        go_wp2_with fail
        refine (l00In_any _ _ _ _).mono ?_
        rw [HI.out]
        rintro e w' ⟨rfl, rfl⟩
        go_wp2_with (go_at_call 67; refine (l00In_any _ _ _ _).mono ?_; rw [HJ.out]; rintro e w' ⟨rfl, rfl⟩)
        go_ret2
        exact ⟨0, by rw [HR.out]; rfl, HX.out, by rw [abR_no HR.out]⟩
      | true =>
        have HX := Lib.hid (hX.trans hX1)
        have HR : Hid (abOk W H zs.length x y = true) := by show _ = _; simp [abOk, hz, hv, hx, hy]
        have HI := Lib.hid hx
        have HJ := Lib.hid hy
        have HV := Lib.hid hv
        have HZ := Lib.hid hz
        have hA2 := hA1.ext hX1
        have hp := (FldAt.box b0).ext hX1
        obtain ⟨Wn, Hn, hW, hH, w1', w2', h1', h2', hnn, _⟩ := vldF_facts hv
        have hn1 : 0 < n := by rw [hnn]; exact Nat.mul_pos (by omega) (by omega)
        obtain ⟨b, o, rfl⟩ := hA.starts (i := 0) (by simp; omega)
        clear hX hX1 b0 hA hA1 hv hz hx hy hW hH hnn
        go_wp2_with fail
        refine (l00In_any _ _ _ _).mono ?_
        rw [HI.out]
        rintro e w' ⟨rfl, rfl⟩
        go_wp2_with fail
        refine (l00In_any _ _ _ _).mono ?_
        rw [HJ.out]
        rintro e w' ⟨rfl, rfl⟩
        go_wp2_with fail
        refine (l02At_any _ W H x y R b o n c zs HZ.out HV.out _ hp hA2).mono ?_
        rintro e w2 ⟨rfl, hX2⟩
        go_wp2
        go_ret2
        exact ⟨_, by rw [HR.out]; rfl, HX.out.trans hX2, by rw [abR_yes HR.out]⟩

theorem implValueAbout_any (W H : Int) (R : Bool) (x y : Int) (a : Option Addr) (n c : Nat) (zs : List Nat) (hz : zs.length = n) (hn : n ≤ 1048576) (w : World) (hA : VArr w a (flts zs)) :
    Calls Try.prog 26 #[.agg #[.int .i64 W, .int .i64 H, .bool R, .slice a n c], .int .i64 x, .int .i64 y] w fun e w' => ∃ fr, e = .returned (.tuple #[.float .f32 fr, .bool (abOk W H zs.length x y)]) ∧ Ext w w' ∧ fa .f32 fr = fa .f32 (abR W H R zs x y) := by
  have hX := (Ext.refl w).alloc (.cells #[.int .i64 W, .int .i64 H, .bool R, .slice a n c] 27)
  have b0 := heap_new w (.cells #[.int .i64 W, .int .i64 H, .bool R, .slice a n c] 27)
  have hA1 := hA.ext hX
  go_enter Try.func26, Try.ntmps26
  go_wp2_with fail
  refine (implValidF_any W H R a n c (by omega) _).mono ?_
  generalize w.alloc (.cells #[.int .i64 W, .int .i64 H, .bool R, .slice a n c] 27) = w0 at *
  generalize w.heap.size = p at *
  cases hv : vldF W H n with
  | false =>
    rintro e w1 ⟨rfl, hX1⟩
    have HX := Lib.hid (hX.trans hX1)
    have HR : Hid (abOk W H zs.length x y = false) := by show _ = _; simp [abOk, hz, hv]
    clear hX hX1 b0 hA hA1 hv hz
    go_wp2
    go_ret2
    exact ⟨0, by rw [HR.out]; rfl, HX.out, by rw [abR_no HR.out]⟩
  | true =>
    rintro e w1 ⟨rfl, hX1⟩
    have e2 : allIn (-1000) 1000 [x, y] = (inB x (-1000) 1000 && inB y (-1000) 1000) := allIn_two
    have hY := (Ext.refl w1).alloc (.cells #[.int .i64 x, .int .i64 y] 2)
    have b4 := heap_new w1 (.cells #[.int .i64 x, .int .i64 y] 2)
    go_wp2_with fail
    refine (areWithin_any _ 2 2 [x, y] rfl (by omega) (-1000) 1000 _ (VArr.twoF b4)).mono ?_
    rw [e2]
    generalize w1.alloc (.cells #[.int .i64 x, .int .i64 y] 2) = w1' at *
    rintro e w2 ⟨rfl, hX2⟩
    have hX3 := (hX1.trans hY).trans hX2
    clear hY b4 hX2 hX1
    cases hxy : (inB x (-1000) 1000 && inB y (-1000) 1000) with
    | false =>
      have HX := Lib.hid (hX.trans hX3)
      have HR : Hid (abOk W H zs.length x y = false) := by show _ = _; simp [abOk, hz, hv, hxy]
      clear hX hX3 b0 hA hA1 hv hz hxy e2
      go_wp2
      go_ret2
      exact ⟨0, by rw [HR.out]; rfl, HX.out, by rw [abR_no HR.out]⟩
    | true =>
      have HX := Lib.hid (hX.trans hX3)
      have HR : Hid (abOk W H zs.length x y = true) := by show _ = _; simp [abOk, hz, hv, hxy]
      have HV := Lib.hid hv
      have HZ := Lib.hid hz
      have HA := Lib.hid (hA1.ext hX3)
      obtain ⟨⟨c0, c1, c2, c3⟩, _⟩ := block4 (hX3.block b0)
      obtain ⟨Wn, Hn, hW, hH, w1', w2', h1', h2', hnn, _⟩ := vldF_facts hv
      have hn1 : 0 < n := by rw [hnn]; exact Nat.mul_pos (by omega) (by omega)
      obtain ⟨b, o, rfl⟩ := hA.starts (i := 0) (by simp; omega)
      clear hX hX3 b0 hA hA1 hv hz hW hH hnn hxy e2
      go_wp2_with fail
      refine (aboutF_any W H x y R b o n c zs HZ.out HV.out _ HA.out).mono ?_
      rintro e w3 ⟨rfl, hX4⟩
      go_wp2
      go_ret2
      exact ⟨_, by rw [HR.out]; rfl, HX.out.trans hX4, by rw [abR_yes HR.out]⟩
end Go.Proofs.Ytllpbkmdcaikoaa
