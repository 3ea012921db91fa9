/-
  LaplaceField, by the program and by the reference. (Printed by gen_fields3.py.)
-/
import Derived.Test.YtllpbkmdcaikoaaFlF
namespace Go.Proofs.Ytllpbkmdcaikoaa
open Go.RowKit
set_option linter.unusedVariables false
set_option linter.unusedSimpArgs false
set_option linter.unnecessarySimpa false

set_option maxRecDepth 100000 in
theorem implLaplace_any (W H : Int) (R : Bool) (a : Option Addr) (n c : Nat) (zs : List Nat) (hz : zs.length = n) (hn : n ≤ 1048576) (w : World) (hA : VArr w a (flts zs)) :
    Calls Try.prog 40 #[.agg #[.int .i64 W, .int .i64 H, .bool R, .slice a n c]] w (keepF w (vldF W H n) W H R (gridF W.toNat (laplaceG W H R (fas zs)) (H.toNat * W.toNat))) := by
  have hX : Ext w ((w.alloc (.cells #[.int .i64 W, .int .i64 H, .bool R, .slice a n c] 27)).alloc (.cells #[.int .i64 0, .int .i64 0, .bool false, .slice none 0 0] 27)) := (((Ext.refl w).alloc (.cells #[.int .i64 W, .int .i64 H, .bool R, .slice a n c] 27)).alloc (.cells #[.int .i64 0, .int .i64 0, .bool false, .slice none 0 0] 27))
  have b0 := heap_mid1 w (.cells #[.int .i64 W, .int .i64 H, .bool R, .slice a n c] 27) (.cells #[.int .i64 0, .int .i64 0, .bool false, .slice none 0 0] 27)
  have b1 := heap_new1 w (.cells #[.int .i64 W, .int .i64 H, .bool R, .slice a n c] 27) (.cells #[.int .i64 0, .int .i64 0, .bool false, .slice none 0 0] 27)
  have hA1 := hA.ext hX
  go_enter Try.func40, Try.ntmps40
  go_wp2_with fail
  refine (implValidF_any W H R a n c (by omega) _).mono ?_
  generalize (w.alloc (.cells #[.int .i64 W, .int .i64 H, .bool R, .slice a n c] 27)).alloc (.cells #[.int .i64 0, .int .i64 0, .bool false, .slice none 0 0] 27) = w0 at *
  rintro e w1 ⟨rfl, hX1⟩
  cases hv : vldF W H n with
  | false =>
    have HOK : Hid ((vldF W H n) = false) := by show _ = _; first | exact hv | simp [vldF, hv, hz]
    obtain ⟨⟨d0, d1, d2, d3⟩, f0, f1, f2, f3⟩ := block4 (hX1.block b1)
    have HE := Lib.hid ((hX.trans hX1).fin4 (q := w.heap.size + 1) (by omega) (.int .i64 0) (.int .i64 0) (.bool false) (.slice none 0 0))
    clear hX hX1 b0 b1 hA hA1 hv hz
    go_wp2
    refine bodyPost_ret (v := .tuple #[.agg #[.int .i64 0, .int .i64 0, .bool false, .slice none 0 0], .bool false]) ?_ rfl (keepF_no HOK.out (twoF_none HE.out))
    simp only [results, Try.results40]
    go_simp
  | true =>
    have HOK : Hid ((vldF W H n) = true) := by show _ = _; first | exact hv | simp [vldF, hv, hz]
    obtain ⟨⟨c0, c1, c2, c3⟩, _⟩ := block4 (hX1.block b0)
    obtain ⟨Wn, Hn, hWn, hHn, k1, k2, k3, k4, hnn, _⟩ := vldF_facts hv
    have hn1 : 0 < n := by rw [hnn]; exact Nat.mul_pos (by omega) (by omega)
    obtain ⟨b, o, rfl⟩ := hA.starts (i := 0) (by simp; omega)
    have hA2 := hA1.ext hX1
    have HV := Lib.hid hv
    have HZ := Lib.hid hz
    have HB := Lib.hid (And.intro k1 (And.intro k2 (And.intro k3 k4)))
    have HW := Lib.hid (And.intro hWn hHn)
    clear hv hz hnn k1 k2 k3 k4 hWn hHn
    go_wp2_with fail
    refine (each_any W H R _ n c 86 #[.agg #[.int .i64 W, .int .i64 H, .bool R, .slice (some ⟨b, o, none⟩) n c]] #[] (laplaceG W H R (fas zs)) (vldF_iff.1 HV.out).1 _ (fun args u => by go_simp) (fun u v w' hw u0 u1 v0 v1 => ?_)).mono ?_
    · simpa using laplace_any W H u v R b o n c zs (fas zs) HZ.out rfl HV.out ⟨by omega, by have := HB.out; have := HW.out; omega⟩ ⟨by omega, by have := HB.out; have := HW.out; omega⟩ w' (hA2.ext hw) ⟨u0, u1, v0, v1⟩
    rintro e w4 ⟨a', n', c', xs, rfl, hX4, hO, hl, hle, hf⟩
    obtain ⟨⟨d0, d1, d2, d3⟩, f0, f1, f2, f3⟩ := block4 (hX4.block (hX1.block b1))
    obtain ⟨HE, HO⟩ := stored4 (T := 27) (u0 := .int .i64 W) (u1 := .int .i64 H) (u2 := .bool R) (u3 := .slice a' n' c') ((hX.trans hX1).trans hX4) (by decide) (by omega) (hX4.block (hX1.block b1)) (ownsRow_mono hO (hX.trans hX1).size)
    have HE' := Lib.hid HE
    have HO' := Lib.hid HO
    have HL := Lib.hid hl
    have HFF := Lib.hid hf
    clear HE HO hl hX hX1 hX4 hO b0 b1 hA hA1 hA2 c0 c1 c2 c3 hf
    go_wp2
    refine bodyPost_ret (v := .tuple #[.agg #[.int .i64 W, .int .i64 H, .bool R, .slice a' n' c'], .bool true]) ?_ rfl (keepF_yes HOK.out ⟨a', n', c', xs, rfl, HE'.out, HO'.out, HL.out, hle, HFF.out⟩)
    simp only [results, Try.results40]
    go_simp

set_option maxRecDepth 100000 in
theorem specLaplace_any (W H : Int) (R : Bool) (a : Option Addr) (n c : Nat) (zs : List Nat) (hz : zs.length = n) (hn : n ≤ 1048576) (w : World) (hA : VArr w a (flts zs)) :
    Calls Try.prog 39 #[.agg #[.int .i64 W, .int .i64 H, .bool R, .slice a n c]] w (keepF w (vldF W H n) W H R (gridF W.toNat (laplaceG W H R (fas zs)) (H.toNat * W.toNat))) := by
  have hX : Ext w ((w.alloc (.cells #[.int .i64 W, .int .i64 H, .bool R, .slice a n c] 27)).alloc (.cells #[.int .i64 0, .int .i64 0, .bool false, .slice none 0 0] 27)) := (((Ext.refl w).alloc (.cells #[.int .i64 W, .int .i64 H, .bool R, .slice a n c] 27)).alloc (.cells #[.int .i64 0, .int .i64 0, .bool false, .slice none 0 0] 27))
  have b0 := heap_mid1 w (.cells #[.int .i64 W, .int .i64 H, .bool R, .slice a n c] 27) (.cells #[.int .i64 0, .int .i64 0, .bool false, .slice none 0 0] 27)
  have b1 := heap_new1 w (.cells #[.int .i64 W, .int .i64 H, .bool R, .slice a n c] 27) (.cells #[.int .i64 0, .int .i64 0, .bool false, .slice none 0 0] 27)
  have hA1 := hA.ext hX
  go_enter Try.func39, Try.ntmps39
  go_wp2_with fail
  refine (l02Is_any _ W H R a n c (by omega) _ (FldAt.box b0)).mono ?_
  generalize (w.alloc (.cells #[.int .i64 W, .int .i64 H, .bool R, .slice a n c] 27)).alloc (.cells #[.int .i64 0, .int .i64 0, .bool false, .slice none 0 0] 27) = w0 at *
  rintro e w1 ⟨rfl, hX1⟩
  cases hv : vldF W H n with
  | false =>
    have HOK : Hid ((vldF W H n) = false) := by show _ = _; first | exact hv | simp [vldF, hv, hz]
    obtain ⟨⟨d0, d1, d2, d3⟩, f0, f1, f2, f3⟩ := block4 (hX1.block b1)
    have HE := Lib.hid ((hX.trans hX1).fin4 (q := w.heap.size + 1) (by omega) (.int .i64 0) (.int .i64 0) (.bool false) (.slice none 0 0))
    clear hX hX1 b0 b1 hA hA1 hv hz
    go_wp2
    refine bodyPost_ret (v := .tuple #[.agg #[.int .i64 0, .int .i64 0, .bool false, .slice none 0 0], .bool false]) ?_ rfl (keepF_no HOK.out (twoF_none HE.out))
    simp only [results, Try.results39]
    go_simp
  | true =>
    have HOK : Hid ((vldF W H n) = true) := by show _ = _; first | exact hv | simp [vldF, hv, hz]
    obtain ⟨⟨c0, c1, c2, c3⟩, _⟩ := block4 (hX1.block b0)
    obtain ⟨Wn, Hn, hWn, hHn, k1, k2, k3, k4, hnn, _⟩ := vldF_facts hv
    have hn1 : 0 < n := by rw [hnn]; exact Nat.mul_pos (by omega) (by omega)
    obtain ⟨b, o, rfl⟩ := hA.starts (i := 0) (by simp; omega)
    have hA2 := hA1.ext hX1
    have HV := Lib.hid hv
    have HZ := Lib.hid hz
    have HB := Lib.hid (And.intro k1 (And.intro k2 (And.intro k3 k4)))
    have HW := Lib.hid (And.intro hWn hHn)
    clear hv hz hnn k1 k2 k3 k4 hWn hHn
    go_wp2_with fail
    refine (l02LaplaceAll_any _ W H R b o n c zs (fas zs) HZ.out rfl HV.out _ (FldAt.box (hX1.block b0)) hA2).mono ?_
    rintro e w4 ⟨a', n', c', xs, rfl, hX4, hO, hl, hle, hf⟩
    obtain ⟨⟨d0, d1, d2, d3⟩, f0, f1, f2, f3⟩ := block4 (hX4.block (hX1.block b1))
    obtain ⟨HE, HO⟩ := stored4 (T := 27) (u0 := .int .i64 W) (u1 := .int .i64 H) (u2 := .bool R) (u3 := .slice a' n' c') ((hX.trans hX1).trans hX4) (by decide) (by omega) (hX4.block (hX1.block b1)) (ownsRow_mono hO (hX.trans hX1).size)
    have HE' := Lib.hid HE
    have HO' := Lib.hid HO
    have HL := Lib.hid hl
    have HFF := Lib.hid hf
    clear HE HO hl hX hX1 hX4 hO b0 b1 hA hA1 hA2 c0 c1 c2 c3 hf
    go_wp2
    refine bodyPost_ret (v := .tuple #[.agg #[.int .i64 W, .int .i64 H, .bool R, .slice a' n' c'], .bool true]) ?_ rfl (keepF_yes HOK.out ⟨a', n', c', xs, rfl, HE'.out, HO'.out, HL.out, hle, HFF.out⟩)
    simp only [results, Try.results39]
    go_simp
end Go.Proofs.Ytllpbkmdcaikoaa
