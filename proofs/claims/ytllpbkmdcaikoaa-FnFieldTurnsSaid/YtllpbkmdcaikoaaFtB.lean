/-
  MirrorField and SwapField by the program. (Printed by gen_turns.py.)
-/
import Derived.Test.YtllpbkmdcaikoaaFtA
namespace Go.Proofs.Ytllpbkmdcaikoaa
open Go.RowKit
set_option linter.unusedVariables false
set_option linter.unusedSimpArgs false
set_option linter.unnecessarySimpa false

set_option maxRecDepth 100000 in
theorem mir1_any (W H u v : Int) (R : Bool) (b o n c : Nat) (zs : List Nat) (hz : zs.length = n) (hv : vldF W H n = true) (p : Nat) (w : World) (hA : VArr w (some ⟨b, o, none⟩) (flts zs))
    (hp : w.heap[p]? = some (.cells #[.int .i64 W, .int .i64 H, .bool R, .slice (some ⟨b, o, none⟩) n c] 27 (0, 0))) (u0 : 0 ≤ u) (u1 : u < W) (v0 : 0 ≤ v) (v1 : v < H) :
    Calls Try.prog 102 #[.int .i64 u, .int .i64 v, .pointer (some ⟨p, 0, none⟩)] w fun e w' => ∃ r, e = .returned (.float .f32 r) ∧ fa .f32 r = mirFG W H R (fas zs) u v ∧ Ext w w' := by
  have HF := Lib.hid (fa_about (W := W) (H := H) (R := R) (xs := zs) rfl (by rw [hz]; exact hv) (W - 1 - u) v)
  obtain ⟨⟨c0, c1, c2, c3⟩, _⟩ := block4 hp
  obtain ⟨⟨s1, s2⟩, s3, s4⟩ := szF_iff.1 (vldF_iff.1 hv).1
  have HV := Lib.hid hv
  have HA := Lib.hid hA
  clear hv hA hp
  go_enter Try.func102, Try.ntmps102
  go_wp2_with fail
  refine (atF_any W H (W - 1 - u) v R b o n c zs hz HV.out _ HA.out (by omega) (by omega) v0 v1).mono ?_
  rintro e w1 ⟨rfl, hX1⟩
  go_wp2
  go_ret
  exact ⟨_, rfl, HF.out, hX1⟩

set_option maxRecDepth 100000 in
theorem swap1_any (W H u v : Int) (R : Bool) (b o n c : Nat) (zs : List Nat) (hz : zs.length = n) (hv : vldF W H n = true) (p : Nat) (w : World) (hA : VArr w (some ⟨b, o, none⟩) (flts zs))
    (hp : w.heap[p]? = some (.cells #[.int .i64 W, .int .i64 H, .bool R, .slice (some ⟨b, o, none⟩) n c] 27 (0, 0))) (u0 : 0 ≤ u) (u1 : u < H) (v0 : 0 ≤ v) (v1 : v < W) :
    Calls Try.prog 104 #[.int .i64 u, .int .i64 v, .pointer (some ⟨p, 0, none⟩)] w fun e w' => ∃ r, e = .returned (.float .f32 r) ∧ fa .f32 r = swapFG W H R (fas zs) u v ∧ Ext w w' := by
  have HF := Lib.hid (fa_about (W := W) (H := H) (R := R) (xs := zs) rfl (by rw [hz]; exact hv) v u)
  obtain ⟨⟨c0, c1, c2, c3⟩, _⟩ := block4 hp
  have HV := Lib.hid hv
  have HA := Lib.hid hA
  clear hv hA hp
  go_enter Try.func104, Try.ntmps104
  go_wp2_with fail
  refine (atF_any W H v u R b o n c zs hz HV.out _ HA.out v0 v1 u0 u1).mono ?_
  rintro e w1 ⟨rfl, hX1⟩
  go_wp2
  go_ret
  exact ⟨_, rfl, HF.out, hX1⟩

set_option maxRecDepth 100000 in
theorem implMirF_any (W H : Int) (R : Bool) (a : Option Addr) (n c : Nat) (zs : List Nat) (hz : zs.length = n) (hn : n ≤ 1048576) (w : World) (hA : VArr w a (flts zs)) :
    Calls Try.prog 54 #[.agg #[.int .i64 W, .int .i64 H, .bool R, .slice a n c]] w (keepF w (vldF W H n) W H R (gridF W.toNat (mirFG W H R (fas zs)) (H.toNat * W.toNat))) := by
  have hX : Ext w ((w.alloc (.cells #[.int .i64 W, .int .i64 H, .bool R, .slice a n c] 27)).alloc (.cells #[.int .i64 0, .int .i64 0, .bool false, .slice none 0 0] 27)) := (((Ext.refl w).alloc (.cells #[.int .i64 W, .int .i64 H, .bool R, .slice a n c] 27)).alloc (.cells #[.int .i64 0, .int .i64 0, .bool false, .slice none 0 0] 27))
  have b0 := heap_mid1 w (.cells #[.int .i64 W, .int .i64 H, .bool R, .slice a n c] 27) (.cells #[.int .i64 0, .int .i64 0, .bool false, .slice none 0 0] 27)
  have b1 := heap_new1 w (.cells #[.int .i64 W, .int .i64 H, .bool R, .slice a n c] 27) (.cells #[.int .i64 0, .int .i64 0, .bool false, .slice none 0 0] 27)
  have hA1 := hA.ext hX
  go_enter Try.func54, Try.ntmps54
  go_wp2_with fail
  refine (implValidF_any W H R a n c (by omega) _).mono ?_
  generalize (w.alloc (.cells #[.int .i64 W, .int .i64 H, .bool R, .slice a n c] 27)).alloc (.cells #[.int .i64 0, .int .i64 0, .bool false, .slice none 0 0] 27) = w0 at *
  rintro e w1 ⟨rfl, hX1⟩
  cases hv : vldF W H n with
  | false =>
    have HOK : Hid ((vldF W H n) = false) := by show _ = _; first | exact hv | simp [vldF, hv, hz]
    obtain ⟨⟨d0, d1, d2, d3⟩, f0, f1, f2, f3⟩ := block4 (hX1.block b1)
    have HE := Lib.hid ((hX.trans hX1).fin4 (q := w.heap.size + 1) (by omega) (.int .i64 0) (.int .i64 0) (.bool false) (.slice none 0 0))
    clear hX hX1 b0 b1 hA hA1 hv hz
    go_wp2
    refine bodyPost_ret (v := .tuple #[.agg #[.int .i64 0, .int .i64 0, .bool false, .slice none 0 0], .bool false]) ?_ rfl (keepF_no HOK.out (twoF_none HE.out))
    simp only [results, Try.results54]
    go_simp
  | true =>
    have HOK : Hid ((vldF W H n) = true) := by show _ = _; first | exact hv | simp [vldF, hv, hz]
    obtain ⟨⟨c0, c1, c2, c3⟩, _⟩ := block4 (hX1.block b0)
    obtain ⟨Wn, Hn, hWn, hHn, k1, k2, k3, k4, hnn, _⟩ := vldF_facts hv
    have hn1 : 0 < n := by rw [hnn]; exact Nat.mul_pos (by omega) (by omega)
    obtain ⟨b, o, rfl⟩ := hA.starts (i := 0) (by simp; omega)
    have hA2 := hA1.ext hX1
    have HV := Lib.hid hv
    have HZ := Lib.hid hz
    have HB := Lib.hid (And.intro k1 (And.intro k2 (And.intro k3 k4)))
    have HW := Lib.hid (And.intro hWn hHn)
    clear hv hz hnn k1 k2 k3 k4 hWn hHn
    go_wp2_with fail
    refine (each_any W H R _ n c 102 #[] #[.pointer (some ⟨w.heap.size, 0, none⟩)] (mirFG W H R (fas zs)) (vldF_iff.1 HV.out).1 _ (fun args u => by go_simp) (fun u v w' hw u0 u1 v0 v1 => ?_)).mono ?_
    · simpa using mir1_any W H u v R b o n c zs HZ.out HV.out _ w' (hA2.ext hw) (hw.block (hX1.block b0)) u0 u1 v0 v1
    rintro e w4 ⟨a', n', c', xs, rfl, hX4, hO, hl, hle, hf⟩
    obtain ⟨⟨d0, d1, d2, d3⟩, f0, f1, f2, f3⟩ := block4 (hX4.block (hX1.block b1))
    obtain ⟨HE, HO⟩ := stored4 (T := 27) (u0 := .int .i64 W) (u1 := .int .i64 H) (u2 := .bool R) (u3 := .slice a' n' c') ((hX.trans hX1).trans hX4) (by decide) (by omega) (hX4.block (hX1.block b1)) (ownsRow_mono hO (hX.trans hX1).size)
    have HE' := Lib.hid HE
    have HO' := Lib.hid HO
    have HL := Lib.hid hl
    have HFF := Lib.hid hf
    clear HE HO hl hX hX1 hX4 hO b0 b1 hA hA1 hA2 c0 c1 c2 c3 hf
    go_wp2
    refine bodyPost_ret (v := .tuple #[.agg #[.int .i64 W, .int .i64 H, .bool R, .slice a' n' c'], .bool true]) ?_ rfl (keepF_yes HOK.out ⟨a', n', c', xs, rfl, HE'.out, HO'.out, HL.out, hle, HFF.out⟩)
    simp only [results, Try.results54]
    go_simp

set_option maxRecDepth 100000 in
theorem implSwapF_any (W H : Int) (R : Bool) (a : Option Addr) (n c : Nat) (zs : List Nat) (hz : zs.length = n) (hn : n ≤ 1048576) (w : World) (hA : VArr w a (flts zs)) :
    Calls Try.prog 55 #[.agg #[.int .i64 W, .int .i64 H, .bool R, .slice a n c]] w (keepF w (vldF W H n) H W R (gridF H.toNat (swapFG W H R (fas zs)) (W.toNat * H.toNat))) := by
  have hX : Ext w ((w.alloc (.cells #[.int .i64 W, .int .i64 H, .bool R, .slice a n c] 27)).alloc (.cells #[.int .i64 0, .int .i64 0, .bool false, .slice none 0 0] 27)) := (((Ext.refl w).alloc (.cells #[.int .i64 W, .int .i64 H, .bool R, .slice a n c] 27)).alloc (.cells #[.int .i64 0, .int .i64 0, .bool false, .slice none 0 0] 27))
  have b0 := heap_mid1 w (.cells #[.int .i64 W, .int .i64 H, .bool R, .slice a n c] 27) (.cells #[.int .i64 0, .int .i64 0, .bool false, .slice none 0 0] 27)
  have b1 := heap_new1 w (.cells #[.int .i64 W, .int .i64 H, .bool R, .slice a n c] 27) (.cells #[.int .i64 0, .int .i64 0, .bool false, .slice none 0 0] 27)
  have hA1 := hA.ext hX
  go_enter Try.func55, Try.ntmps55
  go_wp2_with fail
  refine (implValidF_any W H R a n c (by omega) _).mono ?_
  generalize (w.alloc (.cells #[.int .i64 W, .int .i64 H, .bool R, .slice a n c] 27)).alloc (.cells #[.int .i64 0, .int .i64 0, .bool false, .slice none 0 0] 27) = w0 at *
  rintro e w1 ⟨rfl, hX1⟩
  cases hv : vldF W H n with
  | false =>
    have HOK : Hid ((vldF W H n) = false) := by show _ = _; first | exact hv | simp [vldF, hv, hz]
    obtain ⟨⟨d0, d1, d2, d3⟩, f0, f1, f2, f3⟩ := block4 (hX1.block b1)
    have HE := Lib.hid ((hX.trans hX1).fin4 (q := w.heap.size + 1) (by omega) (.int .i64 0) (.int .i64 0) (.bool false) (.slice none 0 0))
    clear hX hX1 b0 b1 hA hA1 hv hz
    go_wp2
    refine bodyPost_ret (v := .tuple #[.agg #[.int .i64 0, .int .i64 0, .bool false, .slice none 0 0], .bool false]) ?_ rfl (keepF_no HOK.out (twoF_none HE.out))
    simp only [results, Try.results55]
    go_simp
  | true =>
    have HOK : Hid ((vldF W H n) = true) := by show _ = _; first | exact hv | simp [vldF, hv, hz]
    obtain ⟨⟨c0, c1, c2, c3⟩, _⟩ := block4 (hX1.block b0)
    obtain ⟨Wn, Hn, hWn, hHn, k1, k2, k3, k4, hnn, _⟩ := vldF_facts hv
    have hn1 : 0 < n := by rw [hnn]; exact Nat.mul_pos (by omega) (by omega)
    obtain ⟨b, o, rfl⟩ := hA.starts (i := 0) (by simp; omega)
    have hA2 := hA1.ext hX1
    have HV := Lib.hid hv
    have HZ := Lib.hid hz
    have HB := Lib.hid (And.intro k1 (And.intro k2 (And.intro k3 k4)))
    have HW := Lib.hid (And.intro hWn hHn)
    clear hv hz hnn k1 k2 k3 k4 hWn hHn
    go_wp2_with fail
    refine (made_any H W R 104 #[] #[.pointer (some ⟨w.heap.size, 0, none⟩)] (swapFG W H R (fas zs)) (by have := szF_iff.1 (vldF_iff.1 HV.out).1; exact szF_iff.2 ⟨this.2, this.1⟩) _ (fun args u => by go_simp) (fun u v w' hw u0 u1 v0 v1 => ?_)).mono ?_
    · simpa using swap1_any W H u v R b o n c zs HZ.out HV.out _ w' (hA2.ext hw) (hw.block (hX1.block b0)) u0 u1 v0 v1
    rintro e w4 ⟨a', n', c', xs, rfl, hX4, hO, hl, hle, hf⟩
    obtain ⟨⟨d0, d1, d2, d3⟩, f0, f1, f2, f3⟩ := block4 (hX4.block (hX1.block b1))
    obtain ⟨HE, HO⟩ := stored4 (T := 27) (u0 := .int .i64 H) (u1 := .int .i64 W) (u2 := .bool R) (u3 := .slice a' n' c') ((hX.trans hX1).trans hX4) (by decide) (by omega) (hX4.block (hX1.block b1)) (ownsRow_mono hO (hX.trans hX1).size)
    have HE' := Lib.hid HE
    have HO' := Lib.hid HO
    have HL := Lib.hid hl
    have HFF := Lib.hid hf
    clear HE HO hl hX hX1 hX4 hO b0 b1 hA hA1 hA2 c0 c1 c2 c3 hf
    go_wp2
    refine bodyPost_ret (v := .tuple #[.agg #[.int .i64 H, .int .i64 W, .bool R, .slice a' n' c'], .bool true]) ?_ rfl (keepF_yes HOK.out ⟨a', n', c', xs, rfl, HE'.out, HO'.out, HL.out, hle, HFF.out⟩)
    simp only [results, Try.results55]
    go_simp

end Go.Proofs.Ytllpbkmdcaikoaa
