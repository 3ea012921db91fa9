/-
  'both', and the program's AddFields, LessFields, TimesFields.
-/
import Derived.Test.YtllpbkmdcaikoaaFlJ
namespace Go.Proofs.Ytllpbkmdcaikoaa
open Go.RowKit
set_option linter.unusedVariables false
set_option linter.unusedSimpArgs false
set_option linter.unnecessarySimpa false

theorem twoB_1 {W H : Int} {R : Bool} {n : Nat} {W' H' : Int} {R' : Bool} {n' : Nat} (h : vldF W H n = false) : twoB W H R n W' H' R' n' = false := by simp [twoB, h]
theorem twoB_2 {W H : Int} {R : Bool} {n : Nat} {W' H' : Int} {R' : Bool} {n' : Nat} (h : vldF W' H' n' = false) : twoB W H R n W' H' R' n' = false := by simp [twoB, h]
theorem twoB_3 {W H : Int} {R : Bool} {n : Nat} {W' H' : Int} {R' : Bool} {n' : Nat} (h : alikeB W H R W' H' R' = false) : twoB W H R n W' H' R' n' = false := by simp [twoB, h]
theorem twoB_iff {W H : Int} {R : Bool} {n : Nat} {W' H' : Int} {R' : Bool} {n' : Nat} : twoB W H R n W' H' R' n' = true ↔ vldF W H n = true ∧ vldF W' H' n' = true ∧ alikeB W H R W' H' R' = true := by simp [twoB, and_assoc]

set_option maxRecDepth 100000 in
set_option maxHeartbeats 2000000 in
theorem both_any (F : FuncId) (hg : Option Nat → Option Nat → Option Nat) (W H W' H' : Int) (R R' : Bool) (a a' : Option Addr) (n c n' c' : Nat) (zs zs' : List Nat) (hz : zs.length = n) (hz' : zs'.length = n') (hn : n ≤ 1048576) (hn' : n' ≤ 1048576) (w : World) (hcall : ∀ args u, Sem.run Try.prog (callFunc F args) u = .ok (.enter F args) u)
    (hF : ∀ r1 r2 w', Calls Try.prog F #[.float .f32 r1, .float .f32 r2] w' (fun e w'' => ∃ r, e = .returned (.float .f32 r) ∧ fa .f32 r = hg (fa .f32 r1) (fa .f32 r2) ∧ Ext w' w''))
    (hA : VArr w a (flts zs)) (hA' : VArr w a' (flts zs')) :
    Calls Try.prog 72 #[.agg #[.int .i64 W, .int .i64 H, .bool R, .slice a n c], .agg #[.int .i64 W', .int .i64 H', .bool R', .slice a' n' c'], .func (.func F) #[] #[]] w (keepF w (twoB W H R n W' H' R' n') W H R (gridF W.toNat (bothG hg W H R (fas zs) (fas zs')) (H.toNat * W.toNat))) := by
  have HC := Lib.hid hcall
  have HF := Lib.hid hF
  clear hcall hF
  have hX : Ext w ((((w.alloc (.cells #[.int .i64 W, .int .i64 H, .bool R, .slice a n c] 27)).alloc (.cells #[.int .i64 W', .int .i64 H', .bool R', .slice a' n' c'] 27)).alloc (.cells #[.func (.func F) #[] #[]] 71)).alloc (.cells #[.int .i64 0, .int .i64 0, .bool false, .slice none 0 0] 27)) := ((((Ext.refl w).alloc _).alloc _).alloc _).alloc _
  obtain ⟨b0, b1, b2, b3⟩ := four_new w (.cells #[.int .i64 W, .int .i64 H, .bool R, .slice a n c] 27) (.cells #[.int .i64 W', .int .i64 H', .bool R', .slice a' n' c'] 27) (.cells #[.func (.func F) #[] #[]] 71) (.cells #[.int .i64 0, .int .i64 0, .bool false, .slice none 0 0] 27)
  have hA1 := hA.ext hX
  have hA1' := hA'.ext hX
  go_enter Try.func72, Try.ntmps72
  go_wp2_with fail
  refine (implValidF_any W H R a n c (by omega) _).mono ?_
  generalize (((w.alloc (.cells #[.int .i64 W, .int .i64 H, .bool R, .slice a n c] 27)).alloc (.cells #[.int .i64 W', .int .i64 H', .bool R', .slice a' n' c'] 27)).alloc (.cells #[.func (.func F) #[] #[]] 71)).alloc (.cells #[.int .i64 0, .int .i64 0, .bool false, .slice none 0 0] 27) = w0 at *
  rintro e w1 ⟨rfl, hX1⟩
  cases hv : vldF W H n with
  | false =>
    have HOK := Lib.hid (twoB_1 (R := R) (W' := W') (H' := H') (R' := R') (n' := n') hv)
    obtain ⟨⟨d0, d1, d2, d3⟩, f0, f1, f2, f3⟩ := block4 (hX1.block b3)
    have HE := Lib.hid ((hX.trans hX1).fin4 (q := w.heap.size + 3) (by omega) (.int .i64 0) (.int .i64 0) (.bool false) (.slice none 0 0))
    clear hX hX1 b0 b1 b2 b3 hA hA1 hA' hA1' hv hz hz'
    go_wp2
    refine bodyPost_ret (v := .tuple #[.agg #[.int .i64 0, .int .i64 0, .bool false, .slice none 0 0], .bool false]) ?_ rfl (keepF_no HOK.out (twoF_none HE.out))
    simp only [results, Try.results72]
    go_simp
  | true =>
    obtain ⟨⟨p0, p1, p2, p3⟩, _⟩ := block4 (hX1.block b1)
    go_wp2_with fail
    refine (implValidF_any W' H' R' a' n' c' (by omega) _).mono ?_
    rintro e w2 ⟨rfl, hX2⟩
    clear p0 p1 p2 p3
    cases hv' : vldF W' H' n' with
    | false =>
      have HOK := Lib.hid (twoB_2 (W := W) (H := H) (R := R) (R' := R') (n := n) hv')
      obtain ⟨⟨d0, d1, d2, d3⟩, f0, f1, f2, f3⟩ := block4 (hX2.block (hX1.block b3))
      have HE := Lib.hid (((hX.trans hX1).trans hX2).fin4 (q := w.heap.size + 3) (by omega) (.int .i64 0) (.int .i64 0) (.bool false) (.slice none 0 0))
      clear hX hX1 hX2 b0 b1 b2 b3 hA hA1 hA' hA1' hv hv' hz hz'
      go_wp2
      refine bodyPost_ret (v := .tuple #[.agg #[.int .i64 0, .int .i64 0, .bool false, .slice none 0 0], .bool false]) ?_ rfl (keepF_no HOK.out (twoF_none HE.out))
      simp only [results, Try.results72]
      go_simp
    | true =>
      obtain ⟨⟨p0, p1, p2, p3⟩, _⟩ := block4 (hX2.block (hX1.block b1))
      obtain ⟨⟨q0, q1, q2, q3⟩, _⟩ := block4 (hX2.block (hX1.block b0))
      go_wp2_with fail
      refine (alike_any W H W' H' R R' a a' n c n' c' _).mono ?_
      rintro e w3 ⟨rfl, hX3⟩
      clear p0 p1 p2 p3 q0 q1 q2 q3
      have hXX := (hX1.trans hX2).trans hX3
      clear hX1 hX2 hX3
      cases hal : alikeB W H R W' H' R' with
      | false =>
        have HOK := Lib.hid (twoB_3 (n := n) (n' := n') hal)
        obtain ⟨⟨d0, d1, d2, d3⟩, f0, f1, f2, f3⟩ := block4 (hXX.block b3)
        have HE := Lib.hid ((hX.trans hXX).fin4 (q := w.heap.size + 3) (by omega) (.int .i64 0) (.int .i64 0) (.bool false) (.slice none 0 0))
        clear hX hXX b0 b1 b2 b3 hA hA1 hA' hA1' hv hv' hz hz' hal
        go_wp2
        refine bodyPost_ret (v := .tuple #[.agg #[.int .i64 0, .int .i64 0, .bool false, .slice none 0 0], .bool false]) ?_ rfl (keepF_no HOK.out (twoF_none HE.out))
        simp only [results, Try.results72]
        go_simp
      | true =>
        have HOK := Lib.hid (twoB_iff.2 ⟨hv, hv', hal⟩)
        obtain ⟨rfl, rfl, rfl⟩ := alikeB_iff.1 hal
        obtain ⟨Wn, Hn, hWn, hHn, k1, k2, k3, k4, hnn, _⟩ := vldF_facts hv
        have hnn' : n' = n := by
          have h1 := (vldF_iff.1 hv).2
          have h2 := (vldF_iff.1 hv').2
          omega
        subst hnn'
        have hn1 : 0 < n' := by rw [hnn]; exact Nat.mul_pos (by omega) (by omega)
        obtain ⟨b, o, rfl⟩ := hA.starts (i := 0) (by simp; omega)
        obtain ⟨b', o', rfl⟩ := hA'.starts (i := 0) (by simp; omega)
        obtain ⟨⟨q0, q1, q2, q3⟩, _⟩ := block4 (hXX.block b0)
        have HV := Lib.hid hv
        have HZ := Lib.hid hz
        have HZ' := Lib.hid hz'
        clear hal hv hv' hz hz' hnn hWn hHn
        go_wp2_with fail
        refine (each_any W H R _ n' c 114 #[] #[.pointer (some ⟨w.heap.size + 2, 0, none⟩), .pointer (some ⟨w.heap.size, 0, none⟩), .pointer (some ⟨w.heap.size + 1, 0, none⟩)] (bothG hg W H R (fas zs) (fas zs')) (vldF_iff.1 HV.out).1 _ (fun args u => by go_simp) (fun u v w' hw u0 u1 v0 v1 => ?_)).mono ?_
        · simpa using both1_any F hg W H u v R b o b' o' n' c c' zs zs' HZ.out HZ'.out HV.out _ _ _ w' HC.out HF.out ((hA1.ext hXX).ext hw) ((hA1'.ext hXX).ext hw) _ (hw.block (hXX.block b2)) (hw.block (hXX.block b0)) (hw.block (hXX.block b1)) u0 u1 v0 v1
        rintro e w4 ⟨a2, n2, c2, xs, rfl, hX4, hO, hl, hle, hf⟩
        obtain ⟨⟨d0, d1, d2, d3⟩, f0, f1, f2, f3⟩ := block4 (hX4.block (hXX.block b3))
        obtain ⟨HE, HO⟩ := stored4 (T := 27) (u0 := .int .i64 W) (u1 := .int .i64 H) (u2 := .bool R) (u3 := .slice a2 n2 c2) ((hX.trans hXX).trans hX4) (by decide) (by omega) (hX4.block (hXX.block b3)) (ownsRow_mono hO (hX.trans hXX).size)
        have HE' := Lib.hid HE
        have HO' := Lib.hid HO
        have HL := Lib.hid hl
        have HFF := Lib.hid hf
        clear HE HO hl hX hXX hX4 hO b0 b1 b2 b3 hA hA1 hA' hA1' q0 q1 q2 q3 hf
        go_wp2
        refine bodyPost_ret (v := .tuple #[.agg #[.int .i64 W, .int .i64 H, .bool R, .slice a2 n2 c2], .bool true]) ?_ rfl (keepF_yes HOK.out ⟨a2, n2, c2, xs, rfl, HE'.out, HO'.out, HL.out, hle, HFF.out⟩)
        simp only [results, Try.results72]
        go_simp

theorem add1_any (r1 r2 : Nat) (w : World) : Calls Try.prog 73 #[.float .f32 r1, .float .f32 r2] w (fun e w'' => ∃ r, e = .returned (.float .f32 r) ∧ fa .f32 r = fop .add .f32 (fa .f32 r1) (fa .f32 r2) ∧ Ext w w'') := by
  go_enter Try.func73, Try.ntmps73
  go_wp2
  go_ret
  exact ⟨_, rfl, fa_frr _ _ _ _ _, (Ext.refl _).drewN _⟩

theorem less1_any (r1 r2 : Nat) (w : World) : Calls Try.prog 76 #[.float .f32 r1, .float .f32 r2] w (fun e w'' => ∃ r, e = .returned (.float .f32 r) ∧ fa .f32 r = fop .sub .f32 (fa .f32 r1) (fa .f32 r2) ∧ Ext w w'') := by
  go_enter Try.func76, Try.ntmps76
  go_wp2
  go_ret
  exact ⟨_, rfl, fa_frr _ _ _ _ _, (Ext.refl _).drewN _⟩

theorem times1_any (r1 r2 : Nat) (w : World) : Calls Try.prog 77 #[.float .f32 r1, .float .f32 r2] w (fun e w'' => ∃ r, e = .returned (.float .f32 r) ∧ fa .f32 r = fop .mul .f32 (fa .f32 r1) (fa .f32 r2) ∧ Ext w w'') := by
  go_enter Try.func77, Try.ntmps77
  go_wp2
  go_ret
  exact ⟨_, rfl, fa_frr _ _ _ _ _, (Ext.refl _).drewN _⟩

set_option maxRecDepth 100000 in
theorem implAdd_any (W H : Int) (R : Bool) (W' H' : Int) (R' : Bool) (a a' : Option Addr) (n c n' c' : Nat) (zs zs' : List Nat) (hz : zs.length = n) (hz' : zs'.length = n') (hn : n ≤ 1048576) (hn' : n' ≤ 1048576) (w : World) (hA : VArr w a (flts zs)) (hA' : VArr w a' (flts zs')) :
    Calls Try.prog 28 #[.agg #[.int .i64 W, .int .i64 H, .bool R, .slice a n c], .agg #[.int .i64 W', .int .i64 H', .bool R', .slice a' n' c']] w (keepF w (twoB W H R n W' H' R' n') W H R (gridF W.toNat (bothG (fop .add .f32) W H R (fas zs) (fas zs')) (H.toNat * W.toNat))) := by
  have hX : Ext w (((w.alloc (.cells #[.int .i64 W, .int .i64 H, .bool R, .slice a n c] 27)).alloc (.cells #[.int .i64 W', .int .i64 H', .bool R', .slice a' n' c'] 27)).alloc (.cells #[.int .i64 0, .int .i64 0, .bool false, .slice none 0 0] 27)) := (((Ext.refl w).alloc _).alloc _).alloc _
  have b2 := heap_new2 w (.cells #[.int .i64 W, .int .i64 H, .bool R, .slice a n c] 27) (.cells #[.int .i64 W', .int .i64 H', .bool R', .slice a' n' c'] 27) (.cells #[.int .i64 0, .int .i64 0, .bool false, .slice none 0 0] 27)
  have hA1 := hA.ext hX
  have hA1' := hA'.ext hX
  have HZ := Lib.hid hz
  have HZ' := Lib.hid hz'
  clear hz hz'
  go_enter Try.func28, Try.ntmps28
  go_wp2_with fail
  refine (both_any 73 (fop .add .f32) W H W' H' R R' a a' n c n' c' zs zs' HZ.out HZ'.out hn hn' _ (fun args u => by go_simp) (fun r1 r2 w' => add1_any r1 r2 w') hA1 hA1').mono ?_
  generalize ((w.alloc (.cells #[.int .i64 W, .int .i64 H, .bool R, .slice a n c] 27)).alloc (.cells #[.int .i64 W', .int .i64 H', .bool R', .slice a' n' c'] 27)).alloc (.cells #[.int .i64 0, .int .i64 0, .bool false, .slice none 0 0] 27) = w0 at *
  rintro e w4 ⟨a2, n2, c2, xs, rfl, hX4, hO, hl, hle, hf⟩
  generalize hBB : twoB W H R n W' H' R' n' = BB at *
  have HBB := Lib.hid hBB
  clear hBB
  obtain ⟨⟨d0, d1, d2, d3⟩, f0, f1, f2, f3⟩ := block4 (hX4.block b2)
  obtain ⟨HE, HO⟩ := stored4 (T := 27) (u0 := .int .i64 (kI BB W)) (u1 := .int .i64 (kI BB H)) (u2 := .bool (kB BB R)) (u3 := .slice a2 n2 c2) (hX.trans hX4) (by decide) (by omega) (hX4.block b2) (ownsRow_mono hO hX.size)
  have HE' := Lib.hid HE
  have HO' := Lib.hid HO
  have HL := Lib.hid hl
  have HFF := Lib.hid hf
  clear HE HO hl hX hX4 hO b2 hA hA1 hA' hA1' hf
  go_wp2
  refine bodyPost_ret (v := .tuple #[.agg #[.int .i64 (kI BB W), .int .i64 (kI BB H), .bool (kB BB R), .slice a2 n2 c2], .bool BB]) ?_ rfl ⟨a2, n2, c2, xs, rfl, HE'.out, HO'.out, HL.out, hle, HFF.out⟩
  simp only [results, Try.results28]
  go_simp

set_option maxRecDepth 100000 in
theorem implLess_any (W H : Int) (R : Bool) (W' H' : Int) (R' : Bool) (a a' : Option Addr) (n c n' c' : Nat) (zs zs' : List Nat) (hz : zs.length = n) (hz' : zs'.length = n') (hn : n ≤ 1048576) (hn' : n' ≤ 1048576) (w : World) (hA : VArr w a (flts zs)) (hA' : VArr w a' (flts zs')) :
    Calls Try.prog 32 #[.agg #[.int .i64 W, .int .i64 H, .bool R, .slice a n c], .agg #[.int .i64 W', .int .i64 H', .bool R', .slice a' n' c']] w (keepF w (twoB W H R n W' H' R' n') W H R (gridF W.toNat (bothG (fop .sub .f32) W H R (fas zs) (fas zs')) (H.toNat * W.toNat))) := by
  have hX : Ext w (((w.alloc (.cells #[.int .i64 W, .int .i64 H, .bool R, .slice a n c] 27)).alloc (.cells #[.int .i64 W', .int .i64 H', .bool R', .slice a' n' c'] 27)).alloc (.cells #[.int .i64 0, .int .i64 0, .bool false, .slice none 0 0] 27)) := (((Ext.refl w).alloc _).alloc _).alloc _
  have b2 := heap_new2 w (.cells #[.int .i64 W, .int .i64 H, .bool R, .slice a n c] 27) (.cells #[.int .i64 W', .int .i64 H', .bool R', .slice a' n' c'] 27) (.cells #[.int .i64 0, .int .i64 0, .bool false, .slice none 0 0] 27)
  have hA1 := hA.ext hX
  have hA1' := hA'.ext hX
  have HZ := Lib.hid hz
  have HZ' := Lib.hid hz'
  clear hz hz'
  go_enter Try.func32, Try.ntmps32
  go_wp2_with fail
  refine (both_any 76 (fop .sub .f32) W H W' H' R R' a a' n c n' c' zs zs' HZ.out HZ'.out hn hn' _ (fun args u => by go_simp) (fun r1 r2 w' => less1_any r1 r2 w') hA1 hA1').mono ?_
  generalize ((w.alloc (.cells #[.int .i64 W, .int .i64 H, .bool R, .slice a n c] 27)).alloc (.cells #[.int .i64 W', .int .i64 H', .bool R', .slice a' n' c'] 27)).alloc (.cells #[.int .i64 0, .int .i64 0, .bool false, .slice none 0 0] 27) = w0 at *
  rintro e w4 ⟨a2, n2, c2, xs, rfl, hX4, hO, hl, hle, hf⟩
  generalize hBB : twoB W H R n W' H' R' n' = BB at *
  have HBB := Lib.hid hBB
  clear hBB
  obtain ⟨⟨d0, d1, d2, d3⟩, f0, f1, f2, f3⟩ := block4 (hX4.block b2)
  obtain ⟨HE, HO⟩ := stored4 (T := 27) (u0 := .int .i64 (kI BB W)) (u1 := .int .i64 (kI BB H)) (u2 := .bool (kB BB R)) (u3 := .slice a2 n2 c2) (hX.trans hX4) (by decide) (by omega) (hX4.block b2) (ownsRow_mono hO hX.size)
  have HE' := Lib.hid HE
  have HO' := Lib.hid HO
  have HL := Lib.hid hl
  have HFF := Lib.hid hf
  clear HE HO hl hX hX4 hO b2 hA hA1 hA' hA1' hf
  go_wp2
  refine bodyPost_ret (v := .tuple #[.agg #[.int .i64 (kI BB W), .int .i64 (kI BB H), .bool (kB BB R), .slice a2 n2 c2], .bool BB]) ?_ rfl ⟨a2, n2, c2, xs, rfl, HE'.out, HO'.out, HL.out, hle, HFF.out⟩
  simp only [results, Try.results32]
  go_simp

set_option maxRecDepth 100000 in
theorem implTimes_any (W H : Int) (R : Bool) (W' H' : Int) (R' : Bool) (a a' : Option Addr) (n c n' c' : Nat) (zs zs' : List Nat) (hz : zs.length = n) (hz' : zs'.length = n') (hn : n ≤ 1048576) (hn' : n' ≤ 1048576) (w : World) (hA : VArr w a (flts zs)) (hA' : VArr w a' (flts zs')) :
    Calls Try.prog 34 #[.agg #[.int .i64 W, .int .i64 H, .bool R, .slice a n c], .agg #[.int .i64 W', .int .i64 H', .bool R', .slice a' n' c']] w (keepF w (twoB W H R n W' H' R' n') W H R (gridF W.toNat (bothG (fop .mul .f32) W H R (fas zs) (fas zs')) (H.toNat * W.toNat))) := by
  have hX : Ext w (((w.alloc (.cells #[.int .i64 W, .int .i64 H, .bool R, .slice a n c] 27)).alloc (.cells #[.int .i64 W', .int .i64 H', .bool R', .slice a' n' c'] 27)).alloc (.cells #[.int .i64 0, .int .i64 0, .bool false, .slice none 0 0] 27)) := (((Ext.refl w).alloc _).alloc _).alloc _
  have b2 := heap_new2 w (.cells #[.int .i64 W, .int .i64 H, .bool R, .slice a n c] 27) (.cells #[.int .i64 W', .int .i64 H', .bool R', .slice a' n' c'] 27) (.cells #[.int .i64 0, .int .i64 0, .bool false, .slice none 0 0] 27)
  have hA1 := hA.ext hX
  have hA1' := hA'.ext hX
  have HZ := Lib.hid hz
  have HZ' := Lib.hid hz'
  clear hz hz'
  go_enter Try.func34, Try.ntmps34
  go_wp2_with fail
  refine (both_any 77 (fop .mul .f32) W H W' H' R R' a a' n c n' c' zs zs' HZ.out HZ'.out hn hn' _ (fun args u => by go_simp) (fun r1 r2 w' => times1_any r1 r2 w') hA1 hA1').mono ?_
  generalize ((w.alloc (.cells #[.int .i64 W, .int .i64 H, .bool R, .slice a n c] 27)).alloc (.cells #[.int .i64 W', .int .i64 H', .bool R', .slice a' n' c'] 27)).alloc (.cells #[.int .i64 0, .int .i64 0, .bool false, .slice none 0 0] 27) = w0 at *
  rintro e w4 ⟨a2, n2, c2, xs, rfl, hX4, hO, hl, hle, hf⟩
  generalize hBB : twoB W H R n W' H' R' n' = BB at *
  have HBB := Lib.hid hBB
  clear hBB
  obtain ⟨⟨d0, d1, d2, d3⟩, f0, f1, f2, f3⟩ := block4 (hX4.block b2)
  obtain ⟨HE, HO⟩ := stored4 (T := 27) (u0 := .int .i64 (kI BB W)) (u1 := .int .i64 (kI BB H)) (u2 := .bool (kB BB R)) (u3 := .slice a2 n2 c2) (hX.trans hX4) (by decide) (by omega) (hX4.block b2) (ownsRow_mono hO hX.size)
  have HE' := Lib.hid HE
  have HO' := Lib.hid HO
  have HL := Lib.hid hl
  have HFF := Lib.hid hf
  clear HE HO hl hX hX4 hO b2 hA hA1 hA' hA1' hf
  go_wp2
  refine bodyPost_ret (v := .tuple #[.agg #[.int .i64 (kI BB W), .int .i64 (kI BB H), .bool (kB BB R), .slice a2 n2 c2], .bool BB]) ?_ rfl ⟨a2, n2, c2, xs, rfl, HE'.out, HO'.out, HL.out, hle, HFF.out⟩
  simp only [results, Try.results34]
  go_simp
end Go.Proofs.Ytllpbkmdcaikoaa
