/-
  TipAlong by both. (Printed by gen_melt.py.)
-/
import Derived.Test.YtajfpjggdbifjaaMeK
namespace Go.Proofs.Ytajfpjggdbifjaa
open Go.RowKit
set_option linter.unusedVariables false
set_option linter.unusedSimpArgs false
set_option linter.unnecessarySimpa false

/-- A front lies behind a place. -/
def tipC (P : Int → Nat) (l : Nat) (x : Int) : Bool := (FloatKind.f32.format.order (P x) l == some .gt || FloatKind.f32.format.order (P x) l == some .eq) && FloatKind.f32.format.order (P (x + 1)) l == some .lt
/-- Where it is. -/
def tipV (P : Int → Nat) (l : Nat) (x : Int) : Option Nat := fop .add .f32 (fa .f32 (floatOfInt .f32 x)) (fop .quo .f32 (fop .sub .f32 (fa .f32 (P x)) (fa .f32 l)) (fop .sub .f32 (fa .f32 (P x)) (fa .f32 (P (x + 1)))))
def tipR (P : Int → Nat) (l : Nat) : Nat → Option Nat × Bool
  | 0 => (some 0, false)
  | k + 1 => if tipC P l (k : Int) then toldO (tipV P l (k : Int)) else tipR P l k
def tipP (W H : Int) (R : Bool) (xs : List Nat) (y : Int) (x : Int) : Nat := aboutB W H R xs x y
def tipA (vm : Bool) (W H : Int) (R : Bool) (xs : List Nat) (y : Int) (l : Nat) : Option Nat × Bool := if isC vm W H 0 y then tipR (tipP W H R xs y) l (W - 1).toNat else (some 0, false)
/-- A number up to which not-a-number, and whether it is told. -/
def fbP (w : World) (q : Option Nat × Bool) (e : Ending) (w' : World) : Prop := ∃ r, e = .returned (.tuple #[.float .f32 r, .bool q.2]) ∧ Ext w w' ∧ fa .f32 r = q.1
theorem toldP_fb {w w' : World} {r : Nat} {e : Ending} (h : toldP w r e w') {q : Option Nat × Bool} (hq : toldO (fa .f32 r) = q) : fbP w q e w' :=
  ⟨_, by rw [← hq, (told_fa r).1]; exact h.1, h.2, by rw [← hq]; exact (told_fa r).2⟩
theorem fa_zero : fa .f32 0 = some 0 := fa_num isN_zero

set_option maxRecDepth 100000 in
set_option maxHeartbeats 2000000 in
theorem l03Tip_any (p : Nat) (W H : Int) (R : Bool) (a : Option Addr) (n c : Nat) (W' H' : Int) (R' : Bool) (a' : Option Addr) (n' c' : Nat) (f1 f2 f3 f4 f5 : Nat) (k : Int) (y : Int) (l : Nat) (xs xs' : List Nat) (hz : xs.length = n) (hz' : xs'.length = n') (hn : n ≤ 1048576) (hn' : n' ≤ 1048576) (w : World) (hp : w.heap[p]? = some (.cells #[.int .i64 W, .int .i64 H, .bool R, .slice a n c, .int .i64 W', .int .i64 H', .bool R', .slice a' n' c', .float .f32 f1, .float .f32 f2, .float .f32 f3, .float .f32 f4, .float .f32 f5, .int .i64 k] 62 (0, 0))) (hA : VArr w a (flts xs)) (hA' : VArr w a' (flts xs')) (hv : vldF W H n = true) (hy : 0 ≤ y ∧ y < H) :
    Calls Try.prog 120 #[.pointer (some ⟨p, 0, none⟩), .int .i64 y, .float .f32 l] w (fbP w (tipR (tipP W H R xs y) l (W - 1).toNat)) := by
  obtain ⟨⟨hW1, hW2⟩, hH1, hH2⟩ := szF_iff.1 (vldF_iff.1 hv).1
  have hn0 : 0 < n := by obtain ⟨q1, q2, e1, e2, i1, _, i3, _, e3, e4⟩ := vldF_facts hv; rw [e3]; exact Nat.mul_pos (by omega) (by omega)
  obtain ⟨b, o, rfl⟩ := hA.starts (i := 0) (by simp; omega)
  obtain ⟨Wn, rfl⟩ := Int.eq_ofNat_of_zero_le (show 0 ≤ W by omega)
  have hwn : ((Wn : Int) - 1).toNat = Wn - 1 := by omega
  rw [hwn]
  have HB := Lib.hid hp
  have HA := Lib.hid hA
  have HV := Lib.hid hv
  have HZ := Lib.hid hz
  have hF : Hid (FldAt w p Wn H R (some ⟨b, o, none⟩) n c) := ⟨block_cell hp 0, block_cell hp 1, block_cell hp 2, block_cell hp 3⟩
  have HE0 : Hid (Ext w w) := Ext.refl w
  have c0 := block_cell hp 0
  clear hp hA hA' hv hz hz' hwn
  go_enter Try.func120, Try.ntmps120
  go_wp2
  clear c0
  go_loopw [8] (fun i wr => ∃ (j : Nat) (z : Int), j + 1 ≤ Wn ∧ i = .int .i64 z ∧ z = (j : Int) - 1 ∧ tipR (tipP Wn H R xs y) l (Wn - 1) = tipR (tipP Wn H R xs y) l j ∧ Ext w wr) (fun i _ => (intOf i + 1).toNat)
  case atStart => exact ⟨Wn - 1, (Wn : Int) - 2, by omega, rfl, by omega, rfl, Ext.refl _⟩
  case round =>
    obtain ⟨j, z, hj, rfl, hzj, htr, hE⟩ := hrel
    have HTR := Lib.hid htr
    have HE := Lib.hid hE
    clear htr hE
    cases j with
    | zero =>
      have HT0 : Hid (tipR (tipP Wn H R xs y) l (Wn - 1) = (some 0, false)) := by show _ = _; rw [HTR.out]; rfl
      have ez : decide (0 ≤ z) = false := by simp; omega
      go_wp2
      refine bodyPost_ret (v := .tuple #[.float .f32 0, .bool false]) ?_ rfl ⟨0, by rw [HT0.out], HE0.out.trans HE.out, by rw [HT0.out]; exact fa_zero⟩
      simp only [results, Try.results120]
      go_simp
    | succ j =>
      have hzz : z = (j : Int) := by omega
      clear hzj
      subst hzz
      have ez : decide ((0 : Int) ≤ (j : Int)) = true := by simp
      have HST : Hid (tipR (tipP Wn H R xs y) l (j + 1) = if tipC (tipP Wn H R xs y) l (j : Int) then toldO (tipV (tipP Wn H R xs y) l (j : Int)) else tipR (tipP Wn H R xs y) l j) := by show _ = _; rfl
      have hj1 : (j : Int) + 1 < Wn := by omega
      have hj2 : (j : Int) < Wn := by omega
      go_wp2_with fail
      refine (l02At_any p Wn H (j : Int) y R b o n c xs HZ.out HV.out _ (hF.out.ext HE.out) (HA.out.ext HE.out)).mono ?_
      rintro e w7 ⟨rfl, hX7⟩
      have HE7 := Lib.hid (HE.out.trans hX7)
      clear hX7 HE
      go_wp2_with fail
      refine (l02At_any p Wn H ((j : Int) + 1) y R b o n c xs HZ.out HV.out _ (hF.out.ext HE7.out) (HA.out.ext HE7.out)).mono ?_
      rintro e w8 ⟨rfl, hX8⟩
      have HE2 := Lib.hid (HE7.out.trans hX8)
      clear hX8 HE7
      generalize hx : aboutB Wn H R xs (j : Int) y = x at *
      generalize hy : aboutB Wn H R xs ((j : Int) + 1) y = x2 at *
      have hC : tipC (tipP Wn H R xs y) l (j : Int) = ((FloatKind.f32.format.order x l == some .gt || FloatKind.f32.format.order x l == some .eq) && FloatKind.f32.format.order x2 l == some .lt) := by unfold tipC tipP; rw [hx, hy]
      have HVV : Hid (tipV (tipP Wn H R xs y) l (j : Int) = fop .add .f32 (fa .f32 (floatOfInt .f32 (j : Int))) (fop .quo .f32 (fop .sub .f32 (fa .f32 x) (fa .f32 l)) (fop .sub .f32 (fa .f32 x) (fa .f32 x2)))) := by show _ = _; unfold tipV tipP; rw [hx, hy]
      clear hx hy
      cases hg : (FloatKind.f32.format.order x l == some .gt || FloatKind.f32.format.order x l == some .eq) with
      | false =>
        have HN : Hid (tipR (tipP Wn H R xs y) l (Wn - 1) = tipR (tipP Wn H R xs y) l j) := by show _ = _; rw [HTR.out, HST.out, hC, hg]; rfl
        clear hC
        go_wp2
        go_roundw
        case rel => exact ⟨j, (j : Int) - 1, by omega, by go_num, rfl, HN.out, HE2.out⟩
        case measure => (simp [intOf]) <;> omega
      | true =>
        cases hlt : (FloatKind.f32.format.order x2 l == some .lt) with
        | false =>
          have HN : Hid (tipR (tipP Wn H R xs y) l (Wn - 1) = tipR (tipP Wn H R xs y) l j) := by show _ = _; rw [HTR.out, HST.out, hC, hg, hlt]; rfl
          clear hC
          go_wp2
          go_roundw
          case rel => exact ⟨j, (j : Int) - 1, by omega, by go_num, rfl, HN.out, HE2.out⟩
          case measure => (simp [intOf]) <;> omega
        | true =>
          have HN : Hid (tipR (tipP Wn H R xs y) l (Wn - 1) = toldO (tipV (tipP Wn H R xs y) l (j : Int))) := by show _ = _; rw [HTR.out, HST.out, hC, hg, hlt]; rfl
          clear hC
          go_wp2_with fail
          refine (l03Number_any _ _).mono ?_
          intro e w9 hT
          obtain ⟨r, rfl, hX9, hr⟩ := toldP_fb hT (q := tipR (tipP Wn H R xs y) l (Wn - 1)) (by rw [HN.out, HVV.out]; simp only [fa_frr])
          have HX9 := Lib.hid (HE0.out.trans (HE2.out.trans (Ext.trans (Ext.drewN (Ext.refl _) _) hX9)))
          clear hT hX9 hg hlt
          go_wp2
          refine bodyPost_ret (v := .tuple #[.float .f32 r, .bool (tipR (tipP Wn H R xs y) l (Wn - 1)).2]) ?_ rfl ⟨r, rfl, HX9.out, hr⟩
          simp only [results, Try.results120]
          go_simp

set_option maxRecDepth 100000 in
set_option maxHeartbeats 2000000 in
theorem specTip_any (W H : Int) (R : Bool) (a : Option Addr) (n c : Nat) (W' H' : Int) (R' : Bool) (a' : Option Addr) (n' c' : Nat) (f1 f2 f3 f4 f5 : Nat) (k : Int) (y : Int) (l : Nat) (xs xs' : List Nat) (hz : xs.length = n) (hz' : xs'.length = n') (hn : n ≤ 1048576) (hn' : n' ≤ 1048576) (w : World) (hA : VArr w a (flts xs)) (hA' : VArr w a' (flts xs')) :
    Calls Try.prog 56 #[.agg #[.int .i64 W, .int .i64 H, .bool R, .slice a n c, .int .i64 W', .int .i64 H', .bool R', .slice a' n' c', .float .f32 f1, .float .f32 f2, .float .f32 f3, .float .f32 f4, .float .f32 f5, .int .i64 k], .int .i64 y, .float .f32 l] w (fbP w (tipA (vldM W H R n W' H' R' n' xs xs' f1 f2 f3 f4 f5 k) W H R xs y l)) := by
  have hX := (Ext.refl w).alloc (.cells #[.int .i64 W, .int .i64 H, .bool R, .slice a n c, .int .i64 W', .int .i64 H', .bool R', .slice a' n' c', .float .f32 f1, .float .f32 f2, .float .f32 f3, .float .f32 f4, .float .f32 f5, .int .i64 k] 62)
  have b0 := heap_new w (.cells #[.int .i64 W, .int .i64 H, .bool R, .slice a n c, .int .i64 W', .int .i64 H', .bool R', .slice a' n' c', .float .f32 f1, .float .f32 f2, .float .f32 f3, .float .f32 f4, .float .f32 f5, .int .i64 k] 62)
  have hA1 := hA.ext hX
  have hA1' := hA'.ext hX
  go_enter Try.func56, Try.ntmps56
  go_wp2_with fail
  refine (l03Cell_any _ W H R a n c W' H' R' a' n' c' f1 f2 f3 f4 f5 k 0 y xs xs' hz hz' hn hn' _ b0 hA1 hA1').mono ?_
  generalize w.alloc (.cells #[.int .i64 W, .int .i64 H, .bool R, .slice a n c, .int .i64 W', .int .i64 H', .bool R', .slice a' n' c', .float .f32 f1, .float .f32 f2, .float .f32 f3, .float .f32 f4, .float .f32 f5, .int .i64 k] 62) = w0 at *
  generalize w.heap.size = p at *
  cases hc : isC (vldM W H R n W' H' R' n' xs xs' f1 f2 f3 f4 f5 k) W H 0 y with
  | false =>
    rintro e w1 ⟨rfl, hX1⟩
    have HQ : Hid (tipA (vldM W H R n W' H' R' n' xs xs' f1 f2 f3 f4 f5 k) W H R xs y l = (some 0, false)) := by show _ = _; simp [tipA, hc]
    have HX := Lib.hid (hX.trans hX1)
    clear hX hX1 b0 hc
    go_wp2
    refine bodyPost_ret (v := .tuple #[.float .f32 0, .bool false]) ?_ rfl ⟨0, by rw [HQ.out], HX.out, by rw [HQ.out]; exact fa_zero⟩
    simp only [results, Try.results56]
    go_simp
  | true =>
    have HQ : Hid (tipA (vldM W H R n W' H' R' n' xs xs' f1 f2 f3 f4 f5 k) W H R xs y l = tipR (tipP W H R xs y) l (W - 1).toNat) := by show _ = _; simp [tipA, hc]
    simp only [isC, Bool.and_eq_true] at hc
    have hvm := hc.1
    simp only [vldM, twoB, Bool.and_eq_true] at hvm
    have hvp := hvm.1.1.1.1
    have hy := inB_iff.1 hc.2.2
    rintro e w1 ⟨rfl, hX1⟩
    have HX := Lib.hid (hX.trans hX1)
    go_wp2_with fail
    refine (l03Tip_any p W H R a n c W' H' R' a' n' c' f1 f2 f3 f4 f5 k y l xs xs' hz hz' hn hn' _ (hX1.block b0) (hA1.ext hX1) (hA1'.ext hX1) hvp ⟨hy.1, by omega⟩).mono ?_
    rintro e w2 ⟨r, rfl, hX2, hr⟩
    rw [← HQ.out] at hr ⊢
    have HXX := Lib.hid (HX.out.trans hX2)
    clear hX hX1 hX2 b0 hc hvm hvp hy
    generalize hq : tipA (vldM W H R n W' H' R' n' xs xs' f1 f2 f3 f4 f5 k) W H R xs y l = q at *
    have HQ2 := Lib.hid hq
    clear hq
    go_wp2
    refine bodyPost_ret (v := .tuple #[.float .f32 r, .bool q.2]) ?_ rfl ⟨r, rfl, HXX.out, hr⟩
    simp only [results, Try.results56]
    go_simp

set_option maxRecDepth 100000 in
set_option maxHeartbeats 2000000 in
theorem implTip_any (W H : Int) (R : Bool) (a : Option Addr) (n c : Nat) (W' H' : Int) (R' : Bool) (a' : Option Addr) (n' c' : Nat) (f1 f2 f3 f4 f5 : Nat) (k : Int) (y : Int) (l : Nat) (xs xs' : List Nat) (hz : xs.length = n) (hz' : xs'.length = n') (hn : n ≤ 1048576) (hn' : n' ≤ 1048576) (w : World) (hA : VArr w a (flts xs)) (hA' : VArr w a' (flts xs')) :
    Calls Try.prog 57 #[.agg #[.int .i64 W, .int .i64 H, .bool R, .slice a n c, .int .i64 W', .int .i64 H', .bool R', .slice a' n' c', .float .f32 f1, .float .f32 f2, .float .f32 f3, .float .f32 f4, .float .f32 f5, .int .i64 k], .int .i64 y, .float .f32 l] w (fbP w (tipA (vldM W H R n W' H' R' n' xs xs' f1 f2 f3 f4 f5 k) W H R xs y l)) := by
  have hX := (Ext.refl w).alloc (.cells #[.int .i64 W, .int .i64 H, .bool R, .slice a n c, .int .i64 W', .int .i64 H', .bool R', .slice a' n' c', .float .f32 f1, .float .f32 f2, .float .f32 f3, .float .f32 f4, .float .f32 f5, .int .i64 k] 62)
  have b0 := heap_new w (.cells #[.int .i64 W, .int .i64 H, .bool R, .slice a n c, .int .i64 W', .int .i64 H', .bool R', .slice a' n' c', .float .f32 f1, .float .f32 f2, .float .f32 f3, .float .f32 f4, .float .f32 f5, .int .i64 k] 62)
  have hA1 := hA.ext hX
  have hA1' := hA'.ext hX
  obtain ⟨⟨c0, c1, c2, c3, c4, c5, c6, c7, c8, c9, c10, c11, c12, c13⟩, _⟩ := block14 b0
  go_enter Try.func57, Try.ntmps57
  go_wp2_with fail
  clear c0 c1 c2 c3 c4 c5 c6 c7 c8 c9 c10 c11 c12 c13
  refine (isCell_any W H R a n c W' H' R' a' n' c' f1 f2 f3 f4 f5 k 0 y xs xs' hz hz' hn hn' _ hA1 hA1').mono ?_
  generalize w.alloc (.cells #[.int .i64 W, .int .i64 H, .bool R, .slice a n c, .int .i64 W', .int .i64 H', .bool R', .slice a' n' c', .float .f32 f1, .float .f32 f2, .float .f32 f3, .float .f32 f4, .float .f32 f5, .int .i64 k] 62) = w0 at *
  generalize w.heap.size = p at *
  cases hc : isC (vldM W H R n W' H' R' n' xs xs' f1 f2 f3 f4 f5 k) W H 0 y with
  | false =>
    rintro e w1 ⟨rfl, hX1⟩
    have HQ : Hid (tipA (vldM W H R n W' H' R' n' xs xs' f1 f2 f3 f4 f5 k) W H R xs y l = (some 0, false)) := by show _ = _; simp [tipA, hc]
    have HX := Lib.hid (hX.trans hX1)
    clear hX hX1 b0 hc
    go_wp2
    refine bodyPost_ret (v := .tuple #[.float .f32 0, .bool false]) ?_ rfl ⟨0, by rw [HQ.out], HX.out, by rw [HQ.out]; exact fa_zero⟩
    simp only [results, Try.results57]
    go_simp
  | true =>
    have hQ : tipA (vldM W H R n W' H' R' n' xs xs' f1 f2 f3 f4 f5 k) W H R xs y l = tipR (tipP W H R xs y) l (W - 1).toNat := by simp [tipA, hc]
    simp only [isC, Bool.and_eq_true] at hc
    have hvm := hc.1
    simp only [vldM, twoB, Bool.and_eq_true] at hvm
    have hvp := hvm.1.1.1.1
    have hy := inB_iff.1 hc.2.2
    have hy0 := hy.1
    have hy1 : y < H := by omega
    rintro e w1 ⟨rfl, hX1⟩
    obtain ⟨⟨hW1, hW2⟩, hH1, hH2⟩ := szF_iff.1 (vldF_iff.1 hvp).1
    have hn0 : 0 < n := by obtain ⟨q1, q2, e1, e2, i1, _, i3, _, e3, e4⟩ := vldF_facts hvp; rw [e3]; exact Nat.mul_pos (by omega) (by omega)
    obtain ⟨b, o, rfl⟩ := hA.starts (i := 0) (by simp; omega)
    obtain ⟨Wn, rfl⟩ := Int.eq_ofNat_of_zero_le (show 0 ≤ W by omega)
    have hwn : ((Wn : Int) - 1).toNat = Wn - 1 := by omega
    rw [hwn] at hQ
    have HQA := Lib.hid hQ
    have hbb := hX1.block b0
    have hF : Hid (FldAt w1 p Wn H R (some ⟨b, o, none⟩) n c) := ⟨block_cell hbb 0, block_cell hbb 1, block_cell hbb 2, block_cell hbb 3⟩
    have HA := Lib.hid (hA1.ext hX1)
    have HV := Lib.hid hvp
    have HZ := Lib.hid hz
    have HE0 := Lib.hid (hX.trans hX1)
    have c0 := block_cell hbb 0
    clear hX hX1 b0 hbb hA hA' hA1 hA1' hc hvm hvp hy hQ hwn hz hz'
    go_wp2
    clear c0
    go_loopw [8] (fun i wr => ∃ (j : Nat) (z : Int), j + 1 ≤ Wn ∧ i = .int .i64 z ∧ z = (j : Int) - 1 ∧ tipR (tipP Wn H R xs y) l (Wn - 1) = tipR (tipP Wn H R xs y) l j ∧ Ext w1 wr) (fun i _ => (intOf i + 1).toNat)
    case atStart => exact ⟨Wn - 1, (Wn : Int) - 2, by omega, rfl, by omega, rfl, Ext.refl _⟩
    case round =>
      obtain ⟨j, z, hj, rfl, hzj, htr, hE⟩ := hrel
      have HTR := Lib.hid htr
      have HE := Lib.hid hE
      clear htr hE
      cases j with
      | zero =>
        have HT0 : Hid (tipR (tipP Wn H R xs y) l (Wn - 1) = (some 0, false)) := by show _ = _; rw [HTR.out]; rfl
        have ez : decide (0 ≤ z) = false := by simp; omega
        go_wp2
        refine bodyPost_ret (v := .tuple #[.float .f32 0, .bool false]) ?_ rfl ⟨0, by rw [HQA.out, HT0.out], HE0.out.trans HE.out, by rw [HQA.out, HT0.out]; exact fa_zero⟩
        simp only [results, Try.results57]
        go_simp
      | succ j =>
        have hzz : z = (j : Int) := by omega
        clear hzj
        subst hzz
        have ez : decide ((0 : Int) ≤ (j : Int)) = true := by simp
        have HST : Hid (tipR (tipP Wn H R xs y) l (j + 1) = if tipC (tipP Wn H R xs y) l (j : Int) then toldO (tipV (tipP Wn H R xs y) l (j : Int)) else tipR (tipP Wn H R xs y) l j) := by show _ = _; rfl
        have hj1 : (j : Int) + 1 < Wn := by omega
        have hj2 : (j : Int) < Wn := by omega
        go_wp2_with fail
        refine region_grow (C := Ext wr) (K := fun _ args V _ => ∀ t : Int, args = #[.agg #[.int .i64 Wn, .int .i64 H, .bool R, .slice (some ⟨b, o, none⟩) n c], .int .i64 t, .int .i64 y] → V = .float .f32 (aboutB Wn H R xs t y)) ⟨fun _ _ h k => h.trans k, fun _ _ _ _ _ h _ => h⟩ (by kernel_rfl) (by kernel_rfl) ((Ext.refl wr).drew) ?_
        iterate 4 (refine grow_q rfl ?_; apply Exists.intro; refine ⟨fun u hu _ => ?_, ?_⟩; focus (obtain ⟨c0, c1, c2, c3⟩ := hF.out.ext (HE.out.trans hu); go_simp; rfl))
        refine grow_c1 72 rfl ⟨#[.agg #[.int .i64 Wn, .int .i64 H, .bool R, .slice (some ⟨b, o, none⟩) n c], .int .i64 (j : Int), .int .i64 y], fun u => ?_, .float .f32 (aboutB Wn H R xs (j : Int) y), fun u hu _ => atF_any Wn H (j : Int) y R b o n c xs HZ.out HV.out u (HA.out.ext (HE.out.trans hu)) (by omega) hj2 hy0 hy1, fun V u h => h _ rfl, fun u t h => by
          simp only [Array.mk.injEq, List.cons.injEq, Value.int.injEq, true_and, and_true] at h
          subst h
          rfl, ?_⟩
        · go_simp
        iterate 5 (refine grow_q rfl ?_; apply Exists.intro; refine ⟨fun u hu _ => ?_, ?_⟩; focus (obtain ⟨c0, c1, c2, c3⟩ := hF.out.ext (HE.out.trans hu); go_simp; rfl))
        refine grow_c1 72 rfl ⟨#[.agg #[.int .i64 Wn, .int .i64 H, .bool R, .slice (some ⟨b, o, none⟩) n c], .int .i64 ((j : Int) + 1), .int .i64 y], fun u => ?_, .float .f32 (aboutB Wn H R xs ((j : Int) + 1) y), fun u hu _ => atF_any Wn H ((j : Int) + 1) y R b o n c xs HZ.out HV.out u (HA.out.ext (HE.out.trans hu)) (by omega) hj1 hy0 hy1, fun V u h => h _ rfl, fun u t h => by
          simp only [Array.mk.injEq, List.cons.injEq, Value.int.injEq, true_and, and_true] at h
          subst h
          rfl, ?_⟩
        · go_simp
          all_goals (first | done | exact wrapS (by omega) (by omega))
        iterate 2 (refine grow_q rfl ?_; apply Exists.intro; refine ⟨fun u hu _ => ?_, ?_⟩; focus (go_simp; rfl))
        refine grow_nil (fun w8 hw8 _ => ?_)
        have HE2 := Lib.hid (HE.out.trans hw8)
        clear hw8 HE
        go_simp
        generalize hx : aboutB Wn H R xs (j : Int) y = x at *
        generalize hy : aboutB Wn H R xs ((j : Int) + 1) y = x2 at *
        have hC : tipC (tipP Wn H R xs y) l (j : Int) = ((FloatKind.f32.format.order x l == some .gt || FloatKind.f32.format.order x l == some .eq) && FloatKind.f32.format.order x2 l == some .lt) := by unfold tipC tipP; rw [hx, hy]
        have HVV : Hid (tipV (tipP Wn H R xs y) l (j : Int) = fop .add .f32 (fa .f32 (floatOfInt .f32 (j : Int))) (fop .quo .f32 (fop .sub .f32 (fa .f32 x) (fa .f32 l)) (fop .sub .f32 (fa .f32 x) (fa .f32 x2)))) := by show _ = _; unfold tipV tipP; rw [hx, hy]
        clear hx hy
        cases hg : (FloatKind.f32.format.order x l == some .gt || FloatKind.f32.format.order x l == some .eq) with
        | false =>
          have HN : Hid (tipR (tipP Wn H R xs y) l (Wn - 1) = tipR (tipP Wn H R xs y) l j) := by show _ = _; rw [HTR.out, HST.out, hC, hg]; rfl
          clear hC
          go_wp2
          go_roundw
          case rel => exact ⟨j, (j : Int) - 1, by omega, by go_num, rfl, HN.out, HE2.out⟩
          case measure => (simp [intOf]) <;> omega
        | true =>
          cases hlt : (FloatKind.f32.format.order x2 l == some .lt) with
          | false =>
            have HN : Hid (tipR (tipP Wn H R xs y) l (Wn - 1) = tipR (tipP Wn H R xs y) l j) := by show _ = _; rw [HTR.out, HST.out, hC, hg, hlt]; rfl
            clear hC
            go_wp2
            go_roundw
            case rel => exact ⟨j, (j : Int) - 1, by omega, by go_num, rfl, HN.out, HE2.out⟩
            case measure => (simp [intOf]) <;> omega
          | true =>
            have HN : Hid (tipR (tipP Wn H R xs y) l (Wn - 1) = toldO (tipV (tipP Wn H R xs y) l (j : Int))) := by show _ = _; rw [HTR.out, HST.out, hC, hg, hlt]; rfl
            clear hC
            go_wp2_with fail
            refine (told_any _ _).mono ?_
            intro e w9 hT
            obtain ⟨r, rfl, hX9, hr⟩ := toldP_fb hT (q := tipR (tipP Wn H R xs y) l (Wn - 1)) (by rw [HN.out, HVV.out]; simp only [fa_frr])
            have HX9 := Lib.hid (HE0.out.trans (HE2.out.trans (Ext.trans (Ext.drewN (Ext.refl _) _) hX9)))
            clear hT hX9 hg hlt
            go_wp2
            refine bodyPost_ret (v := .tuple #[.float .f32 r, .bool (tipR (tipP Wn H R xs y) l (Wn - 1)).2]) ?_ rfl ⟨r, by rw [HQA.out], HX9.out, by rw [HQA.out]; exact hr⟩
            simp only [results, Try.results57]
            go_simp
end Go.Proofs.Ytajfpjggdbifjaa
