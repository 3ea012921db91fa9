/-
  Sums of fields; KeptIn by both. (Printed by gen_melt.py.)
-/
import Derived.Test.YtajfpjggdbifjaaMeT
namespace Go.Proofs.Ytajfpjggdbifjaa
open Go.RowKit
set_option linter.unusedVariables false
set_option linter.unusedSimpArgs false
set_option linter.unnecessarySimpa false

def sumO (xs : List Nat) : Nat → Option Nat
  | 0 => some 0
  | k + 1 => fop .add .f32 (sumO xs k) (fa .f32 (xs[k]?.getD 0))

set_option maxRecDepth 100000 in
theorem fieldSum_any (W H : Int) (R : Bool) (b o n c : Nat) (xs : List Nat) (hz : xs.length = n) (hn : n ≤ 1048576) (w : World) (hA : VArr w (some ⟨b, o, none⟩) (flts xs)) :
    Calls Try.prog 74 #[.agg #[.int .i64 W, .int .i64 H, .bool R, .slice (some ⟨b, o, none⟩) n c]] w fun e w' => ∃ r, e = .returned (.float .f32 r) ∧ fa .f32 r = sumO xs n ∧ Ext w w' := by
  have hX := (Ext.refl w).alloc (.cells #[.int .i64 W, .int .i64 H, .bool R, .slice (some ⟨b, o, none⟩) n c] 26)
  have b0 := heap_new w (.cells #[.int .i64 W, .int .i64 H, .bool R, .slice (some ⟨b, o, none⟩) n c] 26)
  have HA := Lib.hid (hA.ext hX)
  have HZ := Lib.hid hz
  obtain ⟨⟨c0, c1, c2, c3⟩, _⟩ := block4 b0
  clear hA hz b0
  go_enter Try.func74, Try.ntmps74
  go_wp2
  clear c0 c1 c2 c3
  generalize w.alloc (.cells #[.int .i64 W, .int .i64 H, .bool R, .slice (some ⟨b, o, none⟩) n c] 26) = w0 at *
  go_loopw [3, 9] (fun v i wr => ∃ (k r : Nat), k ≤ n ∧ i = .int .i64 k ∧ v = .float .f32 r ∧ fa .f32 r = sumO xs k ∧ Ext w0 wr) (fun _ i _ => n - (intOf i).toNat)
  case atStart => exact ⟨0, 0, Nat.zero_le _, rfl, rfl, fa_zero, Ext.refl _⟩
  case round =>
    obtain ⟨k, r, hk, rfl, rfl, hfr, hE⟩ := hrel
    by_cases hlt : k < n
    · have hc := (HA.out.ext hE).ofFlts k (by rw [HZ.out]; exact hlt)
      rw [List.getD_eq_getElem?_getD] at hc
      have HS : Hid (sumO xs (k + 1) = fop .add .f32 (sumO xs k) (fa .f32 (xs[k]?.getD 0))) := by show _ = _; rfl
      have HFR := Lib.hid hfr
      clear hfr
      generalize xs[k]?.getD 0 = x at *
      have HE := Lib.hid hE
      clear hE
      go_wp2
      go_roundw
      case rel => exact ⟨k + 1, _, by omega, by go_num, rfl, by rw [fa_frr, HS.out, HFR.out], HE.out.drewN _⟩
      case measure => (simp [intOf]) <;> omega
    · obtain rfl : k = n := by omega
      have HE := Lib.hid (hX.trans hE)
      clear hE
      go_wp2
      go_ret
      exact ⟨r, rfl, hfr, HE.out⟩

set_option maxRecDepth 100000 in
theorem l02Sum_any (p q : Nat) (W H : Int) (R : Bool) (b o n c : Nat) (xs : List Nat) (hz : xs.length = n) (hn : n ≤ 1048576) (w : World) (hp : FldAtO w p q W H R (some ⟨b, o, none⟩) n c) (hA : VArr w (some ⟨b, o, none⟩) (flts xs)) :
    Calls Try.prog 108 #[.pointer (some ⟨p, q, none⟩)] w fun e w' => ∃ r, e = .returned (.float .f32 r) ∧ fa .f32 r = sumO xs n ∧ Ext w w' := by
  have HA := Lib.hid hA
  have HZ := Lib.hid hz
  have HP := Lib.hid hp
  clear hA hz hp
  go_enter Try.func108, Try.ntmps108
  go_wp2
  go_loopw [3, 4] (fun v i wr => ∃ (k r : Nat), k ≤ n ∧ i = .int .i64 k ∧ v = .float .f32 r ∧ fa .f32 r = sumO xs k ∧ Ext w wr) (fun _ i _ => n - (intOf i).toNat)
  case atStart => exact ⟨0, 0, Nat.zero_le _, rfl, rfl, fa_zero, Ext.refl _⟩
  case round =>
    obtain ⟨k, r, hk, rfl, rfl, hfr, hE⟩ := hrel
    obtain ⟨p0, p1, p2, p3⟩ := HP.out.ext hE
    by_cases hlt : k < n
    · have hc := (HA.out.ext hE).ofFlts k (by rw [HZ.out]; exact hlt)
      rw [List.getD_eq_getElem?_getD] at hc
      have HS : Hid (sumO xs (k + 1) = fop .add .f32 (sumO xs k) (fa .f32 (xs[k]?.getD 0))) := by show _ = _; rfl
      have HFR := Lib.hid hfr
      clear hfr
      generalize xs[k]?.getD 0 = x at *
      have HE := Lib.hid hE
      clear hE
      go_wp2
      go_roundw
      case rel => exact ⟨k + 1, _, by omega, by go_num, rfl, by rw [fa_frr, HS.out, HFR.out], HE.out.drewN _⟩
      case measure => (simp [intOf]) <;> omega
    · obtain rfl : k = n := by omega
      have HE := Lib.hid hE
      clear hE
      go_wp2
      go_ret
      exact ⟨r, rfl, hfr, HE.out⟩

/-- What is kept. -/
def keptV (xs xs' : List Nat) (n n' : Nat) (f3 : Nat) : Option Nat × Bool := toldO (fop .sub .f32 (sumO xs' n') (fop .mul .f32 (fa .f32 f3) (sumO xs n)))
def keptA (vm : Bool) (xs xs' : List Nat) (n n' : Nat) (f3 : Nat) : Option Nat × Bool := if vm then keptV xs xs' n n' f3 else (some 0, false)
/-- A call that tells a number if it is finite, in a region. -/
def toldK (q : Option Nat × Bool) (V : Value) : Prop := ∃ r, V = .tuple #[.float .f32 r, .bool q.2] ∧ fa .f32 r = q.1

set_option maxRecDepth 100000 in
set_option maxHeartbeats 4000000 in
theorem specKept_any (W H : Int) (R : Bool) (a : Option Addr) (n c : Nat) (W' H' : Int) (R' : Bool) (a' : Option Addr) (n' c' : Nat) (f1 f2 f3 f4 f5 : Nat) (k : Int) (xs xs' : List Nat) (hz : xs.length = n) (hz' : xs'.length = n') (hn : n ≤ 1048576) (hn' : n' ≤ 1048576) (w : World) (hA : VArr w a (flts xs)) (hA' : VArr w a' (flts xs')) :
    Calls Try.prog 48 #[.agg #[.int .i64 W, .int .i64 H, .bool R, .slice a n c, .int .i64 W', .int .i64 H', .bool R', .slice a' n' c', .float .f32 f1, .float .f32 f2, .float .f32 f3, .float .f32 f4, .float .f32 f5, .int .i64 k]] w (fbP w (keptA (vldM W H R n W' H' R' n' xs xs' f1 f2 f3 f4 f5 k) xs xs' n n' f3)) := by
  have hX := (Ext.refl w).alloc (.cells #[.int .i64 W, .int .i64 H, .bool R, .slice a n c, .int .i64 W', .int .i64 H', .bool R', .slice a' n' c', .float .f32 f1, .float .f32 f2, .float .f32 f3, .float .f32 f4, .float .f32 f5, .int .i64 k] 62)
  have b0 := heap_new w (.cells #[.int .i64 W, .int .i64 H, .bool R, .slice a n c, .int .i64 W', .int .i64 H', .bool R', .slice a' n' c', .float .f32 f1, .float .f32 f2, .float .f32 f3, .float .f32 f4, .float .f32 f5, .int .i64 k] 62)
  have hA1 := hA.ext hX
  have hA1' := hA'.ext hX
  go_enter Try.func48, Try.ntmps48
  go_wp2_with fail
  refine (l03Is_any _ W H R a n c W' H' R' a' n' c' f1 f2 f3 f4 f5 k xs xs' hz hz' hn hn' _ b0 hA1 hA1').mono ?_
  generalize w.alloc (.cells #[.int .i64 W, .int .i64 H, .bool R, .slice a n c, .int .i64 W', .int .i64 H', .bool R', .slice a' n' c', .float .f32 f1, .float .f32 f2, .float .f32 f3, .float .f32 f4, .float .f32 f5, .int .i64 k] 62) = w0 at *
  generalize w.heap.size = p at *
  cases hc : vldM W H R n W' H' R' n' xs xs' f1 f2 f3 f4 f5 k with
  | false =>
    rintro e w1 ⟨rfl, hX1⟩
    have HQ : Hid (keptA (vldM W H R n W' H' R' n' xs xs' f1 f2 f3 f4 f5 k) xs xs' n n' f3 = (some 0, false)) := by show _ = _; rw [hc]; rfl
    have HX := Lib.hid (hX.trans hX1)
    clear hX hX1 b0 hc
    go_wp2
    refine bodyPost_ret (v := .tuple #[.float .f32 0, .bool false]) ?_ rfl ⟨0, by rw [HQ.out], HX.out, by rw [HQ.out]; exact fa_zero⟩
    simp only [results, Try.results48]
    go_simp
  | true =>
    have HQ : Hid (keptA (vldM W H R n W' H' R' n' xs xs' f1 f2 f3 f4 f5 k) xs xs' n n' f3 = keptV xs xs' n n' f3) := by show _ = _; rw [hc]; rfl
    have hvm := hc
    simp only [vldM, twoB, Bool.and_eq_true] at hvm
    have hvp := hvm.1.1.1.1
    have hvq := hvm.1.1.1.2
    have hn0 : 0 < n := by obtain ⟨q1, q2, e1, e2, i1, _, i3, _, e3, e4⟩ := vldF_facts hvp; rw [e3]; exact Nat.mul_pos (by omega) (by omega)
    have hn0' : 0 < n' := by obtain ⟨q1, q2, e1, e2, i1, _, i3, _, e3, e4⟩ := vldF_facts hvq; rw [e3]; exact Nat.mul_pos (by omega) (by omega)
    obtain ⟨b, o, rfl⟩ := hA.starts (i := 0) (by simp; omega)
    obtain ⟨b', o', rfl⟩ := hA'.starts (i := 0) (by simp; omega)
    rintro e w1 ⟨rfl, hX1⟩
    have HX := Lib.hid (hX.trans hX1)
    have HB := Lib.hid (hX1.block b0)
    have HA := Lib.hid (hA1.ext hX1)
    have HA' := Lib.hid (hA1'.ext hX1)
    have HZ := Lib.hid hz
    have HZ' := Lib.hid hz'
    have hF : Hid (FldAtO w1 p 0 W H R (some ⟨b, o, none⟩) n c) := ⟨block_cell HB.out 0, block_cell HB.out 1, block_cell HB.out 2, block_cell HB.out 3⟩
    have hF' : Hid (FldAtO w1 p 4 W' H' R' (some ⟨b', o', none⟩) n' c') := ⟨block_cell HB.out 4, block_cell HB.out 5, block_cell HB.out 6, block_cell HB.out 7⟩
    have HVM := Lib.hid hc
    clear hX hX1 b0 hA hA' hA1 hA1' hc hvm hvp hvq hz hz'
    go_wp2_with fail
    refine region_grow (C := Ext w1) (K := fun f args V _ => (args = #[.pointer (some ⟨p, 0, none⟩)] → ∃ r, V = .float .f32 r ∧ fa .f32 r = sumO xs n) ∧ (args = #[.pointer (some ⟨p, 4, none⟩)] → ∃ r, V = .float .f32 r ∧ fa .f32 r = sumO xs' n') ∧ (f = 110 → toldK (keptV xs xs' n n' f3) V)) ⟨fun _ _ h k => h.trans k, fun _ _ _ _ _ h _ => h⟩ (by kernel_rfl) (by kernel_rfl) ((Ext.refl w1).drew) ?_
    iterate 1 (refine grow_q rfl ?_; apply Exists.intro; refine ⟨fun u hu _ => ?_, ?_⟩; focus (go_simp; rfl))
    refine grow_cf 108 .f32 rfl ⟨#[.pointer (some ⟨p, 4, none⟩)], fun u => ?_, _, fun u hu _ => l02Sum_any p 4 W' H' R' b' o' n' c' xs' HZ'.out (by omega) u (hF'.out.ext hu) (HA'.out.ext hu), fun V u => ⟨fun h => h.2.1 rfl, fun h0 => ⟨fun h => absurd h (by simp), fun _ => h0, fun h => absurd h (by decide)⟩⟩, fun q1 hq1 => ?_⟩
    · go_simp
    iterate 3 (refine grow_q rfl ?_; apply Exists.intro; refine ⟨fun u hu _ => ?_, ?_⟩; focus (have c10 := block_cell (hu.block HB.out) 10; go_simp; rfl))
    refine grow_cf 108 .f32 rfl ⟨#[.pointer (some ⟨p, 0, none⟩)], fun u => ?_, _, fun u hu _ => l02Sum_any p 0 W H R b o n c xs HZ.out (by omega) u (hF.out.ext hu) (HA.out.ext hu), fun V u => ⟨fun h => h.1 rfl, fun h0 => ⟨fun _ => h0, fun h => absurd h (by simp), fun h => absurd h (by decide)⟩⟩, fun q2 hq2 => ?_⟩
    · go_simp
    refine grow_f .f32 rfl ⟨_, _, fun u hu _ => (by go_simp; exact ⟨rfl, rfl⟩), _, fun u => fa_frr _ _ _ _ u, fun q3 hq3 => ?_⟩
    refine grow_f .f32 rfl ⟨_, _, fun u hu _ => (by go_simp; exact ⟨rfl, rfl⟩), _, fun u => fa_frr _ _ _ _ u, fun q4 hq4 => ?_⟩
    refine grow_cg 110 (fun v => toldK (keptV xs xs' n n' f3) v) (fun v wv => True) rfl ⟨#[.float .f32 q4], fun u => ?_, fun u hu _ => ?_, fun v u h => ⟨h.2.2 rfl, trivial⟩, fun v hv => ?_⟩
    · go_simp
    · refine (l03Number_any q4 u).mono fun e u' hT => ?_
      obtain ⟨r, rfl, hx, hr⟩ := toldP_fb hT (q := keptV xs xs' n n' f3) (by rw [hq4, hq3, hq1, hq2]; rfl)
      exact ⟨_, rfl, hx, ⟨fun h => absurd h (by simp), fun h => absurd h (by simp), fun _ => ⟨r, rfl, hr⟩⟩⟩
    obtain ⟨r, rfl, hr⟩ := hv
    iterate 4 (refine grow_q rfl ?_; apply Exists.intro; refine ⟨fun u hu _ => ?_, ?_⟩; focus (go_simp; rfl))
    refine grow_nil (fun w4 hw4 _ => ?_)
    have HXX := Lib.hid (HX.out.trans hw4)
    have HR := Lib.hid hr
    clear hw4 hr hq1 hq2 hq3 hq4
    go_simp
    go_wp2
    refine bodyPost_ret (v := .tuple #[.float .f32 r, .bool (keptV xs xs' n n' f3).2]) ?_ rfl ⟨r, by rw [HQ.out], HXX.out, by rw [HQ.out]; exact HR.out⟩
    simp only [results, Try.results48]
    go_simp

set_option maxRecDepth 100000 in
set_option maxHeartbeats 4000000 in
theorem implKept_any (W H : Int) (R : Bool) (a : Option Addr) (n c : Nat) (W' H' : Int) (R' : Bool) (a' : Option Addr) (n' c' : Nat) (f1 f2 f3 f4 f5 : Nat) (k : Int) (xs xs' : List Nat) (hz : xs.length = n) (hz' : xs'.length = n') (hn : n ≤ 1048576) (hn' : n' ≤ 1048576) (w : World) (hA : VArr w a (flts xs)) (hA' : VArr w a' (flts xs')) :
    Calls Try.prog 49 #[.agg #[.int .i64 W, .int .i64 H, .bool R, .slice a n c, .int .i64 W', .int .i64 H', .bool R', .slice a' n' c', .float .f32 f1, .float .f32 f2, .float .f32 f3, .float .f32 f4, .float .f32 f5, .int .i64 k]] w (fbP w (keptA (vldM W H R n W' H' R' n' xs xs' f1 f2 f3 f4 f5 k) xs xs' n n' f3)) := by
  have hX := (Ext.refl w).alloc (.cells #[.int .i64 W, .int .i64 H, .bool R, .slice a n c, .int .i64 W', .int .i64 H', .bool R', .slice a' n' c', .float .f32 f1, .float .f32 f2, .float .f32 f3, .float .f32 f4, .float .f32 f5, .int .i64 k] 62)
  have b0 := heap_new w (.cells #[.int .i64 W, .int .i64 H, .bool R, .slice a n c, .int .i64 W', .int .i64 H', .bool R', .slice a' n' c', .float .f32 f1, .float .f32 f2, .float .f32 f3, .float .f32 f4, .float .f32 f5, .int .i64 k] 62)
  have hA1 := hA.ext hX
  have hA1' := hA'.ext hX
  obtain ⟨⟨c0, c1, c2, c3, c4, c5, c6, c7, c8, c9, c10, c11, c12, c13⟩, _⟩ := block14 b0
  go_enter Try.func49, Try.ntmps49
  go_wp2_with fail
  clear c0 c1 c2 c3 c4 c5 c6 c7 c8 c9 c10 c11 c12 c13
  refine (implValidM_any W H R a n c W' H' R' a' n' c' f1 f2 f3 f4 f5 k xs xs' hz hz' hn hn' _ hA1 hA1').mono ?_
  generalize w.alloc (.cells #[.int .i64 W, .int .i64 H, .bool R, .slice a n c, .int .i64 W', .int .i64 H', .bool R', .slice a' n' c', .float .f32 f1, .float .f32 f2, .float .f32 f3, .float .f32 f4, .float .f32 f5, .int .i64 k] 62) = w0 at *
  generalize w.heap.size = p at *
  cases hc : vldM W H R n W' H' R' n' xs xs' f1 f2 f3 f4 f5 k with
  | false =>
    rintro e w1 ⟨rfl, hX1⟩
    have HQ : Hid (keptA (vldM W H R n W' H' R' n' xs xs' f1 f2 f3 f4 f5 k) xs xs' n n' f3 = (some 0, false)) := by show _ = _; rw [hc]; rfl
    have HX := Lib.hid (hX.trans hX1)
    clear hX hX1 b0 hc
    go_wp2
    refine bodyPost_ret (v := .tuple #[.float .f32 0, .bool false]) ?_ rfl ⟨0, by rw [HQ.out], HX.out, by rw [HQ.out]; exact fa_zero⟩
    simp only [results, Try.results49]
    go_simp
  | true =>
    have HQ : Hid (keptA (vldM W H R n W' H' R' n' xs xs' f1 f2 f3 f4 f5 k) xs xs' n n' f3 = keptV xs xs' n n' f3) := by show _ = _; rw [hc]; rfl
    have hvm := hc
    simp only [vldM, twoB, Bool.and_eq_true] at hvm
    have hvp := hvm.1.1.1.1
    have hvq := hvm.1.1.1.2
    have hn0 : 0 < n := by obtain ⟨q1, q2, e1, e2, i1, _, i3, _, e3, e4⟩ := vldF_facts hvp; rw [e3]; exact Nat.mul_pos (by omega) (by omega)
    have hn0' : 0 < n' := by obtain ⟨q1, q2, e1, e2, i1, _, i3, _, e3, e4⟩ := vldF_facts hvq; rw [e3]; exact Nat.mul_pos (by omega) (by omega)
    obtain ⟨b, o, rfl⟩ := hA.starts (i := 0) (by simp; omega)
    obtain ⟨b', o', rfl⟩ := hA'.starts (i := 0) (by simp; omega)
    rintro e w1 ⟨rfl, hX1⟩
    have HX := Lib.hid (hX.trans hX1)
    have HB := Lib.hid (hX1.block b0)
    have HA := Lib.hid (hA1.ext hX1)
    have HA' := Lib.hid (hA1'.ext hX1)
    have HZ := Lib.hid hz
    have HZ' := Lib.hid hz'
    have hF : Hid (FldAtO w1 p 0 W H R (some ⟨b, o, none⟩) n c) := ⟨block_cell HB.out 0, block_cell HB.out 1, block_cell HB.out 2, block_cell HB.out 3⟩
    have hF' : Hid (FldAtO w1 p 4 W' H' R' (some ⟨b', o', none⟩) n' c') := ⟨block_cell HB.out 4, block_cell HB.out 5, block_cell HB.out 6, block_cell HB.out 7⟩
    have HVM := Lib.hid hc
    clear hX hX1 b0 hA hA' hA1 hA1' hc hvm hvp hvq hz hz'
    go_wp2_with fail
    refine region_grow (C := Ext w1) (K := fun f args V _ => (∀ (X : Int) (Y : Int) (Z : Bool) (b1 o1 m c1 : Nat) (zs : List Nat), args = #[.agg #[.int .i64 X, .int .i64 Y, .bool Z, .slice (some ⟨b1, o1, none⟩) m c1]] → zs.length = m → VArr w1 (some ⟨b1, o1, none⟩) (flts zs) → ∃ r, V = .float .f32 r ∧ fa .f32 r = sumO zs m) ∧ (f = 109 → toldK (keptV xs xs' n n' f3) V)) ⟨fun _ _ h k => h.trans k, fun _ _ _ _ _ h _ => h⟩ (by kernel_rfl) (by kernel_rfl) ((Ext.refl w1).drew) ?_
    iterate 2 (refine grow_q rfl ?_; apply Exists.intro; refine ⟨fun u hu _ => ?_, ?_⟩; focus (obtain ⟨p0, p1, p2, p3⟩ := hF'.out.ext hu; go_simp; rfl))
    refine grow_cf 74 .f32 rfl ⟨#[.agg #[.int .i64 W', .int .i64 H', .bool R', .slice (some ⟨b', o', none⟩) n' c']], fun u => ?_, _, fun u hu _ => fieldSum_any W' H' R' b' o' n' c' xs' HZ'.out (by omega) u (HA'.out.ext hu), fun V u => ⟨fun h => h.1 _ _ _ _ _ _ _ xs' rfl HZ'.out HA'.out, fun h0 => ⟨fun X Y Z b1 o1 m c1 zs he hl hv => ?_, fun h => absurd h (by decide)⟩⟩, fun q1 hq1 => ?_⟩
    · go_simp
    · simp only [Array.mk.injEq, List.cons.injEq, Value.agg.injEq, Value.int.injEq, Value.bool.injEq, Value.slice.injEq, Option.some.injEq, Addr.mk.injEq, true_and, and_true] at he
      obtain ⟨rfl, rfl, rfl, ⟨rfl, rfl⟩, rfl, rfl⟩ := he
      rw [flts_inj (VArr.unique (by simp [hl, HZ'.out]) hv HA'.out)]
      exact h0
    iterate 2 (refine grow_q rfl ?_; apply Exists.intro; refine ⟨fun u hu _ => ?_, ?_⟩; focus (have c10 := block_cell (hu.block HB.out) 10; go_simp; rfl))
    iterate 2 (refine grow_q rfl ?_; apply Exists.intro; refine ⟨fun u hu _ => ?_, ?_⟩; focus (obtain ⟨p0, p1, p2, p3⟩ := hF.out.ext hu; go_simp; rfl))
    refine grow_cf 74 .f32 rfl ⟨#[.agg #[.int .i64 W, .int .i64 H, .bool R, .slice (some ⟨b, o, none⟩) n c]], fun u => ?_, _, fun u hu _ => fieldSum_any W H R b o n c xs HZ.out (by omega) u (HA.out.ext hu), fun V u => ⟨fun h => h.1 _ _ _ _ _ _ _ xs rfl HZ.out HA.out, fun h0 => ⟨fun X Y Z b1 o1 m c1 zs he hl hv => ?_, fun h => absurd h (by decide)⟩⟩, fun q2 hq2 => ?_⟩
    · go_simp
    · simp only [Array.mk.injEq, List.cons.injEq, Value.agg.injEq, Value.int.injEq, Value.bool.injEq, Value.slice.injEq, Option.some.injEq, Addr.mk.injEq, true_and, and_true] at he
      obtain ⟨rfl, rfl, rfl, ⟨rfl, rfl⟩, rfl, rfl⟩ := he
      rw [flts_inj (VArr.unique (by simp [hl, HZ.out]) hv HA.out)]
      exact h0
    refine grow_f .f32 rfl ⟨_, _, fun u hu _ => (by go_simp; exact ⟨rfl, rfl⟩), _, fun u => fa_frr _ _ _ _ u, fun q3 hq3 => ?_⟩
    refine grow_f .f32 rfl ⟨_, _, fun u hu _ => (by go_simp; exact ⟨rfl, rfl⟩), _, fun u => fa_frr _ _ _ _ u, fun q4 hq4 => ?_⟩
    refine grow_cg 109 (fun v => toldK (keptV xs xs' n n' f3) v) (fun v wv => True) rfl ⟨#[.float .f32 q4], fun u => ?_, fun u hu _ => ?_, fun v u h => ⟨h.2 rfl, trivial⟩, fun v hv => ?_⟩
    · go_simp
    · refine (told_any q4 u).mono fun e u' hT => ?_
      obtain ⟨r, rfl, hx, hr⟩ := toldP_fb hT (q := keptV xs xs' n n' f3) (by rw [hq4, hq3, hq1, hq2]; rfl)
      exact ⟨_, rfl, hx, ⟨fun X Y Z b1 o1 m c1 zs he => by simp at he, fun _ => ⟨r, rfl, hr⟩⟩⟩
    obtain ⟨r, rfl, hr⟩ := hv
    iterate 4 (refine grow_q rfl ?_; apply Exists.intro; refine ⟨fun u hu _ => ?_, ?_⟩; focus (go_simp; rfl))
    refine grow_nil (fun w4 hw4 _ => ?_)
    have HXX := Lib.hid (HX.out.trans hw4)
    have HR := Lib.hid hr
    clear hw4 hr hq1 hq2 hq3 hq4
    go_simp
    go_wp2
    refine bodyPost_ret (v := .tuple #[.float .f32 r, .bool (keptV xs xs' n n' f3).2]) ?_ rfl ⟨r, by rw [HQ.out], HXX.out, by rw [HQ.out]; exact HR.out⟩
    simp only [results, Try.results49]
    go_simp

end Go.Proofs.Ytajfpjggdbifjaa
