/-
  DriveAt by both. (Printed by gen_melt.py.)
-/
import Derived.Test.YtajfpjggdbifjaaMeU
namespace Go.Proofs.Ytajfpjggdbifjaa
open Go.RowKit
set_option linter.unusedVariables false
set_option linter.unusedSimpArgs false
set_option linter.unnecessarySimpa false

@[go_sem] theorem unary_negf (k : FloatKind) (b : Nat) : Op.unary .neg (.float k b) = pure (.float k (Op.negFloat k b)) := rfl
/-- What heat does to a phase. -/
def driveU (h f4 : Nat) : Option Nat := fop .mul .f32 (fa .f32 f4) (fa .f32 (Op.negFloat .f32 h))
def driveV (h f4 : Nat) : Option Nat := fop .mul .f32 (fa .f32 1055286886) (fop .quo .f32 (driveU h f4) (fop .add .f32 (fa .f32 1065353216) (absO (driveU h f4))))
/-- A number is told under a condition. -/
def tellA (c : Bool) (X : Option Nat) : Option Nat × Bool := if c then toldO X else (some 0, false)
def driveA (vm : Bool) (W H W' H' : Int) (R' : Bool) (xs' : List Nat) (f4 : Nat) (x y : Int) : Option Nat × Bool := tellA (isC vm W H x y) (driveV (aboutB W' H' R' xs' x y) f4)
theorem one_num : fa .f32 1065353216 = some 1065353216 := fa_num (by decide)
theorem u_lt {u h f4 : Nat} (h1 : fa .f32 u = driveU h f4) (hn : isN .f32 u = false) : u < 4294967296 := by
  rw [fa_num hn] at h1
  unfold driveU fop at h1
  split at h1
  · have := floatBits_wf h1.symm
    simpa [Lit.wf] using this
  · cases h1

set_option maxRecDepth 100000 in
set_option maxHeartbeats 4000000 in
theorem l03Drive_any (p : Nat) (W H : Int) (R : Bool) (a : Option Addr) (n c : Nat) (W' H' : Int) (R' : Bool) (a' : Option Addr) (n' c' : Nat) (f1 f2 f3 f4 f5 : Nat) (k : Int) (x y : Int) (xs' : List Nat) (hz' : xs'.length = n') (hv' : vldF W' H' n' = true) (w : World) (hp : w.heap[p]? = some (.cells #[.int .i64 W, .int .i64 H, .bool R, .slice a n c, .int .i64 W', .int .i64 H', .bool R', .slice a' n' c', .float .f32 f1, .float .f32 f2, .float .f32 f3, .float .f32 f4, .float .f32 f5, .int .i64 k] 62 (0, 0))) (b' o' : Nat) (ha' : a' = some ⟨b', o', none⟩) (hA' : VArr w a' (flts xs')) :
    Calls Try.prog 117 #[.pointer (some ⟨p, 0, none⟩), .int .i64 x, .int .i64 y] w fun e w' => ∃ r, e = .returned (.float .f32 r) ∧ fa .f32 r = driveV (aboutB W' H' R' xs' x y) f4 ∧ Ext w w' := by
  subst ha'
  have HB := Lib.hid hp
  have HA := Lib.hid hA'
  have HZ := Lib.hid hz'
  have HV := Lib.hid hv'
  have hF : Hid (FldAtO w p 4 W' H' R' (some ⟨b', o', none⟩) n' c') := ⟨block_cell hp 4, block_cell hp 5, block_cell hp 6, block_cell hp 7⟩
  clear hp hA' hz' hv'
  have HU : Hid (driveU (aboutB W' H' R' xs' x y) f4 = fop .mul .f32 (fa .f32 f4) (fa .f32 (Op.negFloat .f32 (aboutB W' H' R' xs' x y)))) := by show _ = _; rfl
  have HD : Hid (driveV (aboutB W' H' R' xs' x y) f4 = fop .mul .f32 (fa .f32 1055286886) (fop .quo .f32 (driveU (aboutB W' H' R' xs' x y) f4) (fop .add .f32 (fa .f32 1065353216) (absO (driveU (aboutB W' H' R' xs' x y) f4))))) := by show _ = _; rfl
  go_enter Try.func117, Try.ntmps117
  go_wp2_with fail
  refine region_grow (C := Ext w) (K := fun f args V _ => V = .float .f32 (aboutB W' H' R' xs' x y)) ⟨fun _ _ h k => h.trans k, fun _ _ _ _ _ h _ => h⟩ (by kernel_rfl) (by kernel_rfl) ((Ext.refl w).drew) ?_
  iterate 9 (refine grow_q rfl ?_; apply Exists.intro; refine ⟨fun u hu _ => ?_, ?_⟩; focus (have c11 := block_cell (hu.block HB.out) 11; go_simp; rfl))
  refine grow_c1 157 rfl ⟨#[.pointer (some ⟨p, 4, none⟩), .int .i64 x, .int .i64 y], fun u => ?_, _, fun u hu _ => l02AtO_any p 4 W' H' x y R' b' o' n' c' xs' HZ.out HV.out u (hF.out.ext hu) (HA.out.ext hu), fun V u h => h, fun u => rfl, ?_⟩
  · go_simp
  iterate 1 (refine grow_q rfl ?_; apply Exists.intro; refine ⟨fun u hu _ => ?_, ?_⟩; focus (go_simp; rfl))
  refine grow_f .f32 rfl ⟨_, _, fun u hu _ => (by go_simp; exact ⟨rfl, rfl⟩), _, fun u => fa_frr _ _ _ _ u, fun u0 hu0 => ?_⟩
  iterate 1 (refine grow_q rfl ?_; apply Exists.intro; refine ⟨fun u hu _ => ?_, ?_⟩; focus (go_simp; rfl))
  refine grow_nil (fun w4 hw4 _ => ?_)
  have hlt := u_lt (hu0.trans HU.out.symm)
  have hfu := hu0.trans HU.out.symm
  have hsz := add_size (u := u0) hlt
  have HE := Lib.hid hw4
  have HFU := Lib.hid hfu
  clear hw4 hu0 hlt hfu
  go_simp
  cases ho : (FloatKind.f32.format.order u0 0 == some .lt) with
  | true =>
    rw [ho] at hsz
    simp only [if_true] at hsz
    have HS := Lib.hid hsz
    clear hsz
    go_wp2
    go_ret
    exact ⟨_, rfl, by simp only [fa_frr]; rw [HD.out, one_num, HS.out, HFU.out], HE.out.drewN _⟩
  | false =>
    rw [ho] at hsz
    simp only [Bool.false_eq_true, if_false] at hsz
    have HS := Lib.hid hsz
    clear hsz
    go_wp2
    go_ret
    exact ⟨_, rfl, by simp only [fa_frr]; rw [HD.out, one_num, HS.out, HFU.out], HE.out.drewN _⟩

set_option maxRecDepth 100000 in
set_option maxHeartbeats 4000000 in
theorem drive_any (W H : Int) (R : Bool) (a : Option Addr) (n c : Nat) (W' H' : Int) (R' : Bool) (a' : Option Addr) (n' c' : Nat) (f1 f2 f3 f4 f5 : Nat) (k : Int) (x y : Int) (xs' : List Nat) (hz' : xs'.length = n') (hv' : vldF W' H' n' = true) (x0 : 0 ≤ x) (x1 : x < W') (y0 : 0 ≤ y) (y1 : y < H') (w : World) (b' o' : Nat) (ha' : a' = some ⟨b', o', none⟩) (hA' : VArr w a' (flts xs')) :
    Calls Try.prog 119 #[.agg #[.int .i64 W, .int .i64 H, .bool R, .slice a n c, .int .i64 W', .int .i64 H', .bool R', .slice a' n' c', .float .f32 f1, .float .f32 f2, .float .f32 f3, .float .f32 f4, .float .f32 f5, .int .i64 k], .int .i64 x, .int .i64 y] w fun e w' => ∃ r, e = .returned (.float .f32 r) ∧ fa .f32 r = driveV (aboutB W' H' R' xs' x y) f4 ∧ Ext w w' := by
  subst ha'
  have hX := (Ext.refl w).alloc (.cells #[.int .i64 W, .int .i64 H, .bool R, .slice a n c, .int .i64 W', .int .i64 H', .bool R', .slice (some ⟨b', o', none⟩) n' c', .float .f32 f1, .float .f32 f2, .float .f32 f3, .float .f32 f4, .float .f32 f5, .int .i64 k] 62)
  have b0 := heap_new w (.cells #[.int .i64 W, .int .i64 H, .bool R, .slice a n c, .int .i64 W', .int .i64 H', .bool R', .slice (some ⟨b', o', none⟩) n' c', .float .f32 f1, .float .f32 f2, .float .f32 f3, .float .f32 f4, .float .f32 f5, .int .i64 k] 62)
  have HA := Lib.hid (hA'.ext hX)
  have HZ := Lib.hid hz'
  have HV := Lib.hid hv'
  have HX := Lib.hid hX
  have hF : Hid (FldAtO (w.alloc (.cells #[.int .i64 W, .int .i64 H, .bool R, .slice a n c, .int .i64 W', .int .i64 H', .bool R', .slice (some ⟨b', o', none⟩) n' c', .float .f32 f1, .float .f32 f2, .float .f32 f3, .float .f32 f4, .float .f32 f5, .int .i64 k] 62)) w.heap.size 4 W' H' R' (some ⟨b', o', none⟩) n' c') := ⟨block_cell b0 4, block_cell b0 5, block_cell b0 6, block_cell b0 7⟩
  have HU : Hid (driveU (aboutB W' H' R' xs' x y) f4 = fop .mul .f32 (fa .f32 f4) (fa .f32 (Op.negFloat .f32 (aboutB W' H' R' xs' x y)))) := by show _ = _; rfl
  have HD : Hid (driveV (aboutB W' H' R' xs' x y) f4 = fop .mul .f32 (fa .f32 1055286886) (fop .quo .f32 (driveU (aboutB W' H' R' xs' x y) f4) (fop .add .f32 (fa .f32 1065353216) (absO (driveU (aboutB W' H' R' xs' x y) f4))))) := by show _ = _; rfl
  have HB := Lib.hid b0
  clear hA' hz' hv' hX b0
  go_enter Try.func119, Try.ntmps119
  go_wp2_with fail
  generalize w.alloc (.cells #[.int .i64 W, .int .i64 H, .bool R, .slice a n c, .int .i64 W', .int .i64 H', .bool R', .slice (some ⟨b', o', none⟩) n' c', .float .f32 f1, .float .f32 f2, .float .f32 f3, .float .f32 f4, .float .f32 f5, .int .i64 k] 62) = w0 at *
  generalize w.heap.size = p at *
  refine region_grow (C := Ext w0) (K := fun f args V _ => V = .float .f32 (aboutB W' H' R' xs' x y)) ⟨fun _ _ h k => h.trans k, fun _ _ _ _ _ h _ => h⟩ (by kernel_rfl) (by kernel_rfl) ((Ext.refl w0).drew) ?_
  iterate 6 (refine grow_q rfl ?_; apply Exists.intro; refine ⟨fun u hu _ => ?_, ?_⟩; focus (have c11 := block_cell (hu.block HB.out) 11; obtain ⟨p0, p1, p2, p3⟩ := hF.out.ext hu; go_simp; rfl))
  refine grow_c1 72 rfl ⟨#[.agg #[.int .i64 W', .int .i64 H', .bool R', .slice (some ⟨b', o', none⟩) n' c'], .int .i64 x, .int .i64 y], fun u => ?_, _, fun u hu _ => atF_any W' H' x y R' b' o' n' c' xs' HZ.out HV.out u (HA.out.ext hu) x0 x1 y0 y1, fun V u h => h, fun u => rfl, ?_⟩
  · go_simp
  iterate 1 (refine grow_q rfl ?_; apply Exists.intro; refine ⟨fun u hu _ => ?_, ?_⟩; focus (go_simp; rfl))
  refine grow_f .f32 rfl ⟨_, _, fun u hu _ => (by go_simp; exact ⟨rfl, rfl⟩), _, fun u => fa_frr _ _ _ _ u, fun u0 hu0 => ?_⟩
  iterate 1 (refine grow_q rfl ?_; apply Exists.intro; refine ⟨fun u hu _ => ?_, ?_⟩; focus (go_simp; rfl))
  refine grow_nil (fun w4 hw4 _ => ?_)
  have HFU := Lib.hid (hu0.trans HU.out.symm)
  have HE := Lib.hid (HX.out.trans hw4)
  clear hw4 hu0
  go_simp
  go_wp2_with fail
  refine (absolute_any u0 _).mono ?_
  rintro e w5 ⟨r, rfl, hr, hX5⟩
  have HR := Lib.hid hr
  have HE5 := Lib.hid (HE.out.trans hX5)
  clear hr hX5
  go_wp2
  go_ret
  exact ⟨_, rfl, by simp only [fa_frr]; rw [HD.out, HR.out, HFU.out], HE5.out.drewN _⟩

set_option maxRecDepth 100000 in
set_option maxHeartbeats 4000000 in
theorem specDrive_any (W H : Int) (R : Bool) (a : Option Addr) (n c : Nat) (W' H' : Int) (R' : Bool) (a' : Option Addr) (n' c' : Nat) (f1 f2 f3 f4 f5 : Nat) (k : Int) (x y : Int) (xs xs' : List Nat) (hz : xs.length = n) (hz' : xs'.length = n') (hn : n ≤ 1048576) (hn' : n' ≤ 1048576) (w : World) (hA : VArr w a (flts xs)) (hA' : VArr w a' (flts xs')) :
    Calls Try.prog 54 #[.agg #[.int .i64 W, .int .i64 H, .bool R, .slice a n c, .int .i64 W', .int .i64 H', .bool R', .slice a' n' c', .float .f32 f1, .float .f32 f2, .float .f32 f3, .float .f32 f4, .float .f32 f5, .int .i64 k], .int .i64 x, .int .i64 y] w (fbP w (driveA (vldM W H R n W' H' R' n' xs xs' f1 f2 f3 f4 f5 k) W H W' H' R' xs' f4 x y)) := by
  have hX := (Ext.refl w).alloc (.cells #[.int .i64 W, .int .i64 H, .bool R, .slice a n c, .int .i64 W', .int .i64 H', .bool R', .slice a' n' c', .float .f32 f1, .float .f32 f2, .float .f32 f3, .float .f32 f4, .float .f32 f5, .int .i64 k] 62)
  have b0 := heap_new w (.cells #[.int .i64 W, .int .i64 H, .bool R, .slice a n c, .int .i64 W', .int .i64 H', .bool R', .slice a' n' c', .float .f32 f1, .float .f32 f2, .float .f32 f3, .float .f32 f4, .float .f32 f5, .int .i64 k] 62)
  have hA1 := hA.ext hX
  have hA1' := hA'.ext hX
  go_enter Try.func54, Try.ntmps54
  go_wp2_with fail
  refine (l03Cell_any _ W H R a n c W' H' R' a' n' c' f1 f2 f3 f4 f5 k x y xs xs' hz hz' hn hn' _ b0 hA1 hA1').mono ?_
  generalize w.alloc (.cells #[.int .i64 W, .int .i64 H, .bool R, .slice a n c, .int .i64 W', .int .i64 H', .bool R', .slice a' n' c', .float .f32 f1, .float .f32 f2, .float .f32 f3, .float .f32 f4, .float .f32 f5, .int .i64 k] 62) = w0 at *
  generalize w.heap.size = p at *
  cases hc : isC (vldM W H R n W' H' R' n' xs xs' f1 f2 f3 f4 f5 k) W H x y with
  | false =>
    rintro e w1 ⟨rfl, hX1⟩
    have HQ : Hid (driveA (vldM W H R n W' H' R' n' xs xs' f1 f2 f3 f4 f5 k) W H W' H' R' xs' f4 x y = (some 0, false)) := by show _ = _; simp [driveA, tellA, hc]
    have HX := Lib.hid (hX.trans hX1)
    clear hX hX1 b0 hc
    go_wp2
    refine bodyPost_ret (v := .tuple #[.float .f32 0, .bool false]) ?_ rfl ⟨0, by rw [HQ.out], HX.out, by rw [HQ.out]; exact fa_zero⟩
    simp only [results, Try.results54]
    go_simp
  | true =>
    have HQ : Hid (driveA (vldM W H R n W' H' R' n' xs xs' f1 f2 f3 f4 f5 k) W H W' H' R' xs' f4 x y = toldO (driveV (aboutB W' H' R' xs' x y) f4)) := by show _ = _; simp [driveA, tellA, hc]
    simp only [isC, Bool.and_eq_true] at hc
    have hvm := hc.1
    simp only [vldM, twoB, Bool.and_eq_true] at hvm
    have hvq := hvm.1.1.1.2
    have hn0' : 0 < n' := by obtain ⟨q1, q2, e1, e2, i1, _, i3, _, e3, e4⟩ := vldF_facts hvq; rw [e3]; exact Nat.mul_pos (by omega) (by omega)
    obtain ⟨b', o', rfl⟩ := hA'.starts (i := 0) (by simp; omega)
    rintro e w1 ⟨rfl, hX1⟩
    have HX := Lib.hid (hX.trans hX1)
    go_wp2_with fail
    refine (l03Drive_any p W H R a n c W' H' R' _ n' c' f1 f2 f3 f4 f5 k x y xs' hz' hvq _ (hX1.block b0) b' o' rfl (hA1'.ext hX1)).mono ?_
    rintro e w2 ⟨r, rfl, hr, hX2⟩
    have HXX := Lib.hid (HX.out.trans hX2)
    have HR := Lib.hid hr
    clear hX hX1 hX2 b0 hc hvm hvq hr
    go_wp2_with fail
    refine (l03Number_any r _).mono ?_
    intro e w3 hT
    obtain ⟨r2, rfl, hX3, hr2⟩ := toldP_fb hT (q := toldO (driveV (aboutB W' H' R' xs' x y) f4)) (by rw [HR.out])
    have HX3 := Lib.hid (HXX.out.trans hX3)
    have HR2 := Lib.hid hr2
    clear hT hX3 hr2
    go_wp2
    refine bodyPost_ret (v := .tuple #[.float .f32 r2, .bool (toldO (driveV (aboutB W' H' R' xs' x y) f4)).2]) ?_ rfl ⟨r2, by rw [HQ.out], HX3.out, by rw [HQ.out]; exact HR2.out⟩
    simp only [results, Try.results54]
    go_simp

set_option maxRecDepth 100000 in
set_option maxHeartbeats 4000000 in
theorem toldAt_any (W H : Int) (R : Bool) (a : Option Addr) (n c : Nat) (W' H' : Int) (R' : Bool) (a' : Option Addr) (n' c' : Nat) (f1 f2 f3 f4 f5 : Nat) (k : Int) (x y : Int) (F : FuncId) (first : Array Value) (X : Option Nat) (xs xs' : List Nat) (hz : xs.length = n) (hz' : xs'.length = n') (hn : n ≤ 1048576) (hn' : n' ≤ 1048576) (w : World) (hA : VArr w a (flts xs)) (hA' : VArr w a' (flts xs')) (hcall : ∀ args u, Sem.run Try.prog (callFunc F args) u = .ok (.enter F args) u)
    (hF : isC (vldM W H R n W' H' R' n' xs xs' f1 f2 f3 f4 f5 k) W H x y = true → ∀ u, Ext w u → Calls Try.prog F (first ++ #[.int .i64 x, .int .i64 y]) u fun e u' => ∃ r, e = .returned (.float .f32 r) ∧ fa .f32 r = X ∧ Ext u u') :
    Calls Try.prog 118 #[.agg #[.int .i64 W, .int .i64 H, .bool R, .slice a n c, .int .i64 W', .int .i64 H', .bool R', .slice a' n' c', .float .f32 f1, .float .f32 f2, .float .f32 f3, .float .f32 f4, .float .f32 f5, .int .i64 k], .int .i64 x, .int .i64 y, .func (.func F) first #[]] w (fbP w (tellA (isC (vldM W H R n W' H' R' n' xs xs' f1 f2 f3 f4 f5 k) W H x y) X)) := by
  have hX := (Ext.refl w).alloc (.cells #[.int .i64 W, .int .i64 H, .bool R, .slice a n c, .int .i64 W', .int .i64 H', .bool R', .slice a' n' c', .float .f32 f1, .float .f32 f2, .float .f32 f3, .float .f32 f4, .float .f32 f5, .int .i64 k] 62)
  have b0 := heap_new w (.cells #[.int .i64 W, .int .i64 H, .bool R, .slice a n c, .int .i64 W', .int .i64 H', .bool R', .slice a' n' c', .float .f32 f1, .float .f32 f2, .float .f32 f3, .float .f32 f4, .float .f32 f5, .int .i64 k] 62)
  have hA1 := hA.ext hX
  have hA1' := hA'.ext hX
  have HF := Lib.hid hF
  clear hF
  obtain ⟨⟨c0, c1, c2, c3, c4, c5, c6, c7, c8, c9, c10, c11, c12, c13⟩, _⟩ := block14 b0
  go_enter Try.func118, Try.ntmps118
  go_wp2_with fail
  clear c0 c1 c2 c3 c4 c5 c6 c7 c8 c9 c10 c11 c12 c13
  refine (isCell_any W H R a n c W' H' R' a' n' c' f1 f2 f3 f4 f5 k x y xs xs' hz hz' hn hn' _ hA1 hA1').mono ?_
  generalize w.alloc (.cells #[.int .i64 W, .int .i64 H, .bool R, .slice a n c, .int .i64 W', .int .i64 H', .bool R', .slice a' n' c', .float .f32 f1, .float .f32 f2, .float .f32 f3, .float .f32 f4, .float .f32 f5, .int .i64 k] 62) = w0 at *
  generalize w.heap.size = p at *
  cases hc : isC (vldM W H R n W' H' R' n' xs xs' f1 f2 f3 f4 f5 k) W H x y with
  | false =>
    rintro e w1 ⟨rfl, hX1⟩
    have HX := Lib.hid (hX.trans hX1)
    have HC := Lib.hid hc
    clear hX hX1 b0 hc
    go_wp2
    refine bodyPost_ret (v := .tuple #[.float .f32 0, .bool false]) ?_ rfl ⟨0, by rw [HC.out]; rfl, HX.out, by rw [HC.out]; exact fa_zero⟩
    simp only [results, Try.results118]
    go_simp
  | true =>
    rintro e w1 ⟨rfl, hX1⟩
    have HX := Lib.hid (hX.trans hX1)
    have HC := Lib.hid hc
    clear hX hX1 b0 hc
    go_wp2_with fail
    refine (HF.out HC.out _ HX.out).mono ?_
    rintro e w2 ⟨r, rfl, hr, hX2⟩
    have HXX := Lib.hid (HX.out.trans hX2)
    have HR := Lib.hid hr
    clear hX2 hr
    go_wp2_with fail
    refine (told_any r _).mono ?_
    intro e w3 hT
    obtain ⟨r2, rfl, hX3, hr2⟩ := toldP_fb hT (q := toldO X) (by rw [HR.out])
    have HX3 := Lib.hid (HXX.out.trans hX3)
    have HR2 := Lib.hid hr2
    clear hT hX3 hr2
    go_wp2
    refine bodyPost_ret (v := .tuple #[.float .f32 r2, .bool (toldO X).2]) ?_ rfl ⟨r2, by rw [HC.out]; rfl, HX3.out, by rw [HC.out]; exact HR2.out⟩
    simp only [results, Try.results118]
    go_simp

set_option maxRecDepth 100000 in
set_option maxHeartbeats 4000000 in
theorem implDrive_any (W H : Int) (R : Bool) (a : Option Addr) (n c : Nat) (W' H' : Int) (R' : Bool) (a' : Option Addr) (n' c' : Nat) (f1 f2 f3 f4 f5 : Nat) (k : Int) (x y : Int) (xs xs' : List Nat) (hz : xs.length = n) (hz' : xs'.length = n') (hn : n ≤ 1048576) (hn' : n' ≤ 1048576) (w : World) (hA : VArr w a (flts xs)) (hA' : VArr w a' (flts xs')) :
    Calls Try.prog 55 #[.agg #[.int .i64 W, .int .i64 H, .bool R, .slice a n c, .int .i64 W', .int .i64 H', .bool R', .slice a' n' c', .float .f32 f1, .float .f32 f2, .float .f32 f3, .float .f32 f4, .float .f32 f5, .int .i64 k], .int .i64 x, .int .i64 y] w (fbP w (driveA (vldM W H R n W' H' R' n' xs xs' f1 f2 f3 f4 f5 k) W H W' H' R' xs' f4 x y)) := by
  have hX := (Ext.refl w).alloc (.cells #[.int .i64 W, .int .i64 H, .bool R, .slice a n c, .int .i64 W', .int .i64 H', .bool R', .slice a' n' c', .float .f32 f1, .float .f32 f2, .float .f32 f3, .float .f32 f4, .float .f32 f5, .int .i64 k] 62)
  have b0 := heap_new w (.cells #[.int .i64 W, .int .i64 H, .bool R, .slice a n c, .int .i64 W', .int .i64 H', .bool R', .slice a' n' c', .float .f32 f1, .float .f32 f2, .float .f32 f3, .float .f32 f4, .float .f32 f5, .int .i64 k] 62)
  have hA1 := hA.ext hX
  have hA1' := hA'.ext hX
  obtain ⟨⟨c0, c1, c2, c3, c4, c5, c6, c7, c8, c9, c10, c11, c12, c13⟩, _⟩ := block14 b0
  go_enter Try.func55, Try.ntmps55
  go_wp2_with fail
  clear c0 c1 c2 c3 c4 c5 c6 c7 c8 c9 c10 c11 c12 c13
  refine (toldAt_any W H R a n c W' H' R' a' n' c' f1 f2 f3 f4 f5 k x y 119 #[.agg #[.int .i64 W, .int .i64 H, .bool R, .slice a n c, .int .i64 W', .int .i64 H', .bool R', .slice a' n' c', .float .f32 f1, .float .f32 f2, .float .f32 f3, .float .f32 f4, .float .f32 f5, .int .i64 k]] (driveV (aboutB W' H' R' xs' x y) f4) xs xs' hz hz' hn hn' _ hA1 hA1' (fun args u => by go_simp) (fun hc u hu => ?_)).mono ?_
  · simp only [isC, Bool.and_eq_true] at hc
    have hvm := hc.1
    simp only [vldM, twoB, Bool.and_eq_true] at hvm
    have hvq := hvm.1.1.1.2
    obtain ⟨e1, e2, e3⟩ := alikeB_iff.1 hvm.1.1.2
    have hx := inB_iff.1 hc.2.1
    have hy := inB_iff.1 hc.2.2
    have hn0' : 0 < n' := by obtain ⟨q1, q2, e1, e2, i1, _, i3, _, e3, e4⟩ := vldF_facts hvq; rw [e3]; exact Nat.mul_pos (by omega) (by omega)
    obtain ⟨b', o', rfl⟩ := hA'.starts (i := 0) (by simp; omega)
    exact drive_any W H R a n c W' H' R' _ n' c' f1 f2 f3 f4 f5 k x y xs' hz' hvq hx.1 (by omega) hy.1 (by omega) u b' o' rfl (hA1'.ext hu)
  rintro e w1 ⟨r, rfl, hX1, hr⟩
  have HX := Lib.hid (hX.trans hX1)
  have HR := Lib.hid hr
  clear hX hX1 b0 hr hA1 hA1'
  have HQ : Hid (driveA (vldM W H R n W' H' R' n' xs xs' f1 f2 f3 f4 f5 k) W H W' H' R' xs' f4 x y = tellA (isC (vldM W H R n W' H' R' n' xs xs' f1 f2 f3 f4 f5 k) W H x y) (driveV (aboutB W' H' R' xs' x y) f4)) := by show _ = _; rfl
  rw [← HQ.out] at HR ⊢
  generalize hq : driveA (vldM W H R n W' H' R' n' xs xs' f1 f2 f3 f4 f5 k) W H W' H' R' xs' f4 x y = q at *
  go_wp2
  refine bodyPost_ret (v := .tuple #[.float .f32 r, .bool q.2]) ?_ rfl ⟨r, rfl, HX.out, HR.out⟩
  simp only [results, Try.results55]
  go_simp
end Go.Proofs.Ytajfpjggdbifjaa
