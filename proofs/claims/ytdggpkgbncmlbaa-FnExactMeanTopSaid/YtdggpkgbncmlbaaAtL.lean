/-
  MeanTop, by the program and by the reference.
-/
import Derived.Test.YtdggpkgbncmlbaaAtA
import Derived.Test.YtdggpkgbncmlbaaFlts
namespace Go.Proofs.Ytdggpkgbncmlbaa
open Go.RowKit
set_option linter.unusedVariables false
set_option linter.unusedSimpArgs false
set_option linter.unnecessarySimpa false

def meanQ (zs : List Int) : Option Nat := fop .quo .f32 (fa .f32 (floatOfInt .f32 (sumTo zs zs.length))) (fa .f32 (floatOfInt .f32 zs.length))
def meanR (W H : Int) (zs : List Int) : Option Nat := if vldH W H zs = true then meanQ zs else fa .f32 0
theorem meanR_no {W H : Int} {zs : List Int} (h : vldH W H zs = false) : meanR W H zs = fa .f32 0 := by simp [meanR, h]
theorem meanR_yes {W H : Int} {zs : List Int} (h : vldH W H zs = true) : meanR W H zs = meanQ zs := by simp [meanR, h]

set_option maxRecDepth 100000 in
theorem specMean_any (W H : Int) (a : Option Addr) (n c : Nat) (zs : List Int) (hz : zs.length = n) (hn : n ≤ 1048576) (w : World) (hA : VArr w a (ints zs)) :
    Calls Try.prog 34 #[.agg #[.int .i64 W, .int .i64 H, .slice a n c]] w fun e w' => ∃ fr, e = .returned (.tuple #[.float .f32 fr, .bool (vldH W H zs)]) ∧ Ext w w' ∧ fa .f32 fr = meanR W H zs := by
  have hX := (Ext.refl w).alloc (.cells #[.int .i64 W, .int .i64 H, .slice a n c] 33)
  have b0 := heap_new w (.cells #[.int .i64 W, .int .i64 H, .slice a n c] 33)
  have hA1 := hA.ext hX
  go_enter Try.func34, Try.ntmps34
  go_wp2_with fail
  refine (l05Is_any _ W H a n c zs hz (by omega) _ (block3 b0).1 hA1).mono ?_
  generalize w.alloc (.cells #[.int .i64 W, .int .i64 H, .slice a n c] 33) = w0 at *
  generalize w.heap.size = p at *
  rintro e w1 ⟨rfl, hX1⟩
  cases hv : vldH W H zs with
  | false =>
    have HV := Lib.hid hv
    have HE := Lib.hid (hX.trans hX1)
    clear hX hX1 b0 hA hA1 hv
    go_wp2
    go_ret2
    exact ⟨0, by rw [HV.out]; rfl, HE.out, by rw [meanR_no HV.out]⟩
  | true =>
    have HV := Lib.hid hv
    have HE := Lib.hid (hX.trans hX1)
    have HB := Lib.hid (hX1.block b0)
    have HA := Lib.hid (hA1.ext hX1)
    have HZ := Lib.hid hz
    have HC := Lib.hid (fun w' (h : Ext w1 w') => l05Atoms_any p W H a n c zs hz hv w' (block3 (h.block HB.out)).1 (HA.out.ext h))
    have HQ : Hid (meanQ zs = fop .quo .f32 (fa .f32 (floatOfInt .f32 (sumTo zs n))) (fa .f32 (floatOfInt .f32 n))) := by show _ = _; unfold meanQ; rw [hz]
    clear hX hX1 b0 hA hA1 hv hz
    generalize sumTo zs n = s at *
    go_wp2_with fail
    refine region_grow (C := Ext w1) (K := fun _ _ V _ => V = .int .i64 s) ⟨fun _ _ h k => h.trans k, fun _ _ _ _ _ h _ => h⟩ (by kernel_rfl) (by kernel_rfl) ((Ext.refl w1).drew) ?_
    refine grow_c1 73 rfl ⟨#[.pointer (some ⟨p, 0, none⟩)], fun u => ?_, _, fun u hu _ => HC.out u hu, fun V u h => h, fun u => rfl, ?_⟩
    · go_simp
    iterate 5 (refine grow_q rfl ?_; apply Exists.intro; refine ⟨fun u hu _ => ?_, ?_⟩; focus (obtain ⟨⟨c0, c1, c2⟩, _⟩ := block3 (hu.block HB.out); go_simp; rfl))
    refine grow_f .f32 rfl ⟨_, _, fun u hu _ => (by go_simp; exact ⟨rfl, rfl⟩), _, fun u => fa_frr _ _ _ _ u, fun r hr => ?_⟩
    iterate 2 (refine grow_q rfl ?_; apply Exists.intro; refine ⟨fun u hu _ => ?_, ?_⟩; focus (go_simp; rfl))
    refine grow_nil (fun w2 hw _ => ?_)
    have HR := Lib.hid hr
    clear hr
    go_simp
    go_wp2
    go_ret2
    exact ⟨_, by rw [HV.out]; rfl, HE.out.trans hw, by rw [meanR_yes HV.out, HR.out, HQ.out]⟩

set_option maxRecDepth 100000 in
theorem implMean_any (W H : Int) (a : Option Addr) (n c : Nat) (zs : List Int) (hz : zs.length = n) (hn : n ≤ 1048576) (w : World) (hA : VArr w a (ints zs)) :
    Calls Try.prog 35 #[.agg #[.int .i64 W, .int .i64 H, .slice a n c]] w fun e w' => ∃ fr, e = .returned (.tuple #[.float .f32 fr, .bool (vldH W H zs)]) ∧ Ext w w' ∧ fa .f32 fr = meanR W H zs := by
  have hX := (Ext.refl w).alloc (.cells #[.int .i64 W, .int .i64 H, .slice a n c] 33)
  have b0 := heap_new w (.cells #[.int .i64 W, .int .i64 H, .slice a n c] 33)
  have hA1 := hA.ext hX
  go_enter Try.func35, Try.ntmps35
  go_wp2_with fail
  refine (implValid_any W H a n c zs hz (by omega) _ hA1).mono ?_
  generalize w.alloc (.cells #[.int .i64 W, .int .i64 H, .slice a n c] 33) = w0 at *
  generalize w.heap.size = p at *
  rintro e w1 ⟨rfl, hX1⟩
  cases hv : vldH W H zs with
  | false =>
    have HV := Lib.hid hv
    have HE := Lib.hid (hX.trans hX1)
    clear hX hX1 b0 hA hA1 hv
    go_wp2
    go_ret2
    exact ⟨0, by rw [HV.out]; rfl, HE.out, by rw [meanR_no HV.out]⟩
  | true =>
    have HV := Lib.hid hv
    have HE := Lib.hid (hX.trans hX1)
    have HB := Lib.hid (hX1.block b0)
    have HA := Lib.hid (hA1.ext hX1)
    have HC := Lib.hid (fun w' (h : Ext w1 w') => atoms_any W H a n c zs hz hv w' (HA.out.ext h))
    have HQ : Hid (meanQ zs = fop .quo .f32 (fa .f32 (floatOfInt .f32 (sumTo zs n))) (fa .f32 (floatOfInt .f32 n))) := by show _ = _; unfold meanQ; rw [hz]
    clear hX hX1 b0 hA hA1 hv hz
    generalize sumTo zs n = s at *
    go_wp2_with fail
    refine region_grow (C := Ext w1) (K := fun _ _ V _ => V = .int .i64 s) ⟨fun _ _ h k => h.trans k, fun _ _ _ _ _ h _ => h⟩ (by kernel_rfl) (by kernel_rfl) ((Ext.refl w1).drew) ?_
    refine grow_q rfl ?_; apply Exists.intro; refine ⟨fun u hu _ => ?_, ?_⟩; focus (obtain ⟨⟨c0, c1, c2⟩, _⟩ := block3 (hu.block HB.out); go_simp; rfl)
    refine grow_c1 74 rfl ⟨#[.agg #[.int .i64 W, .int .i64 H, .slice a n c]], fun u => ?_, _, fun u hu _ => HC.out u hu, fun V u h => h, fun u => rfl, ?_⟩
    · go_simp
    iterate 5 (refine grow_q rfl ?_; apply Exists.intro; refine ⟨fun u hu _ => ?_, ?_⟩; focus (obtain ⟨⟨c0, c1, c2⟩, _⟩ := block3 (hu.block HB.out); go_simp; rfl))
    refine grow_f .f32 rfl ⟨_, _, fun u hu _ => (by go_simp; exact ⟨rfl, rfl⟩), _, fun u => fa_frr _ _ _ _ u, fun r hr => ?_⟩
    iterate 2 (refine grow_q rfl ?_; apply Exists.intro; refine ⟨fun u hu _ => ?_, ?_⟩; focus (go_simp; rfl))
    refine grow_nil (fun w2 hw _ => ?_)
    have HR := Lib.hid hr
    clear hr
    go_simp
    go_wp2
    go_ret2
    exact ⟨_, by rw [HV.out]; rfl, HE.out.trans hw, by rw [meanR_yes HV.out, HR.out, HQ.out]⟩
end Go.Proofs.Ytdggpkgbncmlbaa
