/-
  The numbers of a cell: laplace, nine, slopes; by the program and by the reference. (Printed by gen_fields.py.)
-/
import Derived.Test.YtajfpjggdbifjaaFlD
namespace Go.Proofs.Ytajfpjggdbifjaa
open Go.RowKit
set_option linter.unusedVariables false
set_option linter.unusedSimpArgs false
set_option linter.unnecessarySimpa false

def nineG (W H : Int) (R : Bool) (fs : List (Option Nat)) (x y : Int) : Option Nat :=
  fop .quo .f32 (fop .sub .f32 (fop .add .f32 (fop .mul .f32 (fa .f32 1082130432) (sidesG W H R fs x y)) (fop .add .f32 (fop .add .f32 (aboutV W H R fs (x - 1) (y - 1)) (aboutV W H R fs (x + 1) (y - 1))) (fop .add .f32 (aboutV W H R fs (x - 1) (y + 1)) (aboutV W H R fs (x + 1) (y + 1))))) (fop .mul .f32 (fa .f32 1101004800) (aboutV W H R fs x y))) (fa .f32 1086324736)
def slopeXG (W H : Int) (R : Bool) (fs : List (Option Nat)) (x y : Int) : Option Nat :=
  fop .mul .f32 (fa .f32 1056964608) (fop .sub .f32 (aboutV W H R fs (x + 1) y) (aboutV W H R fs (x - 1) y))
def slopeYG (W H : Int) (R : Bool) (fs : List (Option Nat)) (x y : Int) : Option Nat :=
  fop .mul .f32 (fa .f32 1056964608) (fop .sub .f32 (aboutV W H R fs x (y + 1)) (aboutV W H R fs x (y - 1)))

set_option maxRecDepth 100000 in
set_option maxHeartbeats 1000000 in
theorem laplace_any (W H x y : Int) (R : Bool) (b o n c : Nat) (xs : List Nat) (fs : List (Option Nat)) (hz : xs.length = n) (hfs : fas xs = fs) (hv : vldF W H n = true) (hx : -10000 ≤ x ∧ x ≤ 10000) (hy : -10000 ≤ y ∧ y ≤ 10000) (w : World) (hA : VArr w (some ⟨b, o, none⟩) (flts xs)) (x0 : 0 ≤ x ∧ x < W ∧ 0 ≤ y ∧ y < H) :
    Calls Try.prog 73 #[.agg #[.int .i64 W, .int .i64 H, .bool R, .slice (some ⟨b, o, none⟩) n c], .int .i64 x, .int .i64 y] w fun e w' => ∃ r, e = .returned (.float .f32 r) ∧ fa .f32 r = laplaceG W H R fs x y ∧ Ext w w' := by
  have HF : Hid (∀ u v, fa .f32 (aboutB W H R xs u v) = aboutV W H R fs u v) := fa_about hfs (by rw [hz]; exact hv)
  have HC : Hid (∀ u v w', Ext w w' → Calls Try.prog 141 #[.agg #[.int .i64 W, .int .i64 H, .bool R, .slice (some ⟨b, o, none⟩) n c], .int .i64 u, .int .i64 v] w' fun e w'' => e = .returned (.float .f32 (aboutB W H R xs u v)) ∧ Ext w' w'') :=
    fun u v w' h => aboutF_any W H u v R b o n c xs hz hv w' (hA.ext h)
  have HS : Hid (∀ w', Ext w w' → Calls Try.prog 132 #[.agg #[.int .i64 W, .int .i64 H, .bool R, .slice (some ⟨b, o, none⟩) n c], .int .i64 x, .int .i64 y] w' fun e w'' => ∃ r, e = .returned (.float .f32 r) ∧ fa .f32 r = sidesG W H R fs x y ∧ Ext w' w'') := fun w' h => sides_any W H x y R b o n c xs fs hz hfs hv hx hy w' (hA.ext h)
  have HT : Hid (∀ w', Ext w w' → Calls Try.prog 72 #[.agg #[.int .i64 W, .int .i64 H, .bool R, .slice (some ⟨b, o, none⟩) n c], .int .i64 x, .int .i64 y] w' fun e w'' => e = .returned (.float .f32 (aboutB W H R xs x y)) ∧ Ext w' w'') := fun w' h => atF_any W H x y R b o n c xs hz hv w' (hA.ext h) x0.1 x0.2.1 x0.2.2.1 x0.2.2.2
  clear hz hfs hv hA
  have HX0 := Lib.hid (show Ext w (w.alloc (.cells #[.int .i64 W, .int .i64 H, .bool R, .slice (some ⟨b, o, none⟩) n c] 26)) from (Ext.refl w).alloc (.cells #[.int .i64 W, .int .i64 H, .bool R, .slice (some ⟨b, o, none⟩) n c] 26))
  have B0 := heap_new w (.cells #[.int .i64 W, .int .i64 H, .bool R, .slice (some ⟨b, o, none⟩) n c] 26)
  go_enter Try.func73, Try.ntmps73
  obtain ⟨⟨c0, c1, c2, c3⟩, _⟩ := block4 B0
  go_wp2_with fail
  generalize w.alloc (.cells #[.int .i64 W, .int .i64 H, .bool R, .slice (some ⟨b, o, none⟩) n c] 26) = w0 at *
  generalize w.heap.size = pp at *
  clear c0 c1 c2 c3
  refine region_grow (C := Ext _) (K := fun f args v _ => (f = 132 → args = #[.agg #[.int .i64 W, .int .i64 H, .bool R, .slice (some ⟨b, o, none⟩) n c], .int .i64 x, .int .i64 y] → ∃ r, v = .float .f32 r ∧ fa .f32 r = sidesG W H R fs x y) ∧ (f = 72 → args = #[.agg #[.int .i64 W, .int .i64 H, .bool R, .slice (some ⟨b, o, none⟩) n c], .int .i64 x, .int .i64 y] → v = .float .f32 (aboutB W H R xs x y))) ⟨fun _ _ h k => h.trans k, fun _ _ _ _ _ h _ => h⟩ (by kernel_rfl) (by kernel_rfl) ((Ext.refl _).drew) ?_
  iterate 3 (refine grow_q rfl ?_; apply Exists.intro; refine ⟨fun u hu _ => ?_, ?_⟩; focus (obtain ⟨⟨c0, c1, c2, c3⟩, _⟩ := block4 ((hu).block B0); go_simp; rfl))
  refine grow_cf 132 .f32 rfl ⟨#[.agg #[.int .i64 W, .int .i64 H, .bool R, .slice (some ⟨b, o, none⟩) n c], .int .i64 x, .int .i64 y], fun u => ?_, _, fun u hu _ => HS.out _ (HX0.out.trans hu), fun v u => ⟨fun h => (h.1) rfl  rfl, fun h0 => ⟨(fun _  h => (by simp at h; exact h0)), (fun h => by cases h)⟩⟩, fun q1_1 hq1_1 => ?_⟩
  · go_simp
    all_goals (first | done | ((repeat' apply And.intro) <;> first | rfl | exact wrapS (by omega) (by omega)))
  iterate 3 (refine grow_q rfl ?_; apply Exists.intro; refine ⟨fun u hu _ => ?_, ?_⟩; focus (obtain ⟨⟨c0, c1, c2, c3⟩, _⟩ := block4 ((hu).block B0); go_simp; rfl))
  refine grow_c1 72 rfl ⟨#[.agg #[.int .i64 W, .int .i64 H, .bool R, .slice (some ⟨b, o, none⟩) n c], .int .i64 x, .int .i64 y], fun u => ?_, _, fun u hu _ => HT.out _ (HX0.out.trans hu), fun v u h => (h.2) rfl  rfl, fun u => ⟨(fun h => by cases h), (fun _  h => (by simp at h; rfl))⟩, ?_⟩
  · go_simp
    all_goals (first | done | ((repeat' apply And.intro) <;> first | rfl | exact wrapS (by omega) (by omega)))
  refine grow_f .f32 rfl ⟨_, _, fun u hu _ => (by go_simp; exact ⟨rfl, rfl⟩), _, fun u => fa_frr _ _ _ _ u, fun q1_2 hq1_2 => ?_⟩
  refine grow_f .f32 rfl ⟨_, _, fun u hu _ => (by go_simp; exact ⟨rfl, rfl⟩), _, fun u => fa_frr _ _ _ _ u, fun q1_3 hq1_3 => ?_⟩
  iterate 1 (refine grow_q rfl ?_; apply Exists.intro; refine ⟨fun u hu _ => ?_, ?_⟩; focus (obtain ⟨⟨c0, c1, c2, c3⟩, _⟩ := block4 ((hu).block B0); go_simp; rfl))
  refine grow_nil (fun w1 hw _ => ?_)
  have HRq1_1 := Lib.hid hq1_1
  clear hq1_1
  have HRq1_2 := Lib.hid hq1_2
  clear hq1_2
  have HRq1_3 := Lib.hid hq1_3
  clear hq1_3
  have H1 := Lib.hid hw
  clear hw
  go_simp
  obtain ⟨⟨c0, c1, c2, c3⟩, _⟩ := block4 (H1.out.block B0)
  go_wp2
  go_ret
  exact ⟨_, rfl, by simp only [fa_frr, HRq1_1.out, HRq1_2.out, HRq1_3.out, HF.out]; rfl, (HX0.out.trans H1.out)⟩

set_option maxRecDepth 100000 in
set_option maxHeartbeats 1000000 in
theorem slopes_any (W H x y : Int) (R : Bool) (b o n c : Nat) (xs : List Nat) (fs : List (Option Nat)) (hz : xs.length = n) (hfs : fas xs = fs) (hv : vldF W H n = true) (hx : -10000 ≤ x ∧ x ≤ 10000) (hy : -10000 ≤ y ∧ y ≤ 10000) (w : World) (hA : VArr w (some ⟨b, o, none⟩) (flts xs)) :
    Calls Try.prog 96 #[.agg #[.int .i64 W, .int .i64 H, .bool R, .slice (some ⟨b, o, none⟩) n c], .int .i64 x, .int .i64 y] w fun e w' => ∃ r r', e = .returned (.tuple #[.float .f32 r, .float .f32 r']) ∧ fa .f32 r = slopeXG W H R fs x y ∧ fa .f32 r' = slopeYG W H R fs x y ∧ Ext w w' := by
  have HF : Hid (∀ u v, fa .f32 (aboutB W H R xs u v) = aboutV W H R fs u v) := fa_about hfs (by rw [hz]; exact hv)
  have HC : Hid (∀ u v w', Ext w w' → Calls Try.prog 141 #[.agg #[.int .i64 W, .int .i64 H, .bool R, .slice (some ⟨b, o, none⟩) n c], .int .i64 u, .int .i64 v] w' fun e w'' => e = .returned (.float .f32 (aboutB W H R xs u v)) ∧ Ext w' w'') :=
    fun u v w' h => aboutF_any W H u v R b o n c xs hz hv w' (hA.ext h)
  clear hz hfs hv hA
  have HX0 := Lib.hid (show Ext w (w.alloc (.cells #[.int .i64 W, .int .i64 H, .bool R, .slice (some ⟨b, o, none⟩) n c] 26)) from (Ext.refl w).alloc (.cells #[.int .i64 W, .int .i64 H, .bool R, .slice (some ⟨b, o, none⟩) n c] 26))
  have B0 := heap_new w (.cells #[.int .i64 W, .int .i64 H, .bool R, .slice (some ⟨b, o, none⟩) n c] 26)
  go_enter Try.func96, Try.ntmps96
  obtain ⟨⟨c0, c1, c2, c3⟩, _⟩ := block4 B0
  go_wp2_with fail
  generalize w.alloc (.cells #[.int .i64 W, .int .i64 H, .bool R, .slice (some ⟨b, o, none⟩) n c] 26) = w0 at *
  generalize w.heap.size = pp at *
  clear c0 c1 c2 c3
  refine region_grow (C := Ext _) (K := fun f args v _ => (f = 141 → ∀ u0 u1, args = #[.agg #[.int .i64 W, .int .i64 H, .bool R, .slice (some ⟨b, o, none⟩) n c], .int .i64 u0, .int .i64 u1] → v = .float .f32 (aboutB W H R xs u0 u1))) ⟨fun _ _ h k => h.trans k, fun _ _ _ _ _ h _ => h⟩ (by kernel_rfl) (by kernel_rfl) ((Ext.refl _).drew) ?_
  iterate 4 (refine grow_q rfl ?_; apply Exists.intro; refine ⟨fun u hu _ => ?_, ?_⟩; focus (obtain ⟨⟨c0, c1, c2, c3⟩, _⟩ := block4 ((hu).block B0); go_simp; rfl))
  refine grow_c1 141 rfl ⟨#[.agg #[.int .i64 W, .int .i64 H, .bool R, .slice (some ⟨b, o, none⟩) n c], .int .i64 (x + 1), .int .i64 y], fun u => ?_, _, fun u hu _ => HC.out (x + 1) y _ (HX0.out.trans hu), fun v u h => (h) rfl _ _ rfl, fun u => (fun _ _ _ h => (by simp at h; obtain ⟨rfl, rfl⟩ := h; rfl)), ?_⟩
  · go_simp
    all_goals (first | done | ((repeat' apply And.intro) <;> first | rfl | exact wrapS (by omega) (by omega)))
  iterate 4 (refine grow_q rfl ?_; apply Exists.intro; refine ⟨fun u hu _ => ?_, ?_⟩; focus (obtain ⟨⟨c0, c1, c2, c3⟩, _⟩ := block4 ((hu).block B0); go_simp; rfl))
  refine grow_c1 141 rfl ⟨#[.agg #[.int .i64 W, .int .i64 H, .bool R, .slice (some ⟨b, o, none⟩) n c], .int .i64 (x - 1), .int .i64 y], fun u => ?_, _, fun u hu _ => HC.out (x - 1) y _ (HX0.out.trans hu), fun v u h => (h) rfl _ _ rfl, fun u => (fun _ _ _ h => (by simp at h; obtain ⟨rfl, rfl⟩ := h; rfl)), ?_⟩
  · go_simp
    all_goals (first | done | ((repeat' apply And.intro) <;> first | rfl | exact wrapS (by omega) (by omega)))
  refine grow_f .f32 rfl ⟨_, _, fun u hu _ => (by go_simp; exact ⟨rfl, rfl⟩), _, fun u => fa_frr _ _ _ _ u, fun q1_1 hq1_1 => ?_⟩
  refine grow_f .f32 rfl ⟨_, _, fun u hu _ => (by go_simp; exact ⟨rfl, rfl⟩), _, fun u => fa_frr _ _ _ _ u, fun q1_2 hq1_2 => ?_⟩
  iterate 4 (refine grow_q rfl ?_; apply Exists.intro; refine ⟨fun u hu _ => ?_, ?_⟩; focus (obtain ⟨⟨c0, c1, c2, c3⟩, _⟩ := block4 ((hu).block B0); go_simp; rfl))
  refine grow_c1 141 rfl ⟨#[.agg #[.int .i64 W, .int .i64 H, .bool R, .slice (some ⟨b, o, none⟩) n c], .int .i64 x, .int .i64 (y + 1)], fun u => ?_, _, fun u hu _ => HC.out x (y + 1) _ (HX0.out.trans hu), fun v u h => (h) rfl _ _ rfl, fun u => (fun _ _ _ h => (by simp at h; obtain ⟨rfl, rfl⟩ := h; rfl)), ?_⟩
  · go_simp
    all_goals (first | done | ((repeat' apply And.intro) <;> first | rfl | exact wrapS (by omega) (by omega)))
  iterate 4 (refine grow_q rfl ?_; apply Exists.intro; refine ⟨fun u hu _ => ?_, ?_⟩; focus (obtain ⟨⟨c0, c1, c2, c3⟩, _⟩ := block4 ((hu).block B0); go_simp; rfl))
  refine grow_c1 141 rfl ⟨#[.agg #[.int .i64 W, .int .i64 H, .bool R, .slice (some ⟨b, o, none⟩) n c], .int .i64 x, .int .i64 (y - 1)], fun u => ?_, _, fun u hu _ => HC.out x (y - 1) _ (HX0.out.trans hu), fun v u h => (h) rfl _ _ rfl, fun u => (fun _ _ _ h => (by simp at h; obtain ⟨rfl, rfl⟩ := h; rfl)), ?_⟩
  · go_simp
    all_goals (first | done | ((repeat' apply And.intro) <;> first | rfl | exact wrapS (by omega) (by omega)))
  refine grow_f .f32 rfl ⟨_, _, fun u hu _ => (by go_simp; exact ⟨rfl, rfl⟩), _, fun u => fa_frr _ _ _ _ u, fun q1_3 hq1_3 => ?_⟩
  refine grow_f .f32 rfl ⟨_, _, fun u hu _ => (by go_simp; exact ⟨rfl, rfl⟩), _, fun u => fa_frr _ _ _ _ u, fun q1_4 hq1_4 => ?_⟩
  iterate 2 (refine grow_q rfl ?_; apply Exists.intro; refine ⟨fun u hu _ => ?_, ?_⟩; focus (obtain ⟨⟨c0, c1, c2, c3⟩, _⟩ := block4 ((hu).block B0); go_simp; rfl))
  refine grow_nil (fun w1 hw _ => ?_)
  have HRq1_1 := Lib.hid hq1_1
  clear hq1_1
  have HRq1_2 := Lib.hid hq1_2
  clear hq1_2
  have HRq1_3 := Lib.hid hq1_3
  clear hq1_3
  have HRq1_4 := Lib.hid hq1_4
  clear hq1_4
  have H1 := Lib.hid hw
  clear hw
  go_simp
  obtain ⟨⟨c0, c1, c2, c3⟩, _⟩ := block4 (H1.out.block B0)
  go_wp2
  go_ret2
  exact ⟨_, _, rfl, by simp only [fa_frr, HRq1_1.out, HRq1_2.out, HRq1_3.out, HRq1_4.out, HF.out]; rfl, by simp only [fa_frr, HRq1_1.out, HRq1_2.out, HRq1_3.out, HRq1_4.out, HF.out]; rfl, (HX0.out.trans H1.out)⟩
end Go.Proofs.Ytajfpjggdbifjaa
