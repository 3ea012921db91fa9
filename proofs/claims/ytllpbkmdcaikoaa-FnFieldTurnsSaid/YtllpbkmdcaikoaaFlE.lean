/-
  The numbers of a cell: laplace, nine, slopes; by the program and by the reference. (Printed by gen_fields.py.)
-/
import Derived.Test.YtllpbkmdcaikoaaFlD
namespace Go.Proofs.Ytllpbkmdcaikoaa
open Go.RowKit
set_option linter.unusedVariables false
set_option linter.unusedSimpArgs false
set_option linter.unnecessarySimpa false

def nineG (W H : Int) (R : Bool) (fs : List (Option Nat)) (x y : Int) : Option Nat :=
  fop .quo .f32 (fop .sub .f32 (fop .add .f32 (fop .mul .f32 (fa .f32 1082130432) (sidesG W H R fs x y)) (fop .add .f32 (fop .add .f32 (aboutV W H R fs (x - 1) (y - 1)) (aboutV W H R fs (x + 1) (y - 1))) (fop .add .f32 (aboutV W H R fs (x - 1) (y + 1)) (aboutV W H R fs (x + 1) (y + 1))))) (fop .mul .f32 (fa .f32 1101004800) (aboutV W H R fs x y))) (fa .f32 1086324736)
def slopeXG (W H : Int) (R : Bool) (fs : List (Option Nat)) (x y : Int) : Option Nat :=
  fop .mul .f32 (fa .f32 1056964608) (fop .sub .f32 (aboutV W H R fs (x + 1) y) (aboutV W H R fs (x - 1) y))
def slopeYG (W H : Int) (R : Bool) (fs : List (Option Nat)) (x y : Int) : Option Nat :=
  fop .mul .f32 (fa .f32 1056964608) (fop .sub .f32 (aboutV W H R fs x (y + 1)) (aboutV W H R fs x (y - 1)))

theorem l02Nine_any (p : Nat) (W H x y : Int) (R : Bool) (b o n c : Nat) (xs : List Nat) (fs : List (Option Nat)) (hz : xs.length = n) (hfs : fas xs = fs) (hv : vldF W H n = true) (hx : -10000 ≤ x ∧ x ≤ 10000) (hy : -10000 ≤ y ∧ y ≤ 10000) (w : World) (hp : FldAt w p W H R (some ⟨b, o, none⟩) n c) (hA : VArr w (some ⟨b, o, none⟩) (flts xs)) :
    Calls Try.prog 87 #[.pointer (some ⟨p, 0, none⟩), .int .i64 x, .int .i64 y] w fun e w' => ∃ r, e = .returned (.float .f32 r) ∧ fa .f32 r = nineG W H R fs x y ∧ Ext w w' := by
  have HF : Hid (∀ u v, fa .f32 (aboutB W H R xs u v) = aboutV W H R fs u v) := fa_about hfs (by rw [hz]; exact hv)
  have HC : Hid (∀ u v w', Ext w w' → Calls Try.prog 68 #[.pointer (some ⟨p, 0, none⟩), .int .i64 u, .int .i64 v] w' fun e w'' => e = .returned (.float .f32 (aboutB W H R xs u v)) ∧ Ext w' w'') :=
    fun u v w' h => l02At_any p W H u v R b o n c xs hz hv w' (hp.ext h) (hA.ext h)
  have HS : Hid (∀ w', Ext w w' → Calls Try.prog 117 #[.pointer (some ⟨p, 0, none⟩), .int .i64 x, .int .i64 y] w' fun e w'' => ∃ r, e = .returned (.float .f32 r) ∧ fa .f32 r = sidesG W H R fs x y ∧ Ext w' w'') := fun w' h => l02Sides_any p W H x y R b o n c xs fs hz hfs hv hx hy w' (hp.ext h) (hA.ext h)
  clear hz hfs hv hp hA
  go_enter Try.func87, Try.ntmps87
  go_wp2_with fail
  refine (HC.out (x - 1) (y - 1) _ (Ext.refl _)).mono ?_
  rintro e w1 ⟨rfl, h1⟩
  have H1 := Lib.hid h1
  clear h1
  go_wp2_with fail
  refine (HC.out (x + 1) (y - 1) _ H1.out).mono ?_
  rintro e w2 ⟨rfl, h2⟩
  have H2 := Lib.hid (H1.out.trans h2)
  clear h2 H1
  go_wp2_with fail
  refine (HC.out (x - 1) (y + 1) _ (H2.out.drewN _)).mono ?_
  rintro e w3 ⟨rfl, h3⟩
  have H3 := Lib.hid ((H2.out.drewN _).trans h3)
  clear h3 H2
  go_wp2_with fail
  refine (HC.out (x + 1) (y + 1) _ H3.out).mono ?_
  rintro e w4 ⟨rfl, h4⟩
  have H4 := Lib.hid (H3.out.trans h4)
  clear h4 H3
  go_wp2_with fail
  refine (HS.out _ (H4.out.drewN _)).mono ?_
  rintro e w5 ⟨r5, rfl, hr5, h5⟩
  have HR5 := Lib.hid hr5
  clear hr5
  have H5 := Lib.hid ((H4.out.drewN _).trans h5)
  clear h5 H4
  go_wp2_with fail
  refine (HC.out x y _ (H5.out.drewN _)).mono ?_
  rintro e w6 ⟨rfl, h6⟩
  have H6 := Lib.hid ((H5.out.drewN _).trans h6)
  clear h6 H5
  go_wp2
  go_ret
  exact ⟨_, rfl, by simp only [fa_frr, HR5.out, HF.out]; rfl, (H6.out.drewN _)⟩

theorem l02SlopeX_any (p : Nat) (W H x y : Int) (R : Bool) (b o n c : Nat) (xs : List Nat) (fs : List (Option Nat)) (hz : xs.length = n) (hfs : fas xs = fs) (hv : vldF W H n = true) (hx : -10000 ≤ x ∧ x ≤ 10000) (hy : -10000 ≤ y ∧ y ≤ 10000) (w : World) (hp : FldAt w p W H R (some ⟨b, o, none⟩) n c) (hA : VArr w (some ⟨b, o, none⟩) (flts xs)) :
    Calls Try.prog 80 #[.pointer (some ⟨p, 0, none⟩), .int .i64 x, .int .i64 y] w fun e w' => ∃ r, e = .returned (.float .f32 r) ∧ fa .f32 r = slopeXG W H R fs x y ∧ Ext w w' := by
  have HF : Hid (∀ u v, fa .f32 (aboutB W H R xs u v) = aboutV W H R fs u v) := fa_about hfs (by rw [hz]; exact hv)
  have HC : Hid (∀ u v w', Ext w w' → Calls Try.prog 68 #[.pointer (some ⟨p, 0, none⟩), .int .i64 u, .int .i64 v] w' fun e w'' => e = .returned (.float .f32 (aboutB W H R xs u v)) ∧ Ext w' w'') :=
    fun u v w' h => l02At_any p W H u v R b o n c xs hz hv w' (hp.ext h) (hA.ext h)
  clear hz hfs hv hp hA
  go_enter Try.func80, Try.ntmps80
  go_wp2_with fail
  refine (HC.out (x + 1) y _ (Ext.refl _)).mono ?_
  rintro e w1 ⟨rfl, h1⟩
  have H1 := Lib.hid h1
  clear h1
  go_wp2_with fail
  refine (HC.out (x - 1) y _ H1.out).mono ?_
  rintro e w2 ⟨rfl, h2⟩
  have H2 := Lib.hid (H1.out.trans h2)
  clear h2 H1
  go_wp2
  go_ret
  exact ⟨_, rfl, by simp only [fa_frr, HF.out]; rfl, (H2.out.drewN _)⟩

theorem l02SlopeY_any (p : Nat) (W H x y : Int) (R : Bool) (b o n c : Nat) (xs : List Nat) (fs : List (Option Nat)) (hz : xs.length = n) (hfs : fas xs = fs) (hv : vldF W H n = true) (hx : -10000 ≤ x ∧ x ≤ 10000) (hy : -10000 ≤ y ∧ y ≤ 10000) (w : World) (hp : FldAt w p W H R (some ⟨b, o, none⟩) n c) (hA : VArr w (some ⟨b, o, none⟩) (flts xs)) :
    Calls Try.prog 81 #[.pointer (some ⟨p, 0, none⟩), .int .i64 x, .int .i64 y] w fun e w' => ∃ r, e = .returned (.float .f32 r) ∧ fa .f32 r = slopeYG W H R fs x y ∧ Ext w w' := by
  have HF : Hid (∀ u v, fa .f32 (aboutB W H R xs u v) = aboutV W H R fs u v) := fa_about hfs (by rw [hz]; exact hv)
  have HC : Hid (∀ u v w', Ext w w' → Calls Try.prog 68 #[.pointer (some ⟨p, 0, none⟩), .int .i64 u, .int .i64 v] w' fun e w'' => e = .returned (.float .f32 (aboutB W H R xs u v)) ∧ Ext w' w'') :=
    fun u v w' h => l02At_any p W H u v R b o n c xs hz hv w' (hp.ext h) (hA.ext h)
  clear hz hfs hv hp hA
  go_enter Try.func81, Try.ntmps81
  go_wp2_with fail
  refine (HC.out x (y + 1) _ (Ext.refl _)).mono ?_
  rintro e w1 ⟨rfl, h1⟩
  have H1 := Lib.hid h1
  clear h1
  go_wp2_with fail
  refine (HC.out x (y - 1) _ H1.out).mono ?_
  rintro e w2 ⟨rfl, h2⟩
  have H2 := Lib.hid (H1.out.trans h2)
  clear h2 H1
  go_wp2
  go_ret
  exact ⟨_, rfl, by simp only [fa_frr, HF.out]; rfl, (H2.out.drewN _)⟩

set_option maxRecDepth 100000 in
set_option maxHeartbeats 1000000 in
theorem laplace_any (W H x y : Int) (R : Bool) (b o n c : Nat) (xs : List Nat) (fs : List (Option Nat)) (hz : xs.length = n) (hfs : fas xs = fs) (hv : vldF W H n = true) (hx : -10000 ≤ x ∧ x ≤ 10000) (hy : -10000 ≤ y ∧ y ≤ 10000) (w : World) (hA : VArr w (some ⟨b, o, none⟩) (flts xs)) (x0 : 0 ≤ x ∧ x < W ∧ 0 ≤ y ∧ y < H) :
    Calls Try.prog 86 #[.agg #[.int .i64 W, .int .i64 H, .bool R, .slice (some ⟨b, o, none⟩) n c], .int .i64 x, .int .i64 y] w fun e w' => ∃ r, e = .returned (.float .f32 r) ∧ fa .f32 r = laplaceG W H R fs x y ∧ Ext w w' := by
  have HF : Hid (∀ u v, fa .f32 (aboutB W H R xs u v) = aboutV W H R fs u v) := fa_about hfs (by rw [hz]; exact hv)
  have HC : Hid (∀ u v w', Ext w w' → Calls Try.prog 70 #[.agg #[.int .i64 W, .int .i64 H, .bool R, .slice (some ⟨b, o, none⟩) n c], .int .i64 u, .int .i64 v] w' fun e w'' => e = .returned (.float .f32 (aboutB W H R xs u v)) ∧ Ext w' w'') :=
    fun u v w' h => aboutF_any W H u v R b o n c xs hz hv w' (hA.ext h)
  have HS : Hid (∀ w', Ext w w' → Calls Try.prog 116 #[.agg #[.int .i64 W, .int .i64 H, .bool R, .slice (some ⟨b, o, none⟩) n c], .int .i64 x, .int .i64 y] w' fun e w'' => ∃ r, e = .returned (.float .f32 r) ∧ fa .f32 r = sidesG W H R fs x y ∧ Ext w' w'') := fun w' h => sides_any W H x y R b o n c xs fs hz hfs hv hx hy w' (hA.ext h)
  have HT : Hid (∀ w', Ext w w' → Calls Try.prog 93 #[.agg #[.int .i64 W, .int .i64 H, .bool R, .slice (some ⟨b, o, none⟩) n c], .int .i64 x, .int .i64 y] w' fun e w'' => e = .returned (.float .f32 (aboutB W H R xs x y)) ∧ Ext w' w'') := fun w' h => atF_any W H x y R b o n c xs hz hv w' (hA.ext h) x0.1 x0.2.1 x0.2.2.1 x0.2.2.2
  clear hz hfs hv hA
  have HX0 := Lib.hid (show Ext w (w.alloc (.cells #[.int .i64 W, .int .i64 H, .bool R, .slice (some ⟨b, o, none⟩) n c] 27)) from (Ext.refl w).alloc (.cells #[.int .i64 W, .int .i64 H, .bool R, .slice (some ⟨b, o, none⟩) n c] 27))
  have B0 := heap_new w (.cells #[.int .i64 W, .int .i64 H, .bool R, .slice (some ⟨b, o, none⟩) n c] 27)
  go_enter Try.func86, Try.ntmps86
  obtain ⟨⟨c0, c1, c2, c3⟩, _⟩ := block4 B0
  go_wp2_with fail
  generalize w.alloc (.cells #[.int .i64 W, .int .i64 H, .bool R, .slice (some ⟨b, o, none⟩) n c] 27) = w0 at *
  generalize w.heap.size = pp at *
  clear c0 c1 c2 c3
  refine region_grow (C := Ext _) (K := fun f args v _ => (f = 116 → args = #[.agg #[.int .i64 W, .int .i64 H, .bool R, .slice (some ⟨b, o, none⟩) n c], .int .i64 x, .int .i64 y] → ∃ r, v = .float .f32 r ∧ fa .f32 r = sidesG W H R fs x y) ∧ (f = 93 → args = #[.agg #[.int .i64 W, .int .i64 H, .bool R, .slice (some ⟨b, o, none⟩) n c], .int .i64 x, .int .i64 y] → v = .float .f32 (aboutB W H R xs x y))) ⟨fun _ _ h k => h.trans k, fun _ _ _ _ _ h _ => h⟩ (by kernel_rfl) (by kernel_rfl) ((Ext.refl _).drew) ?_
  iterate 3 (refine grow_q rfl ?_; apply Exists.intro; refine ⟨fun u hu _ => ?_, ?_⟩; focus (obtain ⟨⟨c0, c1, c2, c3⟩, _⟩ := block4 ((hu).block B0); go_simp; rfl))
  refine grow_cf 116 .f32 rfl ⟨#[.agg #[.int .i64 W, .int .i64 H, .bool R, .slice (some ⟨b, o, none⟩) n c], .int .i64 x, .int .i64 y], fun u => ?_, _, fun u hu _ => HS.out _ (HX0.out.trans hu), fun v u => ⟨fun h => (h.1) rfl  rfl, fun h0 => ⟨(fun _  h => (by simp at h; exact h0)), (fun h => by cases h)⟩⟩, fun q1_1 hq1_1 => ?_⟩
  · go_simp
    all_goals (first | done | ((repeat' apply And.intro) <;> first | rfl | exact wrapS (by omega) (by omega)))
  iterate 3 (refine grow_q rfl ?_; apply Exists.intro; refine ⟨fun u hu _ => ?_, ?_⟩; focus (obtain ⟨⟨c0, c1, c2, c3⟩, _⟩ := block4 ((hu).block B0); go_simp; rfl))
  refine grow_c1 93 rfl ⟨#[.agg #[.int .i64 W, .int .i64 H, .bool R, .slice (some ⟨b, o, none⟩) n c], .int .i64 x, .int .i64 y], fun u => ?_, _, fun u hu _ => HT.out _ (HX0.out.trans hu), fun v u h => (h.2) rfl  rfl, fun u => ⟨(fun h => by cases h), (fun _  h => (by simp at h; rfl))⟩, ?_⟩
  · go_simp
    all_goals (first | done | ((repeat' apply And.intro) <;> first | rfl | exact wrapS (by omega) (by omega)))
  refine grow_f .f32 rfl ⟨_, _, fun u hu _ => (by go_simp; exact ⟨rfl, rfl⟩), _, fun u => fa_frr _ _ _ _ u, fun q1_2 hq1_2 => ?_⟩
  refine grow_f .f32 rfl ⟨_, _, fun u hu _ => (by go_simp; exact ⟨rfl, rfl⟩), _, fun u => fa_frr _ _ _ _ u, fun q1_3 hq1_3 => ?_⟩
  iterate 1 (refine grow_q rfl ?_; apply Exists.intro; refine ⟨fun u hu _ => ?_, ?_⟩; focus (obtain ⟨⟨c0, c1, c2, c3⟩, _⟩ := block4 ((hu).block B0); go_simp; rfl))
  refine grow_nil (fun w1 hw _ => ?_)
  have HRq1_1 := Lib.hid hq1_1
  clear hq1_1
  have HRq1_2 := Lib.hid hq1_2
  clear hq1_2
  have HRq1_3 := Lib.hid hq1_3
  clear hq1_3
  have H1 := Lib.hid hw
  clear hw
  go_simp
  obtain ⟨⟨c0, c1, c2, c3⟩, _⟩ := block4 (H1.out.block B0)
  go_wp2
  go_ret
  exact ⟨_, rfl, by simp only [fa_frr, HRq1_1.out, HRq1_2.out, HRq1_3.out, HF.out]; rfl, (HX0.out.trans H1.out)⟩

set_option maxRecDepth 100000 in
set_option maxHeartbeats 1000000 in
theorem nine_any (W H x y : Int) (R : Bool) (b o n c : Nat) (xs : List Nat) (fs : List (Option Nat)) (hz : xs.length = n) (hfs : fas xs = fs) (hv : vldF W H n = true) (hx : -10000 ≤ x ∧ x ≤ 10000) (hy : -10000 ≤ y ∧ y ≤ 10000) (w : World) (hA : VArr w (some ⟨b, o, none⟩) (flts xs)) (x0 : 0 ≤ x ∧ x < W ∧ 0 ≤ y ∧ y < H) :
    Calls Try.prog 88 #[.agg #[.int .i64 W, .int .i64 H, .bool R, .slice (some ⟨b, o, none⟩) n c], .int .i64 x, .int .i64 y] w fun e w' => ∃ r, e = .returned (.float .f32 r) ∧ fa .f32 r = nineG W H R fs x y ∧ Ext w w' := by
  have HF : Hid (∀ u v, fa .f32 (aboutB W H R xs u v) = aboutV W H R fs u v) := fa_about hfs (by rw [hz]; exact hv)
  have HC : Hid (∀ u v w', Ext w w' → Calls Try.prog 70 #[.agg #[.int .i64 W, .int .i64 H, .bool R, .slice (some ⟨b, o, none⟩) n c], .int .i64 u, .int .i64 v] w' fun e w'' => e = .returned (.float .f32 (aboutB W H R xs u v)) ∧ Ext w' w'') :=
    fun u v w' h => aboutF_any W H u v R b o n c xs hz hv w' (hA.ext h)
  have HS : Hid (∀ w', Ext w w' → Calls Try.prog 116 #[.agg #[.int .i64 W, .int .i64 H, .bool R, .slice (some ⟨b, o, none⟩) n c], .int .i64 x, .int .i64 y] w' fun e w'' => ∃ r, e = .returned (.float .f32 r) ∧ fa .f32 r = sidesG W H R fs x y ∧ Ext w' w'') := fun w' h => sides_any W H x y R b o n c xs fs hz hfs hv hx hy w' (hA.ext h)
  have HT : Hid (∀ w', Ext w w' → Calls Try.prog 93 #[.agg #[.int .i64 W, .int .i64 H, .bool R, .slice (some ⟨b, o, none⟩) n c], .int .i64 x, .int .i64 y] w' fun e w'' => e = .returned (.float .f32 (aboutB W H R xs x y)) ∧ Ext w' w'') := fun w' h => atF_any W H x y R b o n c xs hz hv w' (hA.ext h) x0.1 x0.2.1 x0.2.2.1 x0.2.2.2
  clear hz hfs hv hA
  have HX0 := Lib.hid (show Ext w (w.alloc (.cells #[.int .i64 W, .int .i64 H, .bool R, .slice (some ⟨b, o, none⟩) n c] 27)) from (Ext.refl w).alloc (.cells #[.int .i64 W, .int .i64 H, .bool R, .slice (some ⟨b, o, none⟩) n c] 27))
  have B0 := heap_new w (.cells #[.int .i64 W, .int .i64 H, .bool R, .slice (some ⟨b, o, none⟩) n c] 27)
  go_enter Try.func88, Try.ntmps88
  obtain ⟨⟨c0, c1, c2, c3⟩, _⟩ := block4 B0
  go_wp2_with fail
  generalize w.alloc (.cells #[.int .i64 W, .int .i64 H, .bool R, .slice (some ⟨b, o, none⟩) n c] 27) = w0 at *
  generalize w.heap.size = pp at *
  clear c0 c1 c2 c3
  refine region_grow (C := Ext _) (K := fun f args v _ => (f = 70 → ∀ u0 u1, args = #[.agg #[.int .i64 W, .int .i64 H, .bool R, .slice (some ⟨b, o, none⟩) n c], .int .i64 u0, .int .i64 u1] → v = .float .f32 (aboutB W H R xs u0 u1))) ⟨fun _ _ h k => h.trans k, fun _ _ _ _ _ h _ => h⟩ (by kernel_rfl) (by kernel_rfl) ((Ext.refl _).drew) ?_
  iterate 5 (refine grow_q rfl ?_; apply Exists.intro; refine ⟨fun u hu _ => ?_, ?_⟩; focus (obtain ⟨⟨c0, c1, c2, c3⟩, _⟩ := block4 ((hu).block B0); go_simp; rfl))
  refine grow_c1 70 rfl ⟨#[.agg #[.int .i64 W, .int .i64 H, .bool R, .slice (some ⟨b, o, none⟩) n c], .int .i64 (x - 1), .int .i64 (y - 1)], fun u => ?_, _, fun u hu _ => HC.out (x - 1) (y - 1) _ (HX0.out.trans hu), fun v u h => (h) rfl _ _ rfl, fun u => (fun _ _ _ h => (by simp at h; obtain ⟨rfl, rfl⟩ := h; rfl)), ?_⟩
  · go_simp
    all_goals (first | done | ((repeat' apply And.intro) <;> first | rfl | exact wrapS (by omega) (by omega)))
  iterate 5 (refine grow_q rfl ?_; apply Exists.intro; refine ⟨fun u hu _ => ?_, ?_⟩; focus (obtain ⟨⟨c0, c1, c2, c3⟩, _⟩ := block4 ((hu).block B0); go_simp; rfl))
  refine grow_c1 70 rfl ⟨#[.agg #[.int .i64 W, .int .i64 H, .bool R, .slice (some ⟨b, o, none⟩) n c], .int .i64 (x + 1), .int .i64 (y - 1)], fun u => ?_, _, fun u hu _ => HC.out (x + 1) (y - 1) _ (HX0.out.trans hu), fun v u h => (h) rfl _ _ rfl, fun u => (fun _ _ _ h => (by simp at h; obtain ⟨rfl, rfl⟩ := h; rfl)), ?_⟩
  · go_simp
    all_goals (first | done | ((repeat' apply And.intro) <;> first | rfl | exact wrapS (by omega) (by omega)))
  refine grow_f .f32 rfl ⟨_, _, fun u hu _ => (by go_simp; exact ⟨rfl, rfl⟩), _, fun u => fa_frr _ _ _ _ u, fun q1_1 hq1_1 => ?_⟩
  iterate 5 (refine grow_q rfl ?_; apply Exists.intro; refine ⟨fun u hu _ => ?_, ?_⟩; focus (obtain ⟨⟨c0, c1, c2, c3⟩, _⟩ := block4 ((hu).block B0); go_simp; rfl))
  refine grow_c1 70 rfl ⟨#[.agg #[.int .i64 W, .int .i64 H, .bool R, .slice (some ⟨b, o, none⟩) n c], .int .i64 (x - 1), .int .i64 (y + 1)], fun u => ?_, _, fun u hu _ => HC.out (x - 1) (y + 1) _ (HX0.out.trans hu), fun v u h => (h) rfl _ _ rfl, fun u => (fun _ _ _ h => (by simp at h; obtain ⟨rfl, rfl⟩ := h; rfl)), ?_⟩
  · go_simp
    all_goals (first | done | ((repeat' apply And.intro) <;> first | rfl | exact wrapS (by omega) (by omega)))
  iterate 5 (refine grow_q rfl ?_; apply Exists.intro; refine ⟨fun u hu _ => ?_, ?_⟩; focus (obtain ⟨⟨c0, c1, c2, c3⟩, _⟩ := block4 ((hu).block B0); go_simp; rfl))
  refine grow_c1 70 rfl ⟨#[.agg #[.int .i64 W, .int .i64 H, .bool R, .slice (some ⟨b, o, none⟩) n c], .int .i64 (x + 1), .int .i64 (y + 1)], fun u => ?_, _, fun u hu _ => HC.out (x + 1) (y + 1) _ (HX0.out.trans hu), fun v u h => (h) rfl _ _ rfl, fun u => (fun _ _ _ h => (by simp at h; obtain ⟨rfl, rfl⟩ := h; rfl)), ?_⟩
  · go_simp
    all_goals (first | done | ((repeat' apply And.intro) <;> first | rfl | exact wrapS (by omega) (by omega)))
  refine grow_f .f32 rfl ⟨_, _, fun u hu _ => (by go_simp; exact ⟨rfl, rfl⟩), _, fun u => fa_frr _ _ _ _ u, fun q1_2 hq1_2 => ?_⟩
  refine grow_f .f32 rfl ⟨_, _, fun u hu _ => (by go_simp; exact ⟨rfl, rfl⟩), _, fun u => fa_frr _ _ _ _ u, fun q1_3 hq1_3 => ?_⟩
  iterate 1 (refine grow_q rfl ?_; apply Exists.intro; refine ⟨fun u hu _ => ?_, ?_⟩; focus (obtain ⟨⟨c0, c1, c2, c3⟩, _⟩ := block4 ((hu).block B0); go_simp; rfl))
  refine grow_nil (fun w1 hw _ => ?_)
  have HRq1_1 := Lib.hid hq1_1
  clear hq1_1
  have HRq1_2 := Lib.hid hq1_2
  clear hq1_2
  have HRq1_3 := Lib.hid hq1_3
  clear hq1_3
  have H1 := Lib.hid hw
  clear hw
  go_simp
  obtain ⟨⟨c0, c1, c2, c3⟩, _⟩ := block4 (H1.out.block B0)
  go_wp2_with fail
  clear c0 c1 c2 c3
  refine region_grow (C := Ext _) (K := fun f args v _ => (f = 116 → args = #[.agg #[.int .i64 W, .int .i64 H, .bool R, .slice (some ⟨b, o, none⟩) n c], .int .i64 x, .int .i64 y] → ∃ r, v = .float .f32 r ∧ fa .f32 r = sidesG W H R fs x y) ∧ (f = 93 → args = #[.agg #[.int .i64 W, .int .i64 H, .bool R, .slice (some ⟨b, o, none⟩) n c], .int .i64 x, .int .i64 y] → v = .float .f32 (aboutB W H R xs x y))) ⟨fun _ _ h k => h.trans k, fun _ _ _ _ _ h _ => h⟩ (by kernel_rfl) (by kernel_rfl) ((Ext.refl _).drew) ?_
  iterate 3 (refine grow_q rfl ?_; apply Exists.intro; refine ⟨fun u hu _ => ?_, ?_⟩; focus (obtain ⟨⟨c0, c1, c2, c3⟩, _⟩ := block4 ((H1.out.trans hu).block B0); go_simp; rfl))
  refine grow_cf 116 .f32 rfl ⟨#[.agg #[.int .i64 W, .int .i64 H, .bool R, .slice (some ⟨b, o, none⟩) n c], .int .i64 x, .int .i64 y], fun u => ?_, _, fun u hu _ => HS.out _ (HX0.out.trans (H1.out.trans hu)), fun v u => ⟨fun h => (h.1) rfl  rfl, fun h0 => ⟨(fun _  h => (by simp at h; exact h0)), (fun h => by cases h)⟩⟩, fun q2_1 hq2_1 => ?_⟩
  · go_simp
    all_goals (first | done | ((repeat' apply And.intro) <;> first | rfl | exact wrapS (by omega) (by omega)))
  refine grow_f .f32 rfl ⟨_, _, fun u hu _ => (by go_simp; exact ⟨rfl, rfl⟩), _, fun u => fa_frr _ _ _ _ u, fun q2_2 hq2_2 => ?_⟩
  iterate 1 (refine grow_q rfl ?_; apply Exists.intro; refine ⟨fun u hu _ => ?_, ?_⟩; focus (obtain ⟨⟨c0, c1, c2, c3⟩, _⟩ := block4 ((H1.out.trans hu).block B0); go_simp; rfl))
  refine grow_f .f32 rfl ⟨_, _, fun u hu _ => (by go_simp; exact ⟨rfl, rfl⟩), _, fun u => fa_frr _ _ _ _ u, fun q2_3 hq2_3 => ?_⟩
  iterate 3 (refine grow_q rfl ?_; apply Exists.intro; refine ⟨fun u hu _ => ?_, ?_⟩; focus (obtain ⟨⟨c0, c1, c2, c3⟩, _⟩ := block4 ((H1.out.trans hu).block B0); go_simp; rfl))
  refine grow_c1 93 rfl ⟨#[.agg #[.int .i64 W, .int .i64 H, .bool R, .slice (some ⟨b, o, none⟩) n c], .int .i64 x, .int .i64 y], fun u => ?_, _, fun u hu _ => HT.out _ (HX0.out.trans (H1.out.trans hu)), fun v u h => (h.2) rfl  rfl, fun u => ⟨(fun h => by cases h), (fun _  h => (by simp at h; rfl))⟩, ?_⟩
  · go_simp
    all_goals (first | done | ((repeat' apply And.intro) <;> first | rfl | exact wrapS (by omega) (by omega)))
  refine grow_f .f32 rfl ⟨_, _, fun u hu _ => (by go_simp; exact ⟨rfl, rfl⟩), _, fun u => fa_frr _ _ _ _ u, fun q2_4 hq2_4 => ?_⟩
  refine grow_f .f32 rfl ⟨_, _, fun u hu _ => (by go_simp; exact ⟨rfl, rfl⟩), _, fun u => fa_frr _ _ _ _ u, fun q2_5 hq2_5 => ?_⟩
  refine grow_f .f32 rfl ⟨_, _, fun u hu _ => (by go_simp; exact ⟨rfl, rfl⟩), _, fun u => fa_frr _ _ _ _ u, fun q2_6 hq2_6 => ?_⟩
  iterate 1 (refine grow_q rfl ?_; apply Exists.intro; refine ⟨fun u hu _ => ?_, ?_⟩; focus (obtain ⟨⟨c0, c1, c2, c3⟩, _⟩ := block4 ((H1.out.trans hu).block B0); go_simp; rfl))
  refine grow_nil (fun w2 hw _ => ?_)
  have HRq2_1 := Lib.hid hq2_1
  clear hq2_1
  have HRq2_2 := Lib.hid hq2_2
  clear hq2_2
  have HRq2_3 := Lib.hid hq2_3
  clear hq2_3
  have HRq2_4 := Lib.hid hq2_4
  clear hq2_4
  have HRq2_5 := Lib.hid hq2_5
  clear hq2_5
  have HRq2_6 := Lib.hid hq2_6
  clear hq2_6
  have H2 := Lib.hid (H1.out.trans hw)
  clear hw H1
  go_simp
  obtain ⟨⟨c0, c1, c2, c3⟩, _⟩ := block4 (H2.out.block B0)
  go_wp2
  go_ret
  exact ⟨_, rfl, by simp only [fa_frr, HRq1_1.out, HRq1_2.out, HRq1_3.out, HRq2_1.out, HRq2_2.out, HRq2_3.out, HRq2_4.out, HRq2_5.out, HRq2_6.out, HF.out]; rfl, (HX0.out.trans H2.out)⟩

set_option maxRecDepth 100000 in
set_option maxHeartbeats 1000000 in
theorem slopes_any (W H x y : Int) (R : Bool) (b o n c : Nat) (xs : List Nat) (fs : List (Option Nat)) (hz : xs.length = n) (hfs : fas xs = fs) (hv : vldF W H n = true) (hx : -10000 ≤ x ∧ x ≤ 10000) (hy : -10000 ≤ y ∧ y ≤ 10000) (w : World) (hA : VArr w (some ⟨b, o, none⟩) (flts xs)) :
    Calls Try.prog 83 #[.agg #[.int .i64 W, .int .i64 H, .bool R, .slice (some ⟨b, o, none⟩) n c], .int .i64 x, .int .i64 y] w fun e w' => ∃ r r', e = .returned (.tuple #[.float .f32 r, .float .f32 r']) ∧ fa .f32 r = slopeXG W H R fs x y ∧ fa .f32 r' = slopeYG W H R fs x y ∧ Ext w w' := by
  have HF : Hid (∀ u v, fa .f32 (aboutB W H R xs u v) = aboutV W H R fs u v) := fa_about hfs (by rw [hz]; exact hv)
  have HC : Hid (∀ u v w', Ext w w' → Calls Try.prog 70 #[.agg #[.int .i64 W, .int .i64 H, .bool R, .slice (some ⟨b, o, none⟩) n c], .int .i64 u, .int .i64 v] w' fun e w'' => e = .returned (.float .f32 (aboutB W H R xs u v)) ∧ Ext w' w'') :=
    fun u v w' h => aboutF_any W H u v R b o n c xs hz hv w' (hA.ext h)
  clear hz hfs hv hA
  have HX0 := Lib.hid (show Ext w (w.alloc (.cells #[.int .i64 W, .int .i64 H, .bool R, .slice (some ⟨b, o, none⟩) n c] 27)) from (Ext.refl w).alloc (.cells #[.int .i64 W, .int .i64 H, .bool R, .slice (some ⟨b, o, none⟩) n c] 27))
  have B0 := heap_new w (.cells #[.int .i64 W, .int .i64 H, .bool R, .slice (some ⟨b, o, none⟩) n c] 27)
  go_enter Try.func83, Try.ntmps83
  obtain ⟨⟨c0, c1, c2, c3⟩, _⟩ := block4 B0
  go_wp2_with fail
  generalize w.alloc (.cells #[.int .i64 W, .int .i64 H, .bool R, .slice (some ⟨b, o, none⟩) n c] 27) = w0 at *
  generalize w.heap.size = pp at *
  clear c0 c1 c2 c3
  refine region_grow (C := Ext _) (K := fun f args v _ => (f = 70 → ∀ u0 u1, args = #[.agg #[.int .i64 W, .int .i64 H, .bool R, .slice (some ⟨b, o, none⟩) n c], .int .i64 u0, .int .i64 u1] → v = .float .f32 (aboutB W H R xs u0 u1))) ⟨fun _ _ h k => h.trans k, fun _ _ _ _ _ h _ => h⟩ (by kernel_rfl) (by kernel_rfl) ((Ext.refl _).drew) ?_
  iterate 4 (refine grow_q rfl ?_; apply Exists.intro; refine ⟨fun u hu _ => ?_, ?_⟩; focus (obtain ⟨⟨c0, c1, c2, c3⟩, _⟩ := block4 ((hu).block B0); go_simp; rfl))
  refine grow_c1 70 rfl ⟨#[.agg #[.int .i64 W, .int .i64 H, .bool R, .slice (some ⟨b, o, none⟩) n c], .int .i64 (x + 1), .int .i64 y], fun u => ?_, _, fun u hu _ => HC.out (x + 1) y _ (HX0.out.trans hu), fun v u h => (h) rfl _ _ rfl, fun u => (fun _ _ _ h => (by simp at h; obtain ⟨rfl, rfl⟩ := h; rfl)), ?_⟩
  · go_simp
    all_goals (first | done | ((repeat' apply And.intro) <;> first | rfl | exact wrapS (by omega) (by omega)))
  iterate 4 (refine grow_q rfl ?_; apply Exists.intro; refine ⟨fun u hu _ => ?_, ?_⟩; focus (obtain ⟨⟨c0, c1, c2, c3⟩, _⟩ := block4 ((hu).block B0); go_simp; rfl))
  refine grow_c1 70 rfl ⟨#[.agg #[.int .i64 W, .int .i64 H, .bool R, .slice (some ⟨b, o, none⟩) n c], .int .i64 (x - 1), .int .i64 y], fun u => ?_, _, fun u hu _ => HC.out (x - 1) y _ (HX0.out.trans hu), fun v u h => (h) rfl _ _ rfl, fun u => (fun _ _ _ h => (by simp at h; obtain ⟨rfl, rfl⟩ := h; rfl)), ?_⟩
  · go_simp
    all_goals (first | done | ((repeat' apply And.intro) <;> first | rfl | exact wrapS (by omega) (by omega)))
  refine grow_f .f32 rfl ⟨_, _, fun u hu _ => (by go_simp; exact ⟨rfl, rfl⟩), _, fun u => fa_frr _ _ _ _ u, fun q1_1 hq1_1 => ?_⟩
  refine grow_f .f32 rfl ⟨_, _, fun u hu _ => (by go_simp; exact ⟨rfl, rfl⟩), _, fun u => fa_frr _ _ _ _ u, fun q1_2 hq1_2 => ?_⟩
  iterate 4 (refine grow_q rfl ?_; apply Exists.intro; refine ⟨fun u hu _ => ?_, ?_⟩; focus (obtain ⟨⟨c0, c1, c2, c3⟩, _⟩ := block4 ((hu).block B0); go_simp; rfl))
  refine grow_c1 70 rfl ⟨#[.agg #[.int .i64 W, .int .i64 H, .bool R, .slice (some ⟨b, o, none⟩) n c], .int .i64 x, .int .i64 (y + 1)], fun u => ?_, _, fun u hu _ => HC.out x (y + 1) _ (HX0.out.trans hu), fun v u h => (h) rfl _ _ rfl, fun u => (fun _ _ _ h => (by simp at h; obtain ⟨rfl, rfl⟩ := h; rfl)), ?_⟩
  · go_simp
    all_goals (first | done | ((repeat' apply And.intro) <;> first | rfl | exact wrapS (by omega) (by omega)))
  iterate 4 (refine grow_q rfl ?_; apply Exists.intro; refine ⟨fun u hu _ => ?_, ?_⟩; focus (obtain ⟨⟨c0, c1, c2, c3⟩, _⟩ := block4 ((hu).block B0); go_simp; rfl))
  refine grow_c1 70 rfl ⟨#[.agg #[.int .i64 W, .int .i64 H, .bool R, .slice (some ⟨b, o, none⟩) n c], .int .i64 x, .int .i64 (y - 1)], fun u => ?_, _, fun u hu _ => HC.out x (y - 1) _ (HX0.out.trans hu), fun v u h => (h) rfl _ _ rfl, fun u => (fun _ _ _ h => (by simp at h; obtain ⟨rfl, rfl⟩ := h; rfl)), ?_⟩
  · go_simp
    all_goals (first | done | ((repeat' apply And.intro) <;> first | rfl | exact wrapS (by omega) (by omega)))
  refine grow_f .f32 rfl ⟨_, _, fun u hu _ => (by go_simp; exact ⟨rfl, rfl⟩), _, fun u => fa_frr _ _ _ _ u, fun q1_3 hq1_3 => ?_⟩
  refine grow_f .f32 rfl ⟨_, _, fun u hu _ => (by go_simp; exact ⟨rfl, rfl⟩), _, fun u => fa_frr _ _ _ _ u, fun q1_4 hq1_4 => ?_⟩
  iterate 2 (refine grow_q rfl ?_; apply Exists.intro; refine ⟨fun u hu _ => ?_, ?_⟩; focus (obtain ⟨⟨c0, c1, c2, c3⟩, _⟩ := block4 ((hu).block B0); go_simp; rfl))
  refine grow_nil (fun w1 hw _ => ?_)
  have HRq1_1 := Lib.hid hq1_1
  clear hq1_1
  have HRq1_2 := Lib.hid hq1_2
  clear hq1_2
  have HRq1_3 := Lib.hid hq1_3
  clear hq1_3
  have HRq1_4 := Lib.hid hq1_4
  clear hq1_4
  have H1 := Lib.hid hw
  clear hw
  go_simp
  obtain ⟨⟨c0, c1, c2, c3⟩, _⟩ := block4 (H1.out.block B0)
  go_wp2
  go_ret2
  exact ⟨_, _, rfl, by simp only [fa_frr, HRq1_1.out, HRq1_2.out, HRq1_3.out, HRq1_4.out, HF.out]; rfl, by simp only [fa_frr, HRq1_1.out, HRq1_2.out, HRq1_3.out, HRq1_4.out, HF.out]; rfl, (HX0.out.trans H1.out)⟩
end Go.Proofs.Ytllpbkmdcaikoaa
