/-
  The sums and differences about a cell, by the program and by the reference.
-/
import Derived.Test.YtajfpjggdbifjaaFlB
namespace Go.Proofs.Ytajfpjggdbifjaa
open Go.RowKit
set_option linter.unusedVariables false
set_option linter.unusedSimpArgs false
set_option linter.unnecessarySimpa false

def sidesG (W H : Int) (R : Bool) (fs : List (Option Nat)) (x y : Int) : Option Nat :=
  fop .add .f32 (fop .add .f32 (aboutV W H R fs (x - 1) y) (aboutV W H R fs (x + 1) y)) (fop .add .f32 (aboutV W H R fs x (y - 1)) (aboutV W H R fs x (y + 1)))
def laplaceG (W H : Int) (R : Bool) (fs : List (Option Nat)) (x y : Int) : Option Nat :=
  fop .sub .f32 (sidesG W H R fs x y) (fop .mul .f32 (fa .f32 1082130432) (aboutV W H R fs x y))

set_option maxRecDepth 100000 in
theorem sides_any (W H x y : Int) (R : Bool) (b o n c : Nat) (xs : List Nat) (fs : List (Option Nat)) (hz : xs.length = n) (hfs : fas xs = fs) (hv : vldF W H n = true) (hx : -10000 ≤ x ∧ x ≤ 10000) (hy : -10000 ≤ y ∧ y ≤ 10000) (w : World) (hA : VArr w (some ⟨b, o, none⟩) (flts xs)) :
    Calls Try.prog 132 #[.agg #[.int .i64 W, .int .i64 H, .bool R, .slice (some ⟨b, o, none⟩) n c], .int .i64 x, .int .i64 y] w fun e w' => ∃ r, e = .returned (.float .f32 r) ∧ fa .f32 r = sidesG W H R fs x y ∧ Ext w w' := by
  have HF : Hid (∀ u v, fa .f32 (aboutB W H R xs u v) = aboutV W H R fs u v) := fa_about hfs (by rw [hz]; exact hv)
  have HC : Hid (∀ u v w', Ext w w' → Calls Try.prog 141 #[.agg #[.int .i64 W, .int .i64 H, .bool R, .slice (some ⟨b, o, none⟩) n c], .int .i64 u, .int .i64 v] w' fun e w'' => e = .returned (.float .f32 (aboutB W H R xs u v)) ∧ Ext w' w'') :=
    fun u v w' h => aboutF_any W H u v R b o n c xs hz hv w' (hA.ext h)
  have hX := (Ext.refl w).alloc (.cells #[.int .i64 W, .int .i64 H, .bool R, .slice (some ⟨b, o, none⟩) n c] 26)
  have B0 := heap_new w (.cells #[.int .i64 W, .int .i64 H, .bool R, .slice (some ⟨b, o, none⟩) n c] 26)
  clear hz hfs hv hA
  go_enter Try.func132, Try.ntmps132
  go_wp2_with fail
  generalize w.alloc (.cells #[.int .i64 W, .int .i64 H, .bool R, .slice (some ⟨b, o, none⟩) n c] 26) = w0 at *
  generalize w.heap.size = p at *
  refine region_grow (C := Ext w0) (K := fun f args v _ => ∀ u u', args = #[.agg #[.int .i64 W, .int .i64 H, .bool R, .slice (some ⟨b, o, none⟩) n c], .int .i64 u, .int .i64 u'] → v = .float .f32 (aboutB W H R xs u u')) ⟨fun _ _ h k => h.trans k, fun _ _ _ _ _ h _ => h⟩ (by kernel_rfl) (by kernel_rfl) ((Ext.refl w0).drew) ?_
  iterate 4 (refine grow_q rfl ?_; apply Exists.intro; refine ⟨fun u hu _ => ?_, ?_⟩; focus (obtain ⟨⟨c0, c1, c2, c3⟩, _⟩ := block4 (hu.block B0); go_simp; rfl))
  refine grow_c1 141 rfl ⟨#[.agg #[.int .i64 W, .int .i64 H, .bool R, .slice (some ⟨b, o, none⟩) n c], .int .i64 (x - 1), .int .i64 y], fun u => ?_, _, fun u hu _ => HC.out (x - 1) y u (hX.trans hu), fun v u h => h _ _ rfl, fun u _ _ h => (by simp at h; obtain ⟨rfl, rfl⟩ := h; rfl), ?_⟩
  · go_simp
    exact wrapS (by omega) (by omega)
  iterate 4 (refine grow_q rfl ?_; apply Exists.intro; refine ⟨fun u hu _ => ?_, ?_⟩; focus (obtain ⟨⟨c0, c1, c2, c3⟩, _⟩ := block4 (hu.block B0); go_simp; rfl))
  refine grow_c1 141 rfl ⟨#[.agg #[.int .i64 W, .int .i64 H, .bool R, .slice (some ⟨b, o, none⟩) n c], .int .i64 (x + 1), .int .i64 y], fun u => ?_, _, fun u hu _ => HC.out (x + 1) y u (hX.trans hu), fun v u h => h _ _ rfl, fun u _ _ h => (by simp at h; obtain ⟨rfl, rfl⟩ := h; rfl), ?_⟩
  · go_simp
    exact wrapS (by omega) (by omega)
  refine grow_f .f32 rfl ⟨_, _, fun u hu _ => (by go_simp; exact ⟨rfl, rfl⟩), _, fun u => fa_frr _ _ _ _ u, fun r1 hr1 => ?_⟩
  iterate 4 (refine grow_q rfl ?_; apply Exists.intro; refine ⟨fun u hu _ => ?_, ?_⟩; focus (obtain ⟨⟨c0, c1, c2, c3⟩, _⟩ := block4 (hu.block B0); go_simp; rfl))
  refine grow_c1 141 rfl ⟨#[.agg #[.int .i64 W, .int .i64 H, .bool R, .slice (some ⟨b, o, none⟩) n c], .int .i64 x, .int .i64 (y - 1)], fun u => ?_, _, fun u hu _ => HC.out x (y - 1) u (hX.trans hu), fun v u h => h _ _ rfl, fun u _ _ h => (by simp at h; obtain ⟨rfl, rfl⟩ := h; rfl), ?_⟩
  · go_simp
    exact wrapS (by omega) (by omega)
  iterate 4 (refine grow_q rfl ?_; apply Exists.intro; refine ⟨fun u hu _ => ?_, ?_⟩; focus (obtain ⟨⟨c0, c1, c2, c3⟩, _⟩ := block4 (hu.block B0); go_simp; rfl))
  refine grow_c1 141 rfl ⟨#[.agg #[.int .i64 W, .int .i64 H, .bool R, .slice (some ⟨b, o, none⟩) n c], .int .i64 x, .int .i64 (y + 1)], fun u => ?_, _, fun u hu _ => HC.out x (y + 1) u (hX.trans hu), fun v u h => h _ _ rfl, fun u _ _ h => (by simp at h; obtain ⟨rfl, rfl⟩ := h; rfl), ?_⟩
  · go_simp
    exact wrapS (by omega) (by omega)
  refine grow_f .f32 rfl ⟨_, _, fun u hu _ => (by go_simp; exact ⟨rfl, rfl⟩), _, fun u => fa_frr _ _ _ _ u, fun r2 hr2 => ?_⟩
  refine grow_f .f32 rfl ⟨_, _, fun u hu _ => (by go_simp; exact ⟨rfl, rfl⟩), _, fun u => fa_frr _ _ _ _ u, fun r3 hr3 => ?_⟩
  refine grow_q rfl ?_; apply Exists.intro; refine ⟨fun u hu _ => ?_, ?_⟩; focus (go_simp; rfl)
  refine grow_nil (fun w2 hw _ => ?_)
  have HR := Lib.hid (hr3.trans (by rw [hr1, hr2]))
  clear hr1 hr2 hr3
  have HX := Lib.hid (hX.trans hw)
  clear hX hw
  go_simp
  go_wp2
  go_ret
  exact ⟨_, rfl, by rw [HR.out]; simp only [HF.out]; rfl, HX.out⟩
end Go.Proofs.Ytajfpjggdbifjaa
