/-
  What is no valid melt, by the reference. (Printed by gen_melt.py.)
-/
import Derived.Test.YtajfpjggdbifjaaMeF
namespace Go.Proofs.Ytajfpjggdbifjaa
open Go.RowKit
set_option linter.unusedVariables false
set_option linter.unusedSimpArgs false
set_option linter.unnecessarySimpa false


set_option maxRecDepth 100000 in
set_option maxHeartbeats 8000000 in
theorem l03Is_no (p : Nat) (W H : Int) (R : Bool) (a : Option Addr) (n c : Nat) (W' H' : Int) (R' : Bool) (a' : Option Addr) (n' c' : Nat) (f1 f2 f3 f4 f5 : Nat) (k : Int) (hn : n ≤ 1048576) (hn' : n' ≤ 1048576) (ht : twoB W H R n W' H' R' n' = false) (w : World) (hp : w.heap[p]? = some (.cells #[.int .i64 W, .int .i64 H, .bool R, .slice a n c, .int .i64 W', .int .i64 H', .bool R', .slice a' n' c', .float .f32 f1, .float .f32 f2, .float .f32 f3, .float .f32 f4, .float .f32 f5, .int .i64 k] 62 (0, 0))) :
    Calls Try.prog 103 #[.pointer (some ⟨p, 0, none⟩)] w fun e w' => e = .returned (.bool false) ∧ Ext w w' := by
  have HP := Lib.hid hp
  have C0 := Lib.hid (block_cell hp 0)
  have C1 := Lib.hid (block_cell hp 1)
  have C2 := Lib.hid (block_cell hp 2)
  have C4 := Lib.hid (block_cell hp 4)
  have C5 := Lib.hid (block_cell hp 5)
  have C6 := Lib.hid (block_cell hp 6)
  have HF0 : Hid (FldAtO w p 0 W H R a n c) := ⟨block_cell hp 0, block_cell hp 1, block_cell hp 2, block_cell hp 3⟩
  have HF4 : Hid (FldAtO w p 4 W' H' R' a' n' c') := ⟨block_cell hp 4, block_cell hp 5, block_cell hp 6, block_cell hp 7⟩
  clear hp
  cases hv : vldF W H n with
  | false =>
    have HV0 := Lib.hid hv
    clear hv ht
    go_enter Try.func103, Try.ntmps103
    go_wp2_with fail
    refine region_grow (C := Ext w) (K := fun _ args V _ => (args = #[.pointer (some ⟨p, 0, none⟩)] → V = .bool false) ∧ (args = #[.pointer (some ⟨p, 4, none⟩)] → V = .bool true)) ⟨fun _ _ h k => h.trans k, fun _ _ _ _ _ h _ => h⟩ (by kernel_rfl) (by kernel_rfl) ((Ext.refl w).drew) ?_
    (with_reducible refine grow_q (by kernel_rfl) ?_); apply Exists.intro; refine ⟨fun u hu _ => ?_, ?_⟩; focus (go_simp; rfl)
    (with_reducible refine grow_q (by kernel_rfl) ?_); apply Exists.intro; refine ⟨fun u hu _ => ?_, ?_⟩; focus (go_simp; rfl)
    (with_reducible refine grow_q (by kernel_rfl) ?_); apply Exists.intro; refine ⟨fun u hu _ => ?_, ?_⟩; focus (go_simp; rfl)
    with_reducible refine grow_c1 148 (by kernel_rfl) ?_
    refine ⟨#[.pointer (some ⟨p, 0, none⟩)], fun u => ?_, .bool false, fun u hu _ => (l02IsO_any p 0 W H R a n c (by omega) u ((HF0.out).ext hu)).mono (fun e w' h => ⟨by rw [HV0.out] at h; exact h.1, h.2⟩), fun V u h => h.1 rfl, fun u => ⟨fun _ => rfl, fun h => absurd h (by simp)⟩, ?_⟩
    · go_simp
    (with_reducible refine grow_q (by kernel_rfl) ?_); apply Exists.intro; refine ⟨fun u hu _ => ?_, ?_⟩; focus (go_simp; rfl)
    (with_reducible refine grow_q (by kernel_rfl) ?_); apply Exists.intro; refine ⟨fun u hu _ => ?_, ?_⟩; focus (go_simp; rfl)
    iterate 5 (with_reducible refine grow_skip (by kernel_rfl) ?_)
    (with_reducible refine grow_q (by kernel_rfl) ?_); apply Exists.intro; refine ⟨fun u hu _ => ?_, ?_⟩; focus (go_simp; rfl)
    (with_reducible refine grow_q (by kernel_rfl) ?_); apply Exists.intro; refine ⟨fun u hu _ => ?_, ?_⟩; focus (go_simp; rfl)
    iterate 11 (with_reducible refine grow_skip (by kernel_rfl) ?_)
    (with_reducible refine grow_q (by kernel_rfl) ?_); apply Exists.intro; refine ⟨fun u hu _ => ?_, ?_⟩; focus (go_simp; rfl)
    (with_reducible refine grow_q (by kernel_rfl) ?_); apply Exists.intro; refine ⟨fun u hu _ => ?_, ?_⟩; focus (go_simp; rfl)
    iterate 11 (with_reducible refine grow_skip (by kernel_rfl) ?_)
    (with_reducible refine grow_q (by kernel_rfl) ?_); apply Exists.intro; refine ⟨fun u hu _ => ?_, ?_⟩; focus (go_simp; rfl)
    (with_reducible refine grow_q (by kernel_rfl) ?_); apply Exists.intro; refine ⟨fun u hu _ => ?_, ?_⟩; focus (go_simp; rfl)
    iterate 11 (with_reducible refine grow_skip (by kernel_rfl) ?_)
    (with_reducible refine grow_q (by kernel_rfl) ?_); apply Exists.intro; refine ⟨fun u hu _ => ?_, ?_⟩; focus (go_simp; rfl)
    refine grow_nil (fun w4 hw4 _ => ?_)
    have HX4 := Lib.hid hw4
    clear hw4
    go_simp
    go_wp2
    go_ret
    exact ⟨rfl, HX4.out⟩
  | true =>
  cases hv' : vldF W' H' n' with
  | false =>
    have HV0 := Lib.hid hv
    have HV4 := Lib.hid hv'
    clear hv hv' ht
    go_enter Try.func103, Try.ntmps103
    go_wp2_with fail
    refine region_grow (C := Ext w) (K := fun _ args V _ => (args = #[.pointer (some ⟨p, 0, none⟩)] → V = .bool true) ∧ (args = #[.pointer (some ⟨p, 4, none⟩)] → V = .bool false)) ⟨fun _ _ h k => h.trans k, fun _ _ _ _ _ h _ => h⟩ (by kernel_rfl) (by kernel_rfl) ((Ext.refl w).drew) ?_
    (with_reducible refine grow_q (by kernel_rfl) ?_); apply Exists.intro; refine ⟨fun u hu _ => ?_, ?_⟩; focus (go_simp; rfl)
    (with_reducible refine grow_q (by kernel_rfl) ?_); apply Exists.intro; refine ⟨fun u hu _ => ?_, ?_⟩; focus (go_simp; rfl)
    (with_reducible refine grow_q (by kernel_rfl) ?_); apply Exists.intro; refine ⟨fun u hu _ => ?_, ?_⟩; focus (go_simp; rfl)
    with_reducible refine grow_c1 148 (by kernel_rfl) ?_
    refine ⟨#[.pointer (some ⟨p, 0, none⟩)], fun u => ?_, .bool true, fun u hu _ => (l02IsO_any p 0 W H R a n c (by omega) u ((HF0.out).ext hu)).mono (fun e w' h => ⟨by rw [HV0.out] at h; exact h.1, h.2⟩), fun V u h => h.1 rfl, fun u => ⟨fun _ => rfl, fun h => absurd h (by simp)⟩, ?_⟩
    · go_simp
    (with_reducible refine grow_q (by kernel_rfl) ?_); apply Exists.intro; refine ⟨fun u hu _ => ?_, ?_⟩; focus (go_simp; rfl)
    (with_reducible refine grow_q (by kernel_rfl) ?_); apply Exists.intro; refine ⟨fun u hu _ => ?_, ?_⟩; focus (go_simp; rfl)
    (with_reducible refine grow_q (by kernel_rfl) ?_); apply Exists.intro; refine ⟨fun u hu _ => ?_, ?_⟩; focus (go_simp; rfl)
    (with_reducible refine grow_q (by kernel_rfl) ?_); apply Exists.intro; refine ⟨fun u hu _ => ?_, ?_⟩; focus (go_simp; rfl)
    (with_reducible refine grow_q (by kernel_rfl) ?_); apply Exists.intro; refine ⟨fun u hu _ => ?_, ?_⟩; focus (go_simp; rfl)
    with_reducible refine grow_c1 148 (by kernel_rfl) ?_
    refine ⟨#[.pointer (some ⟨p, 4, none⟩)], fun u => ?_, .bool false, fun u hu _ => (l02IsO_any p 4 W' H' R' a' n' c' (by omega) u ((HF4.out).ext hu)).mono (fun e w' h => ⟨by rw [HV4.out] at h; exact h.1, h.2⟩), fun V u h => h.2 rfl, fun u => ⟨fun h => absurd h (by simp), fun _ => rfl⟩, ?_⟩
    · go_simp
    (with_reducible refine grow_q (by kernel_rfl) ?_); apply Exists.intro; refine ⟨fun u hu _ => ?_, ?_⟩; focus (go_simp; rfl)
    (with_reducible refine grow_q (by kernel_rfl) ?_); apply Exists.intro; refine ⟨fun u hu _ => ?_, ?_⟩; focus (go_simp; rfl)
    (with_reducible refine grow_q (by kernel_rfl) ?_); apply Exists.intro; refine ⟨fun u hu _ => ?_, ?_⟩; focus (go_simp; rfl)
    iterate 11 (with_reducible refine grow_skip (by kernel_rfl) ?_)
    (with_reducible refine grow_q (by kernel_rfl) ?_); apply Exists.intro; refine ⟨fun u hu _ => ?_, ?_⟩; focus (go_simp; rfl)
    (with_reducible refine grow_q (by kernel_rfl) ?_); apply Exists.intro; refine ⟨fun u hu _ => ?_, ?_⟩; focus (go_simp; rfl)
    iterate 11 (with_reducible refine grow_skip (by kernel_rfl) ?_)
    (with_reducible refine grow_q (by kernel_rfl) ?_); apply Exists.intro; refine ⟨fun u hu _ => ?_, ?_⟩; focus (go_simp; rfl)
    (with_reducible refine grow_q (by kernel_rfl) ?_); apply Exists.intro; refine ⟨fun u hu _ => ?_, ?_⟩; focus (go_simp; rfl)
    iterate 11 (with_reducible refine grow_skip (by kernel_rfl) ?_)
    (with_reducible refine grow_q (by kernel_rfl) ?_); apply Exists.intro; refine ⟨fun u hu _ => ?_, ?_⟩; focus (go_simp; rfl)
    refine grow_nil (fun w4 hw4 _ => ?_)
    have HX4 := Lib.hid hw4
    clear hw4
    go_simp
    go_wp2
    go_ret
    exact ⟨rfl, HX4.out⟩
  | true =>
  cases hW : (W == W') with
  | false =>
    have hne : (W != W') = true := by simp [bne, hW]
    clear hW
    have HV0 := Lib.hid hv
    have HV4 := Lib.hid hv'
    clear hv hv' ht
    go_enter Try.func103, Try.ntmps103
    go_wp2_with fail
    refine region_grow (C := Ext w) (K := fun _ args V _ => (args = #[.pointer (some ⟨p, 0, none⟩)] → V = .bool true) ∧ (args = #[.pointer (some ⟨p, 4, none⟩)] → V = .bool true)) ⟨fun _ _ h k => h.trans k, fun _ _ _ _ _ h _ => h⟩ (by kernel_rfl) (by kernel_rfl) ((Ext.refl w).drew) ?_
    (with_reducible refine grow_q (by kernel_rfl) ?_); apply Exists.intro; refine ⟨fun u hu _ => ?_, ?_⟩; focus (go_simp; rfl)
    (with_reducible refine grow_q (by kernel_rfl) ?_); apply Exists.intro; refine ⟨fun u hu _ => ?_, ?_⟩; focus (go_simp; rfl)
    (with_reducible refine grow_q (by kernel_rfl) ?_); apply Exists.intro; refine ⟨fun u hu _ => ?_, ?_⟩; focus (go_simp; rfl)
    with_reducible refine grow_c1 148 (by kernel_rfl) ?_
    refine ⟨#[.pointer (some ⟨p, 0, none⟩)], fun u => ?_, .bool true, fun u hu _ => (l02IsO_any p 0 W H R a n c (by omega) u ((HF0.out).ext hu)).mono (fun e w' h => ⟨by rw [HV0.out] at h; exact h.1, h.2⟩), fun V u h => h.1 rfl, fun u => ⟨fun _ => rfl, fun h => absurd h (by simp)⟩, ?_⟩
    · go_simp
    (with_reducible refine grow_q (by kernel_rfl) ?_); apply Exists.intro; refine ⟨fun u hu _ => ?_, ?_⟩; focus (go_simp; rfl)
    (with_reducible refine grow_q (by kernel_rfl) ?_); apply Exists.intro; refine ⟨fun u hu _ => ?_, ?_⟩; focus (go_simp; rfl)
    (with_reducible refine grow_q (by kernel_rfl) ?_); apply Exists.intro; refine ⟨fun u hu _ => ?_, ?_⟩; focus (go_simp; rfl)
    (with_reducible refine grow_q (by kernel_rfl) ?_); apply Exists.intro; refine ⟨fun u hu _ => ?_, ?_⟩; focus (go_simp; rfl)
    (with_reducible refine grow_q (by kernel_rfl) ?_); apply Exists.intro; refine ⟨fun u hu _ => ?_, ?_⟩; focus (go_simp; rfl)
    with_reducible refine grow_c1 148 (by kernel_rfl) ?_
    refine ⟨#[.pointer (some ⟨p, 4, none⟩)], fun u => ?_, .bool true, fun u hu _ => (l02IsO_any p 4 W' H' R' a' n' c' (by omega) u ((HF4.out).ext hu)).mono (fun e w' h => ⟨by rw [HV4.out] at h; exact h.1, h.2⟩), fun V u h => h.2 rfl, fun u => ⟨fun h => absurd h (by simp), fun _ => rfl⟩, ?_⟩
    · go_simp
    (with_reducible refine grow_q (by kernel_rfl) ?_); apply Exists.intro; refine ⟨fun u hu _ => ?_, ?_⟩; focus (go_simp; rfl)
    (with_reducible refine grow_q (by kernel_rfl) ?_); apply Exists.intro; refine ⟨fun u hu _ => ?_, ?_⟩; focus (go_simp; rfl)
    (with_reducible refine grow_q (by kernel_rfl) ?_); apply Exists.intro; refine ⟨fun u hu _ => ?_, ?_⟩; focus (go_simp; rfl)
    (with_reducible refine grow_q (by kernel_rfl) ?_); apply Exists.intro; refine ⟨fun u hu _ => ?_, ?_⟩; focus (go_simp; rfl)
    (with_reducible refine grow_q (by kernel_rfl) ?_); apply Exists.intro; refine ⟨fun u hu _ => ?_, ?_⟩; focus (go_simp; rfl)
    (with_reducible refine grow_q (by kernel_rfl) ?_); apply Exists.intro; refine ⟨fun u hu _ => ?_, ?_⟩; focus (go_simp; rfl)
    (with_reducible refine grow_q (by kernel_rfl) ?_); apply Exists.intro; refine ⟨fun u hu _ => ?_, ?_⟩; focus (go_simp; rfl)
    (with_reducible refine grow_q (by kernel_rfl) ?_); apply Exists.intro; refine ⟨fun u hu _ => ?_, ?_⟩; focus (have c := (Ext.cell hu C0.out); go_simp; rfl)
    (with_reducible refine grow_q (by kernel_rfl) ?_); apply Exists.intro; refine ⟨fun u hu _ => ?_, ?_⟩; focus (go_simp; rfl)
    (with_reducible refine grow_q (by kernel_rfl) ?_); apply Exists.intro; refine ⟨fun u hu _ => ?_, ?_⟩; focus (go_simp; rfl)
    (with_reducible refine grow_q (by kernel_rfl) ?_); apply Exists.intro; refine ⟨fun u hu _ => ?_, ?_⟩; focus (go_simp; rfl)
    (with_reducible refine grow_q (by kernel_rfl) ?_); apply Exists.intro; refine ⟨fun u hu _ => ?_, ?_⟩; focus (go_simp; rfl)
    (with_reducible refine grow_q (by kernel_rfl) ?_); apply Exists.intro; refine ⟨fun u hu _ => ?_, ?_⟩; focus (have c := (Ext.cell hu C4.out); go_simp; rfl)
    (with_reducible refine grow_q (by kernel_rfl) ?_); apply Exists.intro; refine ⟨fun u hu _ => ?_, ?_⟩; focus (go_simp; rfl)
    (with_reducible refine grow_q (by kernel_rfl) ?_); apply Exists.intro; refine ⟨fun u hu _ => ?_, ?_⟩; focus (go_simp; rfl)
    (with_reducible refine grow_q (by kernel_rfl) ?_); apply Exists.intro; refine ⟨fun u hu _ => ?_, ?_⟩; focus (go_simp; rfl)
    iterate 11 (with_reducible refine grow_skip (by kernel_rfl) ?_)
    (with_reducible refine grow_q (by kernel_rfl) ?_); apply Exists.intro; refine ⟨fun u hu _ => ?_, ?_⟩; focus (go_simp; rfl)
    (with_reducible refine grow_q (by kernel_rfl) ?_); apply Exists.intro; refine ⟨fun u hu _ => ?_, ?_⟩; focus (go_simp; rfl)
    iterate 11 (with_reducible refine grow_skip (by kernel_rfl) ?_)
    (with_reducible refine grow_q (by kernel_rfl) ?_); apply Exists.intro; refine ⟨fun u hu _ => ?_, ?_⟩; focus (go_simp; rfl)
    refine grow_nil (fun w4 hw4 _ => ?_)
    have HX4 := Lib.hid hw4
    clear hw4
    go_simp
    go_wp2
    go_ret
    exact ⟨rfl, HX4.out⟩
  | true =>
  have hWq : W = W' := by simpa using hW
  cases hH : (H == H') with
  | false =>
    have hne : (H != H') = true := by simp [bne, hH]
    clear hH
    have HV0 := Lib.hid hv
    have HV4 := Lib.hid hv'
    clear hv hv' ht
    go_enter Try.func103, Try.ntmps103
    go_wp2_with fail
    refine region_grow (C := Ext w) (K := fun _ args V _ => (args = #[.pointer (some ⟨p, 0, none⟩)] → V = .bool true) ∧ (args = #[.pointer (some ⟨p, 4, none⟩)] → V = .bool true)) ⟨fun _ _ h k => h.trans k, fun _ _ _ _ _ h _ => h⟩ (by kernel_rfl) (by kernel_rfl) ((Ext.refl w).drew) ?_
    (with_reducible refine grow_q (by kernel_rfl) ?_); apply Exists.intro; refine ⟨fun u hu _ => ?_, ?_⟩; focus (go_simp; rfl)
    (with_reducible refine grow_q (by kernel_rfl) ?_); apply Exists.intro; refine ⟨fun u hu _ => ?_, ?_⟩; focus (go_simp; rfl)
    (with_reducible refine grow_q (by kernel_rfl) ?_); apply Exists.intro; refine ⟨fun u hu _ => ?_, ?_⟩; focus (go_simp; rfl)
    with_reducible refine grow_c1 148 (by kernel_rfl) ?_
    refine ⟨#[.pointer (some ⟨p, 0, none⟩)], fun u => ?_, .bool true, fun u hu _ => (l02IsO_any p 0 W H R a n c (by omega) u ((HF0.out).ext hu)).mono (fun e w' h => ⟨by rw [HV0.out] at h; exact h.1, h.2⟩), fun V u h => h.1 rfl, fun u => ⟨fun _ => rfl, fun h => absurd h (by simp)⟩, ?_⟩
    · go_simp
    (with_reducible refine grow_q (by kernel_rfl) ?_); apply Exists.intro; refine ⟨fun u hu _ => ?_, ?_⟩; focus (go_simp; rfl)
    (with_reducible refine grow_q (by kernel_rfl) ?_); apply Exists.intro; refine ⟨fun u hu _ => ?_, ?_⟩; focus (go_simp; rfl)
    (with_reducible refine grow_q (by kernel_rfl) ?_); apply Exists.intro; refine ⟨fun u hu _ => ?_, ?_⟩; focus (go_simp; rfl)
    (with_reducible refine grow_q (by kernel_rfl) ?_); apply Exists.intro; refine ⟨fun u hu _ => ?_, ?_⟩; focus (go_simp; rfl)
    (with_reducible refine grow_q (by kernel_rfl) ?_); apply Exists.intro; refine ⟨fun u hu _ => ?_, ?_⟩; focus (go_simp; rfl)
    with_reducible refine grow_c1 148 (by kernel_rfl) ?_
    refine ⟨#[.pointer (some ⟨p, 4, none⟩)], fun u => ?_, .bool true, fun u hu _ => (l02IsO_any p 4 W' H' R' a' n' c' (by omega) u ((HF4.out).ext hu)).mono (fun e w' h => ⟨by rw [HV4.out] at h; exact h.1, h.2⟩), fun V u h => h.2 rfl, fun u => ⟨fun h => absurd h (by simp), fun _ => rfl⟩, ?_⟩
    · go_simp
    (with_reducible refine grow_q (by kernel_rfl) ?_); apply Exists.intro; refine ⟨fun u hu _ => ?_, ?_⟩; focus (go_simp; rfl)
    (with_reducible refine grow_q (by kernel_rfl) ?_); apply Exists.intro; refine ⟨fun u hu _ => ?_, ?_⟩; focus (go_simp; rfl)
    (with_reducible refine grow_q (by kernel_rfl) ?_); apply Exists.intro; refine ⟨fun u hu _ => ?_, ?_⟩; focus (go_simp; rfl)
    (with_reducible refine grow_q (by kernel_rfl) ?_); apply Exists.intro; refine ⟨fun u hu _ => ?_, ?_⟩; focus (go_simp; rfl)
    (with_reducible refine grow_q (by kernel_rfl) ?_); apply Exists.intro; refine ⟨fun u hu _ => ?_, ?_⟩; focus (go_simp; rfl)
    (with_reducible refine grow_q (by kernel_rfl) ?_); apply Exists.intro; refine ⟨fun u hu _ => ?_, ?_⟩; focus (go_simp; rfl)
    (with_reducible refine grow_q (by kernel_rfl) ?_); apply Exists.intro; refine ⟨fun u hu _ => ?_, ?_⟩; focus (go_simp; rfl)
    (with_reducible refine grow_q (by kernel_rfl) ?_); apply Exists.intro; refine ⟨fun u hu _ => ?_, ?_⟩; focus (have c := (Ext.cell hu C0.out); go_simp; rfl)
    (with_reducible refine grow_q (by kernel_rfl) ?_); apply Exists.intro; refine ⟨fun u hu _ => ?_, ?_⟩; focus (go_simp; rfl)
    (with_reducible refine grow_q (by kernel_rfl) ?_); apply Exists.intro; refine ⟨fun u hu _ => ?_, ?_⟩; focus (go_simp; rfl)
    (with_reducible refine grow_q (by kernel_rfl) ?_); apply Exists.intro; refine ⟨fun u hu _ => ?_, ?_⟩; focus (go_simp; rfl)
    (with_reducible refine grow_q (by kernel_rfl) ?_); apply Exists.intro; refine ⟨fun u hu _ => ?_, ?_⟩; focus (go_simp; rfl)
    (with_reducible refine grow_q (by kernel_rfl) ?_); apply Exists.intro; refine ⟨fun u hu _ => ?_, ?_⟩; focus (have c := (Ext.cell hu C4.out); go_simp; rfl)
    (with_reducible refine grow_q (by kernel_rfl) ?_); apply Exists.intro; refine ⟨fun u hu _ => ?_, ?_⟩; focus (go_simp; rfl)
    (with_reducible refine grow_q (by kernel_rfl) ?_); apply Exists.intro; refine ⟨fun u hu _ => ?_, ?_⟩; focus (go_simp; rfl)
    (with_reducible refine grow_q (by kernel_rfl) ?_); apply Exists.intro; refine ⟨fun u hu _ => ?_, ?_⟩; focus (go_simp; rfl)
    (with_reducible refine grow_q (by kernel_rfl) ?_); apply Exists.intro; refine ⟨fun u hu _ => ?_, ?_⟩; focus (go_simp; rfl)
    (with_reducible refine grow_q (by kernel_rfl) ?_); apply Exists.intro; refine ⟨fun u hu _ => ?_, ?_⟩; focus (go_simp; rfl)
    (with_reducible refine grow_q (by kernel_rfl) ?_); apply Exists.intro; refine ⟨fun u hu _ => ?_, ?_⟩; focus (go_simp; rfl)
    (with_reducible refine grow_q (by kernel_rfl) ?_); apply Exists.intro; refine ⟨fun u hu _ => ?_, ?_⟩; focus (go_simp; rfl)
    (with_reducible refine grow_q (by kernel_rfl) ?_); apply Exists.intro; refine ⟨fun u hu _ => ?_, ?_⟩; focus (have c := (Ext.cell hu C1.out); go_simp; rfl)
    (with_reducible refine grow_q (by kernel_rfl) ?_); apply Exists.intro; refine ⟨fun u hu _ => ?_, ?_⟩; focus (go_simp; rfl)
    (with_reducible refine grow_q (by kernel_rfl) ?_); apply Exists.intro; refine ⟨fun u hu _ => ?_, ?_⟩; focus (go_simp; rfl)
    (with_reducible refine grow_q (by kernel_rfl) ?_); apply Exists.intro; refine ⟨fun u hu _ => ?_, ?_⟩; focus (go_simp; rfl)
    (with_reducible refine grow_q (by kernel_rfl) ?_); apply Exists.intro; refine ⟨fun u hu _ => ?_, ?_⟩; focus (go_simp; rfl)
    (with_reducible refine grow_q (by kernel_rfl) ?_); apply Exists.intro; refine ⟨fun u hu _ => ?_, ?_⟩; focus (have c := (Ext.cell hu C5.out); go_simp; rfl)
    (with_reducible refine grow_q (by kernel_rfl) ?_); apply Exists.intro; refine ⟨fun u hu _ => ?_, ?_⟩; focus (go_simp; rfl)
    (with_reducible refine grow_q (by kernel_rfl) ?_); apply Exists.intro; refine ⟨fun u hu _ => ?_, ?_⟩; focus (go_simp; rfl)
    (with_reducible refine grow_q (by kernel_rfl) ?_); apply Exists.intro; refine ⟨fun u hu _ => ?_, ?_⟩; focus (go_simp; rfl)
    iterate 11 (with_reducible refine grow_skip (by kernel_rfl) ?_)
    (with_reducible refine grow_q (by kernel_rfl) ?_); apply Exists.intro; refine ⟨fun u hu _ => ?_, ?_⟩; focus (go_simp; rfl)
    refine grow_nil (fun w4 hw4 _ => ?_)
    have HX4 := Lib.hid hw4
    clear hw4
    go_simp
    go_wp2
    go_ret
    exact ⟨rfl, HX4.out⟩
  | true =>
  have hHq : H = H' := by simpa using hH
  cases hR : (R == R') with
  | false =>
    have hne : (R != R') = true := by simp [bne, hR]
    clear hR
    have HV0 := Lib.hid hv
    have HV4 := Lib.hid hv'
    clear hv hv' ht
    go_enter Try.func103, Try.ntmps103
    go_wp2_with fail
    have hne2 : ((!R) == R') = true := by revert hne; cases R <;> cases R' <;> simp
    have hne3 : (!(R == R')) = true := by revert hne; cases R <;> cases R' <;> simp
    refine region_grow (C := Ext w) (K := fun _ args V _ => (args = #[.pointer (some ⟨p, 0, none⟩)] → V = .bool true) ∧ (args = #[.pointer (some ⟨p, 4, none⟩)] → V = .bool true)) ⟨fun _ _ h k => h.trans k, fun _ _ _ _ _ h _ => h⟩ (by kernel_rfl) (by kernel_rfl) ((Ext.refl w).drew) ?_
    (with_reducible refine grow_q (by kernel_rfl) ?_); apply Exists.intro; refine ⟨fun u hu _ => ?_, ?_⟩; focus (go_simp; rfl)
    (with_reducible refine grow_q (by kernel_rfl) ?_); apply Exists.intro; refine ⟨fun u hu _ => ?_, ?_⟩; focus (go_simp; rfl)
    (with_reducible refine grow_q (by kernel_rfl) ?_); apply Exists.intro; refine ⟨fun u hu _ => ?_, ?_⟩; focus (go_simp; rfl)
    with_reducible refine grow_c1 148 (by kernel_rfl) ?_
    refine ⟨#[.pointer (some ⟨p, 0, none⟩)], fun u => ?_, .bool true, fun u hu _ => (l02IsO_any p 0 W H R a n c (by omega) u ((HF0.out).ext hu)).mono (fun e w' h => ⟨by rw [HV0.out] at h; exact h.1, h.2⟩), fun V u h => h.1 rfl, fun u => ⟨fun _ => rfl, fun h => absurd h (by simp)⟩, ?_⟩
    · go_simp
    (with_reducible refine grow_q (by kernel_rfl) ?_); apply Exists.intro; refine ⟨fun u hu _ => ?_, ?_⟩; focus (go_simp; rfl)
    (with_reducible refine grow_q (by kernel_rfl) ?_); apply Exists.intro; refine ⟨fun u hu _ => ?_, ?_⟩; focus (go_simp; rfl)
    (with_reducible refine grow_q (by kernel_rfl) ?_); apply Exists.intro; refine ⟨fun u hu _ => ?_, ?_⟩; focus (go_simp; rfl)
    (with_reducible refine grow_q (by kernel_rfl) ?_); apply Exists.intro; refine ⟨fun u hu _ => ?_, ?_⟩; focus (go_simp; rfl)
    (with_reducible refine grow_q (by kernel_rfl) ?_); apply Exists.intro; refine ⟨fun u hu _ => ?_, ?_⟩; focus (go_simp; rfl)
    with_reducible refine grow_c1 148 (by kernel_rfl) ?_
    refine ⟨#[.pointer (some ⟨p, 4, none⟩)], fun u => ?_, .bool true, fun u hu _ => (l02IsO_any p 4 W' H' R' a' n' c' (by omega) u ((HF4.out).ext hu)).mono (fun e w' h => ⟨by rw [HV4.out] at h; exact h.1, h.2⟩), fun V u h => h.2 rfl, fun u => ⟨fun h => absurd h (by simp), fun _ => rfl⟩, ?_⟩
    · go_simp
    (with_reducible refine grow_q (by kernel_rfl) ?_); apply Exists.intro; refine ⟨fun u hu _ => ?_, ?_⟩; focus (go_simp; rfl)
    (with_reducible refine grow_q (by kernel_rfl) ?_); apply Exists.intro; refine ⟨fun u hu _ => ?_, ?_⟩; focus (go_simp; rfl)
    (with_reducible refine grow_q (by kernel_rfl) ?_); apply Exists.intro; refine ⟨fun u hu _ => ?_, ?_⟩; focus (go_simp; rfl)
    (with_reducible refine grow_q (by kernel_rfl) ?_); apply Exists.intro; refine ⟨fun u hu _ => ?_, ?_⟩; focus (go_simp; rfl)
    (with_reducible refine grow_q (by kernel_rfl) ?_); apply Exists.intro; refine ⟨fun u hu _ => ?_, ?_⟩; focus (go_simp; rfl)
    (with_reducible refine grow_q (by kernel_rfl) ?_); apply Exists.intro; refine ⟨fun u hu _ => ?_, ?_⟩; focus (go_simp; rfl)
    (with_reducible refine grow_q (by kernel_rfl) ?_); apply Exists.intro; refine ⟨fun u hu _ => ?_, ?_⟩; focus (go_simp; rfl)
    (with_reducible refine grow_q (by kernel_rfl) ?_); apply Exists.intro; refine ⟨fun u hu _ => ?_, ?_⟩; focus (have c := (Ext.cell hu C0.out); go_simp; rfl)
    (with_reducible refine grow_q (by kernel_rfl) ?_); apply Exists.intro; refine ⟨fun u hu _ => ?_, ?_⟩; focus (go_simp; rfl)
    (with_reducible refine grow_q (by kernel_rfl) ?_); apply Exists.intro; refine ⟨fun u hu _ => ?_, ?_⟩; focus (go_simp; rfl)
    (with_reducible refine grow_q (by kernel_rfl) ?_); apply Exists.intro; refine ⟨fun u hu _ => ?_, ?_⟩; focus (go_simp; rfl)
    (with_reducible refine grow_q (by kernel_rfl) ?_); apply Exists.intro; refine ⟨fun u hu _ => ?_, ?_⟩; focus (go_simp; rfl)
    (with_reducible refine grow_q (by kernel_rfl) ?_); apply Exists.intro; refine ⟨fun u hu _ => ?_, ?_⟩; focus (have c := (Ext.cell hu C4.out); go_simp; rfl)
    (with_reducible refine grow_q (by kernel_rfl) ?_); apply Exists.intro; refine ⟨fun u hu _ => ?_, ?_⟩; focus (go_simp; rfl)
    (with_reducible refine grow_q (by kernel_rfl) ?_); apply Exists.intro; refine ⟨fun u hu _ => ?_, ?_⟩; focus (go_simp; rfl)
    (with_reducible refine grow_q (by kernel_rfl) ?_); apply Exists.intro; refine ⟨fun u hu _ => ?_, ?_⟩; focus (go_simp; rfl)
    (with_reducible refine grow_q (by kernel_rfl) ?_); apply Exists.intro; refine ⟨fun u hu _ => ?_, ?_⟩; focus (go_simp; rfl)
    (with_reducible refine grow_q (by kernel_rfl) ?_); apply Exists.intro; refine ⟨fun u hu _ => ?_, ?_⟩; focus (go_simp; rfl)
    (with_reducible refine grow_q (by kernel_rfl) ?_); apply Exists.intro; refine ⟨fun u hu _ => ?_, ?_⟩; focus (go_simp; rfl)
    (with_reducible refine grow_q (by kernel_rfl) ?_); apply Exists.intro; refine ⟨fun u hu _ => ?_, ?_⟩; focus (go_simp; rfl)
    (with_reducible refine grow_q (by kernel_rfl) ?_); apply Exists.intro; refine ⟨fun u hu _ => ?_, ?_⟩; focus (have c := (Ext.cell hu C1.out); go_simp; rfl)
    (with_reducible refine grow_q (by kernel_rfl) ?_); apply Exists.intro; refine ⟨fun u hu _ => ?_, ?_⟩; focus (go_simp; rfl)
    (with_reducible refine grow_q (by kernel_rfl) ?_); apply Exists.intro; refine ⟨fun u hu _ => ?_, ?_⟩; focus (go_simp; rfl)
    (with_reducible refine grow_q (by kernel_rfl) ?_); apply Exists.intro; refine ⟨fun u hu _ => ?_, ?_⟩; focus (go_simp; rfl)
    (with_reducible refine grow_q (by kernel_rfl) ?_); apply Exists.intro; refine ⟨fun u hu _ => ?_, ?_⟩; focus (go_simp; rfl)
    (with_reducible refine grow_q (by kernel_rfl) ?_); apply Exists.intro; refine ⟨fun u hu _ => ?_, ?_⟩; focus (have c := (Ext.cell hu C5.out); go_simp; rfl)
    (with_reducible refine grow_q (by kernel_rfl) ?_); apply Exists.intro; refine ⟨fun u hu _ => ?_, ?_⟩; focus (go_simp; rfl)
    (with_reducible refine grow_q (by kernel_rfl) ?_); apply Exists.intro; refine ⟨fun u hu _ => ?_, ?_⟩; focus (go_simp; rfl)
    (with_reducible refine grow_q (by kernel_rfl) ?_); apply Exists.intro; refine ⟨fun u hu _ => ?_, ?_⟩; focus (go_simp; rfl)
    (with_reducible refine grow_q (by kernel_rfl) ?_); apply Exists.intro; refine ⟨fun u hu _ => ?_, ?_⟩; focus (go_simp; rfl)
    (with_reducible refine grow_q (by kernel_rfl) ?_); apply Exists.intro; refine ⟨fun u hu _ => ?_, ?_⟩; focus (go_simp; rfl)
    (with_reducible refine grow_q (by kernel_rfl) ?_); apply Exists.intro; refine ⟨fun u hu _ => ?_, ?_⟩; focus (go_simp; rfl)
    (with_reducible refine grow_q (by kernel_rfl) ?_); apply Exists.intro; refine ⟨fun u hu _ => ?_, ?_⟩; focus (go_simp; rfl)
    (with_reducible refine grow_q (by kernel_rfl) ?_); apply Exists.intro; refine ⟨fun u hu _ => ?_, ?_⟩; focus (have c := (Ext.cell hu C2.out); go_simp; rfl)
    (with_reducible refine grow_q (by kernel_rfl) ?_); apply Exists.intro; refine ⟨fun u hu _ => ?_, ?_⟩; focus (go_simp; rfl)
    (with_reducible refine grow_q (by kernel_rfl) ?_); apply Exists.intro; refine ⟨fun u hu _ => ?_, ?_⟩; focus (go_simp; rfl)
    (with_reducible refine grow_q (by kernel_rfl) ?_); apply Exists.intro; refine ⟨fun u hu _ => ?_, ?_⟩; focus (go_simp; rfl)
    (with_reducible refine grow_q (by kernel_rfl) ?_); apply Exists.intro; refine ⟨fun u hu _ => ?_, ?_⟩; focus (go_simp; rfl)
    (with_reducible refine grow_q (by kernel_rfl) ?_); apply Exists.intro; refine ⟨fun u hu _ => ?_, ?_⟩; focus (have c := (Ext.cell hu C6.out); go_simp; rfl)
    (with_reducible refine grow_q (by kernel_rfl) ?_); apply Exists.intro; refine ⟨fun u hu _ => ?_, ?_⟩; focus (go_simp; rfl)
    (with_reducible refine grow_q (by kernel_rfl) ?_); apply Exists.intro; refine ⟨fun u hu _ => ?_, ?_⟩; focus (go_simp; rfl)
    refine grow_nil (fun w4 hw4 _ => ?_)
    have HX4 := Lib.hid hw4
    clear hw4
    go_simp
    go_wp2
    go_ret
    exact ⟨rfl, HX4.out⟩
  | true =>
  have hRq : R = R' := by simpa using hR
  exfalso
  clear hWq hHq hRq
  simp [twoB, alikeB, hv, hv', hW, hH, hR] at ht
end Go.Proofs.Ytajfpjggdbifjaa
