/-
  SameField by the reference.
-/
import Derived.Test.YtajfpjggdbifjaaFsA
namespace Go.Proofs.Ytajfpjggdbifjaa
open Go.RowKit
set_option linter.unusedVariables false
set_option linter.unusedSimpArgs false
set_option linter.unnecessarySimpa false

set_option maxRecDepth 100000 in
set_option maxHeartbeats 1000000 in
theorem l02Same_any (p p' : Nat) (W H W' H' : Int) (R R' : Bool) (a a' : Option Addr) (n c n' c' : Nat) (zs zs' : List Nat) (hz : zs.length = n) (hz' : zs'.length = n') (hn : n ≤ 1048576) (hn' : n' ≤ 1048576) (hw : wfF zs) (hw' : wfF zs') (w : World) (hp : FldAt w p W H R a n c) (hp' : FldAt w p' W' H' R' a' n' c') (hA : VArr w a (flts zs)) (hA' : VArr w a' (flts zs')) :
    Calls Try.prog 144 #[.pointer (some ⟨p, 0, none⟩), .pointer (some ⟨p', 0, none⟩)] w fun e w' => e = .returned (.bool (sameFB W H R W' H' R' zs zs')) ∧ Ext w w' := by
  have HP := Lib.hid hp
  have HP' := Lib.hid hp'
  have HA := Lib.hid hA
  have HA' := Lib.hid hA'
  clear hp hp' hA hA'
  cases ha : alikeB W H R W' H' R' with
  | false =>
    have HS : Hid (sameFB W H R W' H' R' zs zs' = false) := by show _ = _; simp [sameFB, ha]
    have HAL := Lib.hid ha
    clear ha
    go_enter Try.func144, Try.ntmps144
    go_wp2_with fail
    refine region_grow (C := Ext w) (K := fun _ _ V _ => V = .bool false) ⟨fun _ _ h k => h.trans k, fun _ _ _ _ _ h _ => h⟩ (by kernel_rfl) (by kernel_rfl) ((Ext.refl w).drew) ?_
    iterate 2 (refine grow_q rfl ?_; apply Exists.intro; refine ⟨fun u' hu' _ => ?_, ?_⟩; focus (go_simp; rfl))
    refine grow_c1 169 rfl ⟨#[.pointer (some ⟨p, 0, none⟩), .pointer (some ⟨p', 0, none⟩)], fun u' => ?_, .bool false, fun u' hu' _ => (l02Alike_any p p' W H W' H' R R' a a' n c n' c' u' (HP.out.ext hu') (HP'.out.ext hu')).mono (fun e w' h => ⟨by rw [HAL.out] at h; exact h.1, h.2⟩), fun V u h => h, fun u => rfl, ?_⟩
    · go_simp
    iterate 1 (refine grow_q rfl ?_; apply Exists.intro; refine ⟨fun u' hu' _ => ?_, ?_⟩; focus (go_simp; rfl))
    iterate 9 (with_reducible refine grow_skip (by kernel_rfl) ?_)
    iterate 2 (refine grow_q rfl ?_; apply Exists.intro; refine ⟨fun u' hu' _ => ?_, ?_⟩; focus (go_simp; rfl))
    refine grow_nil (fun w4 hw4 _ => ?_)
    have HX4 := Lib.hid hw4
    clear hw4
    go_simp
    go_wp2
    go_ret
    exact ⟨by rw [HS.out]; rfl, HX4.out⟩
  | true =>
    have HS : Hid (sameFB W H R W' H' R' zs zs' = sameL zs zs') := by show _ = _; simp [sameFB, ha]
    have HAL := Lib.hid ha
    clear ha
    go_enter Try.func144, Try.ntmps144
    go_wp2_with fail
    refine region_grow (C := Ext w) (K := fun f _ V _ => (f = 169 → V = .bool true) ∧ (f = 170 → V = .bool (sameL zs zs'))) ⟨fun _ _ h k => h.trans k, fun _ _ _ _ _ h _ => h⟩ (by kernel_rfl) (by kernel_rfl) ((Ext.refl w).drew) ?_
    iterate 2 (refine grow_q rfl ?_; apply Exists.intro; refine ⟨fun u' hu' _ => ?_, ?_⟩; focus (go_simp; rfl))
    refine grow_c1 169 rfl ⟨#[.pointer (some ⟨p, 0, none⟩), .pointer (some ⟨p', 0, none⟩)], fun u' => ?_, .bool true, fun u' hu' _ => (l02Alike_any p p' W H W' H' R R' a a' n c n' c' u' (HP.out.ext hu') (HP'.out.ext hu')).mono (fun e w' h => ⟨by rw [HAL.out] at h; exact h.1, h.2⟩), fun V u h => h.1 rfl, fun u => ⟨fun _ => rfl, fun h => absurd h (by decide)⟩, ?_⟩
    · go_simp
    iterate 9 ((with_reducible refine grow_q (by kernel_rfl) ?_); apply Exists.intro; refine ⟨fun u' hu' _ => ?_, ?_⟩; focus (obtain ⟨p0, p1, p2, p3⟩ := HP.out.ext hu'; obtain ⟨q0, q1, q2, q3⟩ := HP'.out.ext hu'; go_simp; rfl))
    with_reducible refine grow_c1 170 (by kernel_rfl) ?_
    refine ⟨#[.slice a n c, .slice a' n' c'], fun u' => ?_, .bool (sameL zs zs'), fun u' hu' _ => l01SameAll_any a a' n c n' c' zs zs' hz hz' (by omega) (by omega) hw hw' u' (HA.out.ext hu') (HA'.out.ext hu'), fun V u h => h.2 rfl, fun u => ⟨fun h => absurd h (by decide), fun _ => rfl⟩, ?_⟩
    · go_simp
    iterate 2 (refine grow_q rfl ?_; apply Exists.intro; refine ⟨fun u' hu' _ => ?_, ?_⟩; focus (go_simp; rfl))
    refine grow_nil (fun w4 hw4 _ => ?_)
    have HX4 := Lib.hid hw4
    clear hw4
    go_simp
    go_wp2
    go_ret
    exact ⟨by rw [HS.out]; rfl, HX4.out⟩

end Go.Proofs.Ytajfpjggdbifjaa
