/-
  The walk of the statement on DriveAt. (Printed by gen_melt.py.)
-/
import Derived.Test.YtajfpjggdbifjaaMeV
import Derived.Test.YtajfpjggdbifjaaLate
import Derived.Test.YtajfpjggdbifjaaPost
import Derived.Test.YtajfpjggdbifjaaFsA
namespace Go.Proofs.Ytajfpjggdbifjaa
open Go.RowKit
set_option linter.unusedVariables false
set_option linter.unusedSimpArgs false
set_option linter.unnecessarySimpa false

set_option maxRecDepth 100000 in
set_option maxHeartbeats 8000000 in
theorem walk_FnExactDriveAt (W H : Int) (R : Bool) (a : Option Addr) (n c : Nat) (W' H' : Int) (R' : Bool) (a' : Option Addr) (n' c' : Nat) (f1 f2 f3 f4 f5 : Nat) (k : Int) (xs xs' : List Nat) (hz : xs.length = n) (hn : n ≤ 9223372036854775807) (hz' : xs'.length = n') (hn' : n' ≤ 9223372036854775807) (hw : wfF xs) (hw' : wfF xs') (hf : f1 < 4294967296 ∧ f2 < 4294967296 ∧ f3 < 4294967296 ∧ f4 < 4294967296 ∧ f5 < 4294967296) (x : Int) (y : Int) (w : World) (hR : VArr w a (flts xs)) (hR' : VArr w a' (flts xs')) :
    Calls Try.prog 11 #[.agg #[.int .i64 W, .int .i64 H, .bool R, .slice a n c, .int .i64 W', .int .i64 H', .bool R', .slice a' n' c', .float .f32 f1, .float .f32 f2, .float .f32 f3, .float .f32 f4, .float .f32 f5, .int .i64 k], .int .i64 x, .int .i64 y] w fun e w' => e = .returned (.bool true) ∧ Ext w w' := by
  have EB : Ext w (w.alloc (.cells #[.int .i64 W, .int .i64 H, .bool R, .slice a n c, .int .i64 W', .int .i64 H', .bool R', .slice a' n' c', .float .f32 f1, .float .f32 f2, .float .f32 f3, .float .f32 f4, .float .f32 f5, .int .i64 k] 58)) := Ext.alloc (Ext.refl w) _
  have B0 := heap_new w (.cells #[.int .i64 W, .int .i64 H, .bool R, .slice a n c, .int .i64 W', .int .i64 H', .bool R', .slice a' n' c', .float .f32 f1, .float .f32 f2, .float .f32 f3, .float .f32 f4, .float .f32 f5, .int .i64 k] 58)
  by_cases big : (1048576 : Int) - n < 0 ∨ (1048576 : Int) - n - n' < 0
  · -- too large
    have es : (if (1048576 : Int) - n < 0 then (-1 : Int) else if (1048576 : Int) - n - n' < 0 then -1 else (1048576 : Int) - n - n') = -1 := by
      rcases big with h | h
      · rw [if_pos h]
      · by_cases h0 : (1048576 : Int) - n < 0
        · rw [if_pos h0]
        · rw [if_neg h0, if_pos h]
    go_enter Try.func11, Try.ntmps11
    obtain ⟨⟨c0, c1, c2, c3, c4, c5, c6, c7, c8, c9, c10, c11, c12, c13⟩, _⟩ := block14 B0
    go_wp2_with fail
    clear c0 c1 c2 c3 c4 c5 c6 c7 c8 c9 c10 c11 c12 c13
    have R0 := hR.ext EB
    have R0' := hR'.ext EB
    generalize hsz : w.heap.size = pz at *
    generalize w.alloc (.cells #[.int .i64 W, .int .i64 H, .bool R, .slice a n c, .int .i64 W', .int .i64 H', .bool R', .slice a' n' c', .float .f32 f1, .float .f32 f2, .float .f32 f3, .float .f32 f4, .float .f32 f5, .int .i64 k] 58) = wb at *
    have HSZ := Lib.hid hsz
    clear hsz
    have E0 : Hid (Ext wb wb) := Ext.refl wb
    refine (szMelt_any W H R a n c W' H' R' a' n' c' f1 f2 f3 f4 f5 k (1048576 : Int) hn hn' (by omega) (by omega) _).mono ?_
    rw [es]
    rintro e w1 ⟨rfl, hX1⟩
    have E1 := Lib.hid (E0.out.trans hX1)
    clear hX1 E0
    go_wp2
    go_ret
    exact ⟨rfl, EB.trans E1.out⟩
  · have hl : n ≤ 1048576 := by omega
    have hl' : n' ≤ 1048576 := by omega
    have es : (if (1048576 : Int) - n < 0 then (-1 : Int) else if (1048576 : Int) - n - n' < 0 then -1 else (1048576 : Int) - n - n') = (1048576 : Int) - n - n' := by rw [if_neg (by omega), if_neg (by omega)]
    have ed : decide ((1048576 : Int) - n - n' < 0) = false := by simp; omega
    go_enter Try.func11, Try.ntmps11
    obtain ⟨⟨c0, c1, c2, c3, c4, c5, c6, c7, c8, c9, c10, c11, c12, c13⟩, _⟩ := block14 B0
    go_wp2_with fail
    clear c0 c1 c2 c3 c4 c5 c6 c7 c8 c9 c10 c11 c12 c13
    have R0 := hR.ext EB
    have R0' := hR'.ext EB
    generalize hsz : w.heap.size = pz at *
    generalize w.alloc (.cells #[.int .i64 W, .int .i64 H, .bool R, .slice a n c, .int .i64 W', .int .i64 H', .bool R', .slice a' n' c', .float .f32 f1, .float .f32 f2, .float .f32 f3, .float .f32 f4, .float .f32 f5, .int .i64 k] 58) = wb at *
    have HSZ := Lib.hid hsz
    clear hsz
    have E0 : Hid (Ext wb wb) := Ext.refl wb
    refine (szMelt_any W H R a n c W' H' R' a' n' c' f1 f2 f3 f4 f5 k (1048576 : Int) hn hn' (by omega) (by omega) _).mono ?_
    rw [es]
    rintro e w1 ⟨rfl, hX1⟩
    have E1 := Lib.hid (E0.out.trans hX1)
    clear hX1 E0
    obtain ⟨⟨c0, c1, c2, c3, c4, c5, c6, c7, c8, c9, c10, c11, c12, c13⟩, _⟩ := block14 (Ext.block E1.out B0)
    go_wp2_with fail
    clear c0 c1 c2 c3 c4 c5 c6 c7 c8 c9 c10 c11 c12 c13
    refine (toMelt_any W H R a n c W' H' R' a' n' c' f1 f2 f3 f4 f5 k xs xs' hz hz' hl hl' _ (VArr.ext R0 E1.out) (VArr.ext R0' E1.out)).mono ?_
    rintro e w2 ⟨p0, q0, rfl, hX2, O0, P0⟩
    have E2 := Lib.hid (E1.out.trans hX2)
    clear hX2 E1
    obtain ⟨⟨c0, c1, c2, c3, c4, c5, c6, c7, c8, c9, c10, c11, c12, c13⟩, _⟩ := block14 (Ext.block E2.out B0)
    go_wp2_with fail
    clear c0 c1 c2 c3 c4 c5 c6 c7 c8 c9 c10 c11 c12 c13
    refine (specDrive_any W H R (some ⟨p0, 0, none⟩) n n W' H' R' (some ⟨q0, 0, none⟩) n' n' f1 f2 f3 f4 f5 k x y xs xs' hz hz' hl hl' _ (ownsRow_varr O0) (ownsRow_varr P0)).mono ?_
    rintro e w3 ⟨r00, rfl, hX3, v00⟩
    have E3 := Lib.hid (E2.out.trans hX3)
    have O0_3 := ownsRow_ext O0 hX3
    have P0_3 := ownsRow_ext P0 hX3
    clear hX3 E2 O0 P0
    obtain ⟨⟨c0, c1, c2, c3, c4, c5, c6, c7, c8, c9, c10, c11, c12, c13⟩, _⟩ := block14 (Ext.block E3.out B0)
    go_wp2_with fail
    clear c0 c1 c2 c3 c4 c5 c6 c7 c8 c9 c10 c11 c12 c13
    refine (toMelt_any W H R a n c W' H' R' a' n' c' f1 f2 f3 f4 f5 k xs xs' hz hz' hl hl' _ (VArr.ext R0 E3.out) (VArr.ext R0' E3.out)).mono ?_
    rintro e w4 ⟨p1, q1, rfl, hX4, O1, P1⟩
    have E4 := Lib.hid (E3.out.trans hX4)
    have O0_4 := ownsRow_ext O0_3 hX4
    have P0_4 := ownsRow_ext P0_3 hX4
    clear hX4 E3 O0_3 P0_3
    obtain ⟨⟨c0, c1, c2, c3, c4, c5, c6, c7, c8, c9, c10, c11, c12, c13⟩, _⟩ := block14 (Ext.block E4.out B0)
    go_wp2_with fail
    clear c0 c1 c2 c3 c4 c5 c6 c7 c8 c9 c10 c11 c12 c13
    have hY := (Ext.refl w4).alloc (.cells #[.int .i64 W, .int .i64 H, .bool R, .slice (some ⟨p1, 0, none⟩) n n, .int .i64 W', .int .i64 H', .bool R', .slice (some ⟨q1, 0, none⟩) n' n', .float .f32 f1, .float .f32 f2, .float .f32 f3, .float .f32 f4, .float .f32 f5, .int .i64 k] 62)
    have D := heap_new w4 (.cells #[.int .i64 W, .int .i64 H, .bool R, .slice (some ⟨p1, 0, none⟩) n n, .int .i64 W', .int .i64 H', .bool R', .slice (some ⟨q1, 0, none⟩) n' n', .float .f32 f1, .float .f32 f2, .float .f32 f3, .float .f32 f4, .float .f32 f5, .int .i64 k] 62)
    generalize hwq : w4.alloc (.cells #[.int .i64 W, .int .i64 H, .bool R, .slice (some ⟨p1, 0, none⟩) n n, .int .i64 W', .int .i64 H', .bool R', .slice (some ⟨q1, 0, none⟩) n' n', .float .f32 f1, .float .f32 f2, .float .f32 f3, .float .f32 f4, .float .f32 f5, .int .i64 k] 62) = w5 at *
    clear hwq
    have E5 := Lib.hid (E4.out.trans hY)
    have O0_5 := ownsRow_ext O0_4 hY
    have P0_5 := ownsRow_ext P0_4 hY
    have O1_5 := ownsRow_ext O1 hY
    have P1_5 := ownsRow_ext P1 hY
    clear hY E4 O0_4 P0_4 O1 P1
    refine (implDrive_any W H R (some ⟨p1, 0, none⟩) n n W' H' R' (some ⟨q1, 0, none⟩) n' n' f1 f2 f3 f4 f5 k x y xs xs' hz hz' hl hl' _ (ownsRow_varr O1_5) (ownsRow_varr P1_5)).mono ?_
    rintro e w6 ⟨r10, rfl, hX6, v10⟩
    have E6 := Lib.hid (E5.out.trans hX6)
    have O0_6 := ownsRow_ext O0_5 hX6
    have P0_6 := ownsRow_ext P0_5 hX6
    have O1_6 := ownsRow_ext O1_5 hX6
    have P1_6 := ownsRow_ext P1_5 hX6
    have D_6 := Ext.block hX6 D
    clear hX6 E5 O0_5 P0_5 O1_5 P1_5 D
    obtain ⟨⟨c0, c1, c2, c3, c4, c5, c6, c7, c8, c9, c10, c11, c12, c13⟩, _⟩ := block14 (Ext.block E6.out B0)
    obtain ⟨⟨d0, d1, d2, d3, d4, d5, d6, d7, d8, d9, d10, d11, d12, d13⟩, _⟩ := block14 (D_6)
    go_wp2_with fail
    clear c0 c1 c2 c3 c4 c5 c6 c7 c8 c9 c10 c11 c12 c13
    clear d0 d1 d2 d3 d4 d5 d6 d7 d8 d9 d10 d11 d12 d13
    refine (sameFloat_any _ _ (by rw [fa_wdr, fa_wdr, v10, v00]) _).mono ?_
    rintro e w7 ⟨rfl, hXa⟩
    have hX7 := Ext.trans ((Ext.refl w6).drewN _) hXa
    clear hXa
    have E7 := Lib.hid (E6.out.trans hX7)
    have O0_7 := ownsRow_ext O0_6 hX7
    have P0_7 := ownsRow_ext P0_6 hX7
    have O1_7 := ownsRow_ext O1_6 hX7
    have P1_7 := ownsRow_ext P1_6 hX7
    have D_7 := Ext.block hX7 D_6
    clear hX7 E6 O0_6 P0_6 O1_6 P1_6 D_6
    obtain ⟨⟨c0, c1, c2, c3, c4, c5, c6, c7, c8, c9, c10, c11, c12, c13⟩, _⟩ := block14 (Ext.block E7.out B0)
    obtain ⟨⟨d0, d1, d2, d3, d4, d5, d6, d7, d8, d9, d10, d11, d12, d13⟩, _⟩ := block14 (D_7)
    go_wp2_with fail
    clear c0 c1 c2 c3 c4 c5 c6 c7 c8 c9 c10 c11 c12 c13
    clear d0 d1 d2 d3 d4 d5 d6 d7 d8 d9 d10 d11 d12 d13
    refine region_grow (C := Ext w7) (K := fun f args v wv => (f = 40 → ∃ b b', v = .agg #[.int .i64 W, .int .i64 H, .bool R, .slice (some ⟨b, 0, none⟩) n n, .int .i64 W', .int .i64 H', .bool R', .slice (some ⟨b', 0, none⟩) n' n', .float .f32 f1, .float .f32 f2, .float .f32 f3, .float .f32 f4, .float .f32 f5, .int .i64 k] ∧ VArr wv (some ⟨b, 0, none⟩) (flts xs) ∧ VArr wv (some ⟨b', 0, none⟩) (flts xs')) ∧ (f = 42 → v = .bool true)) ⟨fun _ _ h k => h.trans k, fun f args v u u' h ex => ⟨fun hf => by obtain ⟨b, b', h1, h2, h3⟩ := h.1 hf; exact ⟨b, b', h1, h2.ext ex, h3.ext ex⟩, h.2⟩⟩ (by kernel_rfl) (by kernel_rfl) ((Ext.refl w7).drew) ?_
    refine grow_det (c := .agg #[.int .i64 W, .int .i64 H, .bool R, .slice (some ⟨p1, 0, none⟩) n n, .int .i64 W', .int .i64 H', .bool R', .slice (some ⟨q1, 0, none⟩) n' n', .float .f32 f1, .float .f32 f2, .float .f32 f3, .float .f32 f4, .float .f32 f5, .int .i64 k]) rfl (fun u hu _ => ?_) ?_
    · obtain ⟨⟨c0, c1, c2, c3, c4, c5, c6, c7, c8, c9, c10, c11, c12, c13⟩, _⟩ := block14 (hu.block D_7)
      go_simp
    refine grow_det (c := .agg #[.int .i64 W, .int .i64 H, .bool R, .slice a n c, .int .i64 W', .int .i64 H', .bool R', .slice a' n' c', .float .f32 f1, .float .f32 f2, .float .f32 f3, .float .f32 f4, .float .f32 f5, .int .i64 k]) rfl (fun u hu _ => ?_) ?_
    · obtain ⟨⟨c0, c1, c2, c3, c4, c5, c6, c7, c8, c9, c10, c11, c12, c13⟩, _⟩ := block14 (hu.block (E7.out.block B0))
      go_simp
    refine grow_cg 40 (fun v => ∃ b b', v = .agg #[.int .i64 W, .int .i64 H, .bool R, .slice (some ⟨b, 0, none⟩) n n, .int .i64 W', .int .i64 H', .bool R', .slice (some ⟨b', 0, none⟩) n' n', .float .f32 f1, .float .f32 f2, .float .f32 f3, .float .f32 f4, .float .f32 f5, .int .i64 k]) (fun v wv => ∃ b b', v = .agg #[.int .i64 W, .int .i64 H, .bool R, .slice (some ⟨b, 0, none⟩) n n, .int .i64 W', .int .i64 H', .bool R', .slice (some ⟨b', 0, none⟩) n' n', .float .f32 f1, .float .f32 f2, .float .f32 f3, .float .f32 f4, .float .f32 f5, .int .i64 k] ∧ VArr wv (some ⟨b, 0, none⟩) (flts xs) ∧ VArr wv (some ⟨b', 0, none⟩) (flts xs')) rfl ?_
    refine ⟨#[.agg #[.int .i64 W, .int .i64 H, .bool R, .slice a n c, .int .i64 W', .int .i64 H', .bool R', .slice a' n' c', .float .f32 f1, .float .f32 f2, .float .f32 f3, .float .f32 f4, .float .f32 f5, .int .i64 k]], fun u => ?_, fun u hu _ => ?_, fun v u h => ?_, fun v hv => ?_⟩
    · go_simp
    · refine (toMelt_any W H R a n c W' H' R' a' n' c' f1 f2 f3 f4 f5 k xs xs' hz hz' hl hl' _ (VArr.ext (VArr.ext R0 E7.out) hu) (VArr.ext (VArr.ext R0' E7.out) hu)).mono fun e u' h => ?_
      obtain ⟨b, b', he, hx, ho, ho'⟩ := h
      exact ⟨_, he, hx, fun _ => ⟨b, b', rfl, ownsRow_varr ho, ownsRow_varr ho'⟩, fun h => by cases h⟩
    · obtain ⟨b, b', h1, h2, h3⟩ := h.1 rfl
      exact ⟨⟨b, b', h1⟩, b, b', h1, h2, h3⟩
    obtain ⟨bb, bb', rfl⟩ := hv
    refine grow_c1 42 rfl ?_
    refine ⟨#[.agg #[.int .i64 W, .int .i64 H, .bool R, .slice (some ⟨p1, 0, none⟩) n n, .int .i64 W', .int .i64 H', .bool R', .slice (some ⟨q1, 0, none⟩) n' n', .float .f32 f1, .float .f32 f2, .float .f32 f3, .float .f32 f4, .float .f32 f5, .int .i64 k], .agg #[.int .i64 W, .int .i64 H, .bool R, .slice (some ⟨bb, 0, none⟩) n n, .int .i64 W', .int .i64 H', .bool R', .slice (some ⟨bb', 0, none⟩) n' n', .float .f32 f1, .float .f32 f2, .float .f32 f3, .float .f32 f4, .float .f32 f5, .int .i64 k]], fun u => ?_, .bool true, fun u hu hk => ?_, fun v u h => (h.2) rfl, fun u => ⟨(fun h => by cases h), (fun _ => rfl)⟩, ?_⟩
    · go_simp
    · obtain ⟨b, b', hb, hv1, hv2⟩ := hk 48 (by simp [Oper.looksAt, Op.operands, Call.operands])
      simp at hb
      obtain ⟨rfl, rfl⟩ := hb
      exact eqMelt_any W H R W' H' R' k _ n _ _ n' _ f1 f2 f3 f4 f5 _ n _ _ n' _ f1 f2 f3 f4 f5 xs xs' xs xs' hz hz' hz hz' hl hl' hl hl' rfl rfl rfl rfl rfl rfl rfl _ (VArr.ext (ownsRow_varr O1_7) hu) (VArr.ext (ownsRow_varr P1_7) hu) hv1 hv2
    refine grow_q rfl ?_
    apply Exists.intro
    refine ⟨fun u hu _ => ?_, ?_⟩
    · go_simp; try rfl
    refine grow_nil (fun wz hXz hh => ?_)
    go_simp
    have EZ := Lib.hid (E7.out.trans hXz)
    clear hXz hh
    go_wp2
    go_ret
    exact ⟨rfl, EB.trans EZ.out⟩
end Go.Proofs.Ytajfpjggdbifjaa
