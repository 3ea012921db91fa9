/-
  The walk of the statement on IslandsAt.
-/
import Derived.Test.YtdggpkgbncmlbaaCoK
import Derived.Test.YtdggpkgbncmlbaaLate
import Derived.Test.YtdggpkgbncmlbaaPost
namespace Go.Proofs.Ytdggpkgbncmlbaa
open Go.RowKit
set_option linter.unusedVariables false
set_option linter.unusedSimpArgs false
set_option linter.unnecessarySimpa false

set_option maxRecDepth 100000 in
set_option maxHeartbeats 4000000 in
theorem walk_FnExactIslandsAt (W0 H0 : Int) (s0 : Option Addr) (n0 c0 : Nat) (zs0 : List Int) (hz0 : zs0.length = n0) (hn0 : n0 ≤ 9223372036854775807) (wW0 : (Lit.int .i64 W0).wf = true) (wH0 : (Lit.int .i64 H0).wf = true) (a1 : Int) (w1 : (Lit.int .i64 a1).wf = true) (w : World) (hR0 : VArr w s0 (ints zs0)) :
    Calls Try.prog 16 #[.agg #[.int .i64 W0, .int .i64 H0, .slice s0 n0 c0], .int .i64 a1] w fun e w' => e = .returned (.bool true) ∧ Ext w w' := by
  obtain ⟨Z, M, hC⟩ := islR_ex W0 H0 zs0 n0 a1
  have EB : Ext w (w.alloc (.cells #[.int .i64 W0, .int .i64 H0, .slice s0 n0 c0] 30)) := Ext.alloc (Ext.refl w) _
  have B0 := heap_new w (.cells #[.int .i64 W0, .int .i64 H0, .slice s0 n0 c0] 30)
  by_cases big0 : (1048576 : Int) - n0 < 0
  · -- too large
    go_enter Try.func16, Try.ntmps16
    go_wp2_with fail
    have R0 := hR0.ext EB
    generalize hsz : w.heap.size = pz at *
    generalize (w.alloc (.cells #[.int .i64 W0, .int .i64 H0, .slice s0 n0 c0] 30)) = wb at *
    have HSZ := Lib.hid hsz
    clear hsz
    have E0 : Hid (Ext wb wb) := Ext.refl wb
    refine (szHeights_any W0 H0 s0 n0 c0 (1048576 : Int) hn0 (by omega) (by omega) _).mono ?_
    rw [if_pos (by omega)]
    rintro e w1 ⟨rfl, hX1⟩
    have E1 := Lib.hid (E0.out.trans hX1)
    clear hX1 E0
    obtain ⟨⟨cb0_0, cb0_1, cb0_2⟩, _⟩ := block3 (E1.out.block B0)
    have lb0 := lt_of_block (E1.out.block B0)
    go_wp2
    go_ret
    exact ⟨rfl, EB.trans E1.out⟩
  · -- not so large
    have hl0 : n0 ≤ 1048576 := by omega
    go_enter Try.func16, Try.ntmps16
    go_wp2_with fail
    have R0 := hR0.ext EB
    generalize hsz : w.heap.size = pz at *
    generalize (w.alloc (.cells #[.int .i64 W0, .int .i64 H0, .slice s0 n0 c0] 30)) = wb at *
    have HSZ := Lib.hid hsz
    clear hsz
    have E0 : Hid (Ext wb wb) := Ext.refl wb
    refine (szHeights_any W0 H0 s0 n0 c0 (1048576 : Int) hn0 (by omega) (by omega) _).mono ?_
    rw [if_neg (by omega)]
    rintro e w1 ⟨rfl, hX1⟩
    have E1 := Lib.hid (E0.out.trans hX1)
    clear hX1 E0
    obtain ⟨⟨cb0_0, cb0_1, cb0_2⟩, _⟩ := block3 (E1.out.block B0)
    have lb0 := lt_of_block (E1.out.block B0)
    go_wp2_with fail
    clear cb0_0 cb0_1 cb0_2 lb0
    refine (toHeights_any W0 H0 s0 n0 c0 zs0 hz0 hl0 _ (VArr.ext R0 E1.out)).mono ?_
    rintro e w2 ⟨b0, rfl, hX2, O0⟩
    have ab2 : wb.heap.size ≤ w1.heap.size := E1.out.size
    have E2 := Lib.hid (E1.out.trans hX2)
    clear hX2 E1
    obtain ⟨⟨cb0_0, cb0_1, cb0_2⟩, _⟩ := block3 (E2.out.block B0)
    have lb0 := lt_of_block (E2.out.block B0)
    go_wp2_with fail
    clear cb0_0 cb0_1 cb0_2 lb0
    refine (specIsl_any W0 H0 a1 (some ⟨b0, 0, none⟩) n0 n0 zs0 hz0 hl0 Z M hC _ (ownsRow_varr O0)).mono ?_
    rintro e w3 ⟨ra1, rn1, rc1, ra2, rn2, rc2, BB1, rfl, hX3, O1, rl1, re1, O2, rl2, re2, hBB1, lBB1⟩
    have ab3 : wb.heap.size ≤ w2.heap.size := E2.out.size
    have lt0_1 := fun g hg => (O0.lt g hg).2
    have ab3b := Nat.le_trans ab3 hBB1
    have lt0_1b := fun g hg => Nat.lt_of_lt_of_le (lt0_1 g hg) hBB1
    have E3 := Lib.hid (E2.out.trans hX3)
    have O0_3 := ownsRow_ext O0 hX3
    clear hX3 E2 O0
    obtain ⟨⟨cb0_0, cb0_1, cb0_2⟩, _⟩ := block3 (E3.out.block B0)
    have lb0 := lt_of_block (E3.out.block B0)
    go_wp2_with fail
    clear cb0_0 cb0_1 cb0_2 lb0
    refine (toHeights_any W0 H0 s0 n0 c0 zs0 hz0 hl0 _ (VArr.ext R0 E3.out)).mono ?_
    rintro e w4 ⟨b3, rfl, hX4, O3⟩
    have ab4 : wb.heap.size ≤ w3.heap.size := E3.out.size
    have lt0_3 := fun g hg => (O0_3.lt g hg).2
    have lt1_3 := fun g hg => (O1.lt g hg).2
    have lt2_3 := fun g hg => (O2.lt g hg).2
    have E4 := Lib.hid (E3.out.trans hX4)
    have O0_4 := ownsRow_ext O0_3 hX4
    have O1_4 := ownsRow_ext O1 hX4
    have O2_4 := ownsRow_ext O2 hX4
    clear hX4 E3 O0_3 O1 O2
    obtain ⟨⟨cb0_0, cb0_1, cb0_2⟩, _⟩ := block3 (E4.out.block B0)
    have lb0 := lt_of_block (E4.out.block B0)
    go_wp2_with fail
    clear cb0_0 cb0_1 cb0_2 lb0
    have hY5 := (Ext.refl w4).alloc (.cells #[.int .i64 W0, .int .i64 H0, .slice (some ⟨b3, 0, none⟩) n0 n0] 33)
    have D1 := heap_new w4 (.cells #[.int .i64 W0, .int .i64 H0, .slice (some ⟨b3, 0, none⟩) n0 n0] 33)
    generalize hw5 : w4.alloc (.cells #[.int .i64 W0, .int .i64 H0, .slice (some ⟨b3, 0, none⟩) n0 n0] 33) = w5 at *
    clear hw5
    have E6 := Lib.hid (E4.out.trans hY5)
    have O0_6 := ownsRow_ext O0_4 hY5
    have O1_6 := ownsRow_ext O1_4 hY5
    have O2_6 := ownsRow_ext O2_4 hY5
    have O3_6 := ownsRow_ext O3 hY5
    clear hY5 E4 O0_4 O1_4 O2_4 O3
    refine (implIsl_any W0 H0 a1 (some ⟨b3, 0, none⟩) n0 n0 zs0 hz0 hl0 Z M hC _ (ownsRow_varr O3_6)).mono ?_
    rintro e w6 ⟨ra4, rn4, rc4, ra5, rn5, rc5, BB4, rfl, hX7, O4, rl4, re4, O5, rl5, re5, hBB4, lBB4⟩
    have ab7 : wb.heap.size ≤ w5.heap.size := E6.out.size
    have lt0_4 := fun g hg => (O0_6.lt g hg).2
    have lt1_4 := fun g hg => (O1_6.lt g hg).2
    have lt2_4 := fun g hg => (O2_6.lt g hg).2
    have lt3_4 := fun g hg => (O3_6.lt g hg).2
    have ab7b := Nat.le_trans ab7 hBB4
    have lt0_4b := fun g hg => Nat.lt_of_lt_of_le (lt0_4 g hg) hBB4
    have lt1_4b := fun g hg => Nat.lt_of_lt_of_le (lt1_4 g hg) hBB4
    have lt2_4b := fun g hg => Nat.lt_of_lt_of_le (lt2_4 g hg) hBB4
    have lt3_4b := fun g hg => Nat.lt_of_lt_of_le (lt3_4 g hg) hBB4
    have E7 := Lib.hid (E6.out.trans hX7)
    have D1_7 := hX7.block D1
    have O0_7 := ownsRow_ext O0_6 hX7
    have O1_7 := ownsRow_ext O1_6 hX7
    have O2_7 := ownsRow_ext O2_6 hX7
    have O3_7 := ownsRow_ext O3_6 hX7
    clear hX7 E6 D1 O0_6 O1_6 O2_6 O3_6
    obtain ⟨⟨cb0_0, cb0_1, cb0_2⟩, _⟩ := block3 (E7.out.block B0)
    have lb0 := lt_of_block (E7.out.block B0)
    obtain ⟨⟨cD1_7_0, cD1_7_1, cD1_7_2⟩, _⟩ := block3 D1_7
    have lD1_7 := lt_of_block D1_7
    go_wp2_with fail
    clear cb0_0 cb0_1 cb0_2 lb0 cD1_7_0 cD1_7_1 cD1_7_2 lD1_7
    refine (eqInt64S_all _ _ rn4 _ rn1 _ Z Z rl4 rl1 (by omega) (by omega) rfl _ (ownsRow_varr O4) (ownsRow_varr O1_7)).mono ?_
    rintro e w7 ⟨rfl, hX8⟩
    have E8 := Lib.hid (E7.out.trans hX8)
    have D1_8 := hX8.block D1_7
    have O0_8 := ownsRow_ext O0_7 hX8
    have O1_8 := ownsRow_ext O1_7 hX8
    have O2_8 := ownsRow_ext O2_7 hX8
    have O3_8 := ownsRow_ext O3_7 hX8
    have O4_8 := ownsRow_ext O4 hX8
    have O5_8 := ownsRow_ext O5 hX8
    clear hX8 E7 D1_7 O0_7 O1_7 O2_7 O3_7 O4 O5
    obtain ⟨⟨cb0_0, cb0_1, cb0_2⟩, _⟩ := block3 (E8.out.block B0)
    have lb0 := lt_of_block (E8.out.block B0)
    obtain ⟨⟨cD1_8_0, cD1_8_1, cD1_8_2⟩, _⟩ := block3 D1_8
    have lD1_8 := lt_of_block D1_8
    go_wp2_with fail
    clear cb0_0 cb0_1 cb0_2 lb0 cD1_8_0 cD1_8_1 cD1_8_2 lD1_8
    refine (eqInt64S_all _ _ rn5 _ rn2 _ (szOf Z M) (szOf Z M) rl5 rl2 (by omega) (by omega) rfl _ (ownsRow_varr O5_8) (ownsRow_varr O2_8)).mono ?_
    rintro e w8 ⟨rfl, hX9⟩
    have E9 := Lib.hid (E8.out.trans hX9)
    have D1_9 := hX9.block D1_8
    have O0_9 := ownsRow_ext O0_8 hX9
    have O1_9 := ownsRow_ext O1_8 hX9
    have O2_9 := ownsRow_ext O2_8 hX9
    have O3_9 := ownsRow_ext O3_8 hX9
    have O4_9 := ownsRow_ext O4_8 hX9
    have O5_9 := ownsRow_ext O5_8 hX9
    clear hX9 E8 D1_8 O0_8 O1_8 O2_8 O3_8 O4_8 O5_8
    obtain ⟨⟨cb0_0, cb0_1, cb0_2⟩, _⟩ := block3 (E9.out.block B0)
    have lb0 := lt_of_block (E9.out.block B0)
    obtain ⟨⟨cD1_9_0, cD1_9_1, cD1_9_2⟩, _⟩ := block3 D1_9
    have lD1_9 := lt_of_block D1_9
    go_wp2_with fail
    clear cb0_0 cb0_1 cb0_2 lb0 cD1_9_0 cD1_9_1 cD1_9_2 lD1_9
    refine region_grow (C := Ext w8) (K := fun f args v wv => (f = 25 → toPostHeights w8 args v wv) ∧ (f = 27 → v = .bool true)) ⟨fun _ _ h k => h.trans k, fun f args v u u' h ex => ⟨(fun hf => ((h.1) hf).ext ex), ((h.2))⟩⟩ (by kernel_rfl) (by kernel_rfl) ((Ext.refl w8).drew) ?_
    refine grow_det (c := .agg #[.int .i64 W0, .int .i64 H0, .slice (some ⟨b3, 0, none⟩) n0 n0]) rfl (fun u hu _ => ?_) ?_
    · obtain ⟨⟨d0, d1, d2⟩, _⟩ := block3 (hu.block D1_9)
      go_simp
    refine grow_det (c := .agg #[.int .i64 W0, .int .i64 H0, .slice s0 n0 c0]) rfl (fun u hu _ => ?_) ?_
    · obtain ⟨⟨d0, d1, d2⟩, _⟩ := block3 (hu.block (E9.out.block B0))
      go_simp
    refine grow_cg 25 (fun v => ∃ b, v = .agg #[.int .i64 W0, .int .i64 H0, .slice (some ⟨b, 0, none⟩) n0 n0]) (fun v wv => ∃ b, v = .agg #[.int .i64 W0, .int .i64 H0, .slice (some ⟨b, 0, none⟩) n0 n0] ∧ VArr wv (some ⟨b, 0, none⟩) (ints zs0)) rfl ?_
    refine ⟨#[.agg #[.int .i64 W0, .int .i64 H0, .slice s0 n0 c0]], fun u => ?_, fun u hu _ => ?_, fun v u h => ?_, fun v hv => ?_⟩
    · go_simp
    · refine (toHeights_any W0 H0 s0 n0 c0 zs0 hz0 hl0 _ (VArr.ext (VArr.ext R0 E9.out) hu)).mono fun e u' h => ?_
      obtain ⟨b, he, hx, ho⟩ := h
      exact ⟨_, he, hx, ⟨(fun _ => toPostHeights_mk hz0 (VArr.ext R0 E9.out) (ownsRow_varr ho)), (fun h => by cases h)⟩⟩
    · exact toPostHeights_get ((h.1) rfl) hz0 (VArr.ext R0 E9.out)
    obtain ⟨bq1, rfl⟩ := hv
    refine grow_c1 27 rfl ?_
    refine ⟨#[.agg #[.int .i64 W0, .int .i64 H0, .slice (some ⟨b3, 0, none⟩) n0 n0], .agg #[.int .i64 W0, .int .i64 H0, .slice (some ⟨bq1, 0, none⟩) n0 n0]], fun u => ?_, .bool true, fun u hu hk => ?_, fun v u h => (h.2) rfl, fun u => ⟨(fun h => by cases h), (fun _ => rfl)⟩, ?_⟩
    · go_simp
    · exact eqHeights_any W0 H0 W0 H0 _ _ n0 _ n0 _ zs0 zs0 hz0 hz0 (by omega) (by omega) rfl rfl rfl _ (VArr.ext (ownsRow_varr O3_9) hu) (by obtain ⟨b, hb, hv⟩ := hk 58 (by simp [Oper.looksAt, Op.operands, Call.operands]); simp at hb; subst hb; exact hv)
    refine grow_q rfl ?_
    apply Exists.intro
    refine ⟨fun u hu _ => ?_, ?_⟩
    · go_simp; try rfl
    refine grow_nil (fun w9 hX10 hh => ?_)
    obtain ⟨_, _⟩ := hh
    go_simp
    have E10 := Lib.hid (E9.out.trans hX10)
    have D1_10 := hX10.block D1_9
    have O0_10 := ownsRow_ext O0_9 hX10
    have O1_10 := ownsRow_ext O1_9 hX10
    have O2_10 := ownsRow_ext O2_9 hX10
    have O3_10 := ownsRow_ext O3_9 hX10
    have O4_10 := ownsRow_ext O4_9 hX10
    have O5_10 := ownsRow_ext O5_9 hX10
    clear hX10 E9 D1_9 O0_9 O1_9 O2_9 O3_9 O4_9 O5_9
    obtain ⟨⟨cb0_0, cb0_1, cb0_2⟩, _⟩ := block3 (E10.out.block B0)
    have lb0 := lt_of_block (E10.out.block B0)
    obtain ⟨⟨cD1_10_0, cD1_10_1, cD1_10_2⟩, _⟩ := block3 D1_10
    have lD1_10 := lt_of_block D1_10
    go_wp2_with fail
    clear cb0_0 cb0_1 cb0_2 lb0 cD1_10_0 cD1_10_1 cD1_10_2 lD1_10
    refine (markHeights_any W0 H0 (some ⟨b3, 0, none⟩) n0 n0 _ zs0 1 (by omega) (by omega) (by omega) _ O3_10).mono ?_
    rintro e w10 ⟨rfl, hG11, O3_m11⟩
    have E11 := Lib.hid (Ext.rowv E10.out O3_10 ab4 hG11)
    have D1_11 := block_keep (by decide) O3_10 hG11 D1_10
    have O0_11 := row_keep1 O0_10 O3_10 lt0_3 hG11
    have O1_11 := row_keep1 O1_10 O3_10 lt1_3 hG11
    have O2_11 := row_keep1 O2_10 O3_10 lt2_3 hG11
    have O4_11 := row_keep2 O4_10 O3_10 lt3_4 hG11
    have O5_11 := row_keep2 O5_10 O3_10 lt3_4b hG11
    clear hG11 E10 D1_10 O0_10 O1_10 O2_10 O4_10 O5_10
    clear O3_10
    obtain ⟨⟨cb0_0, cb0_1, cb0_2⟩, _⟩ := block3 (E11.out.block B0)
    have lb0 := lt_of_block (E11.out.block B0)
    obtain ⟨⟨cD1_11_0, cD1_11_1, cD1_11_2⟩, _⟩ := block3 D1_11
    have lD1_11 := lt_of_block D1_11
    go_wp2_with fail
    clear cb0_0 cb0_1 cb0_2 lb0 cD1_11_0 cD1_11_1 cD1_11_2 lD1_11
    refine (eqInt64S_all _ _ rn4 _ rn1 _ Z Z rl4 rl1 (by omega) (by omega) rfl _ (ownsRow_varr O4_11) (ownsRow_varr O1_11)).mono ?_
    rintro e w11 ⟨rfl, hX12⟩
    have E12 := Lib.hid (E11.out.trans hX12)
    have D1_12 := hX12.block D1_11
    have O0_12 := ownsRow_ext O0_11 hX12
    have O1_12 := ownsRow_ext O1_11 hX12
    have O2_12 := ownsRow_ext O2_11 hX12
    have O3_12 := ownsRow_ext O3_m11 hX12
    have O4_12 := ownsRow_ext O4_11 hX12
    have O5_12 := ownsRow_ext O5_11 hX12
    clear hX12 E11 D1_11 O0_11 O1_11 O2_11 O3_m11 O4_11 O5_11
    obtain ⟨⟨cb0_0, cb0_1, cb0_2⟩, _⟩ := block3 (E12.out.block B0)
    have lb0 := lt_of_block (E12.out.block B0)
    obtain ⟨⟨cD1_12_0, cD1_12_1, cD1_12_2⟩, _⟩ := block3 D1_12
    have lD1_12 := lt_of_block D1_12
    go_wp2_with fail
    clear cb0_0 cb0_1 cb0_2 lb0 cD1_12_0 cD1_12_1 cD1_12_2 lD1_12
    refine (eqInt64S_all _ _ rn5 _ rn2 _ (szOf Z M) (szOf Z M) rl5 rl2 (by omega) (by omega) rfl _ (ownsRow_varr O5_12) (ownsRow_varr O2_12)).mono ?_
    rintro e w12 ⟨rfl, hX13⟩
    have E13 := Lib.hid (E12.out.trans hX13)
    have D1_13 := hX13.block D1_12
    have O0_13 := ownsRow_ext O0_12 hX13
    have O1_13 := ownsRow_ext O1_12 hX13
    have O2_13 := ownsRow_ext O2_12 hX13
    have O3_13 := ownsRow_ext O3_12 hX13
    have O4_13 := ownsRow_ext O4_12 hX13
    have O5_13 := ownsRow_ext O5_12 hX13
    clear hX13 E12 D1_12 O0_12 O1_12 O2_12 O3_12 O4_12 O5_12
    obtain ⟨⟨cb0_0, cb0_1, cb0_2⟩, _⟩ := block3 (E13.out.block B0)
    have lb0 := lt_of_block (E13.out.block B0)
    obtain ⟨⟨cD1_13_0, cD1_13_1, cD1_13_2⟩, _⟩ := block3 D1_13
    have lD1_13 := lt_of_block D1_13
    go_wp2_with fail
    clear cb0_0 cb0_1 cb0_2 lb0 cD1_13_0 cD1_13_1 cD1_13_2 lD1_13
    refine (markInt64S_any ra4 rn4 rc4 _ Z 1 (by omega) (by omega) (by omega) _ O4_13).mono ?_
    rintro e w13 ⟨rfl, hG14, O4_m14⟩
    have E14 := Lib.hid (Ext.rowv E13.out O4_13 ab7 hG14)
    have D1_14 := block_keep (by decide) O4_13 hG14 D1_13
    have O0_14 := row_keep1 O0_13 O4_13 lt0_4 hG14
    have O1_14 := row_keep1 O1_13 O4_13 lt1_4 hG14
    have O2_14 := row_keep1 O2_13 O4_13 lt2_4 hG14
    have O3_14 := row_keep1 O3_13 O4_13 lt3_4 hG14
    have O5_14 := row_keep2 O5_13 O4_13 lBB4 hG14
    clear hG14 E13 D1_13 O0_13 O1_13 O2_13 O3_13 O5_13
    clear O4_13
    obtain ⟨⟨cb0_0, cb0_1, cb0_2⟩, _⟩ := block3 (E14.out.block B0)
    have lb0 := lt_of_block (E14.out.block B0)
    obtain ⟨⟨cD1_14_0, cD1_14_1, cD1_14_2⟩, _⟩ := block3 D1_14
    have lD1_14 := lt_of_block D1_14
    go_wp2_with fail
    clear cb0_0 cb0_1 cb0_2 lb0 cD1_14_0 cD1_14_1 cD1_14_2 lD1_14
    refine (markInt64S_any ra5 rn5 rc5 _ (szOf Z M) (1 + rn4) (by omega) (by omega) (by omega) _ O5_14).mono ?_
    rintro e w14 ⟨rfl, hG15, O5_m15⟩
    have E15 := Lib.hid (Ext.rowv E14.out O5_14 ab7b hG15)
    have D1_15 := block_keep (by decide) O5_14 hG15 D1_14
    have O0_15 := row_keep1 O0_14 O5_14 lt0_4b hG15
    have O1_15 := row_keep1 O1_14 O5_14 lt1_4b hG15
    have O2_15 := row_keep1 O2_14 O5_14 lt2_4b hG15
    have O3_15 := row_keep1 O3_14 O5_14 lt3_4b hG15
    have O4_15 := row_keep1 O4_m14 O5_14 lBB4 hG15
    clear hG15 E14 D1_14 O0_14 O1_14 O2_14 O3_14 O4_m14
    clear O5_14
    obtain ⟨⟨cb0_0, cb0_1, cb0_2⟩, _⟩ := block3 (E15.out.block B0)
    have lb0 := lt_of_block (E15.out.block B0)
    obtain ⟨⟨cD1_15_0, cD1_15_1, cD1_15_2⟩, _⟩ := block3 D1_15
    have lD1_15 := lt_of_block D1_15
    go_wp2_with fail
    clear cb0_0 cb0_1 cb0_2 lb0 cD1_15_0 cD1_15_1 cD1_15_2 lD1_15
    refine (heldInt64S_any ra4 rn4 rc4 1 (by omega) (by omega) (by omega) _ (ownsRow_varr O4_15)).mono ?_
    rintro e w15 ⟨rfl, hX16⟩
    have E16 := Lib.hid (E15.out.trans hX16)
    have D1_16 := hX16.block D1_15
    have O0_16 := ownsRow_ext O0_15 hX16
    have O1_16 := ownsRow_ext O1_15 hX16
    have O2_16 := ownsRow_ext O2_15 hX16
    have O3_16 := ownsRow_ext O3_15 hX16
    have O4_16 := ownsRow_ext O4_15 hX16
    have O5_16 := ownsRow_ext O5_m15 hX16
    clear hX16 E15 D1_15 O0_15 O1_15 O2_15 O3_15 O4_15 O5_m15
    obtain ⟨⟨cb0_0, cb0_1, cb0_2⟩, _⟩ := block3 (E16.out.block B0)
    have lb0 := lt_of_block (E16.out.block B0)
    obtain ⟨⟨cD1_16_0, cD1_16_1, cD1_16_2⟩, _⟩ := block3 D1_16
    have lD1_16 := lt_of_block D1_16
    go_wp2_with fail
    clear cb0_0 cb0_1 cb0_2 lb0 cD1_16_0 cD1_16_1 cD1_16_2 lD1_16
    refine (heldInt64S_any ra5 rn5 rc5 (1 + rn4) (by omega) (by omega) (by omega) _ (ownsRow_varr O5_16)).mono ?_
    rintro e w16 ⟨rfl, hX17⟩
    have E17 := Lib.hid (E16.out.trans hX17)
    have D1_17 := hX17.block D1_16
    have O0_17 := ownsRow_ext O0_16 hX17
    have O1_17 := ownsRow_ext O1_16 hX17
    have O2_17 := ownsRow_ext O2_16 hX17
    have O3_17 := ownsRow_ext O3_16 hX17
    have O4_17 := ownsRow_ext O4_16 hX17
    have O5_17 := ownsRow_ext O5_16 hX17
    clear hX17 E16 D1_16 O0_16 O1_16 O2_16 O3_16 O4_16 O5_16
    obtain ⟨⟨cb0_0, cb0_1, cb0_2⟩, _⟩ := block3 (E17.out.block B0)
    have lb0 := lt_of_block (E17.out.block B0)
    obtain ⟨⟨cD1_17_0, cD1_17_1, cD1_17_2⟩, _⟩ := block3 D1_17
    have lD1_17 := lt_of_block D1_17
    go_wp2_with fail
    clear cb0_0 cb0_1 cb0_2 lb0 cD1_17_0 cD1_17_1 cD1_17_2 lD1_17
    refine (toHeights_any W0 H0 s0 n0 c0 zs0 hz0 hl0 _ (VArr.ext R0 E17.out)).mono ?_
    rintro e w17 ⟨b6, rfl, hX18, O6⟩
    have ab18 : wb.heap.size ≤ w16.heap.size := E17.out.size
    have lt0_6 := fun g hg => (O0_17.lt g hg).2
    have lt1_6 := fun g hg => (O1_17.lt g hg).2
    have lt2_6 := fun g hg => (O2_17.lt g hg).2
    have lt3_6 := fun g hg => (O3_17.lt g hg).2
    have lt4_6 := fun g hg => (O4_17.lt g hg).2
    have lt5_6 := fun g hg => (O5_17.lt g hg).2
    have E18 := Lib.hid (E17.out.trans hX18)
    have D1_18 := hX18.block D1_17
    have O0_18 := ownsRow_ext O0_17 hX18
    have O1_18 := ownsRow_ext O1_17 hX18
    have O2_18 := ownsRow_ext O2_17 hX18
    have O3_18 := ownsRow_ext O3_17 hX18
    have O4_18 := ownsRow_ext O4_17 hX18
    have O5_18 := ownsRow_ext O5_17 hX18
    clear hX18 E17 D1_17 O0_17 O1_17 O2_17 O3_17 O4_17 O5_17
    obtain ⟨⟨cb0_0, cb0_1, cb0_2⟩, _⟩ := block3 (E18.out.block B0)
    have lb0 := lt_of_block (E18.out.block B0)
    obtain ⟨⟨cD1_18_0, cD1_18_1, cD1_18_2⟩, _⟩ := block3 D1_18
    have lD1_18 := lt_of_block D1_18
    go_wp2_with fail
    clear cb0_0 cb0_1 cb0_2 lb0 cD1_18_0 cD1_18_1 cD1_18_2 lD1_18
    refine (implIsl_any W0 H0 a1 (some ⟨b6, 0, none⟩) n0 n0 zs0 hz0 hl0 Z M hC _ (ownsRow_varr O6)).mono ?_
    rintro e w18 ⟨ra7, rn7, rc7, ra8, rn8, rc8, BB7, rfl, hX19, O7, rl7, re7, O8, rl8, re8, hBB7, lBB7⟩
    have ab19 : wb.heap.size ≤ w17.heap.size := E18.out.size
    have lt0_7 := fun g hg => (O0_18.lt g hg).2
    have lt1_7 := fun g hg => (O1_18.lt g hg).2
    have lt2_7 := fun g hg => (O2_18.lt g hg).2
    have lt3_7 := fun g hg => (O3_18.lt g hg).2
    have lt4_7 := fun g hg => (O4_18.lt g hg).2
    have lt5_7 := fun g hg => (O5_18.lt g hg).2
    have lt6_7 := fun g hg => (O6.lt g hg).2
    have ab19b := Nat.le_trans ab19 hBB7
    have lt0_7b := fun g hg => Nat.lt_of_lt_of_le (lt0_7 g hg) hBB7
    have lt1_7b := fun g hg => Nat.lt_of_lt_of_le (lt1_7 g hg) hBB7
    have lt2_7b := fun g hg => Nat.lt_of_lt_of_le (lt2_7 g hg) hBB7
    have lt3_7b := fun g hg => Nat.lt_of_lt_of_le (lt3_7 g hg) hBB7
    have lt4_7b := fun g hg => Nat.lt_of_lt_of_le (lt4_7 g hg) hBB7
    have lt5_7b := fun g hg => Nat.lt_of_lt_of_le (lt5_7 g hg) hBB7
    have lt6_7b := fun g hg => Nat.lt_of_lt_of_le (lt6_7 g hg) hBB7
    have E19 := Lib.hid (E18.out.trans hX19)
    have D1_19 := hX19.block D1_18
    have O0_19 := ownsRow_ext O0_18 hX19
    have O1_19 := ownsRow_ext O1_18 hX19
    have O2_19 := ownsRow_ext O2_18 hX19
    have O3_19 := ownsRow_ext O3_18 hX19
    have O4_19 := ownsRow_ext O4_18 hX19
    have O5_19 := ownsRow_ext O5_18 hX19
    have O6_19 := ownsRow_ext O6 hX19
    clear hX19 E18 D1_18 O0_18 O1_18 O2_18 O3_18 O4_18 O5_18 O6
    obtain ⟨⟨cb0_0, cb0_1, cb0_2⟩, _⟩ := block3 (E19.out.block B0)
    have lb0 := lt_of_block (E19.out.block B0)
    obtain ⟨⟨cD1_19_0, cD1_19_1, cD1_19_2⟩, _⟩ := block3 D1_19
    have lD1_19 := lt_of_block D1_19
    go_wp2_with fail
    clear cb0_0 cb0_1 cb0_2 lb0 cD1_19_0 cD1_19_1 cD1_19_2 lD1_19
    refine (eqInt64S_all _ _ rn7 _ rn1 _ Z Z rl7 rl1 (by omega) (by omega) rfl _ (ownsRow_varr O7) (ownsRow_varr O1_19)).mono ?_
    rintro e w19 ⟨rfl, hX20⟩
    have E20 := Lib.hid (E19.out.trans hX20)
    have D1_20 := hX20.block D1_19
    have O0_20 := ownsRow_ext O0_19 hX20
    have O1_20 := ownsRow_ext O1_19 hX20
    have O2_20 := ownsRow_ext O2_19 hX20
    have O3_20 := ownsRow_ext O3_19 hX20
    have O4_20 := ownsRow_ext O4_19 hX20
    have O5_20 := ownsRow_ext O5_19 hX20
    have O6_20 := ownsRow_ext O6_19 hX20
    have O7_20 := ownsRow_ext O7 hX20
    have O8_20 := ownsRow_ext O8 hX20
    clear hX20 E19 D1_19 O0_19 O1_19 O2_19 O3_19 O4_19 O5_19 O6_19 O7 O8
    obtain ⟨⟨cb0_0, cb0_1, cb0_2⟩, _⟩ := block3 (E20.out.block B0)
    have lb0 := lt_of_block (E20.out.block B0)
    obtain ⟨⟨cD1_20_0, cD1_20_1, cD1_20_2⟩, _⟩ := block3 D1_20
    have lD1_20 := lt_of_block D1_20
    go_wp2_with fail
    clear cb0_0 cb0_1 cb0_2 lb0 cD1_20_0 cD1_20_1 cD1_20_2 lD1_20
    refine (eqInt64S_all _ _ rn8 _ rn2 _ (szOf Z M) (szOf Z M) rl8 rl2 (by omega) (by omega) rfl _ (ownsRow_varr O8_20) (ownsRow_varr O2_20)).mono ?_
    rintro e w20 ⟨rfl, hX21⟩
    have E21 := Lib.hid (E20.out.trans hX21)
    have D1_21 := hX21.block D1_20
    have O0_21 := ownsRow_ext O0_20 hX21
    have O1_21 := ownsRow_ext O1_20 hX21
    have O2_21 := ownsRow_ext O2_20 hX21
    have O3_21 := ownsRow_ext O3_20 hX21
    have O4_21 := ownsRow_ext O4_20 hX21
    have O5_21 := ownsRow_ext O5_20 hX21
    have O6_21 := ownsRow_ext O6_20 hX21
    have O7_21 := ownsRow_ext O7_20 hX21
    have O8_21 := ownsRow_ext O8_20 hX21
    clear hX21 E20 D1_20 O0_20 O1_20 O2_20 O3_20 O4_20 O5_20 O6_20 O7_20 O8_20
    obtain ⟨⟨cb0_0, cb0_1, cb0_2⟩, _⟩ := block3 (E21.out.block B0)
    have lb0 := lt_of_block (E21.out.block B0)
    obtain ⟨⟨cD1_21_0, cD1_21_1, cD1_21_2⟩, _⟩ := block3 D1_21
    have lD1_21 := lt_of_block D1_21
    go_wp2_with fail
    clear cb0_0 cb0_1 cb0_2 lb0 cD1_21_0 cD1_21_1 cD1_21_2 lD1_21
    refine (heldInt64S_any ra4 rn4 rc4 1 (by omega) (by omega) (by omega) _ (ownsRow_varr O4_21)).mono ?_
    rintro e w21 ⟨rfl, hX22⟩
    have E22 := Lib.hid (E21.out.trans hX22)
    have D1_22 := hX22.block D1_21
    have O0_22 := ownsRow_ext O0_21 hX22
    have O1_22 := ownsRow_ext O1_21 hX22
    have O2_22 := ownsRow_ext O2_21 hX22
    have O3_22 := ownsRow_ext O3_21 hX22
    have O4_22 := ownsRow_ext O4_21 hX22
    have O5_22 := ownsRow_ext O5_21 hX22
    have O6_22 := ownsRow_ext O6_21 hX22
    have O7_22 := ownsRow_ext O7_21 hX22
    have O8_22 := ownsRow_ext O8_21 hX22
    clear hX22 E21 D1_21 O0_21 O1_21 O2_21 O3_21 O4_21 O5_21 O6_21 O7_21 O8_21
    obtain ⟨⟨cb0_0, cb0_1, cb0_2⟩, _⟩ := block3 (E22.out.block B0)
    have lb0 := lt_of_block (E22.out.block B0)
    obtain ⟨⟨cD1_22_0, cD1_22_1, cD1_22_2⟩, _⟩ := block3 D1_22
    have lD1_22 := lt_of_block D1_22
    go_wp2_with fail
    clear cb0_0 cb0_1 cb0_2 lb0 cD1_22_0 cD1_22_1 cD1_22_2 lD1_22
    refine (heldInt64S_any ra5 rn5 rc5 (1 + rn4) (by omega) (by omega) (by omega) _ (ownsRow_varr O5_22)).mono ?_
    rintro e w22 ⟨rfl, hX23⟩
    have E23 := Lib.hid (E22.out.trans hX23)
    have D1_23 := hX23.block D1_22
    have O0_23 := ownsRow_ext O0_22 hX23
    have O1_23 := ownsRow_ext O1_22 hX23
    have O2_23 := ownsRow_ext O2_22 hX23
    have O3_23 := ownsRow_ext O3_22 hX23
    have O4_23 := ownsRow_ext O4_22 hX23
    have O5_23 := ownsRow_ext O5_22 hX23
    have O6_23 := ownsRow_ext O6_22 hX23
    have O7_23 := ownsRow_ext O7_22 hX23
    have O8_23 := ownsRow_ext O8_22 hX23
    clear hX23 E22 D1_22 O0_22 O1_22 O2_22 O3_22 O4_22 O5_22 O6_22 O7_22 O8_22
    obtain ⟨⟨cb0_0, cb0_1, cb0_2⟩, _⟩ := block3 (E23.out.block B0)
    have lb0 := lt_of_block (E23.out.block B0)
    obtain ⟨⟨cD1_23_0, cD1_23_1, cD1_23_2⟩, _⟩ := block3 D1_23
    have lD1_23 := lt_of_block D1_23
    go_wp2
    go_ret
    exact ⟨rfl, EB.trans E23.out⟩
end Go.Proofs.Ytdggpkgbncmlbaa
