/-
  The walk of the statement on LabelsOf.
-/
import Derived.Test.YtaakkdcpkllgoaaLbB
import Derived.Test.YtaakkdcpkllgoaaLate
import Derived.Test.YtaakkdcpkllgoaaPost
namespace Go.Proofs.Ytaakkdcpkllgoaa
open Go.RowKit
set_option linter.unusedVariables false
set_option linter.unusedSimpArgs false
set_option linter.unnecessarySimpa false

set_option maxRecDepth 100000 in
set_option maxHeartbeats 4000000 in
theorem walk_FnExactLabelsOf (W0 H0 : Int) (s0 : Option Addr) (n0 c0 : Nat) (zs0 : List Int) (hz0 : zs0.length = n0) (hn0 : n0 ≤ 9223372036854775807) (wW0 : (Lit.int .i64 W0).wf = true) (wH0 : (Lit.int .i64 H0).wf = true) (w : World) (hR0 : VArr w s0 (ints zs0)) :
    Calls Try.prog 14 #[.agg #[.int .i64 W0, .int .i64 H0, .slice s0 n0 c0]] w fun e w' => e = .returned (.bool true) ∧ Ext w w' := by
  have EB : Ext w (w.alloc (.cells #[.int .i64 W0, .int .i64 H0, .slice s0 n0 c0] 33)) := Ext.alloc (Ext.refl w) _
  have B0 := heap_new w (.cells #[.int .i64 W0, .int .i64 H0, .slice s0 n0 c0] 33)
  by_cases big0 : (1048576 : Int) - n0 < 0
  · -- too large
    go_enter Try.func14, Try.ntmps14
    go_wp2_with fail
    have R0 := hR0.ext EB
    generalize hsz : w.heap.size = pz at *
    generalize (w.alloc (.cells #[.int .i64 W0, .int .i64 H0, .slice s0 n0 c0] 33)) = wb at *
    have HSZ := Lib.hid hsz
    clear hsz
    have E0 : Hid (Ext wb wb) := Ext.refl wb
    refine (szGrains_any W0 H0 s0 n0 c0 (1048576 : Int) hn0 (by omega) (by omega) _).mono ?_
    rw [if_pos (by omega)]
    rintro e w1 ⟨rfl, hX1⟩
    have E1 := Lib.hid (E0.out.trans hX1)
    clear hX1 E0
    obtain ⟨⟨cb0_0, cb0_1, cb0_2⟩, _⟩ := block3 (E1.out.block B0)
    have lb0 := lt_of_block (E1.out.block B0)
    go_wp2
    go_ret
    exact ⟨rfl, EB.trans E1.out⟩
  · -- not so large
    have hl0 : n0 ≤ 1048576 := by omega
    go_enter Try.func14, Try.ntmps14
    go_wp2_with fail
    have R0 := hR0.ext EB
    generalize hsz : w.heap.size = pz at *
    generalize (w.alloc (.cells #[.int .i64 W0, .int .i64 H0, .slice s0 n0 c0] 33)) = wb at *
    have HSZ := Lib.hid hsz
    clear hsz
    have E0 : Hid (Ext wb wb) := Ext.refl wb
    refine (szGrains_any W0 H0 s0 n0 c0 (1048576 : Int) hn0 (by omega) (by omega) _).mono ?_
    rw [if_neg (by omega)]
    rintro e w1 ⟨rfl, hX1⟩
    have E1 := Lib.hid (E0.out.trans hX1)
    clear hX1 E0
    obtain ⟨⟨cb0_0, cb0_1, cb0_2⟩, _⟩ := block3 (E1.out.block B0)
    have lb0 := lt_of_block (E1.out.block B0)
    go_wp2_with fail
    clear cb0_0 cb0_1 cb0_2 lb0
    refine (toGrains_any W0 H0 s0 n0 c0 zs0 hz0 hl0 _ (VArr.ext R0 E1.out)).mono ?_
    rintro e w2 ⟨b0, rfl, hX2, O0⟩
    have ab2 : wb.heap.size ≤ w1.heap.size := E1.out.size
    have E2 := Lib.hid (E1.out.trans hX2)
    clear hX2 E1
    obtain ⟨⟨cb0_0, cb0_1, cb0_2⟩, _⟩ := block3 (E2.out.block B0)
    have lb0 := lt_of_block (E2.out.block B0)
    go_wp2_with fail
    clear cb0_0 cb0_1 cb0_2 lb0
    refine (specLab_any W0 H0 (some ⟨b0, 0, none⟩) n0 n0 zs0 hz0 hl0 _ (ownsRow_varr O0)).mono ?_
    rintro e w3 ⟨ra1, rn1, rc1, rfl, hX3, O1, rl1, re1⟩
    have ab3 : wb.heap.size ≤ w2.heap.size := E2.out.size
    have lt0_1 := fun g hg => (O0.lt g hg).2
    have E3 := Lib.hid (E2.out.trans hX3)
    have O0_3 := ownsRow_ext O0 hX3
    clear hX3 E2 O0
    obtain ⟨⟨cb0_0, cb0_1, cb0_2⟩, _⟩ := block3 (E3.out.block B0)
    have lb0 := lt_of_block (E3.out.block B0)
    go_wp2_with fail
    clear cb0_0 cb0_1 cb0_2 lb0
    refine (toGrains_any W0 H0 s0 n0 c0 zs0 hz0 hl0 _ (VArr.ext R0 E3.out)).mono ?_
    rintro e w4 ⟨b2, rfl, hX4, O2⟩
    have ab4 : wb.heap.size ≤ w3.heap.size := E3.out.size
    have lt0_2 := fun g hg => (O0_3.lt g hg).2
    have lt1_2 := fun g hg => (O1.lt g hg).2
    have E4 := Lib.hid (E3.out.trans hX4)
    have O0_4 := ownsRow_ext O0_3 hX4
    have O1_4 := ownsRow_ext O1 hX4
    clear hX4 E3 O0_3 O1
    obtain ⟨⟨cb0_0, cb0_1, cb0_2⟩, _⟩ := block3 (E4.out.block B0)
    have lb0 := lt_of_block (E4.out.block B0)
    go_wp2_with fail
    clear cb0_0 cb0_1 cb0_2 lb0
    have hY5 := (Ext.refl w4).alloc (.cells #[.int .i64 W0, .int .i64 H0, .slice (some ⟨b2, 0, none⟩) n0 n0] 24)
    have D1 := heap_new w4 (.cells #[.int .i64 W0, .int .i64 H0, .slice (some ⟨b2, 0, none⟩) n0 n0] 24)
    generalize hw5 : w4.alloc (.cells #[.int .i64 W0, .int .i64 H0, .slice (some ⟨b2, 0, none⟩) n0 n0] 24) = w5 at *
    clear hw5
    have E6 := Lib.hid (E4.out.trans hY5)
    have O0_6 := ownsRow_ext O0_4 hY5
    have O1_6 := ownsRow_ext O1_4 hY5
    have O2_6 := ownsRow_ext O2 hY5
    clear hY5 E4 O0_4 O1_4 O2
    refine (implLab_any W0 H0 (some ⟨b2, 0, none⟩) n0 n0 zs0 hz0 hl0 _ (ownsRow_varr O2_6)).mono ?_
    rintro e w6 ⟨ra3, rn3, rc3, rfl, hX7, O3, rl3, re3⟩
    have ab7 : wb.heap.size ≤ w5.heap.size := E6.out.size
    have lt0_3 := fun g hg => (O0_6.lt g hg).2
    have lt1_3 := fun g hg => (O1_6.lt g hg).2
    have lt2_3 := fun g hg => (O2_6.lt g hg).2
    have E7 := Lib.hid (E6.out.trans hX7)
    have D1_7 := hX7.block D1
    have O0_7 := ownsRow_ext O0_6 hX7
    have O1_7 := ownsRow_ext O1_6 hX7
    have O2_7 := ownsRow_ext O2_6 hX7
    clear hX7 E6 D1 O0_6 O1_6 O2_6
    obtain ⟨⟨cb0_0, cb0_1, cb0_2⟩, _⟩ := block3 (E7.out.block B0)
    have lb0 := lt_of_block (E7.out.block B0)
    obtain ⟨⟨cD1_7_0, cD1_7_1, cD1_7_2⟩, _⟩ := block3 D1_7
    have lD1_7 := lt_of_block D1_7
    go_wp2_with fail
    clear cb0_0 cb0_1 cb0_2 lb0 cD1_7_0 cD1_7_1 cD1_7_2 lD1_7
    refine (eqInt64S_all _ _ rn3 _ rn1 _ (labL W0 H0 zs0) (labL W0 H0 zs0) rl3 rl1 (by omega) (by omega) rfl _ (ownsRow_varr O3) (ownsRow_varr O1_7)).mono ?_
    rintro e w7 ⟨rfl, hX8⟩
    have E8 := Lib.hid (E7.out.trans hX8)
    have D1_8 := hX8.block D1_7
    have O0_8 := ownsRow_ext O0_7 hX8
    have O1_8 := ownsRow_ext O1_7 hX8
    have O2_8 := ownsRow_ext O2_7 hX8
    have O3_8 := ownsRow_ext O3 hX8
    clear hX8 E7 D1_7 O0_7 O1_7 O2_7 O3
    obtain ⟨⟨cb0_0, cb0_1, cb0_2⟩, _⟩ := block3 (E8.out.block B0)
    have lb0 := lt_of_block (E8.out.block B0)
    obtain ⟨⟨cD1_8_0, cD1_8_1, cD1_8_2⟩, _⟩ := block3 D1_8
    have lD1_8 := lt_of_block D1_8
    go_wp2_with fail
    clear cb0_0 cb0_1 cb0_2 lb0 cD1_8_0 cD1_8_1 cD1_8_2 lD1_8
    refine region_grow (C := Ext w7) (K := fun f args v wv => (f = 25 → toPostHeights w7 args v wv) ∧ (f = 18 → v = .bool true)) ⟨fun _ _ h k => h.trans k, fun f args v u u' h ex => ⟨(fun hf => ((h.1) hf).ext ex), ((h.2))⟩⟩ (by kernel_rfl) (by kernel_rfl) ((Ext.refl w7).drew) ?_
    refine grow_det (c := .agg #[.int .i64 W0, .int .i64 H0, .slice (some ⟨b2, 0, none⟩) n0 n0]) rfl (fun u hu _ => ?_) ?_
    · obtain ⟨⟨d0, d1, d2⟩, _⟩ := block3 (hu.block D1_8)
      go_simp
    refine grow_det (c := .agg #[.int .i64 W0, .int .i64 H0, .slice s0 n0 c0]) rfl (fun u hu _ => ?_) ?_
    · obtain ⟨⟨d0, d1, d2⟩, _⟩ := block3 (hu.block (E8.out.block B0))
      go_simp
    refine grow_cg 25 (fun v => ∃ b, v = .agg #[.int .i64 W0, .int .i64 H0, .slice (some ⟨b, 0, none⟩) n0 n0]) (fun v wv => ∃ b, v = .agg #[.int .i64 W0, .int .i64 H0, .slice (some ⟨b, 0, none⟩) n0 n0] ∧ VArr wv (some ⟨b, 0, none⟩) (ints zs0)) rfl ?_
    refine ⟨#[.agg #[.int .i64 W0, .int .i64 H0, .slice s0 n0 c0]], fun u => ?_, fun u hu _ => ?_, fun v u h => ?_, fun v hv => ?_⟩
    · go_simp
    · refine (toGrains_any W0 H0 s0 n0 c0 zs0 hz0 hl0 _ (VArr.ext (VArr.ext R0 E8.out) hu)).mono fun e u' h => ?_
      obtain ⟨b, he, hx, ho⟩ := h
      exact ⟨_, he, hx, ⟨(fun _ => toPostHeights_mk hz0 (VArr.ext R0 E8.out) (ownsRow_varr ho)), (fun h => by cases h)⟩⟩
    · exact toPostHeights_get ((h.1) rfl) hz0 (VArr.ext R0 E8.out)
    obtain ⟨bq1, rfl⟩ := hv
    refine grow_c1 18 rfl ?_
    refine ⟨#[.agg #[.int .i64 W0, .int .i64 H0, .slice (some ⟨b2, 0, none⟩) n0 n0], .agg #[.int .i64 W0, .int .i64 H0, .slice (some ⟨bq1, 0, none⟩) n0 n0]], fun u => ?_, .bool true, fun u hu hk => ?_, fun v u h => (h.2) rfl, fun u => ⟨(fun h => by cases h), (fun _ => rfl)⟩, ?_⟩
    · go_simp
    · exact eqGrains_any W0 H0 W0 H0 _ _ n0 _ n0 _ zs0 zs0 hz0 hz0 (by omega) (by omega) rfl rfl rfl _ (VArr.ext (ownsRow_varr O2_8) hu) (by obtain ⟨b, hb, hv⟩ := hk 43 (by simp [Oper.looksAt, Op.operands, Call.operands]); simp at hb; subst hb; exact hv)
    refine grow_q rfl ?_
    apply Exists.intro
    refine ⟨fun u hu _ => ?_, ?_⟩
    · go_simp; try rfl
    refine grow_nil (fun w8 hX9 hh => ?_)
    obtain ⟨_, _⟩ := hh
    go_simp
    have E9 := Lib.hid (E8.out.trans hX9)
    have D1_9 := hX9.block D1_8
    have O0_9 := ownsRow_ext O0_8 hX9
    have O1_9 := ownsRow_ext O1_8 hX9
    have O2_9 := ownsRow_ext O2_8 hX9
    have O3_9 := ownsRow_ext O3_8 hX9
    clear hX9 E8 D1_8 O0_8 O1_8 O2_8 O3_8
    obtain ⟨⟨cb0_0, cb0_1, cb0_2⟩, _⟩ := block3 (E9.out.block B0)
    have lb0 := lt_of_block (E9.out.block B0)
    obtain ⟨⟨cD1_9_0, cD1_9_1, cD1_9_2⟩, _⟩ := block3 D1_9
    have lD1_9 := lt_of_block D1_9
    go_wp2_with fail
    clear cb0_0 cb0_1 cb0_2 lb0 cD1_9_0 cD1_9_1 cD1_9_2 lD1_9
    refine (markGrains_any W0 H0 (some ⟨b2, 0, none⟩) n0 n0 _ zs0 1 (by omega) (by omega) (by omega) _ O2_9).mono ?_
    rintro e w9 ⟨rfl, hG10, O2_m10⟩
    have E10 := Lib.hid (Ext.rowv E9.out O2_9 ab4 hG10)
    have D1_10 := block_keep (by decide) O2_9 hG10 D1_9
    have O0_10 := row_keep1 O0_9 O2_9 lt0_2 hG10
    have O1_10 := row_keep1 O1_9 O2_9 lt1_2 hG10
    have O3_10 := row_keep2 O3_9 O2_9 lt2_3 hG10
    clear hG10 E9 D1_9 O0_9 O1_9 O3_9
    clear O2_9
    obtain ⟨⟨cb0_0, cb0_1, cb0_2⟩, _⟩ := block3 (E10.out.block B0)
    have lb0 := lt_of_block (E10.out.block B0)
    obtain ⟨⟨cD1_10_0, cD1_10_1, cD1_10_2⟩, _⟩ := block3 D1_10
    have lD1_10 := lt_of_block D1_10
    go_wp2_with fail
    clear cb0_0 cb0_1 cb0_2 lb0 cD1_10_0 cD1_10_1 cD1_10_2 lD1_10
    refine (eqInt64S_all _ _ rn3 _ rn1 _ (labL W0 H0 zs0) (labL W0 H0 zs0) rl3 rl1 (by omega) (by omega) rfl _ (ownsRow_varr O3_10) (ownsRow_varr O1_10)).mono ?_
    rintro e w10 ⟨rfl, hX11⟩
    have E11 := Lib.hid (E10.out.trans hX11)
    have D1_11 := hX11.block D1_10
    have O0_11 := ownsRow_ext O0_10 hX11
    have O1_11 := ownsRow_ext O1_10 hX11
    have O2_11 := ownsRow_ext O2_m10 hX11
    have O3_11 := ownsRow_ext O3_10 hX11
    clear hX11 E10 D1_10 O0_10 O1_10 O2_m10 O3_10
    obtain ⟨⟨cb0_0, cb0_1, cb0_2⟩, _⟩ := block3 (E11.out.block B0)
    have lb0 := lt_of_block (E11.out.block B0)
    obtain ⟨⟨cD1_11_0, cD1_11_1, cD1_11_2⟩, _⟩ := block3 D1_11
    have lD1_11 := lt_of_block D1_11
    go_wp2_with fail
    clear cb0_0 cb0_1 cb0_2 lb0 cD1_11_0 cD1_11_1 cD1_11_2 lD1_11
    refine (markInt64S_any ra3 rn3 rc3 _ (labL W0 H0 zs0) 1 (by omega) (by omega) (by omega) _ O3_11).mono ?_
    rintro e w11 ⟨rfl, hG12, O3_m12⟩
    have E12 := Lib.hid (Ext.rowv E11.out O3_11 ab7 hG12)
    have D1_12 := block_keep (by decide) O3_11 hG12 D1_11
    have O0_12 := row_keep1 O0_11 O3_11 lt0_3 hG12
    have O1_12 := row_keep1 O1_11 O3_11 lt1_3 hG12
    have O2_12 := row_keep1 O2_11 O3_11 lt2_3 hG12
    clear hG12 E11 D1_11 O0_11 O1_11 O2_11
    clear O3_11
    obtain ⟨⟨cb0_0, cb0_1, cb0_2⟩, _⟩ := block3 (E12.out.block B0)
    have lb0 := lt_of_block (E12.out.block B0)
    obtain ⟨⟨cD1_12_0, cD1_12_1, cD1_12_2⟩, _⟩ := block3 D1_12
    have lD1_12 := lt_of_block D1_12
    go_wp2_with fail
    clear cb0_0 cb0_1 cb0_2 lb0 cD1_12_0 cD1_12_1 cD1_12_2 lD1_12
    refine (heldInt64S_any ra3 rn3 rc3 1 (by omega) (by omega) (by omega) _ (ownsRow_varr O3_m12)).mono ?_
    rintro e w12 ⟨rfl, hX13⟩
    have E13 := Lib.hid (E12.out.trans hX13)
    have D1_13 := hX13.block D1_12
    have O0_13 := ownsRow_ext O0_12 hX13
    have O1_13 := ownsRow_ext O1_12 hX13
    have O2_13 := ownsRow_ext O2_12 hX13
    have O3_13 := ownsRow_ext O3_m12 hX13
    clear hX13 E12 D1_12 O0_12 O1_12 O2_12 O3_m12
    obtain ⟨⟨cb0_0, cb0_1, cb0_2⟩, _⟩ := block3 (E13.out.block B0)
    have lb0 := lt_of_block (E13.out.block B0)
    obtain ⟨⟨cD1_13_0, cD1_13_1, cD1_13_2⟩, _⟩ := block3 D1_13
    have lD1_13 := lt_of_block D1_13
    go_wp2_with fail
    clear cb0_0 cb0_1 cb0_2 lb0 cD1_13_0 cD1_13_1 cD1_13_2 lD1_13
    refine (toGrains_any W0 H0 s0 n0 c0 zs0 hz0 hl0 _ (VArr.ext R0 E13.out)).mono ?_
    rintro e w13 ⟨b4, rfl, hX14, O4⟩
    have ab14 : wb.heap.size ≤ w12.heap.size := E13.out.size
    have lt0_4 := fun g hg => (O0_13.lt g hg).2
    have lt1_4 := fun g hg => (O1_13.lt g hg).2
    have lt2_4 := fun g hg => (O2_13.lt g hg).2
    have lt3_4 := fun g hg => (O3_13.lt g hg).2
    have E14 := Lib.hid (E13.out.trans hX14)
    have D1_14 := hX14.block D1_13
    have O0_14 := ownsRow_ext O0_13 hX14
    have O1_14 := ownsRow_ext O1_13 hX14
    have O2_14 := ownsRow_ext O2_13 hX14
    have O3_14 := ownsRow_ext O3_13 hX14
    clear hX14 E13 D1_13 O0_13 O1_13 O2_13 O3_13
    obtain ⟨⟨cb0_0, cb0_1, cb0_2⟩, _⟩ := block3 (E14.out.block B0)
    have lb0 := lt_of_block (E14.out.block B0)
    obtain ⟨⟨cD1_14_0, cD1_14_1, cD1_14_2⟩, _⟩ := block3 D1_14
    have lD1_14 := lt_of_block D1_14
    go_wp2_with fail
    clear cb0_0 cb0_1 cb0_2 lb0 cD1_14_0 cD1_14_1 cD1_14_2 lD1_14
    refine (implLab_any W0 H0 (some ⟨b4, 0, none⟩) n0 n0 zs0 hz0 hl0 _ (ownsRow_varr O4)).mono ?_
    rintro e w14 ⟨ra5, rn5, rc5, rfl, hX15, O5, rl5, re5⟩
    have ab15 : wb.heap.size ≤ w13.heap.size := E14.out.size
    have lt0_5 := fun g hg => (O0_14.lt g hg).2
    have lt1_5 := fun g hg => (O1_14.lt g hg).2
    have lt2_5 := fun g hg => (O2_14.lt g hg).2
    have lt3_5 := fun g hg => (O3_14.lt g hg).2
    have lt4_5 := fun g hg => (O4.lt g hg).2
    have E15 := Lib.hid (E14.out.trans hX15)
    have D1_15 := hX15.block D1_14
    have O0_15 := ownsRow_ext O0_14 hX15
    have O1_15 := ownsRow_ext O1_14 hX15
    have O2_15 := ownsRow_ext O2_14 hX15
    have O3_15 := ownsRow_ext O3_14 hX15
    have O4_15 := ownsRow_ext O4 hX15
    clear hX15 E14 D1_14 O0_14 O1_14 O2_14 O3_14 O4
    obtain ⟨⟨cb0_0, cb0_1, cb0_2⟩, _⟩ := block3 (E15.out.block B0)
    have lb0 := lt_of_block (E15.out.block B0)
    obtain ⟨⟨cD1_15_0, cD1_15_1, cD1_15_2⟩, _⟩ := block3 D1_15
    have lD1_15 := lt_of_block D1_15
    go_wp2_with fail
    clear cb0_0 cb0_1 cb0_2 lb0 cD1_15_0 cD1_15_1 cD1_15_2 lD1_15
    refine (eqInt64S_all _ _ rn5 _ rn1 _ (labL W0 H0 zs0) (labL W0 H0 zs0) rl5 rl1 (by omega) (by omega) rfl _ (ownsRow_varr O5) (ownsRow_varr O1_15)).mono ?_
    rintro e w15 ⟨rfl, hX16⟩
    have E16 := Lib.hid (E15.out.trans hX16)
    have D1_16 := hX16.block D1_15
    have O0_16 := ownsRow_ext O0_15 hX16
    have O1_16 := ownsRow_ext O1_15 hX16
    have O2_16 := ownsRow_ext O2_15 hX16
    have O3_16 := ownsRow_ext O3_15 hX16
    have O4_16 := ownsRow_ext O4_15 hX16
    have O5_16 := ownsRow_ext O5 hX16
    clear hX16 E15 D1_15 O0_15 O1_15 O2_15 O3_15 O4_15 O5
    obtain ⟨⟨cb0_0, cb0_1, cb0_2⟩, _⟩ := block3 (E16.out.block B0)
    have lb0 := lt_of_block (E16.out.block B0)
    obtain ⟨⟨cD1_16_0, cD1_16_1, cD1_16_2⟩, _⟩ := block3 D1_16
    have lD1_16 := lt_of_block D1_16
    go_wp2_with fail
    clear cb0_0 cb0_1 cb0_2 lb0 cD1_16_0 cD1_16_1 cD1_16_2 lD1_16
    refine (heldInt64S_any ra3 rn3 rc3 1 (by omega) (by omega) (by omega) _ (ownsRow_varr O3_16)).mono ?_
    rintro e w16 ⟨rfl, hX17⟩
    have E17 := Lib.hid (E16.out.trans hX17)
    have D1_17 := hX17.block D1_16
    have O0_17 := ownsRow_ext O0_16 hX17
    have O1_17 := ownsRow_ext O1_16 hX17
    have O2_17 := ownsRow_ext O2_16 hX17
    have O3_17 := ownsRow_ext O3_16 hX17
    have O4_17 := ownsRow_ext O4_16 hX17
    have O5_17 := ownsRow_ext O5_16 hX17
    clear hX17 E16 D1_16 O0_16 O1_16 O2_16 O3_16 O4_16 O5_16
    obtain ⟨⟨cb0_0, cb0_1, cb0_2⟩, _⟩ := block3 (E17.out.block B0)
    have lb0 := lt_of_block (E17.out.block B0)
    obtain ⟨⟨cD1_17_0, cD1_17_1, cD1_17_2⟩, _⟩ := block3 D1_17
    have lD1_17 := lt_of_block D1_17
    go_wp2
    go_ret
    exact ⟨rfl, EB.trans E17.out⟩
end Go.Proofs.Ytaakkdcpkllgoaa
