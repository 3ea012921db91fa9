/-
  The walk of the statement on FlipGrains.
-/
import Derived.Test.YtpmcjojipbiinaaFpC
import Derived.Test.YtpmcjojipbiinaaLate
namespace Go.Proofs.Ytpmcjojipbiinaa
open Go.RowKit
set_option linter.unusedVariables false
set_option linter.unusedSimpArgs false
set_option linter.unnecessarySimpa false

set_option maxRecDepth 100000 in
set_option maxHeartbeats 4000000 in
theorem walk_FnExactFlipGrains (W0 H0 : Int) (s0 : Option Addr) (n0 c0 : Nat) (zs0 : List Int) (hz0 : zs0.length = n0) (hn0 : n0 ≤ 9223372036854775807) (wW0 : (Lit.int .i64 W0).wf = true) (wH0 : (Lit.int .i64 H0).wf = true) (a1 : Int) (w1 : (Lit.int .i64 a1).wf = true) (a2 : Nat) (w2 : (Lit.float .f32 a2).wf = true) (a3 : Int) (w3 : (Lit.int .i64 a3).wf = true) (w : World) (hR0 : VArr w s0 (ints zs0)) :
    Calls Try.prog 4 #[.agg #[.int .i64 W0, .int .i64 H0, .slice s0 n0 c0], .int .i64 a1, .float .f32 a2, .int .i64 a3] w fun e w' => e = .returned (.bool true) ∧ Ext w w' := by
  have EB : Ext w (w.alloc (.cells #[.int .i64 W0, .int .i64 H0, .slice s0 n0 c0] 34)) := Ext.alloc (Ext.refl w) _
  have B0 := heap_new w (.cells #[.int .i64 W0, .int .i64 H0, .slice s0 n0 c0] 34)
  by_cases big0 : (1048576 : Int) - n0 < 0
  · -- too large
    go_enter Try.func4, Try.ntmps4
    go_wp2_with fail
    have R0 := hR0.ext EB
    generalize hsz : w.heap.size = pz at *
    generalize (w.alloc (.cells #[.int .i64 W0, .int .i64 H0, .slice s0 n0 c0] 34)) = wb at *
    have HSZ := Lib.hid hsz
    clear hsz
    have E0 : Hid (Ext wb wb) := Ext.refl wb
    refine (szGrains_any W0 H0 s0 n0 c0 (1048576 : Int) hn0 (by omega) (by omega) _).mono ?_
    rw [if_pos (by omega)]
    rintro e w1 ⟨rfl, hX1⟩
    have E1 := Lib.hid (E0.out.trans hX1)
    clear hX1 E0
    obtain ⟨⟨cb0_0, cb0_1, cb0_2⟩, _⟩ := block3 (E1.out.block B0)
    have lb0 := lt_of_block (E1.out.block B0)
    go_wp2
    go_ret
    exact ⟨rfl, EB.trans E1.out⟩
  · -- not so large
    have hl0 : n0 ≤ 1048576 := by omega
    go_enter Try.func4, Try.ntmps4
    go_wp2_with fail
    have R0 := hR0.ext EB
    generalize hsz : w.heap.size = pz at *
    generalize (w.alloc (.cells #[.int .i64 W0, .int .i64 H0, .slice s0 n0 c0] 34)) = wb at *
    have HSZ := Lib.hid hsz
    clear hsz
    have E0 : Hid (Ext wb wb) := Ext.refl wb
    refine (szGrains_any W0 H0 s0 n0 c0 (1048576 : Int) hn0 (by omega) (by omega) _).mono ?_
    rw [if_neg (by omega)]
    rintro e w1 ⟨rfl, hX1⟩
    have E1 := Lib.hid (E0.out.trans hX1)
    clear hX1 E0
    obtain ⟨⟨cb0_0, cb0_1, cb0_2⟩, _⟩ := block3 (E1.out.block B0)
    have lb0 := lt_of_block (E1.out.block B0)
    go_wp2_with fail
    clear cb0_0 cb0_1 cb0_2 lb0
    refine (toGrains_any W0 H0 s0 n0 c0 zs0 hz0 hl0 _ (VArr.ext R0 E1.out)).mono ?_
    rintro e w2 ⟨b0, rfl, hX2, O0⟩
    have ab2 : wb.heap.size ≤ w1.heap.size := E1.out.size
    have E2 := Lib.hid (E1.out.trans hX2)
    clear hX2 E1
    obtain ⟨⟨cb0_0, cb0_1, cb0_2⟩, _⟩ := block3 (E2.out.block B0)
    have lb0 := lt_of_block (E2.out.block B0)
    go_wp2_with fail
    clear cb0_0 cb0_1 cb0_2 lb0
    refine (specFlip_any W0 H0 a1 a2 a3 (some ⟨b0, 0, none⟩) n0 n0 zs0 hz0 hl0 _ (ownsRow_varr O0)).mono ?_
    rintro e w3 ⟨ra1, rn1, rc1, rfl, hX3, O1, rl1, re1⟩
    have ab3 : wb.heap.size ≤ w2.heap.size := E2.out.size
    have lt0_1 := fun g hg => (O0.lt g hg).2
    have E3 := Lib.hid (E2.out.trans hX3)
    have O0_3 := ownsRow_ext O0 hX3
    clear hX3 E2 O0
    obtain ⟨⟨cb0_0, cb0_1, cb0_2⟩, _⟩ := block3 (E3.out.block B0)
    have lb0 := lt_of_block (E3.out.block B0)
    go_wp2_with fail
    clear cb0_0 cb0_1 cb0_2 lb0
    have hY4 := (Ext.refl w3).alloc (.cells #[.int .i64 (keepI (flipOk W0 H0 zs0 a1 a3) W0), .int .i64 (keepI (flipOk W0 H0 zs0 a1 a3) H0), .slice ra1 rn1 rc1] 25)
    have D1 := heap_new w3 (.cells #[.int .i64 (keepI (flipOk W0 H0 zs0 a1 a3) W0), .int .i64 (keepI (flipOk W0 H0 zs0 a1 a3) H0), .slice ra1 rn1 rc1] 25)
    generalize hw4 : w3.alloc (.cells #[.int .i64 (keepI (flipOk W0 H0 zs0 a1 a3) W0), .int .i64 (keepI (flipOk W0 H0 zs0 a1 a3) H0), .slice ra1 rn1 rc1] 25) = w4 at *
    clear hw4
    have E5 := Lib.hid (E3.out.trans hY4)
    have O0_5 := ownsRow_ext O0_3 hY4
    have O1_5 := ownsRow_ext O1 hY4
    clear hY4 E3 O0_3 O1
    refine (toGrains_any W0 H0 s0 n0 c0 zs0 hz0 hl0 _ (VArr.ext R0 E5.out)).mono ?_
    rintro e w5 ⟨b2, rfl, hX6, O2⟩
    have ab6 : wb.heap.size ≤ w4.heap.size := E5.out.size
    have lt0_2 := fun g hg => (O0_5.lt g hg).2
    have lt1_2 := fun g hg => (O1_5.lt g hg).2
    have E6 := Lib.hid (E5.out.trans hX6)
    have D1_6 := hX6.block D1
    have O0_6 := ownsRow_ext O0_5 hX6
    have O1_6 := ownsRow_ext O1_5 hX6
    clear hX6 E5 D1 O0_5 O1_5
    obtain ⟨⟨cb0_0, cb0_1, cb0_2⟩, _⟩ := block3 (E6.out.block B0)
    have lb0 := lt_of_block (E6.out.block B0)
    obtain ⟨⟨cD1_6_0, cD1_6_1, cD1_6_2⟩, _⟩ := block3 D1_6
    have lD1_6 := lt_of_block D1_6
    go_wp2_with fail
    clear cb0_0 cb0_1 cb0_2 lb0 cD1_6_0 cD1_6_1 cD1_6_2 lD1_6
    have hY7 := (Ext.refl w5).alloc (.cells #[.int .i64 W0, .int .i64 H0, .slice (some ⟨b2, 0, none⟩) n0 n0] 25)
    have D2 := heap_new w5 (.cells #[.int .i64 W0, .int .i64 H0, .slice (some ⟨b2, 0, none⟩) n0 n0] 25)
    generalize hw7 : w5.alloc (.cells #[.int .i64 W0, .int .i64 H0, .slice (some ⟨b2, 0, none⟩) n0 n0] 25) = w6 at *
    clear hw7
    have E8 := Lib.hid (E6.out.trans hY7)
    have D1_8 := hY7.block D1_6
    have O0_8 := ownsRow_ext O0_6 hY7
    have O1_8 := ownsRow_ext O1_6 hY7
    have O2_8 := ownsRow_ext O2 hY7
    clear hY7 E6 D1_6 O0_6 O1_6 O2
    refine (implFlip_any W0 H0 a1 a2 a3 (some ⟨b2, 0, none⟩) n0 n0 zs0 hz0 hl0 _ (ownsRow_varr O2_8)).mono ?_
    rintro e w7 ⟨ra3, rn3, rc3, rfl, hX9, O3, rl3, re3⟩
    have ab9 : wb.heap.size ≤ w6.heap.size := E8.out.size
    have lt0_3 := fun g hg => (O0_8.lt g hg).2
    have lt1_3 := fun g hg => (O1_8.lt g hg).2
    have lt2_3 := fun g hg => (O2_8.lt g hg).2
    have E9 := Lib.hid (E8.out.trans hX9)
    have D1_9 := hX9.block D1_8
    have D2_9 := hX9.block D2
    have O0_9 := ownsRow_ext O0_8 hX9
    have O1_9 := ownsRow_ext O1_8 hX9
    have O2_9 := ownsRow_ext O2_8 hX9
    clear hX9 E8 D1_8 D2 O0_8 O1_8 O2_8
    obtain ⟨⟨cb0_0, cb0_1, cb0_2⟩, _⟩ := block3 (E9.out.block B0)
    have lb0 := lt_of_block (E9.out.block B0)
    obtain ⟨⟨cD1_9_0, cD1_9_1, cD1_9_2⟩, _⟩ := block3 D1_9
    have lD1_9 := lt_of_block D1_9
    obtain ⟨⟨cD2_9_0, cD2_9_1, cD2_9_2⟩, _⟩ := block3 D2_9
    have lD2_9 := lt_of_block D2_9
    go_wp2_with fail
    clear cb0_0 cb0_1 cb0_2 lb0 cD1_9_0 cD1_9_1 cD1_9_2 lD1_9 cD2_9_0 cD2_9_1 cD2_9_2 lD2_9
    have hY10 := (Ext.refl w7).alloc (.cells #[.int .i64 (keepI (flipOk W0 H0 zs0 a1 a3) W0), .int .i64 (keepI (flipOk W0 H0 zs0 a1 a3) H0), .slice ra3 rn3 rc3] 25)
    have D3 := heap_new w7 (.cells #[.int .i64 (keepI (flipOk W0 H0 zs0 a1 a3) W0), .int .i64 (keepI (flipOk W0 H0 zs0 a1 a3) H0), .slice ra3 rn3 rc3] 25)
    generalize hw10 : w7.alloc (.cells #[.int .i64 (keepI (flipOk W0 H0 zs0 a1 a3) W0), .int .i64 (keepI (flipOk W0 H0 zs0 a1 a3) H0), .slice ra3 rn3 rc3] 25) = w8 at *
    clear hw10
    have E11 := Lib.hid (E9.out.trans hY10)
    have D1_11 := hY10.block D1_9
    have D2_11 := hY10.block D2_9
    have O0_11 := ownsRow_ext O0_9 hY10
    have O1_11 := ownsRow_ext O1_9 hY10
    have O2_11 := ownsRow_ext O2_9 hY10
    have O3_11 := ownsRow_ext O3 hY10
    clear hY10 E9 D1_9 D2_9 O0_9 O1_9 O2_9 O3
    refine (eqGrains_any (keepI (flipOk W0 H0 zs0 a1 a3) W0) (keepI (flipOk W0 H0 zs0 a1 a3) H0) (keepI (flipOk W0 H0 zs0 a1 a3) W0) (keepI (flipOk W0 H0 zs0 a1 a3) H0) _ _ rn3 _ rn1 _ (keepL (flipOk W0 H0 zs0 a1 a3) (flipF W0 H0 zs0 a1 a2 a3).zs) (keepL (flipOk W0 H0 zs0 a1 a3) (flipF W0 H0 zs0 a1 a2 a3).zs) rl3 rl1 (by omega) (by omega) rfl rfl rfl _ (ownsRow_varr O3_11) (ownsRow_varr O1_11)).mono ?_
    rintro e w9 ⟨rfl, hX12⟩
    have E12 := Lib.hid (E11.out.trans hX12)
    have D1_12 := hX12.block D1_11
    have D2_12 := hX12.block D2_11
    have D3_12 := hX12.block D3
    have O0_12 := ownsRow_ext O0_11 hX12
    have O1_12 := ownsRow_ext O1_11 hX12
    have O2_12 := ownsRow_ext O2_11 hX12
    have O3_12 := ownsRow_ext O3_11 hX12
    clear hX12 E11 D1_11 D2_11 D3 O0_11 O1_11 O2_11 O3_11
    obtain ⟨⟨cb0_0, cb0_1, cb0_2⟩, _⟩ := block3 (E12.out.block B0)
    have lb0 := lt_of_block (E12.out.block B0)
    obtain ⟨⟨cD1_12_0, cD1_12_1, cD1_12_2⟩, _⟩ := block3 D1_12
    have lD1_12 := lt_of_block D1_12
    obtain ⟨⟨cD2_12_0, cD2_12_1, cD2_12_2⟩, _⟩ := block3 D2_12
    have lD2_12 := lt_of_block D2_12
    obtain ⟨⟨cD3_12_0, cD3_12_1, cD3_12_2⟩, _⟩ := block3 D3_12
    have lD3_12 := lt_of_block D3_12
    go_wp2_with fail
    clear cb0_0 cb0_1 cb0_2 lb0 cD1_12_0 cD1_12_1 cD1_12_2 lD1_12 cD2_12_0 cD2_12_1 cD2_12_2 lD2_12 cD3_12_0 cD3_12_1 cD3_12_2 lD3_12
    refine region_grow (C := Ext w9) (K := fun f args v wv => (f = 17 → toPostHeights w9 args v wv) ∧ (f = 10 → v = .bool true)) ⟨fun _ _ h k => h.trans k, fun f args v u u' h ex => ⟨(fun hf => ((h.1) hf).ext ex), ((h.2))⟩⟩ (by kernel_rfl) (by kernel_rfl) ((Ext.refl w9).drew) ?_
    refine grow_det (c := .agg #[.int .i64 W0, .int .i64 H0, .slice (some ⟨b2, 0, none⟩) n0 n0]) rfl (fun u hu _ => ?_) ?_
    · obtain ⟨⟨d0, d1, d2⟩, _⟩ := block3 (hu.block D2_12)
      go_simp
    refine grow_det (c := .agg #[.int .i64 W0, .int .i64 H0, .slice s0 n0 c0]) rfl (fun u hu _ => ?_) ?_
    · obtain ⟨⟨d0, d1, d2⟩, _⟩ := block3 (hu.block (E12.out.block B0))
      go_simp
    refine grow_cg 17 (fun v => ∃ b, v = .agg #[.int .i64 W0, .int .i64 H0, .slice (some ⟨b, 0, none⟩) n0 n0]) (fun v wv => ∃ b, v = .agg #[.int .i64 W0, .int .i64 H0, .slice (some ⟨b, 0, none⟩) n0 n0] ∧ VArr wv (some ⟨b, 0, none⟩) (ints zs0)) rfl ?_
    refine ⟨#[.agg #[.int .i64 W0, .int .i64 H0, .slice s0 n0 c0]], fun u => ?_, fun u hu _ => ?_, fun v u h => ?_, fun v hv => ?_⟩
    · go_simp
    · refine (toGrains_any W0 H0 s0 n0 c0 zs0 hz0 hl0 _ (VArr.ext (VArr.ext R0 E12.out) hu)).mono fun e u' h => ?_
      obtain ⟨b, he, hx, ho⟩ := h
      exact ⟨_, he, hx, ⟨(fun _ => toPostHeights_mk hz0 (VArr.ext R0 E12.out) (ownsRow_varr ho)), (fun h => by cases h)⟩⟩
    · exact toPostHeights_get ((h.1) rfl) hz0 (VArr.ext R0 E12.out)
    obtain ⟨bq1, rfl⟩ := hv
    refine grow_c1 10 rfl ?_
    refine ⟨#[.agg #[.int .i64 W0, .int .i64 H0, .slice (some ⟨b2, 0, none⟩) n0 n0], .agg #[.int .i64 W0, .int .i64 H0, .slice (some ⟨bq1, 0, none⟩) n0 n0]], fun u => ?_, .bool true, fun u hu hk => ?_, fun v u h => (h.2) rfl, fun u => ⟨(fun h => by cases h), (fun _ => rfl)⟩, ?_⟩
    · go_simp
    · exact eqGrains_any W0 H0 W0 H0 _ _ n0 _ n0 _ zs0 zs0 hz0 hz0 (by omega) (by omega) rfl rfl rfl _ (VArr.ext (ownsRow_varr O2_12) hu) (by obtain ⟨b, hb, hv⟩ := hk 75 (by simp [Oper.looksAt, Op.operands, Call.operands]); simp at hb; subst hb; exact hv)
    refine grow_q rfl ?_
    apply Exists.intro
    refine ⟨fun u hu _ => ?_, ?_⟩
    · go_simp; try rfl
    refine grow_nil (fun w10 hX13 hh => ?_)
    obtain ⟨_, _⟩ := hh
    go_simp
    have E13 := Lib.hid (E12.out.trans hX13)
    have D1_13 := hX13.block D1_12
    have D2_13 := hX13.block D2_12
    have D3_13 := hX13.block D3_12
    have O0_13 := ownsRow_ext O0_12 hX13
    have O1_13 := ownsRow_ext O1_12 hX13
    have O2_13 := ownsRow_ext O2_12 hX13
    have O3_13 := ownsRow_ext O3_12 hX13
    clear hX13 E12 D1_12 D2_12 D3_12 O0_12 O1_12 O2_12 O3_12
    obtain ⟨⟨cb0_0, cb0_1, cb0_2⟩, _⟩ := block3 (E13.out.block B0)
    have lb0 := lt_of_block (E13.out.block B0)
    obtain ⟨⟨cD1_13_0, cD1_13_1, cD1_13_2⟩, _⟩ := block3 D1_13
    have lD1_13 := lt_of_block D1_13
    obtain ⟨⟨cD2_13_0, cD2_13_1, cD2_13_2⟩, _⟩ := block3 D2_13
    have lD2_13 := lt_of_block D2_13
    obtain ⟨⟨cD3_13_0, cD3_13_1, cD3_13_2⟩, _⟩ := block3 D3_13
    have lD3_13 := lt_of_block D3_13
    go_wp2_with fail
    clear cb0_0 cb0_1 cb0_2 lb0 cD1_13_0 cD1_13_1 cD1_13_2 lD1_13 cD2_13_0 cD2_13_1 cD2_13_2 lD2_13 cD3_13_0 cD3_13_1 cD3_13_2 lD3_13
    refine (markGrains_any W0 H0 (some ⟨b2, 0, none⟩) n0 n0 _ zs0 1 (by omega) (by omega) (by omega) _ O2_13).mono ?_
    rintro e w11 ⟨rfl, hG14, O2_m14⟩
    have E14 := Lib.hid (Ext.rowv E13.out O2_13 ab6 hG14)
    have D1_14 := block_keep (by decide) O2_13 hG14 D1_13
    have D2_14 := block_keep (by decide) O2_13 hG14 D2_13
    have D3_14 := block_keep (by decide) O2_13 hG14 D3_13
    have O0_14 := row_keep1 O0_13 O2_13 lt0_2 hG14
    have O1_14 := row_keep1 O1_13 O2_13 lt1_2 hG14
    have O3_14 := row_keep2 O3_13 O2_13 lt2_3 hG14
    clear hG14 E13 D1_13 D2_13 D3_13 O0_13 O1_13 O3_13
    clear O2_13
    obtain ⟨⟨cb0_0, cb0_1, cb0_2⟩, _⟩ := block3 (E14.out.block B0)
    have lb0 := lt_of_block (E14.out.block B0)
    obtain ⟨⟨cD1_14_0, cD1_14_1, cD1_14_2⟩, _⟩ := block3 D1_14
    have lD1_14 := lt_of_block D1_14
    obtain ⟨⟨cD2_14_0, cD2_14_1, cD2_14_2⟩, _⟩ := block3 D2_14
    have lD2_14 := lt_of_block D2_14
    obtain ⟨⟨cD3_14_0, cD3_14_1, cD3_14_2⟩, _⟩ := block3 D3_14
    have lD3_14 := lt_of_block D3_14
    go_wp2_with fail
    clear cb0_0 cb0_1 cb0_2 lb0 cD1_14_0 cD1_14_1 cD1_14_2 lD1_14 cD2_14_0 cD2_14_1 cD2_14_2 lD2_14 cD3_14_0 cD3_14_1 cD3_14_2 lD3_14
    refine (eqGrains_any (keepI (flipOk W0 H0 zs0 a1 a3) W0) (keepI (flipOk W0 H0 zs0 a1 a3) H0) (keepI (flipOk W0 H0 zs0 a1 a3) W0) (keepI (flipOk W0 H0 zs0 a1 a3) H0) _ _ rn3 _ rn1 _ (keepL (flipOk W0 H0 zs0 a1 a3) (flipF W0 H0 zs0 a1 a2 a3).zs) (keepL (flipOk W0 H0 zs0 a1 a3) (flipF W0 H0 zs0 a1 a2 a3).zs) rl3 rl1 (by omega) (by omega) rfl rfl rfl _ (ownsRow_varr O3_14) (ownsRow_varr O1_14)).mono ?_
    rintro e w12 ⟨rfl, hX15⟩
    have E15 := Lib.hid (E14.out.trans hX15)
    have D1_15 := hX15.block D1_14
    have D2_15 := hX15.block D2_14
    have D3_15 := hX15.block D3_14
    have O0_15 := ownsRow_ext O0_14 hX15
    have O1_15 := ownsRow_ext O1_14 hX15
    have O2_15 := ownsRow_ext O2_m14 hX15
    have O3_15 := ownsRow_ext O3_14 hX15
    clear hX15 E14 D1_14 D2_14 D3_14 O0_14 O1_14 O2_m14 O3_14
    obtain ⟨⟨cb0_0, cb0_1, cb0_2⟩, _⟩ := block3 (E15.out.block B0)
    have lb0 := lt_of_block (E15.out.block B0)
    obtain ⟨⟨cD1_15_0, cD1_15_1, cD1_15_2⟩, _⟩ := block3 D1_15
    have lD1_15 := lt_of_block D1_15
    obtain ⟨⟨cD2_15_0, cD2_15_1, cD2_15_2⟩, _⟩ := block3 D2_15
    have lD2_15 := lt_of_block D2_15
    obtain ⟨⟨cD3_15_0, cD3_15_1, cD3_15_2⟩, _⟩ := block3 D3_15
    have lD3_15 := lt_of_block D3_15
    go_wp2_with fail
    clear cb0_0 cb0_1 cb0_2 lb0 cD1_15_0 cD1_15_1 cD1_15_2 lD1_15 cD2_15_0 cD2_15_1 cD2_15_2 lD2_15 cD3_15_0 cD3_15_1 cD3_15_2 lD3_15
    refine (markGrains_any (keepI (flipOk W0 H0 zs0 a1 a3) W0) (keepI (flipOk W0 H0 zs0 a1 a3) H0) ra3 rn3 rc3 _ (keepL (flipOk W0 H0 zs0 a1 a3) (flipF W0 H0 zs0 a1 a2 a3).zs) 1 (by omega) (by omega) (by omega) _ O3_15).mono ?_
    rintro e w13 ⟨rfl, hG16, O3_m16⟩
    have E16 := Lib.hid (Ext.rowv E15.out O3_15 ab9 hG16)
    have D1_16 := block_keep (by decide) O3_15 hG16 D1_15
    have D2_16 := block_keep (by decide) O3_15 hG16 D2_15
    have D3_16 := block_keep (by decide) O3_15 hG16 D3_15
    have O0_16 := row_keep1 O0_15 O3_15 lt0_3 hG16
    have O1_16 := row_keep1 O1_15 O3_15 lt1_3 hG16
    have O2_16 := row_keep1 O2_15 O3_15 lt2_3 hG16
    clear hG16 E15 D1_15 D2_15 D3_15 O0_15 O1_15 O2_15
    clear O3_15
    obtain ⟨⟨cb0_0, cb0_1, cb0_2⟩, _⟩ := block3 (E16.out.block B0)
    have lb0 := lt_of_block (E16.out.block B0)
    obtain ⟨⟨cD1_16_0, cD1_16_1, cD1_16_2⟩, _⟩ := block3 D1_16
    have lD1_16 := lt_of_block D1_16
    obtain ⟨⟨cD2_16_0, cD2_16_1, cD2_16_2⟩, _⟩ := block3 D2_16
    have lD2_16 := lt_of_block D2_16
    obtain ⟨⟨cD3_16_0, cD3_16_1, cD3_16_2⟩, _⟩ := block3 D3_16
    have lD3_16 := lt_of_block D3_16
    go_wp2_with fail
    clear cb0_0 cb0_1 cb0_2 lb0 cD1_16_0 cD1_16_1 cD1_16_2 lD1_16 cD2_16_0 cD2_16_1 cD2_16_2 lD2_16 cD3_16_0 cD3_16_1 cD3_16_2 lD3_16
    refine (heldGrains_any (keepI (flipOk W0 H0 zs0 a1 a3) W0) (keepI (flipOk W0 H0 zs0 a1 a3) H0) ra3 rn3 rc3 1 (by omega) (by omega) (by omega) _ (ownsRow_varr O3_m16)).mono ?_
    rintro e w14 ⟨rfl, hX17⟩
    have E17 := Lib.hid (E16.out.trans hX17)
    have D1_17 := hX17.block D1_16
    have D2_17 := hX17.block D2_16
    have D3_17 := hX17.block D3_16
    have O0_17 := ownsRow_ext O0_16 hX17
    have O1_17 := ownsRow_ext O1_16 hX17
    have O2_17 := ownsRow_ext O2_16 hX17
    have O3_17 := ownsRow_ext O3_m16 hX17
    clear hX17 E16 D1_16 D2_16 D3_16 O0_16 O1_16 O2_16 O3_m16
    obtain ⟨⟨cb0_0, cb0_1, cb0_2⟩, _⟩ := block3 (E17.out.block B0)
    have lb0 := lt_of_block (E17.out.block B0)
    obtain ⟨⟨cD1_17_0, cD1_17_1, cD1_17_2⟩, _⟩ := block3 D1_17
    have lD1_17 := lt_of_block D1_17
    obtain ⟨⟨cD2_17_0, cD2_17_1, cD2_17_2⟩, _⟩ := block3 D2_17
    have lD2_17 := lt_of_block D2_17
    obtain ⟨⟨cD3_17_0, cD3_17_1, cD3_17_2⟩, _⟩ := block3 D3_17
    have lD3_17 := lt_of_block D3_17
    go_wp2_with fail
    clear cb0_0 cb0_1 cb0_2 lb0 cD1_17_0 cD1_17_1 cD1_17_2 lD1_17 cD2_17_0 cD2_17_1 cD2_17_2 lD2_17 cD3_17_0 cD3_17_1 cD3_17_2 lD3_17
    refine (toGrains_any W0 H0 s0 n0 c0 zs0 hz0 hl0 _ (VArr.ext R0 E17.out)).mono ?_
    rintro e w15 ⟨b4, rfl, hX18, O4⟩
    have ab18 : wb.heap.size ≤ w14.heap.size := E17.out.size
    have lt0_4 := fun g hg => (O0_17.lt g hg).2
    have lt1_4 := fun g hg => (O1_17.lt g hg).2
    have lt2_4 := fun g hg => (O2_17.lt g hg).2
    have lt3_4 := fun g hg => (O3_17.lt g hg).2
    have E18 := Lib.hid (E17.out.trans hX18)
    have D1_18 := hX18.block D1_17
    have D2_18 := hX18.block D2_17
    have D3_18 := hX18.block D3_17
    have O0_18 := ownsRow_ext O0_17 hX18
    have O1_18 := ownsRow_ext O1_17 hX18
    have O2_18 := ownsRow_ext O2_17 hX18
    have O3_18 := ownsRow_ext O3_17 hX18
    clear hX18 E17 D1_17 D2_17 D3_17 O0_17 O1_17 O2_17 O3_17
    obtain ⟨⟨cb0_0, cb0_1, cb0_2⟩, _⟩ := block3 (E18.out.block B0)
    have lb0 := lt_of_block (E18.out.block B0)
    obtain ⟨⟨cD1_18_0, cD1_18_1, cD1_18_2⟩, _⟩ := block3 D1_18
    have lD1_18 := lt_of_block D1_18
    obtain ⟨⟨cD2_18_0, cD2_18_1, cD2_18_2⟩, _⟩ := block3 D2_18
    have lD2_18 := lt_of_block D2_18
    obtain ⟨⟨cD3_18_0, cD3_18_1, cD3_18_2⟩, _⟩ := block3 D3_18
    have lD3_18 := lt_of_block D3_18
    go_wp2_with fail
    clear cb0_0 cb0_1 cb0_2 lb0 cD1_18_0 cD1_18_1 cD1_18_2 lD1_18 cD2_18_0 cD2_18_1 cD2_18_2 lD2_18 cD3_18_0 cD3_18_1 cD3_18_2 lD3_18
    refine (implFlip_any W0 H0 a1 a2 a3 (some ⟨b4, 0, none⟩) n0 n0 zs0 hz0 hl0 _ (ownsRow_varr O4)).mono ?_
    rintro e w16 ⟨ra5, rn5, rc5, rfl, hX19, O5, rl5, re5⟩
    have ab19 : wb.heap.size ≤ w15.heap.size := E18.out.size
    have lt0_5 := fun g hg => (O0_18.lt g hg).2
    have lt1_5 := fun g hg => (O1_18.lt g hg).2
    have lt2_5 := fun g hg => (O2_18.lt g hg).2
    have lt3_5 := fun g hg => (O3_18.lt g hg).2
    have lt4_5 := fun g hg => (O4.lt g hg).2
    have E19 := Lib.hid (E18.out.trans hX19)
    have D1_19 := hX19.block D1_18
    have D2_19 := hX19.block D2_18
    have D3_19 := hX19.block D3_18
    have O0_19 := ownsRow_ext O0_18 hX19
    have O1_19 := ownsRow_ext O1_18 hX19
    have O2_19 := ownsRow_ext O2_18 hX19
    have O3_19 := ownsRow_ext O3_18 hX19
    have O4_19 := ownsRow_ext O4 hX19
    clear hX19 E18 D1_18 D2_18 D3_18 O0_18 O1_18 O2_18 O3_18 O4
    obtain ⟨⟨cb0_0, cb0_1, cb0_2⟩, _⟩ := block3 (E19.out.block B0)
    have lb0 := lt_of_block (E19.out.block B0)
    obtain ⟨⟨cD1_19_0, cD1_19_1, cD1_19_2⟩, _⟩ := block3 D1_19
    have lD1_19 := lt_of_block D1_19
    obtain ⟨⟨cD2_19_0, cD2_19_1, cD2_19_2⟩, _⟩ := block3 D2_19
    have lD2_19 := lt_of_block D2_19
    obtain ⟨⟨cD3_19_0, cD3_19_1, cD3_19_2⟩, _⟩ := block3 D3_19
    have lD3_19 := lt_of_block D3_19
    go_wp2_with fail
    clear cb0_0 cb0_1 cb0_2 lb0 cD1_19_0 cD1_19_1 cD1_19_2 lD1_19 cD2_19_0 cD2_19_1 cD2_19_2 lD2_19 cD3_19_0 cD3_19_1 cD3_19_2 lD3_19
    have hY20 := (Ext.refl w16).alloc (.cells #[.int .i64 (keepI (flipOk W0 H0 zs0 a1 a3) W0), .int .i64 (keepI (flipOk W0 H0 zs0 a1 a3) H0), .slice ra5 rn5 rc5] 25)
    have D4 := heap_new w16 (.cells #[.int .i64 (keepI (flipOk W0 H0 zs0 a1 a3) W0), .int .i64 (keepI (flipOk W0 H0 zs0 a1 a3) H0), .slice ra5 rn5 rc5] 25)
    generalize hw20 : w16.alloc (.cells #[.int .i64 (keepI (flipOk W0 H0 zs0 a1 a3) W0), .int .i64 (keepI (flipOk W0 H0 zs0 a1 a3) H0), .slice ra5 rn5 rc5] 25) = w17 at *
    clear hw20
    have E21 := Lib.hid (E19.out.trans hY20)
    have D1_21 := hY20.block D1_19
    have D2_21 := hY20.block D2_19
    have D3_21 := hY20.block D3_19
    have O0_21 := ownsRow_ext O0_19 hY20
    have O1_21 := ownsRow_ext O1_19 hY20
    have O2_21 := ownsRow_ext O2_19 hY20
    have O3_21 := ownsRow_ext O3_19 hY20
    have O4_21 := ownsRow_ext O4_19 hY20
    have O5_21 := ownsRow_ext O5 hY20
    clear hY20 E19 D1_19 D2_19 D3_19 O0_19 O1_19 O2_19 O3_19 O4_19 O5
    refine (eqGrains_any (keepI (flipOk W0 H0 zs0 a1 a3) W0) (keepI (flipOk W0 H0 zs0 a1 a3) H0) (keepI (flipOk W0 H0 zs0 a1 a3) W0) (keepI (flipOk W0 H0 zs0 a1 a3) H0) _ _ rn5 _ rn1 _ (keepL (flipOk W0 H0 zs0 a1 a3) (flipF W0 H0 zs0 a1 a2 a3).zs) (keepL (flipOk W0 H0 zs0 a1 a3) (flipF W0 H0 zs0 a1 a2 a3).zs) rl5 rl1 (by omega) (by omega) rfl rfl rfl _ (ownsRow_varr O5_21) (ownsRow_varr O1_21)).mono ?_
    rintro e w18 ⟨rfl, hX22⟩
    have E22 := Lib.hid (E21.out.trans hX22)
    have D1_22 := hX22.block D1_21
    have D2_22 := hX22.block D2_21
    have D3_22 := hX22.block D3_21
    have D4_22 := hX22.block D4
    have O0_22 := ownsRow_ext O0_21 hX22
    have O1_22 := ownsRow_ext O1_21 hX22
    have O2_22 := ownsRow_ext O2_21 hX22
    have O3_22 := ownsRow_ext O3_21 hX22
    have O4_22 := ownsRow_ext O4_21 hX22
    have O5_22 := ownsRow_ext O5_21 hX22
    clear hX22 E21 D1_21 D2_21 D3_21 D4 O0_21 O1_21 O2_21 O3_21 O4_21 O5_21
    obtain ⟨⟨cb0_0, cb0_1, cb0_2⟩, _⟩ := block3 (E22.out.block B0)
    have lb0 := lt_of_block (E22.out.block B0)
    obtain ⟨⟨cD1_22_0, cD1_22_1, cD1_22_2⟩, _⟩ := block3 D1_22
    have lD1_22 := lt_of_block D1_22
    obtain ⟨⟨cD2_22_0, cD2_22_1, cD2_22_2⟩, _⟩ := block3 D2_22
    have lD2_22 := lt_of_block D2_22
    obtain ⟨⟨cD3_22_0, cD3_22_1, cD3_22_2⟩, _⟩ := block3 D3_22
    have lD3_22 := lt_of_block D3_22
    obtain ⟨⟨cD4_22_0, cD4_22_1, cD4_22_2⟩, _⟩ := block3 D4_22
    have lD4_22 := lt_of_block D4_22
    go_wp2_with fail
    clear cb0_0 cb0_1 cb0_2 lb0 cD1_22_0 cD1_22_1 cD1_22_2 lD1_22 cD2_22_0 cD2_22_1 cD2_22_2 lD2_22 cD3_22_0 cD3_22_1 cD3_22_2 lD3_22 cD4_22_0 cD4_22_1 cD4_22_2 lD4_22
    refine (heldGrains_any (keepI (flipOk W0 H0 zs0 a1 a3) W0) (keepI (flipOk W0 H0 zs0 a1 a3) H0) ra3 rn3 rc3 1 (by omega) (by omega) (by omega) _ (ownsRow_varr O3_22)).mono ?_
    rintro e w19 ⟨rfl, hX23⟩
    have E23 := Lib.hid (E22.out.trans hX23)
    have D1_23 := hX23.block D1_22
    have D2_23 := hX23.block D2_22
    have D3_23 := hX23.block D3_22
    have D4_23 := hX23.block D4_22
    have O0_23 := ownsRow_ext O0_22 hX23
    have O1_23 := ownsRow_ext O1_22 hX23
    have O2_23 := ownsRow_ext O2_22 hX23
    have O3_23 := ownsRow_ext O3_22 hX23
    have O4_23 := ownsRow_ext O4_22 hX23
    have O5_23 := ownsRow_ext O5_22 hX23
    clear hX23 E22 D1_22 D2_22 D3_22 D4_22 O0_22 O1_22 O2_22 O3_22 O4_22 O5_22
    obtain ⟨⟨cb0_0, cb0_1, cb0_2⟩, _⟩ := block3 (E23.out.block B0)
    have lb0 := lt_of_block (E23.out.block B0)
    obtain ⟨⟨cD1_23_0, cD1_23_1, cD1_23_2⟩, _⟩ := block3 D1_23
    have lD1_23 := lt_of_block D1_23
    obtain ⟨⟨cD2_23_0, cD2_23_1, cD2_23_2⟩, _⟩ := block3 D2_23
    have lD2_23 := lt_of_block D2_23
    obtain ⟨⟨cD3_23_0, cD3_23_1, cD3_23_2⟩, _⟩ := block3 D3_23
    have lD3_23 := lt_of_block D3_23
    obtain ⟨⟨cD4_23_0, cD4_23_1, cD4_23_2⟩, _⟩ := block3 D4_23
    have lD4_23 := lt_of_block D4_23
    go_wp2
    go_ret
    exact ⟨rfl, EB.trans E23.out⟩
end Go.Proofs.Ytpmcjojipbiinaa
