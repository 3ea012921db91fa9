/-
  The walk of the statement on DrawnGrains.
-/
import Derived.Test.YtaakkdcpkllgoaaDgD
import Derived.Test.YtaakkdcpkllgoaaLate
namespace Go.Proofs.Ytaakkdcpkllgoaa
open Go.RowKit
set_option linter.unusedVariables false
set_option linter.unusedSimpArgs false
set_option linter.unnecessarySimpa false

set_option maxRecDepth 100000 in
set_option maxHeartbeats 4000000 in
theorem walk_FnExactDrawnGrains (a0 : Int) (w0 : (Lit.int .i64 a0).wf = true) (a1 : Int) (w1 : (Lit.int .i64 a1).wf = true) (a2 : Int) (w2 : (Lit.int .i64 a2).wf = true) (a3 : Int) (w3 : (Lit.int .i64 a3).wf = true) (w : World)  :
    Calls Try.prog 4 #[.int .i64 a0, .int .i64 a1, .int .i64 a2, .int .i64 a3] w fun e w' => e = .returned (.bool true) ∧ Ext w w' := by
  go_enter Try.func4, Try.ntmps4
  go_wp2_with fail
  have E0 : Hid (Ext w w) := Ext.refl w
  refine (specDrawn_any a0 a1 a2 a3 _).mono ?_
  rintro e w1 ⟨ra0, rn0, rc0, rfl, hX1, O0, rl0, re0⟩
  have ab1 : w.heap.size ≤ w.heap.size := E0.out.size
  have E1 := Lib.hid (E0.out.trans hX1)
  clear hX1 E0
  go_wp2_with fail
  have hY2 := (Ext.refl w1).alloc (.cells #[.int .i64 (keepI (drawnOk a0 a1 a2 a3) a0), .int .i64 (keepI (drawnOk a0 a1 a2 a3) a1), .slice ra0 rn0 rc0] 24)
  have D1 := heap_new w1 (.cells #[.int .i64 (keepI (drawnOk a0 a1 a2 a3) a0), .int .i64 (keepI (drawnOk a0 a1 a2 a3) a1), .slice ra0 rn0 rc0] 24)
  generalize hw2 : w1.alloc (.cells #[.int .i64 (keepI (drawnOk a0 a1 a2 a3) a0), .int .i64 (keepI (drawnOk a0 a1 a2 a3) a1), .slice ra0 rn0 rc0] 24) = w2 at *
  clear hw2
  have E3 := Lib.hid (E1.out.trans hY2)
  have O0_3 := ownsRow_ext O0 hY2
  clear hY2 E1 O0
  refine (implDrawn_any a0 a1 a2 a3 _).mono ?_
  rintro e w3 ⟨ra1, rn1, rc1, rfl, hX4, O1, rl1, re1⟩
  have ab4 : w.heap.size ≤ w2.heap.size := E3.out.size
  have lt0_1 := fun g hg => (O0_3.lt g hg).2
  have E4 := Lib.hid (E3.out.trans hX4)
  have D1_4 := hX4.block D1
  have O0_4 := ownsRow_ext O0_3 hX4
  clear hX4 E3 D1 O0_3
  obtain ⟨⟨cD1_4_0, cD1_4_1, cD1_4_2⟩, _⟩ := block3 D1_4
  have lD1_4 := lt_of_block D1_4
  go_wp2_with fail
  clear cD1_4_0 cD1_4_1 cD1_4_2 lD1_4
  have hY5 := (Ext.refl w3).alloc (.cells #[.int .i64 (keepI (drawnOk a0 a1 a2 a3) a0), .int .i64 (keepI (drawnOk a0 a1 a2 a3) a1), .slice ra1 rn1 rc1] 24)
  have D2 := heap_new w3 (.cells #[.int .i64 (keepI (drawnOk a0 a1 a2 a3) a0), .int .i64 (keepI (drawnOk a0 a1 a2 a3) a1), .slice ra1 rn1 rc1] 24)
  generalize hw5 : w3.alloc (.cells #[.int .i64 (keepI (drawnOk a0 a1 a2 a3) a0), .int .i64 (keepI (drawnOk a0 a1 a2 a3) a1), .slice ra1 rn1 rc1] 24) = w4 at *
  clear hw5
  have E6 := Lib.hid (E4.out.trans hY5)
  have D1_6 := hY5.block D1_4
  have O0_6 := ownsRow_ext O0_4 hY5
  have O1_6 := ownsRow_ext O1 hY5
  clear hY5 E4 D1_4 O0_4 O1
  refine (eqGrains_any (keepI (drawnOk a0 a1 a2 a3) a0) (keepI (drawnOk a0 a1 a2 a3) a1) (keepI (drawnOk a0 a1 a2 a3) a0) (keepI (drawnOk a0 a1 a2 a3) a1) _ _ rn1 _ rn0 _ (keepL (drawnOk a0 a1 a2 a3) (drawnZ a0 a1 a2 a3)) (keepL (drawnOk a0 a1 a2 a3) (drawnZ a0 a1 a2 a3)) rl1 rl0 (by omega) (by omega) rfl rfl rfl _ (ownsRow_varr O1_6) (ownsRow_varr O0_6)).mono ?_
  rintro e w5 ⟨rfl, hX7⟩
  have E7 := Lib.hid (E6.out.trans hX7)
  have D1_7 := hX7.block D1_6
  have D2_7 := hX7.block D2
  have O0_7 := ownsRow_ext O0_6 hX7
  have O1_7 := ownsRow_ext O1_6 hX7
  clear hX7 E6 D1_6 D2 O0_6 O1_6
  obtain ⟨⟨cD1_7_0, cD1_7_1, cD1_7_2⟩, _⟩ := block3 D1_7
  have lD1_7 := lt_of_block D1_7
  obtain ⟨⟨cD2_7_0, cD2_7_1, cD2_7_2⟩, _⟩ := block3 D2_7
  have lD2_7 := lt_of_block D2_7
  go_wp2_with fail
  clear cD1_7_0 cD1_7_1 cD1_7_2 lD1_7 cD2_7_0 cD2_7_1 cD2_7_2 lD2_7
  refine (markGrains_any (keepI (drawnOk a0 a1 a2 a3) a0) (keepI (drawnOk a0 a1 a2 a3) a1) ra1 rn1 rc1 _ (keepL (drawnOk a0 a1 a2 a3) (drawnZ a0 a1 a2 a3)) 1 (by omega) (by omega) (by omega) _ O1_7).mono ?_
  rintro e w6 ⟨rfl, hG8, O1_m8⟩
  have E8 := Lib.hid (Ext.rowv E7.out O1_7 ab4 hG8)
  have D1_8 := block_keep (by decide) O1_7 hG8 D1_7
  have D2_8 := block_keep (by decide) O1_7 hG8 D2_7
  have O0_8 := row_keep1 O0_7 O1_7 lt0_1 hG8
  clear hG8 E7 D1_7 D2_7 O0_7
  clear O1_7
  obtain ⟨⟨cD1_8_0, cD1_8_1, cD1_8_2⟩, _⟩ := block3 D1_8
  have lD1_8 := lt_of_block D1_8
  obtain ⟨⟨cD2_8_0, cD2_8_1, cD2_8_2⟩, _⟩ := block3 D2_8
  have lD2_8 := lt_of_block D2_8
  go_wp2_with fail
  clear cD1_8_0 cD1_8_1 cD1_8_2 lD1_8 cD2_8_0 cD2_8_1 cD2_8_2 lD2_8
  refine (heldGrains_any (keepI (drawnOk a0 a1 a2 a3) a0) (keepI (drawnOk a0 a1 a2 a3) a1) ra1 rn1 rc1 1 (by omega) (by omega) (by omega) _ (ownsRow_varr O1_m8)).mono ?_
  rintro e w7 ⟨rfl, hX9⟩
  have E9 := Lib.hid (E8.out.trans hX9)
  have D1_9 := hX9.block D1_8
  have D2_9 := hX9.block D2_8
  have O0_9 := ownsRow_ext O0_8 hX9
  have O1_9 := ownsRow_ext O1_m8 hX9
  clear hX9 E8 D1_8 D2_8 O0_8 O1_m8
  obtain ⟨⟨cD1_9_0, cD1_9_1, cD1_9_2⟩, _⟩ := block3 D1_9
  have lD1_9 := lt_of_block D1_9
  obtain ⟨⟨cD2_9_0, cD2_9_1, cD2_9_2⟩, _⟩ := block3 D2_9
  have lD2_9 := lt_of_block D2_9
  go_wp2_with fail
  clear cD1_9_0 cD1_9_1 cD1_9_2 lD1_9 cD2_9_0 cD2_9_1 cD2_9_2 lD2_9
  refine (implDrawn_any a0 a1 a2 a3 _).mono ?_
  rintro e w8 ⟨ra2, rn2, rc2, rfl, hX10, O2, rl2, re2⟩
  have ab10 : w.heap.size ≤ w7.heap.size := E9.out.size
  have lt0_2 := fun g hg => (O0_9.lt g hg).2
  have lt1_2 := fun g hg => (O1_9.lt g hg).2
  have E10 := Lib.hid (E9.out.trans hX10)
  have D1_10 := hX10.block D1_9
  have D2_10 := hX10.block D2_9
  have O0_10 := ownsRow_ext O0_9 hX10
  have O1_10 := ownsRow_ext O1_9 hX10
  clear hX10 E9 D1_9 D2_9 O0_9 O1_9
  obtain ⟨⟨cD1_10_0, cD1_10_1, cD1_10_2⟩, _⟩ := block3 D1_10
  have lD1_10 := lt_of_block D1_10
  obtain ⟨⟨cD2_10_0, cD2_10_1, cD2_10_2⟩, _⟩ := block3 D2_10
  have lD2_10 := lt_of_block D2_10
  go_wp2_with fail
  clear cD1_10_0 cD1_10_1 cD1_10_2 lD1_10 cD2_10_0 cD2_10_1 cD2_10_2 lD2_10
  have hY11 := (Ext.refl w8).alloc (.cells #[.int .i64 (keepI (drawnOk a0 a1 a2 a3) a0), .int .i64 (keepI (drawnOk a0 a1 a2 a3) a1), .slice ra2 rn2 rc2] 24)
  have D3 := heap_new w8 (.cells #[.int .i64 (keepI (drawnOk a0 a1 a2 a3) a0), .int .i64 (keepI (drawnOk a0 a1 a2 a3) a1), .slice ra2 rn2 rc2] 24)
  generalize hw11 : w8.alloc (.cells #[.int .i64 (keepI (drawnOk a0 a1 a2 a3) a0), .int .i64 (keepI (drawnOk a0 a1 a2 a3) a1), .slice ra2 rn2 rc2] 24) = w9 at *
  clear hw11
  have E12 := Lib.hid (E10.out.trans hY11)
  have D1_12 := hY11.block D1_10
  have D2_12 := hY11.block D2_10
  have O0_12 := ownsRow_ext O0_10 hY11
  have O1_12 := ownsRow_ext O1_10 hY11
  have O2_12 := ownsRow_ext O2 hY11
  clear hY11 E10 D1_10 D2_10 O0_10 O1_10 O2
  refine (eqGrains_any (keepI (drawnOk a0 a1 a2 a3) a0) (keepI (drawnOk a0 a1 a2 a3) a1) (keepI (drawnOk a0 a1 a2 a3) a0) (keepI (drawnOk a0 a1 a2 a3) a1) _ _ rn2 _ rn0 _ (keepL (drawnOk a0 a1 a2 a3) (drawnZ a0 a1 a2 a3)) (keepL (drawnOk a0 a1 a2 a3) (drawnZ a0 a1 a2 a3)) rl2 rl0 (by omega) (by omega) rfl rfl rfl _ (ownsRow_varr O2_12) (ownsRow_varr O0_12)).mono ?_
  rintro e w10 ⟨rfl, hX13⟩
  have E13 := Lib.hid (E12.out.trans hX13)
  have D1_13 := hX13.block D1_12
  have D2_13 := hX13.block D2_12
  have D3_13 := hX13.block D3
  have O0_13 := ownsRow_ext O0_12 hX13
  have O1_13 := ownsRow_ext O1_12 hX13
  have O2_13 := ownsRow_ext O2_12 hX13
  clear hX13 E12 D1_12 D2_12 D3 O0_12 O1_12 O2_12
  obtain ⟨⟨cD1_13_0, cD1_13_1, cD1_13_2⟩, _⟩ := block3 D1_13
  have lD1_13 := lt_of_block D1_13
  obtain ⟨⟨cD2_13_0, cD2_13_1, cD2_13_2⟩, _⟩ := block3 D2_13
  have lD2_13 := lt_of_block D2_13
  obtain ⟨⟨cD3_13_0, cD3_13_1, cD3_13_2⟩, _⟩ := block3 D3_13
  have lD3_13 := lt_of_block D3_13
  go_wp2_with fail
  clear cD1_13_0 cD1_13_1 cD1_13_2 lD1_13 cD2_13_0 cD2_13_1 cD2_13_2 lD2_13 cD3_13_0 cD3_13_1 cD3_13_2 lD3_13
  refine (heldGrains_any (keepI (drawnOk a0 a1 a2 a3) a0) (keepI (drawnOk a0 a1 a2 a3) a1) ra1 rn1 rc1 1 (by omega) (by omega) (by omega) _ (ownsRow_varr O1_13)).mono ?_
  rintro e w11 ⟨rfl, hX14⟩
  have E14 := Lib.hid (E13.out.trans hX14)
  have D1_14 := hX14.block D1_13
  have D2_14 := hX14.block D2_13
  have D3_14 := hX14.block D3_13
  have O0_14 := ownsRow_ext O0_13 hX14
  have O1_14 := ownsRow_ext O1_13 hX14
  have O2_14 := ownsRow_ext O2_13 hX14
  clear hX14 E13 D1_13 D2_13 D3_13 O0_13 O1_13 O2_13
  obtain ⟨⟨cD1_14_0, cD1_14_1, cD1_14_2⟩, _⟩ := block3 D1_14
  have lD1_14 := lt_of_block D1_14
  obtain ⟨⟨cD2_14_0, cD2_14_1, cD2_14_2⟩, _⟩ := block3 D2_14
  have lD2_14 := lt_of_block D2_14
  obtain ⟨⟨cD3_14_0, cD3_14_1, cD3_14_2⟩, _⟩ := block3 D3_14
  have lD3_14 := lt_of_block D3_14
  go_wp2
  go_ret
  exact ⟨rfl, E14.out⟩
end Go.Proofs.Ytaakkdcpkllgoaa
