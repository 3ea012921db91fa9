/-
  The walk of the statement on NearestGrains.
-/
import Derived.Test.YtpmcjojipbiinaaNgD
import Derived.Test.YtpmcjojipbiinaaLate
namespace Go.Proofs.Ytpmcjojipbiinaa
open Go.RowKit
set_option linter.unusedVariables false
set_option linter.unusedSimpArgs false
set_option linter.unnecessarySimpa false

set_option maxRecDepth 100000 in
set_option maxHeartbeats 4000000 in
theorem walk_FnExactNearestGrains (a0 : Int) (w0 : (Lit.int .i64 a0).wf = true) (a1 : Int) (w1 : (Lit.int .i64 a1).wf = true) (s2 : Option Addr) (n2 c2 : Nat) (zs2 : List Nat) (hz2 : zs2.length = n2) (hn2 : n2 ≤ 9223372036854775807) (s3 : Option Addr) (n3 c3 : Nat) (zs3 : List Nat) (hz3 : zs3.length = n3) (hn3 : n3 ≤ 9223372036854775807) (w : World) (hR2 : VArr w s2 (flts zs2)) (hR3 : VArr w s3 (flts zs3)) :
    Calls Try.prog 3 #[.int .i64 a0, .int .i64 a1, .slice s2 n2 c2, .slice s3 n3 c3] w fun e w' => e = .returned (.bool true) ∧ Ext w w' := by
  by_cases hl2 : n2 ≤ 1048576
  case neg =>
    have eS : decide ((1048576 : Int) < (n2 : Int)) = true := by simp; omega
    go_enter Try.func3, Try.ntmps3
    go_wp2
    go_ret
    first | exact ⟨rfl, EB⟩ | exact ⟨rfl, Ext.refl _⟩
  have eS_n2 : decide ((1048576 : Int) < (n2 : Int)) = false := by simp; omega
  by_cases hl3 : n3 ≤ 1048576
  case neg =>
    have eS : decide ((1048576 : Int) < (n3 : Int)) = true := by simp; omega
    go_enter Try.func3, Try.ntmps3
    go_wp2
    go_ret
    first | exact ⟨rfl, EB⟩ | exact ⟨rfl, Ext.refl _⟩
  have eS_n3 : decide ((1048576 : Int) < (n3 : Int)) = false := by simp; omega
  go_enter Try.func3, Try.ntmps3
  go_wp2_with fail
  have E0 : Hid (Ext w w) := Ext.refl w
  refine (toFloat32S_ex s2 n2 c2 zs2 hz2 hl2 _ (VArr.ext hR2 E0.out)).mono ?_
  rintro e w1 ⟨b0, rfl, hX1, O0⟩
  have ab1 : w.heap.size ≤ w.heap.size := E0.out.size
  have E1 := Lib.hid (E0.out.trans hX1)
  clear hX1 E0
  go_wp2_with fail
  refine (toFloat32S_ex s3 n3 c3 zs3 hz3 hl3 _ (VArr.ext hR3 E1.out)).mono ?_
  rintro e w2 ⟨b1, rfl, hX2, O1⟩
  have ab2 : w.heap.size ≤ w1.heap.size := E1.out.size
  have lt0_1 := fun g hg => (O0.lt g hg).2
  have E2 := Lib.hid (E1.out.trans hX2)
  have O0_2 := ownsRow_ext O0 hX2
  clear hX2 E1 O0
  go_wp2_with fail
  refine (specNear_any a0 a1 (some ⟨b0, 0, none⟩) (some ⟨b1, 0, none⟩) n2 n2 n3 n3 zs2 zs3 hz2 hz3 hl2 hl3 _ (ownsRow_varr O0_2) (ownsRow_varr O1)).mono ?_
  rintro e w3 ⟨ra2, rn2, rc2, rfl, hX3, O2, rl2, re2⟩
  have ab3 : w.heap.size ≤ w2.heap.size := E2.out.size
  have lt0_2 := fun g hg => (O0_2.lt g hg).2
  have lt1_2 := fun g hg => (O1.lt g hg).2
  have E3 := Lib.hid (E2.out.trans hX3)
  have O0_3 := ownsRow_ext O0_2 hX3
  have O1_3 := ownsRow_ext O1 hX3
  clear hX3 E2 O0_2 O1
  go_wp2_with fail
  have hY4 := (Ext.refl w3).alloc (.cells #[.int .i64 (keepI (nearOk a0 a1 n2 n3 zs2 zs3) a0), .int .i64 (keepI (nearOk a0 a1 n2 n3 zs2 zs3) a1), .slice ra2 rn2 rc2] 25)
  have D1 := heap_new w3 (.cells #[.int .i64 (keepI (nearOk a0 a1 n2 n3 zs2 zs3) a0), .int .i64 (keepI (nearOk a0 a1 n2 n3 zs2 zs3) a1), .slice ra2 rn2 rc2] 25)
  generalize hw4 : w3.alloc (.cells #[.int .i64 (keepI (nearOk a0 a1 n2 n3 zs2 zs3) a0), .int .i64 (keepI (nearOk a0 a1 n2 n3 zs2 zs3) a1), .slice ra2 rn2 rc2] 25) = w4 at *
  clear hw4
  have E5 := Lib.hid (E3.out.trans hY4)
  have O0_5 := ownsRow_ext O0_3 hY4
  have O1_5 := ownsRow_ext O1_3 hY4
  have O2_5 := ownsRow_ext O2 hY4
  clear hY4 E3 O0_3 O1_3 O2
  refine (toFloat32S_ex s2 n2 c2 zs2 hz2 hl2 _ (VArr.ext hR2 E5.out)).mono ?_
  rintro e w5 ⟨b3, rfl, hX6, O3⟩
  have ab6 : w.heap.size ≤ w4.heap.size := E5.out.size
  have lt0_3 := fun g hg => (O0_5.lt g hg).2
  have lt1_3 := fun g hg => (O1_5.lt g hg).2
  have lt2_3 := fun g hg => (O2_5.lt g hg).2
  have E6 := Lib.hid (E5.out.trans hX6)
  have D1_6 := hX6.block D1
  have O0_6 := ownsRow_ext O0_5 hX6
  have O1_6 := ownsRow_ext O1_5 hX6
  have O2_6 := ownsRow_ext O2_5 hX6
  clear hX6 E5 D1 O0_5 O1_5 O2_5
  obtain ⟨⟨cD1_6_0, cD1_6_1, cD1_6_2⟩, _⟩ := block3 D1_6
  have lD1_6 := lt_of_block D1_6
  go_wp2_with fail
  clear cD1_6_0 cD1_6_1 cD1_6_2 lD1_6
  refine (toFloat32S_ex s3 n3 c3 zs3 hz3 hl3 _ (VArr.ext hR3 E6.out)).mono ?_
  rintro e w6 ⟨b4, rfl, hX7, O4⟩
  have ab7 : w.heap.size ≤ w5.heap.size := E6.out.size
  have lt0_4 := fun g hg => (O0_6.lt g hg).2
  have lt1_4 := fun g hg => (O1_6.lt g hg).2
  have lt2_4 := fun g hg => (O2_6.lt g hg).2
  have lt3_4 := fun g hg => (O3.lt g hg).2
  have E7 := Lib.hid (E6.out.trans hX7)
  have D1_7 := hX7.block D1_6
  have O0_7 := ownsRow_ext O0_6 hX7
  have O1_7 := ownsRow_ext O1_6 hX7
  have O2_7 := ownsRow_ext O2_6 hX7
  have O3_7 := ownsRow_ext O3 hX7
  clear hX7 E6 D1_6 O0_6 O1_6 O2_6 O3
  obtain ⟨⟨cD1_7_0, cD1_7_1, cD1_7_2⟩, _⟩ := block3 D1_7
  have lD1_7 := lt_of_block D1_7
  go_wp2_with fail
  clear cD1_7_0 cD1_7_1 cD1_7_2 lD1_7
  refine (implNear_any a0 a1 (some ⟨b3, 0, none⟩) (some ⟨b4, 0, none⟩) n2 n2 n3 n3 zs2 zs3 hz2 hz3 hl2 hl3 _ (ownsRow_varr O3_7) (ownsRow_varr O4)).mono ?_
  rintro e w7 ⟨ra5, rn5, rc5, rfl, hX8, O5, rl5, re5⟩
  have ab8 : w.heap.size ≤ w6.heap.size := E7.out.size
  have lt0_5 := fun g hg => (O0_7.lt g hg).2
  have lt1_5 := fun g hg => (O1_7.lt g hg).2
  have lt2_5 := fun g hg => (O2_7.lt g hg).2
  have lt3_5 := fun g hg => (O3_7.lt g hg).2
  have lt4_5 := fun g hg => (O4.lt g hg).2
  have E8 := Lib.hid (E7.out.trans hX8)
  have D1_8 := hX8.block D1_7
  have O0_8 := ownsRow_ext O0_7 hX8
  have O1_8 := ownsRow_ext O1_7 hX8
  have O2_8 := ownsRow_ext O2_7 hX8
  have O3_8 := ownsRow_ext O3_7 hX8
  have O4_8 := ownsRow_ext O4 hX8
  clear hX8 E7 D1_7 O0_7 O1_7 O2_7 O3_7 O4
  obtain ⟨⟨cD1_8_0, cD1_8_1, cD1_8_2⟩, _⟩ := block3 D1_8
  have lD1_8 := lt_of_block D1_8
  go_wp2_with fail
  clear cD1_8_0 cD1_8_1 cD1_8_2 lD1_8
  have hY9 := (Ext.refl w7).alloc (.cells #[.int .i64 (keepI (nearOk a0 a1 n2 n3 zs2 zs3) a0), .int .i64 (keepI (nearOk a0 a1 n2 n3 zs2 zs3) a1), .slice ra5 rn5 rc5] 25)
  have D2 := heap_new w7 (.cells #[.int .i64 (keepI (nearOk a0 a1 n2 n3 zs2 zs3) a0), .int .i64 (keepI (nearOk a0 a1 n2 n3 zs2 zs3) a1), .slice ra5 rn5 rc5] 25)
  generalize hw9 : w7.alloc (.cells #[.int .i64 (keepI (nearOk a0 a1 n2 n3 zs2 zs3) a0), .int .i64 (keepI (nearOk a0 a1 n2 n3 zs2 zs3) a1), .slice ra5 rn5 rc5] 25) = w8 at *
  clear hw9
  have E10 := Lib.hid (E8.out.trans hY9)
  have D1_10 := hY9.block D1_8
  have O0_10 := ownsRow_ext O0_8 hY9
  have O1_10 := ownsRow_ext O1_8 hY9
  have O2_10 := ownsRow_ext O2_8 hY9
  have O3_10 := ownsRow_ext O3_8 hY9
  have O4_10 := ownsRow_ext O4_8 hY9
  have O5_10 := ownsRow_ext O5 hY9
  clear hY9 E8 D1_8 O0_8 O1_8 O2_8 O3_8 O4_8 O5
  refine (eqGrains_any (keepI (nearOk a0 a1 n2 n3 zs2 zs3) a0) (keepI (nearOk a0 a1 n2 n3 zs2 zs3) a1) (keepI (nearOk a0 a1 n2 n3 zs2 zs3) a0) (keepI (nearOk a0 a1 n2 n3 zs2 zs3) a1) _ _ rn5 _ rn2 _ (keepL (nearOk a0 a1 n2 n3 zs2 zs3) (nearZ a0 a1 zs2 zs3)) (keepL (nearOk a0 a1 n2 n3 zs2 zs3) (nearZ a0 a1 zs2 zs3)) rl5 rl2 (by omega) (by omega) rfl rfl rfl _ (ownsRow_varr O5_10) (ownsRow_varr O2_10)).mono ?_
  rintro e w9 ⟨rfl, hX11⟩
  have E11 := Lib.hid (E10.out.trans hX11)
  have D1_11 := hX11.block D1_10
  have D2_11 := hX11.block D2
  have O0_11 := ownsRow_ext O0_10 hX11
  have O1_11 := ownsRow_ext O1_10 hX11
  have O2_11 := ownsRow_ext O2_10 hX11
  have O3_11 := ownsRow_ext O3_10 hX11
  have O4_11 := ownsRow_ext O4_10 hX11
  have O5_11 := ownsRow_ext O5_10 hX11
  clear hX11 E10 D1_10 D2 O0_10 O1_10 O2_10 O3_10 O4_10 O5_10
  obtain ⟨⟨cD1_11_0, cD1_11_1, cD1_11_2⟩, _⟩ := block3 D1_11
  have lD1_11 := lt_of_block D1_11
  obtain ⟨⟨cD2_11_0, cD2_11_1, cD2_11_2⟩, _⟩ := block3 D2_11
  have lD2_11 := lt_of_block D2_11
  go_wp2_with fail
  clear cD1_11_0 cD1_11_1 cD1_11_2 lD1_11 cD2_11_0 cD2_11_1 cD2_11_2 lD2_11
  refine (toFloat32S_ex s2 n2 c2 zs2 hz2 hl2 _ (VArr.ext hR2 E11.out)).mono ?_
  rintro e w10 ⟨b6, rfl, hX12, O6⟩
  have ab12 : w.heap.size ≤ w9.heap.size := E11.out.size
  have lt0_6 := fun g hg => (O0_11.lt g hg).2
  have lt1_6 := fun g hg => (O1_11.lt g hg).2
  have lt2_6 := fun g hg => (O2_11.lt g hg).2
  have lt3_6 := fun g hg => (O3_11.lt g hg).2
  have lt4_6 := fun g hg => (O4_11.lt g hg).2
  have lt5_6 := fun g hg => (O5_11.lt g hg).2
  have E12 := Lib.hid (E11.out.trans hX12)
  have D1_12 := hX12.block D1_11
  have D2_12 := hX12.block D2_11
  have O0_12 := ownsRow_ext O0_11 hX12
  have O1_12 := ownsRow_ext O1_11 hX12
  have O2_12 := ownsRow_ext O2_11 hX12
  have O3_12 := ownsRow_ext O3_11 hX12
  have O4_12 := ownsRow_ext O4_11 hX12
  have O5_12 := ownsRow_ext O5_11 hX12
  clear hX12 E11 D1_11 D2_11 O0_11 O1_11 O2_11 O3_11 O4_11 O5_11
  obtain ⟨⟨cD1_12_0, cD1_12_1, cD1_12_2⟩, _⟩ := block3 D1_12
  have lD1_12 := lt_of_block D1_12
  obtain ⟨⟨cD2_12_0, cD2_12_1, cD2_12_2⟩, _⟩ := block3 D2_12
  have lD2_12 := lt_of_block D2_12
  go_wp2_with fail
  clear cD1_12_0 cD1_12_1 cD1_12_2 lD1_12 cD2_12_0 cD2_12_1 cD2_12_2 lD2_12
  refine (eqFloat32S_any _ _ n2 _ n2 _ zs2 zs2 hz2 hz2 (by omega) (by omega) (((rfl : fas zs2 = fas zs2)).trans ((rfl : fas zs2 = fas zs2))) _ (ownsRow_varr O3_12) (ownsRow_varr O6)).mono ?_
  rintro e w11 ⟨rfl, hX13⟩
  have E13 := Lib.hid (E12.out.trans hX13)
  have D1_13 := hX13.block D1_12
  have D2_13 := hX13.block D2_12
  have O0_13 := ownsRow_ext O0_12 hX13
  have O1_13 := ownsRow_ext O1_12 hX13
  have O2_13 := ownsRow_ext O2_12 hX13
  have O3_13 := ownsRow_ext O3_12 hX13
  have O4_13 := ownsRow_ext O4_12 hX13
  have O5_13 := ownsRow_ext O5_12 hX13
  have O6_13 := ownsRow_ext O6 hX13
  clear hX13 E12 D1_12 D2_12 O0_12 O1_12 O2_12 O3_12 O4_12 O5_12 O6
  obtain ⟨⟨cD1_13_0, cD1_13_1, cD1_13_2⟩, _⟩ := block3 D1_13
  have lD1_13 := lt_of_block D1_13
  obtain ⟨⟨cD2_13_0, cD2_13_1, cD2_13_2⟩, _⟩ := block3 D2_13
  have lD2_13 := lt_of_block D2_13
  go_wp2_with fail
  clear cD1_13_0 cD1_13_1 cD1_13_2 lD1_13 cD2_13_0 cD2_13_1 cD2_13_2 lD2_13
  refine (toFloat32S_ex s3 n3 c3 zs3 hz3 hl3 _ (VArr.ext hR3 E13.out)).mono ?_
  rintro e w12 ⟨b7, rfl, hX14, O7⟩
  have ab14 : w.heap.size ≤ w11.heap.size := E13.out.size
  have lt0_7 := fun g hg => (O0_13.lt g hg).2
  have lt1_7 := fun g hg => (O1_13.lt g hg).2
  have lt2_7 := fun g hg => (O2_13.lt g hg).2
  have lt3_7 := fun g hg => (O3_13.lt g hg).2
  have lt4_7 := fun g hg => (O4_13.lt g hg).2
  have lt5_7 := fun g hg => (O5_13.lt g hg).2
  have lt6_7 := fun g hg => (O6_13.lt g hg).2
  have E14 := Lib.hid (E13.out.trans hX14)
  have D1_14 := hX14.block D1_13
  have D2_14 := hX14.block D2_13
  have O0_14 := ownsRow_ext O0_13 hX14
  have O1_14 := ownsRow_ext O1_13 hX14
  have O2_14 := ownsRow_ext O2_13 hX14
  have O3_14 := ownsRow_ext O3_13 hX14
  have O4_14 := ownsRow_ext O4_13 hX14
  have O5_14 := ownsRow_ext O5_13 hX14
  have O6_14 := ownsRow_ext O6_13 hX14
  clear hX14 E13 D1_13 D2_13 O0_13 O1_13 O2_13 O3_13 O4_13 O5_13 O6_13
  obtain ⟨⟨cD1_14_0, cD1_14_1, cD1_14_2⟩, _⟩ := block3 D1_14
  have lD1_14 := lt_of_block D1_14
  obtain ⟨⟨cD2_14_0, cD2_14_1, cD2_14_2⟩, _⟩ := block3 D2_14
  have lD2_14 := lt_of_block D2_14
  go_wp2_with fail
  clear cD1_14_0 cD1_14_1 cD1_14_2 lD1_14 cD2_14_0 cD2_14_1 cD2_14_2 lD2_14
  refine (eqFloat32S_any _ _ n3 _ n3 _ zs3 zs3 hz3 hz3 (by omega) (by omega) (((rfl : fas zs3 = fas zs3)).trans ((rfl : fas zs3 = fas zs3))) _ (ownsRow_varr O4_14) (ownsRow_varr O7)).mono ?_
  rintro e w13 ⟨rfl, hX15⟩
  have E15 := Lib.hid (E14.out.trans hX15)
  have D1_15 := hX15.block D1_14
  have D2_15 := hX15.block D2_14
  have O0_15 := ownsRow_ext O0_14 hX15
  have O1_15 := ownsRow_ext O1_14 hX15
  have O2_15 := ownsRow_ext O2_14 hX15
  have O3_15 := ownsRow_ext O3_14 hX15
  have O4_15 := ownsRow_ext O4_14 hX15
  have O5_15 := ownsRow_ext O5_14 hX15
  have O6_15 := ownsRow_ext O6_14 hX15
  have O7_15 := ownsRow_ext O7 hX15
  clear hX15 E14 D1_14 D2_14 O0_14 O1_14 O2_14 O3_14 O4_14 O5_14 O6_14 O7
  obtain ⟨⟨cD1_15_0, cD1_15_1, cD1_15_2⟩, _⟩ := block3 D1_15
  have lD1_15 := lt_of_block D1_15
  obtain ⟨⟨cD2_15_0, cD2_15_1, cD2_15_2⟩, _⟩ := block3 D2_15
  have lD2_15 := lt_of_block D2_15
  go_wp2_with fail
  clear cD1_15_0 cD1_15_1 cD1_15_2 lD1_15 cD2_15_0 cD2_15_1 cD2_15_2 lD2_15
  refine (markFloat32S_any (some ⟨b3, 0, none⟩) n2 n2 _ zs2 1 (by omega) (by omega) (by omega) _ O3_15).mono ?_
  rintro e w14 ⟨rfl, hG16, O3_m16⟩
  have E16 := Lib.hid (Ext.rowv E15.out O3_15 ab6 hG16)
  have D1_16 := block_keep (by decide) O3_15 hG16 D1_15
  have D2_16 := block_keep (by decide) O3_15 hG16 D2_15
  have O0_16 := row_keep1 O0_15 O3_15 lt0_3 hG16
  have O1_16 := row_keep1 O1_15 O3_15 lt1_3 hG16
  have O2_16 := row_keep1 O2_15 O3_15 lt2_3 hG16
  have O4_16 := row_keep2 O4_15 O3_15 lt3_4 hG16
  have O5_16 := row_keep2 O5_15 O3_15 lt3_5 hG16
  have O6_16 := row_keep2 O6_15 O3_15 lt3_6 hG16
  have O7_16 := row_keep2 O7_15 O3_15 lt3_7 hG16
  clear hG16 E15 D1_15 D2_15 O0_15 O1_15 O2_15 O4_15 O5_15 O6_15 O7_15
  clear O3_15
  obtain ⟨⟨cD1_16_0, cD1_16_1, cD1_16_2⟩, _⟩ := block3 D1_16
  have lD1_16 := lt_of_block D1_16
  obtain ⟨⟨cD2_16_0, cD2_16_1, cD2_16_2⟩, _⟩ := block3 D2_16
  have lD2_16 := lt_of_block D2_16
  go_wp2_with fail
  clear cD1_16_0 cD1_16_1 cD1_16_2 lD1_16 cD2_16_0 cD2_16_1 cD2_16_2 lD2_16
  refine (markFloat32S_any (some ⟨b4, 0, none⟩) n3 n3 _ zs3 (1 + n2) (by omega) (by omega) (by omega) _ O4_16).mono ?_
  rintro e w15 ⟨rfl, hG17, O4_m17⟩
  have E17 := Lib.hid (Ext.rowv E16.out O4_16 ab7 hG17)
  have D1_17 := block_keep (by decide) O4_16 hG17 D1_16
  have D2_17 := block_keep (by decide) O4_16 hG17 D2_16
  have O0_17 := row_keep1 O0_16 O4_16 lt0_4 hG17
  have O1_17 := row_keep1 O1_16 O4_16 lt1_4 hG17
  have O2_17 := row_keep1 O2_16 O4_16 lt2_4 hG17
  have O3_17 := row_keep1 O3_m16 O4_16 lt3_4 hG17
  have O5_17 := row_keep2 O5_16 O4_16 lt4_5 hG17
  have O6_17 := row_keep2 O6_16 O4_16 lt4_6 hG17
  have O7_17 := row_keep2 O7_16 O4_16 lt4_7 hG17
  clear hG17 E16 D1_16 D2_16 O0_16 O1_16 O2_16 O3_m16 O5_16 O6_16 O7_16
  clear O4_16
  obtain ⟨⟨cD1_17_0, cD1_17_1, cD1_17_2⟩, _⟩ := block3 D1_17
  have lD1_17 := lt_of_block D1_17
  obtain ⟨⟨cD2_17_0, cD2_17_1, cD2_17_2⟩, _⟩ := block3 D2_17
  have lD2_17 := lt_of_block D2_17
  go_wp2_with fail
  clear cD1_17_0 cD1_17_1 cD1_17_2 lD1_17 cD2_17_0 cD2_17_1 cD2_17_2 lD2_17
  refine (eqGrains_any (keepI (nearOk a0 a1 n2 n3 zs2 zs3) a0) (keepI (nearOk a0 a1 n2 n3 zs2 zs3) a1) (keepI (nearOk a0 a1 n2 n3 zs2 zs3) a0) (keepI (nearOk a0 a1 n2 n3 zs2 zs3) a1) _ _ rn5 _ rn2 _ (keepL (nearOk a0 a1 n2 n3 zs2 zs3) (nearZ a0 a1 zs2 zs3)) (keepL (nearOk a0 a1 n2 n3 zs2 zs3) (nearZ a0 a1 zs2 zs3)) rl5 rl2 (by omega) (by omega) rfl rfl rfl _ (ownsRow_varr O5_17) (ownsRow_varr O2_17)).mono ?_
  rintro e w16 ⟨rfl, hX18⟩
  have E18 := Lib.hid (E17.out.trans hX18)
  have D1_18 := hX18.block D1_17
  have D2_18 := hX18.block D2_17
  have O0_18 := ownsRow_ext O0_17 hX18
  have O1_18 := ownsRow_ext O1_17 hX18
  have O2_18 := ownsRow_ext O2_17 hX18
  have O3_18 := ownsRow_ext O3_17 hX18
  have O4_18 := ownsRow_ext O4_m17 hX18
  have O5_18 := ownsRow_ext O5_17 hX18
  have O6_18 := ownsRow_ext O6_17 hX18
  have O7_18 := ownsRow_ext O7_17 hX18
  clear hX18 E17 D1_17 D2_17 O0_17 O1_17 O2_17 O3_17 O4_m17 O5_17 O6_17 O7_17
  obtain ⟨⟨cD1_18_0, cD1_18_1, cD1_18_2⟩, _⟩ := block3 D1_18
  have lD1_18 := lt_of_block D1_18
  obtain ⟨⟨cD2_18_0, cD2_18_1, cD2_18_2⟩, _⟩ := block3 D2_18
  have lD2_18 := lt_of_block D2_18
  go_wp2_with fail
  clear cD1_18_0 cD1_18_1 cD1_18_2 lD1_18 cD2_18_0 cD2_18_1 cD2_18_2 lD2_18
  refine (markGrains_any (keepI (nearOk a0 a1 n2 n3 zs2 zs3) a0) (keepI (nearOk a0 a1 n2 n3 zs2 zs3) a1) ra5 rn5 rc5 _ (keepL (nearOk a0 a1 n2 n3 zs2 zs3) (nearZ a0 a1 zs2 zs3)) 1 (by omega) (by omega) (by omega) _ O5_18).mono ?_
  rintro e w17 ⟨rfl, hG19, O5_m19⟩
  have E19 := Lib.hid (Ext.rowv E18.out O5_18 ab8 hG19)
  have D1_19 := block_keep (by decide) O5_18 hG19 D1_18
  have D2_19 := block_keep (by decide) O5_18 hG19 D2_18
  have O0_19 := row_keep1 O0_18 O5_18 lt0_5 hG19
  have O1_19 := row_keep1 O1_18 O5_18 lt1_5 hG19
  have O2_19 := row_keep1 O2_18 O5_18 lt2_5 hG19
  have O3_19 := row_keep1 O3_18 O5_18 lt3_5 hG19
  have O4_19 := row_keep1 O4_18 O5_18 lt4_5 hG19
  have O6_19 := row_keep2 O6_18 O5_18 lt5_6 hG19
  have O7_19 := row_keep2 O7_18 O5_18 lt5_7 hG19
  clear hG19 E18 D1_18 D2_18 O0_18 O1_18 O2_18 O3_18 O4_18 O6_18 O7_18
  clear O5_18
  obtain ⟨⟨cD1_19_0, cD1_19_1, cD1_19_2⟩, _⟩ := block3 D1_19
  have lD1_19 := lt_of_block D1_19
  obtain ⟨⟨cD2_19_0, cD2_19_1, cD2_19_2⟩, _⟩ := block3 D2_19
  have lD2_19 := lt_of_block D2_19
  go_wp2_with fail
  clear cD1_19_0 cD1_19_1 cD1_19_2 lD1_19 cD2_19_0 cD2_19_1 cD2_19_2 lD2_19
  refine (heldGrains_any (keepI (nearOk a0 a1 n2 n3 zs2 zs3) a0) (keepI (nearOk a0 a1 n2 n3 zs2 zs3) a1) ra5 rn5 rc5 1 (by omega) (by omega) (by omega) _ (ownsRow_varr O5_m19)).mono ?_
  rintro e w18 ⟨rfl, hX20⟩
  have E20 := Lib.hid (E19.out.trans hX20)
  have D1_20 := hX20.block D1_19
  have D2_20 := hX20.block D2_19
  have O0_20 := ownsRow_ext O0_19 hX20
  have O1_20 := ownsRow_ext O1_19 hX20
  have O2_20 := ownsRow_ext O2_19 hX20
  have O3_20 := ownsRow_ext O3_19 hX20
  have O4_20 := ownsRow_ext O4_19 hX20
  have O5_20 := ownsRow_ext O5_m19 hX20
  have O6_20 := ownsRow_ext O6_19 hX20
  have O7_20 := ownsRow_ext O7_19 hX20
  clear hX20 E19 D1_19 D2_19 O0_19 O1_19 O2_19 O3_19 O4_19 O5_m19 O6_19 O7_19
  obtain ⟨⟨cD1_20_0, cD1_20_1, cD1_20_2⟩, _⟩ := block3 D1_20
  have lD1_20 := lt_of_block D1_20
  obtain ⟨⟨cD2_20_0, cD2_20_1, cD2_20_2⟩, _⟩ := block3 D2_20
  have lD2_20 := lt_of_block D2_20
  go_wp2_with fail
  clear cD1_20_0 cD1_20_1 cD1_20_2 lD1_20 cD2_20_0 cD2_20_1 cD2_20_2 lD2_20
  refine (toFloat32S_ex s2 n2 c2 zs2 hz2 hl2 _ (VArr.ext hR2 E20.out)).mono ?_
  rintro e w19 ⟨b8, rfl, hX21, O8⟩
  have ab21 : w.heap.size ≤ w18.heap.size := E20.out.size
  have lt0_8 := fun g hg => (O0_20.lt g hg).2
  have lt1_8 := fun g hg => (O1_20.lt g hg).2
  have lt2_8 := fun g hg => (O2_20.lt g hg).2
  have lt3_8 := fun g hg => (O3_20.lt g hg).2
  have lt4_8 := fun g hg => (O4_20.lt g hg).2
  have lt5_8 := fun g hg => (O5_20.lt g hg).2
  have lt6_8 := fun g hg => (O6_20.lt g hg).2
  have lt7_8 := fun g hg => (O7_20.lt g hg).2
  have E21 := Lib.hid (E20.out.trans hX21)
  have D1_21 := hX21.block D1_20
  have D2_21 := hX21.block D2_20
  have O0_21 := ownsRow_ext O0_20 hX21
  have O1_21 := ownsRow_ext O1_20 hX21
  have O2_21 := ownsRow_ext O2_20 hX21
  have O3_21 := ownsRow_ext O3_20 hX21
  have O4_21 := ownsRow_ext O4_20 hX21
  have O5_21 := ownsRow_ext O5_20 hX21
  have O6_21 := ownsRow_ext O6_20 hX21
  have O7_21 := ownsRow_ext O7_20 hX21
  clear hX21 E20 D1_20 D2_20 O0_20 O1_20 O2_20 O3_20 O4_20 O5_20 O6_20 O7_20
  obtain ⟨⟨cD1_21_0, cD1_21_1, cD1_21_2⟩, _⟩ := block3 D1_21
  have lD1_21 := lt_of_block D1_21
  obtain ⟨⟨cD2_21_0, cD2_21_1, cD2_21_2⟩, _⟩ := block3 D2_21
  have lD2_21 := lt_of_block D2_21
  go_wp2_with fail
  clear cD1_21_0 cD1_21_1 cD1_21_2 lD1_21 cD2_21_0 cD2_21_1 cD2_21_2 lD2_21
  refine (toFloat32S_ex s3 n3 c3 zs3 hz3 hl3 _ (VArr.ext hR3 E21.out)).mono ?_
  rintro e w20 ⟨b9, rfl, hX22, O9⟩
  have ab22 : w.heap.size ≤ w19.heap.size := E21.out.size
  have lt0_9 := fun g hg => (O0_21.lt g hg).2
  have lt1_9 := fun g hg => (O1_21.lt g hg).2
  have lt2_9 := fun g hg => (O2_21.lt g hg).2
  have lt3_9 := fun g hg => (O3_21.lt g hg).2
  have lt4_9 := fun g hg => (O4_21.lt g hg).2
  have lt5_9 := fun g hg => (O5_21.lt g hg).2
  have lt6_9 := fun g hg => (O6_21.lt g hg).2
  have lt7_9 := fun g hg => (O7_21.lt g hg).2
  have lt8_9 := fun g hg => (O8.lt g hg).2
  have E22 := Lib.hid (E21.out.trans hX22)
  have D1_22 := hX22.block D1_21
  have D2_22 := hX22.block D2_21
  have O0_22 := ownsRow_ext O0_21 hX22
  have O1_22 := ownsRow_ext O1_21 hX22
  have O2_22 := ownsRow_ext O2_21 hX22
  have O3_22 := ownsRow_ext O3_21 hX22
  have O4_22 := ownsRow_ext O4_21 hX22
  have O5_22 := ownsRow_ext O5_21 hX22
  have O6_22 := ownsRow_ext O6_21 hX22
  have O7_22 := ownsRow_ext O7_21 hX22
  have O8_22 := ownsRow_ext O8 hX22
  clear hX22 E21 D1_21 D2_21 O0_21 O1_21 O2_21 O3_21 O4_21 O5_21 O6_21 O7_21 O8
  obtain ⟨⟨cD1_22_0, cD1_22_1, cD1_22_2⟩, _⟩ := block3 D1_22
  have lD1_22 := lt_of_block D1_22
  obtain ⟨⟨cD2_22_0, cD2_22_1, cD2_22_2⟩, _⟩ := block3 D2_22
  have lD2_22 := lt_of_block D2_22
  go_wp2_with fail
  clear cD1_22_0 cD1_22_1 cD1_22_2 lD1_22 cD2_22_0 cD2_22_1 cD2_22_2 lD2_22
  refine (implNear_any a0 a1 (some ⟨b8, 0, none⟩) (some ⟨b9, 0, none⟩) n2 n2 n3 n3 zs2 zs3 hz2 hz3 hl2 hl3 _ (ownsRow_varr O8_22) (ownsRow_varr O9)).mono ?_
  rintro e w21 ⟨ra10, rn10, rc10, rfl, hX23, O10, rl10, re10⟩
  have ab23 : w.heap.size ≤ w20.heap.size := E22.out.size
  have lt0_10 := fun g hg => (O0_22.lt g hg).2
  have lt1_10 := fun g hg => (O1_22.lt g hg).2
  have lt2_10 := fun g hg => (O2_22.lt g hg).2
  have lt3_10 := fun g hg => (O3_22.lt g hg).2
  have lt4_10 := fun g hg => (O4_22.lt g hg).2
  have lt5_10 := fun g hg => (O5_22.lt g hg).2
  have lt6_10 := fun g hg => (O6_22.lt g hg).2
  have lt7_10 := fun g hg => (O7_22.lt g hg).2
  have lt8_10 := fun g hg => (O8_22.lt g hg).2
  have lt9_10 := fun g hg => (O9.lt g hg).2
  have E23 := Lib.hid (E22.out.trans hX23)
  have D1_23 := hX23.block D1_22
  have D2_23 := hX23.block D2_22
  have O0_23 := ownsRow_ext O0_22 hX23
  have O1_23 := ownsRow_ext O1_22 hX23
  have O2_23 := ownsRow_ext O2_22 hX23
  have O3_23 := ownsRow_ext O3_22 hX23
  have O4_23 := ownsRow_ext O4_22 hX23
  have O5_23 := ownsRow_ext O5_22 hX23
  have O6_23 := ownsRow_ext O6_22 hX23
  have O7_23 := ownsRow_ext O7_22 hX23
  have O8_23 := ownsRow_ext O8_22 hX23
  have O9_23 := ownsRow_ext O9 hX23
  clear hX23 E22 D1_22 D2_22 O0_22 O1_22 O2_22 O3_22 O4_22 O5_22 O6_22 O7_22 O8_22 O9
  obtain ⟨⟨cD1_23_0, cD1_23_1, cD1_23_2⟩, _⟩ := block3 D1_23
  have lD1_23 := lt_of_block D1_23
  obtain ⟨⟨cD2_23_0, cD2_23_1, cD2_23_2⟩, _⟩ := block3 D2_23
  have lD2_23 := lt_of_block D2_23
  go_wp2_with fail
  clear cD1_23_0 cD1_23_1 cD1_23_2 lD1_23 cD2_23_0 cD2_23_1 cD2_23_2 lD2_23
  have hY24 := (Ext.refl w21).alloc (.cells #[.int .i64 (keepI (nearOk a0 a1 n2 n3 zs2 zs3) a0), .int .i64 (keepI (nearOk a0 a1 n2 n3 zs2 zs3) a1), .slice ra10 rn10 rc10] 25)
  have D3 := heap_new w21 (.cells #[.int .i64 (keepI (nearOk a0 a1 n2 n3 zs2 zs3) a0), .int .i64 (keepI (nearOk a0 a1 n2 n3 zs2 zs3) a1), .slice ra10 rn10 rc10] 25)
  generalize hw24 : w21.alloc (.cells #[.int .i64 (keepI (nearOk a0 a1 n2 n3 zs2 zs3) a0), .int .i64 (keepI (nearOk a0 a1 n2 n3 zs2 zs3) a1), .slice ra10 rn10 rc10] 25) = w22 at *
  clear hw24
  have E25 := Lib.hid (E23.out.trans hY24)
  have D1_25 := hY24.block D1_23
  have D2_25 := hY24.block D2_23
  have O0_25 := ownsRow_ext O0_23 hY24
  have O1_25 := ownsRow_ext O1_23 hY24
  have O2_25 := ownsRow_ext O2_23 hY24
  have O3_25 := ownsRow_ext O3_23 hY24
  have O4_25 := ownsRow_ext O4_23 hY24
  have O5_25 := ownsRow_ext O5_23 hY24
  have O6_25 := ownsRow_ext O6_23 hY24
  have O7_25 := ownsRow_ext O7_23 hY24
  have O8_25 := ownsRow_ext O8_23 hY24
  have O9_25 := ownsRow_ext O9_23 hY24
  have O10_25 := ownsRow_ext O10 hY24
  clear hY24 E23 D1_23 D2_23 O0_23 O1_23 O2_23 O3_23 O4_23 O5_23 O6_23 O7_23 O8_23 O9_23 O10
  refine (eqGrains_any (keepI (nearOk a0 a1 n2 n3 zs2 zs3) a0) (keepI (nearOk a0 a1 n2 n3 zs2 zs3) a1) (keepI (nearOk a0 a1 n2 n3 zs2 zs3) a0) (keepI (nearOk a0 a1 n2 n3 zs2 zs3) a1) _ _ rn10 _ rn2 _ (keepL (nearOk a0 a1 n2 n3 zs2 zs3) (nearZ a0 a1 zs2 zs3)) (keepL (nearOk a0 a1 n2 n3 zs2 zs3) (nearZ a0 a1 zs2 zs3)) rl10 rl2 (by omega) (by omega) rfl rfl rfl _ (ownsRow_varr O10_25) (ownsRow_varr O2_25)).mono ?_
  rintro e w23 ⟨rfl, hX26⟩
  have E26 := Lib.hid (E25.out.trans hX26)
  have D1_26 := hX26.block D1_25
  have D2_26 := hX26.block D2_25
  have D3_26 := hX26.block D3
  have O0_26 := ownsRow_ext O0_25 hX26
  have O1_26 := ownsRow_ext O1_25 hX26
  have O2_26 := ownsRow_ext O2_25 hX26
  have O3_26 := ownsRow_ext O3_25 hX26
  have O4_26 := ownsRow_ext O4_25 hX26
  have O5_26 := ownsRow_ext O5_25 hX26
  have O6_26 := ownsRow_ext O6_25 hX26
  have O7_26 := ownsRow_ext O7_25 hX26
  have O8_26 := ownsRow_ext O8_25 hX26
  have O9_26 := ownsRow_ext O9_25 hX26
  have O10_26 := ownsRow_ext O10_25 hX26
  clear hX26 E25 D1_25 D2_25 D3 O0_25 O1_25 O2_25 O3_25 O4_25 O5_25 O6_25 O7_25 O8_25 O9_25 O10_25
  obtain ⟨⟨cD1_26_0, cD1_26_1, cD1_26_2⟩, _⟩ := block3 D1_26
  have lD1_26 := lt_of_block D1_26
  obtain ⟨⟨cD2_26_0, cD2_26_1, cD2_26_2⟩, _⟩ := block3 D2_26
  have lD2_26 := lt_of_block D2_26
  obtain ⟨⟨cD3_26_0, cD3_26_1, cD3_26_2⟩, _⟩ := block3 D3_26
  have lD3_26 := lt_of_block D3_26
  go_wp2_with fail
  clear cD1_26_0 cD1_26_1 cD1_26_2 lD1_26 cD2_26_0 cD2_26_1 cD2_26_2 lD2_26 cD3_26_0 cD3_26_1 cD3_26_2 lD3_26
  refine (heldGrains_any (keepI (nearOk a0 a1 n2 n3 zs2 zs3) a0) (keepI (nearOk a0 a1 n2 n3 zs2 zs3) a1) ra5 rn5 rc5 1 (by omega) (by omega) (by omega) _ (ownsRow_varr O5_26)).mono ?_
  rintro e w24 ⟨rfl, hX27⟩
  have E27 := Lib.hid (E26.out.trans hX27)
  have D1_27 := hX27.block D1_26
  have D2_27 := hX27.block D2_26
  have D3_27 := hX27.block D3_26
  have O0_27 := ownsRow_ext O0_26 hX27
  have O1_27 := ownsRow_ext O1_26 hX27
  have O2_27 := ownsRow_ext O2_26 hX27
  have O3_27 := ownsRow_ext O3_26 hX27
  have O4_27 := ownsRow_ext O4_26 hX27
  have O5_27 := ownsRow_ext O5_26 hX27
  have O6_27 := ownsRow_ext O6_26 hX27
  have O7_27 := ownsRow_ext O7_26 hX27
  have O8_27 := ownsRow_ext O8_26 hX27
  have O9_27 := ownsRow_ext O9_26 hX27
  have O10_27 := ownsRow_ext O10_26 hX27
  clear hX27 E26 D1_26 D2_26 D3_26 O0_26 O1_26 O2_26 O3_26 O4_26 O5_26 O6_26 O7_26 O8_26 O9_26 O10_26
  obtain ⟨⟨cD1_27_0, cD1_27_1, cD1_27_2⟩, _⟩ := block3 D1_27
  have lD1_27 := lt_of_block D1_27
  obtain ⟨⟨cD2_27_0, cD2_27_1, cD2_27_2⟩, _⟩ := block3 D2_27
  have lD2_27 := lt_of_block D2_27
  obtain ⟨⟨cD3_27_0, cD3_27_1, cD3_27_2⟩, _⟩ := block3 D3_27
  have lD3_27 := lt_of_block D3_27
  go_wp2
  go_ret
  exact ⟨rfl, E27.out⟩
end Go.Proofs.Ytpmcjojipbiinaa
