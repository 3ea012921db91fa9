/-
  The walk of the statement on SlopesOf.
-/
import Derived.Test.YtllpbkmdcaikoaaSlB
import Derived.Test.YtllpbkmdcaikoaaLate
import Derived.Test.YtllpbkmdcaikoaaPost
namespace Go.Proofs.Ytllpbkmdcaikoaa
open Go.RowKit
set_option linter.unusedVariables false
set_option linter.unusedSimpArgs false
set_option linter.unnecessarySimpa false

set_option maxRecDepth 100000 in
set_option maxHeartbeats 4000000 in
theorem walk_FnExactSlopesOf (W0 H0 : Int) (Q0 : Bool) (s0 : Option Addr) (n0 c0 : Nat) (zs0 : List Nat) (hz0 : zs0.length = n0) (hn0 : n0 ≤ 9223372036854775807) (wW0 : (Lit.int .i64 W0).wf = true) (wH0 : (Lit.int .i64 H0).wf = true) (w : World) (hR0 : VArr w s0 (flts zs0)) :
    Calls Try.prog 10 #[.agg #[.int .i64 W0, .int .i64 H0, .bool Q0, .slice s0 n0 c0]] w fun e w' => e = .returned (.bool true) ∧ Ext w w' := by
  have EB : Ext w (w.alloc (.cells #[.int .i64 W0, .int .i64 H0, .bool Q0, .slice s0 n0 c0] 24)) := Ext.alloc (Ext.refl w) _
  have B0 := heap_new w (.cells #[.int .i64 W0, .int .i64 H0, .bool Q0, .slice s0 n0 c0] 24)
  by_cases big0 : (1048576 : Int) - n0 < 0
  · -- too large
    go_enter Try.func10, Try.ntmps10
    go_wp2_with fail
    have R0 := hR0.ext EB
    generalize hsz : w.heap.size = pz at *
    generalize (w.alloc (.cells #[.int .i64 W0, .int .i64 H0, .bool Q0, .slice s0 n0 c0] 24)) = wb at *
    have HSZ := Lib.hid hsz
    clear hsz
    have E0 : Hid (Ext wb wb) := Ext.refl wb
    refine (szField_any W0 H0 Q0 s0 n0 c0 (1048576 : Int) hn0 (by omega) (by omega) _).mono ?_
    rw [if_pos (by omega)]
    rintro e w1 ⟨rfl, hX1⟩
    have E1 := Lib.hid (E0.out.trans hX1)
    clear hX1 E0
    obtain ⟨⟨cb0_0, cb0_1, cb0_2, cb0_3⟩, _⟩ := block4 (E1.out.block B0)
    have lb0 := lt_of_block (E1.out.block B0)
    go_wp2
    go_ret
    exact ⟨rfl, EB.trans E1.out⟩
  · -- not so large
    have hl0 : n0 ≤ 1048576 := by omega
    go_enter Try.func10, Try.ntmps10
    go_wp2_with fail
    have R0 := hR0.ext EB
    generalize hsz : w.heap.size = pz at *
    generalize (w.alloc (.cells #[.int .i64 W0, .int .i64 H0, .bool Q0, .slice s0 n0 c0] 24)) = wb at *
    have HSZ := Lib.hid hsz
    clear hsz
    have E0 : Hid (Ext wb wb) := Ext.refl wb
    refine (szField_any W0 H0 Q0 s0 n0 c0 (1048576 : Int) hn0 (by omega) (by omega) _).mono ?_
    rw [if_neg (by omega)]
    rintro e w1 ⟨rfl, hX1⟩
    have E1 := Lib.hid (E0.out.trans hX1)
    clear hX1 E0
    obtain ⟨⟨cb0_0, cb0_1, cb0_2, cb0_3⟩, _⟩ := block4 (E1.out.block B0)
    have lb0 := lt_of_block (E1.out.block B0)
    go_wp2_with fail
    clear cb0_0 cb0_1 cb0_2 cb0_3 lb0
    refine (toField_any W0 H0 Q0 s0 n0 c0 zs0 hz0 hl0 _ (VArr.ext R0 E1.out)).mono ?_
    rintro e w2 ⟨b0, rfl, hX2, O0⟩
    have ab2 : wb.heap.size ≤ w1.heap.size := E1.out.size
    have E2 := Lib.hid (E1.out.trans hX2)
    clear hX2 E1
    obtain ⟨⟨cb0_0, cb0_1, cb0_2, cb0_3⟩, _⟩ := block4 (E2.out.block B0)
    have lb0 := lt_of_block (E2.out.block B0)
    go_wp2_with fail
    clear cb0_0 cb0_1 cb0_2 cb0_3 lb0
    refine (specSlopes_any W0 H0 Q0 (some ⟨b0, 0, none⟩) n0 n0 zs0 hz0 hl0 _ (ownsRow_varr O0)).mono ?_
    rintro e w3 ⟨ra1, rn1, rc1, rx1, ra2, rn2, rc2, rx2, rfl, hX3, O1, rl1, re1, rf1, O2, rl2, re2, rf2, hAP1⟩
    have ab3 : wb.heap.size ≤ w2.heap.size := E2.out.size
    have lt0_1 := fun g hg => (O0.lt g hg).2
    have E3 := Lib.hid (E2.out.trans hX3)
    have O0_3 := ownsRow_ext O0 hX3
    clear hX3 E2 O0
    have HAP1 := Lib.hid hAP1
    clear hAP1
    obtain ⟨⟨cb0_0, cb0_1, cb0_2, cb0_3⟩, _⟩ := block4 (E3.out.block B0)
    have lb0 := lt_of_block (E3.out.block B0)
    go_wp2_with fail
    clear cb0_0 cb0_1 cb0_2 cb0_3 lb0
    have hY4 := ((Ext.refl w3).alloc (.cells #[.int .i64 (kI (vldF W0 H0 n0) W0), .int .i64 (kI (vldF W0 H0 n0) H0), .bool (kB (vldF W0 H0 n0) Q0), .slice ra1 rn1 rc1] 27)).alloc (.cells #[.int .i64 (kI (vldF W0 H0 n0) W0), .int .i64 (kI (vldF W0 H0 n0) H0), .bool (kB (vldF W0 H0 n0) Q0), .slice ra2 rn2 rc2] 27)
    have D1 := heap_mid1 w3 (.cells #[.int .i64 (kI (vldF W0 H0 n0) W0), .int .i64 (kI (vldF W0 H0 n0) H0), .bool (kB (vldF W0 H0 n0) Q0), .slice ra1 rn1 rc1] 27) (.cells #[.int .i64 (kI (vldF W0 H0 n0) W0), .int .i64 (kI (vldF W0 H0 n0) H0), .bool (kB (vldF W0 H0 n0) Q0), .slice ra2 rn2 rc2] 27)
    have D2 := heap_new1 w3 (.cells #[.int .i64 (kI (vldF W0 H0 n0) W0), .int .i64 (kI (vldF W0 H0 n0) H0), .bool (kB (vldF W0 H0 n0) Q0), .slice ra1 rn1 rc1] 27) (.cells #[.int .i64 (kI (vldF W0 H0 n0) W0), .int .i64 (kI (vldF W0 H0 n0) H0), .bool (kB (vldF W0 H0 n0) Q0), .slice ra2 rn2 rc2] 27)
    generalize hw4 : (w3.alloc (.cells #[.int .i64 (kI (vldF W0 H0 n0) W0), .int .i64 (kI (vldF W0 H0 n0) H0), .bool (kB (vldF W0 H0 n0) Q0), .slice ra1 rn1 rc1] 27)).alloc (.cells #[.int .i64 (kI (vldF W0 H0 n0) W0), .int .i64 (kI (vldF W0 H0 n0) H0), .bool (kB (vldF W0 H0 n0) Q0), .slice ra2 rn2 rc2] 27) = w4 at *
    clear hw4
    have E5 := Lib.hid (E3.out.trans hY4)
    have O0_5 := ownsRow_ext O0_3 hY4
    have O1_5 := ownsRow_ext O1 hY4
    have O2_5 := ownsRow_ext O2 hY4
    clear hY4 E3 O0_3 O1 O2
    refine (toField_any W0 H0 Q0 s0 n0 c0 zs0 hz0 hl0 _ (VArr.ext R0 E5.out)).mono ?_
    rintro e w5 ⟨b3, rfl, hX6, O3⟩
    have ab6 : wb.heap.size ≤ w4.heap.size := E5.out.size
    have lt0_3 := fun g hg => (O0_5.lt g hg).2
    have lt1_3 := fun g hg => (O1_5.lt g hg).2
    have lt2_3 := fun g hg => (O2_5.lt g hg).2
    have E6 := Lib.hid (E5.out.trans hX6)
    have D1_6 := hX6.block D1
    have D2_6 := hX6.block D2
    have O0_6 := ownsRow_ext O0_5 hX6
    have O1_6 := ownsRow_ext O1_5 hX6
    have O2_6 := ownsRow_ext O2_5 hX6
    clear hX6 E5 D1 D2 O0_5 O1_5 O2_5
    obtain ⟨⟨cb0_0, cb0_1, cb0_2, cb0_3⟩, _⟩ := block4 (E6.out.block B0)
    have lb0 := lt_of_block (E6.out.block B0)
    obtain ⟨⟨cD1_6_0, cD1_6_1, cD1_6_2, cD1_6_3⟩, _⟩ := block4 D1_6
    have lD1_6 := lt_of_block D1_6
    obtain ⟨⟨cD2_6_0, cD2_6_1, cD2_6_2, cD2_6_3⟩, _⟩ := block4 D2_6
    have lD2_6 := lt_of_block D2_6
    go_wp2_with fail
    clear cb0_0 cb0_1 cb0_2 cb0_3 lb0 cD1_6_0 cD1_6_1 cD1_6_2 cD1_6_3 lD1_6 cD2_6_0 cD2_6_1 cD2_6_2 cD2_6_3 lD2_6
    have hY7 := (Ext.refl w5).alloc (.cells #[.int .i64 W0, .int .i64 H0, .bool Q0, .slice (some ⟨b3, 0, none⟩) n0 n0] 27)
    have D3 := heap_new w5 (.cells #[.int .i64 W0, .int .i64 H0, .bool Q0, .slice (some ⟨b3, 0, none⟩) n0 n0] 27)
    generalize hw7 : w5.alloc (.cells #[.int .i64 W0, .int .i64 H0, .bool Q0, .slice (some ⟨b3, 0, none⟩) n0 n0] 27) = w6 at *
    clear hw7
    have E8 := Lib.hid (E6.out.trans hY7)
    have D1_8 := hY7.block D1_6
    have D2_8 := hY7.block D2_6
    have O0_8 := ownsRow_ext O0_6 hY7
    have O1_8 := ownsRow_ext O1_6 hY7
    have O2_8 := ownsRow_ext O2_6 hY7
    have O3_8 := ownsRow_ext O3 hY7
    clear hY7 E6 D1_6 D2_6 O0_6 O1_6 O2_6 O3
    refine (implSlopes_any W0 H0 Q0 (some ⟨b3, 0, none⟩) n0 n0 zs0 hz0 hl0 _ (ownsRow_varr O3_8)).mono ?_
    rintro e w7 ⟨ra4, rn4, rc4, rx4, ra5, rn5, rc5, rx5, rfl, hX9, O4, rl4, re4, rf4, O5, rl5, re5, rf5, hAP4⟩
    have ab9 : wb.heap.size ≤ w6.heap.size := E8.out.size
    have lt0_4 := fun g hg => (O0_8.lt g hg).2
    have lt1_4 := fun g hg => (O1_8.lt g hg).2
    have lt2_4 := fun g hg => (O2_8.lt g hg).2
    have lt3_4 := fun g hg => (O3_8.lt g hg).2
    have E9 := Lib.hid (E8.out.trans hX9)
    have D1_9 := hX9.block D1_8
    have D2_9 := hX9.block D2_8
    have D3_9 := hX9.block D3
    have O0_9 := ownsRow_ext O0_8 hX9
    have O1_9 := ownsRow_ext O1_8 hX9
    have O2_9 := ownsRow_ext O2_8 hX9
    have O3_9 := ownsRow_ext O3_8 hX9
    clear hX9 E8 D1_8 D2_8 D3 O0_8 O1_8 O2_8 O3_8
    have HAP4 := Lib.hid hAP4
    clear hAP4
    obtain ⟨⟨cb0_0, cb0_1, cb0_2, cb0_3⟩, _⟩ := block4 (E9.out.block B0)
    have lb0 := lt_of_block (E9.out.block B0)
    obtain ⟨⟨cD1_9_0, cD1_9_1, cD1_9_2, cD1_9_3⟩, _⟩ := block4 D1_9
    have lD1_9 := lt_of_block D1_9
    obtain ⟨⟨cD2_9_0, cD2_9_1, cD2_9_2, cD2_9_3⟩, _⟩ := block4 D2_9
    have lD2_9 := lt_of_block D2_9
    obtain ⟨⟨cD3_9_0, cD3_9_1, cD3_9_2, cD3_9_3⟩, _⟩ := block4 D3_9
    have lD3_9 := lt_of_block D3_9
    go_wp2_with fail
    clear cb0_0 cb0_1 cb0_2 cb0_3 lb0 cD1_9_0 cD1_9_1 cD1_9_2 cD1_9_3 lD1_9 cD2_9_0 cD2_9_1 cD2_9_2 cD2_9_3 lD2_9 cD3_9_0 cD3_9_1 cD3_9_2 cD3_9_3 lD3_9
    have hY10 := ((Ext.refl w7).alloc (.cells #[.int .i64 (kI (vldF W0 H0 n0) W0), .int .i64 (kI (vldF W0 H0 n0) H0), .bool (kB (vldF W0 H0 n0) Q0), .slice ra4 rn4 rc4] 27)).alloc (.cells #[.int .i64 (kI (vldF W0 H0 n0) W0), .int .i64 (kI (vldF W0 H0 n0) H0), .bool (kB (vldF W0 H0 n0) Q0), .slice ra5 rn5 rc5] 27)
    have D4 := heap_mid1 w7 (.cells #[.int .i64 (kI (vldF W0 H0 n0) W0), .int .i64 (kI (vldF W0 H0 n0) H0), .bool (kB (vldF W0 H0 n0) Q0), .slice ra4 rn4 rc4] 27) (.cells #[.int .i64 (kI (vldF W0 H0 n0) W0), .int .i64 (kI (vldF W0 H0 n0) H0), .bool (kB (vldF W0 H0 n0) Q0), .slice ra5 rn5 rc5] 27)
    have D5 := heap_new1 w7 (.cells #[.int .i64 (kI (vldF W0 H0 n0) W0), .int .i64 (kI (vldF W0 H0 n0) H0), .bool (kB (vldF W0 H0 n0) Q0), .slice ra4 rn4 rc4] 27) (.cells #[.int .i64 (kI (vldF W0 H0 n0) W0), .int .i64 (kI (vldF W0 H0 n0) H0), .bool (kB (vldF W0 H0 n0) Q0), .slice ra5 rn5 rc5] 27)
    generalize hw10 : (w7.alloc (.cells #[.int .i64 (kI (vldF W0 H0 n0) W0), .int .i64 (kI (vldF W0 H0 n0) H0), .bool (kB (vldF W0 H0 n0) Q0), .slice ra4 rn4 rc4] 27)).alloc (.cells #[.int .i64 (kI (vldF W0 H0 n0) W0), .int .i64 (kI (vldF W0 H0 n0) H0), .bool (kB (vldF W0 H0 n0) Q0), .slice ra5 rn5 rc5] 27) = w8 at *
    clear hw10
    have E11 := Lib.hid (E9.out.trans hY10)
    have D1_11 := hY10.block D1_9
    have D2_11 := hY10.block D2_9
    have D3_11 := hY10.block D3_9
    have O0_11 := ownsRow_ext O0_9 hY10
    have O1_11 := ownsRow_ext O1_9 hY10
    have O2_11 := ownsRow_ext O2_9 hY10
    have O3_11 := ownsRow_ext O3_9 hY10
    have O4_11 := ownsRow_ext O4 hY10
    have O5_11 := ownsRow_ext O5 hY10
    clear hY10 E9 D1_9 D2_9 D3_9 O0_9 O1_9 O2_9 O3_9 O4 O5
    refine (eqField_any (kI (vldF W0 H0 n0) W0) (kI (vldF W0 H0 n0) H0) (kI (vldF W0 H0 n0) W0) (kI (vldF W0 H0 n0) H0) (kB (vldF W0 H0 n0) Q0) (kB (vldF W0 H0 n0) Q0) _ _ rn4 _ rn1 _ rx4 rx1 rl4 rl1 (by omega) (by omega) rfl rfl rfl ((rf4).trans (Eq.symm rf1)) _ (ownsRow_varr O4_11) (ownsRow_varr O1_11)).mono ?_
    rintro e w9 ⟨rfl, hX12⟩
    have E12 := Lib.hid (E11.out.trans hX12)
    have D1_12 := hX12.block D1_11
    have D2_12 := hX12.block D2_11
    have D3_12 := hX12.block D3_11
    have D4_12 := hX12.block D4
    have D5_12 := hX12.block D5
    have O0_12 := ownsRow_ext O0_11 hX12
    have O1_12 := ownsRow_ext O1_11 hX12
    have O2_12 := ownsRow_ext O2_11 hX12
    have O3_12 := ownsRow_ext O3_11 hX12
    have O4_12 := ownsRow_ext O4_11 hX12
    have O5_12 := ownsRow_ext O5_11 hX12
    clear hX12 E11 D1_11 D2_11 D3_11 D4 D5 O0_11 O1_11 O2_11 O3_11 O4_11 O5_11
    obtain ⟨⟨cb0_0, cb0_1, cb0_2, cb0_3⟩, _⟩ := block4 (E12.out.block B0)
    have lb0 := lt_of_block (E12.out.block B0)
    obtain ⟨⟨cD1_12_0, cD1_12_1, cD1_12_2, cD1_12_3⟩, _⟩ := block4 D1_12
    have lD1_12 := lt_of_block D1_12
    obtain ⟨⟨cD2_12_0, cD2_12_1, cD2_12_2, cD2_12_3⟩, _⟩ := block4 D2_12
    have lD2_12 := lt_of_block D2_12
    obtain ⟨⟨cD3_12_0, cD3_12_1, cD3_12_2, cD3_12_3⟩, _⟩ := block4 D3_12
    have lD3_12 := lt_of_block D3_12
    obtain ⟨⟨cD4_12_0, cD4_12_1, cD4_12_2, cD4_12_3⟩, _⟩ := block4 D4_12
    have lD4_12 := lt_of_block D4_12
    obtain ⟨⟨cD5_12_0, cD5_12_1, cD5_12_2, cD5_12_3⟩, _⟩ := block4 D5_12
    have lD5_12 := lt_of_block D5_12
    go_wp2_with fail
    clear cb0_0 cb0_1 cb0_2 cb0_3 lb0 cD1_12_0 cD1_12_1 cD1_12_2 cD1_12_3 lD1_12 cD2_12_0 cD2_12_1 cD2_12_2 cD2_12_3 lD2_12 cD3_12_0 cD3_12_1 cD3_12_2 cD3_12_3 lD3_12 cD4_12_0 cD4_12_1 cD4_12_2 cD4_12_3 lD4_12 cD5_12_0 cD5_12_1 cD5_12_2 cD5_12_3 lD5_12
    refine (eqField_any (kI (vldF W0 H0 n0) W0) (kI (vldF W0 H0 n0) H0) (kI (vldF W0 H0 n0) W0) (kI (vldF W0 H0 n0) H0) (kB (vldF W0 H0 n0) Q0) (kB (vldF W0 H0 n0) Q0) _ _ rn5 _ rn2 _ rx5 rx2 rl5 rl2 (by omega) (by omega) rfl rfl rfl ((rf5).trans (Eq.symm rf2)) _ (ownsRow_varr O5_12) (ownsRow_varr O2_12)).mono ?_
    rintro e w10 ⟨rfl, hX13⟩
    have E13 := Lib.hid (E12.out.trans hX13)
    have D1_13 := hX13.block D1_12
    have D2_13 := hX13.block D2_12
    have D3_13 := hX13.block D3_12
    have D4_13 := hX13.block D4_12
    have D5_13 := hX13.block D5_12
    have O0_13 := ownsRow_ext O0_12 hX13
    have O1_13 := ownsRow_ext O1_12 hX13
    have O2_13 := ownsRow_ext O2_12 hX13
    have O3_13 := ownsRow_ext O3_12 hX13
    have O4_13 := ownsRow_ext O4_12 hX13
    have O5_13 := ownsRow_ext O5_12 hX13
    clear hX13 E12 D1_12 D2_12 D3_12 D4_12 D5_12 O0_12 O1_12 O2_12 O3_12 O4_12 O5_12
    obtain ⟨⟨cb0_0, cb0_1, cb0_2, cb0_3⟩, _⟩ := block4 (E13.out.block B0)
    have lb0 := lt_of_block (E13.out.block B0)
    obtain ⟨⟨cD1_13_0, cD1_13_1, cD1_13_2, cD1_13_3⟩, _⟩ := block4 D1_13
    have lD1_13 := lt_of_block D1_13
    obtain ⟨⟨cD2_13_0, cD2_13_1, cD2_13_2, cD2_13_3⟩, _⟩ := block4 D2_13
    have lD2_13 := lt_of_block D2_13
    obtain ⟨⟨cD3_13_0, cD3_13_1, cD3_13_2, cD3_13_3⟩, _⟩ := block4 D3_13
    have lD3_13 := lt_of_block D3_13
    obtain ⟨⟨cD4_13_0, cD4_13_1, cD4_13_2, cD4_13_3⟩, _⟩ := block4 D4_13
    have lD4_13 := lt_of_block D4_13
    obtain ⟨⟨cD5_13_0, cD5_13_1, cD5_13_2, cD5_13_3⟩, _⟩ := block4 D5_13
    have lD5_13 := lt_of_block D5_13
    go_wp2_with fail
    clear cb0_0 cb0_1 cb0_2 cb0_3 lb0 cD1_13_0 cD1_13_1 cD1_13_2 cD1_13_3 lD1_13 cD2_13_0 cD2_13_1 cD2_13_2 cD2_13_3 lD2_13 cD3_13_0 cD3_13_1 cD3_13_2 cD3_13_3 lD3_13 cD4_13_0 cD4_13_1 cD4_13_2 cD4_13_3 lD4_13 cD5_13_0 cD5_13_1 cD5_13_2 cD5_13_3 lD5_13
    refine region_grow (C := Ext w10) (K := fun f args v wv => (f = 19 → toPostField w10 args v wv) ∧ (f = 21 → v = .bool true)) ⟨fun _ _ h k => h.trans k, fun f args v u u' h ex => ⟨(fun hf => ((h.1) hf).ext ex), ((h.2))⟩⟩ (by kernel_rfl) (by kernel_rfl) ((Ext.refl w10).drew) ?_
    refine grow_det (c := .agg #[.int .i64 W0, .int .i64 H0, .bool Q0, .slice (some ⟨b3, 0, none⟩) n0 n0]) rfl (fun u hu _ => ?_) ?_
    · obtain ⟨⟨d0, d1, d2, d3⟩, _⟩ := block4 (hu.block D3_13)
      go_simp
    refine grow_det (c := .agg #[.int .i64 W0, .int .i64 H0, .bool Q0, .slice s0 n0 c0]) rfl (fun u hu _ => ?_) ?_
    · obtain ⟨⟨d0, d1, d2, d3⟩, _⟩ := block4 (hu.block (E13.out.block B0))
      go_simp
    refine grow_cg 19 (fun v => ∃ b, v = .agg #[.int .i64 W0, .int .i64 H0, .bool Q0, .slice (some ⟨b, 0, none⟩) n0 n0]) (fun v wv => ∃ b, v = .agg #[.int .i64 W0, .int .i64 H0, .bool Q0, .slice (some ⟨b, 0, none⟩) n0 n0] ∧ VArr wv (some ⟨b, 0, none⟩) (flts zs0)) rfl ?_
    refine ⟨#[.agg #[.int .i64 W0, .int .i64 H0, .bool Q0, .slice s0 n0 c0]], fun u => ?_, fun u hu _ => ?_, fun v u h => ?_, fun v hv => ?_⟩
    · go_simp
    · refine (toField_any W0 H0 Q0 s0 n0 c0 zs0 hz0 hl0 _ (VArr.ext (VArr.ext R0 E13.out) hu)).mono fun e u' h => ?_
      obtain ⟨b, he, hx, ho⟩ := h
      exact ⟨_, he, hx, ⟨(fun _ => toPostField_mk hz0 (VArr.ext R0 E13.out) (ownsRow_varr ho)), (fun h => by cases h)⟩⟩
    · exact toPostField_get ((h.1) rfl) hz0 (VArr.ext R0 E13.out)
    obtain ⟨bq1, rfl⟩ := hv
    refine grow_c1 21 rfl ?_
    refine ⟨#[.agg #[.int .i64 W0, .int .i64 H0, .bool Q0, .slice (some ⟨b3, 0, none⟩) n0 n0], .agg #[.int .i64 W0, .int .i64 H0, .bool Q0, .slice (some ⟨bq1, 0, none⟩) n0 n0]], fun u => ?_, .bool true, fun u hu hk => ?_, fun v u h => (h.2) rfl, fun u => ⟨(fun h => by cases h), (fun _ => rfl)⟩, ?_⟩
    · go_simp
    · exact eqField_any W0 H0 W0 H0 Q0 Q0 _ _ n0 _ n0 _ zs0 zs0 hz0 hz0 (by omega) (by omega) rfl rfl rfl (((rfl : fas zs0 = fas zs0)).trans ((rfl : fas zs0 = fas zs0))) _ (VArr.ext (ownsRow_varr O3_13) hu) (by obtain ⟨b, hb, hv⟩ := hk 54 (by simp [Oper.looksAt, Op.operands, Call.operands]); simp at hb; subst hb; exact hv)
    refine grow_q rfl ?_
    apply Exists.intro
    refine ⟨fun u hu _ => ?_, ?_⟩
    · go_simp; try rfl
    refine grow_nil (fun w11 hX14 hh => ?_)
    obtain ⟨_, _⟩ := hh
    go_simp
    have E14 := Lib.hid (E13.out.trans hX14)
    have D1_14 := hX14.block D1_13
    have D2_14 := hX14.block D2_13
    have D3_14 := hX14.block D3_13
    have D4_14 := hX14.block D4_13
    have D5_14 := hX14.block D5_13
    have O0_14 := ownsRow_ext O0_13 hX14
    have O1_14 := ownsRow_ext O1_13 hX14
    have O2_14 := ownsRow_ext O2_13 hX14
    have O3_14 := ownsRow_ext O3_13 hX14
    have O4_14 := ownsRow_ext O4_13 hX14
    have O5_14 := ownsRow_ext O5_13 hX14
    clear hX14 E13 D1_13 D2_13 D3_13 D4_13 D5_13 O0_13 O1_13 O2_13 O3_13 O4_13 O5_13
    obtain ⟨⟨cb0_0, cb0_1, cb0_2, cb0_3⟩, _⟩ := block4 (E14.out.block B0)
    have lb0 := lt_of_block (E14.out.block B0)
    obtain ⟨⟨cD1_14_0, cD1_14_1, cD1_14_2, cD1_14_3⟩, _⟩ := block4 D1_14
    have lD1_14 := lt_of_block D1_14
    obtain ⟨⟨cD2_14_0, cD2_14_1, cD2_14_2, cD2_14_3⟩, _⟩ := block4 D2_14
    have lD2_14 := lt_of_block D2_14
    obtain ⟨⟨cD3_14_0, cD3_14_1, cD3_14_2, cD3_14_3⟩, _⟩ := block4 D3_14
    have lD3_14 := lt_of_block D3_14
    obtain ⟨⟨cD4_14_0, cD4_14_1, cD4_14_2, cD4_14_3⟩, _⟩ := block4 D4_14
    have lD4_14 := lt_of_block D4_14
    obtain ⟨⟨cD5_14_0, cD5_14_1, cD5_14_2, cD5_14_3⟩, _⟩ := block4 D5_14
    have lD5_14 := lt_of_block D5_14
    go_wp2_with fail
    clear cb0_0 cb0_1 cb0_2 cb0_3 lb0 cD1_14_0 cD1_14_1 cD1_14_2 cD1_14_3 lD1_14 cD2_14_0 cD2_14_1 cD2_14_2 cD2_14_3 lD2_14 cD3_14_0 cD3_14_1 cD3_14_2 cD3_14_3 lD3_14 cD4_14_0 cD4_14_1 cD4_14_2 cD4_14_3 lD4_14 cD5_14_0 cD5_14_1 cD5_14_2 cD5_14_3 lD5_14
    refine (markField_any W0 H0 Q0 (some ⟨b3, 0, none⟩) n0 n0 _ zs0 1 (by omega) (by omega) (by omega) _ O3_14).mono ?_
    rintro e w12 ⟨rfl, hG15, O3_m15⟩
    have E15 := Lib.hid (Ext.rowv E14.out O3_14 ab6 hG15)
    have D1_15 := block_keep (by decide) O3_14 hG15 D1_14
    have D2_15 := block_keep (by decide) O3_14 hG15 D2_14
    have D3_15 := block_keep (by decide) O3_14 hG15 D3_14
    have D4_15 := block_keep (by decide) O3_14 hG15 D4_14
    have D5_15 := block_keep (by decide) O3_14 hG15 D5_14
    have O0_15 := row_keep1 O0_14 O3_14 lt0_3 hG15
    have O1_15 := row_keep1 O1_14 O3_14 lt1_3 hG15
    have O2_15 := row_keep1 O2_14 O3_14 lt2_3 hG15
    have O4_15 := row_keep2 O4_14 O3_14 lt3_4 hG15
    have O5_15 := row_keep2 O5_14 O3_14 lt3_4 hG15
    clear hG15 E14 D1_14 D2_14 D3_14 D4_14 D5_14 O0_14 O1_14 O2_14 O4_14 O5_14
    clear O3_14
    obtain ⟨⟨cb0_0, cb0_1, cb0_2, cb0_3⟩, _⟩ := block4 (E15.out.block B0)
    have lb0 := lt_of_block (E15.out.block B0)
    obtain ⟨⟨cD1_15_0, cD1_15_1, cD1_15_2, cD1_15_3⟩, _⟩ := block4 D1_15
    have lD1_15 := lt_of_block D1_15
    obtain ⟨⟨cD2_15_0, cD2_15_1, cD2_15_2, cD2_15_3⟩, _⟩ := block4 D2_15
    have lD2_15 := lt_of_block D2_15
    obtain ⟨⟨cD3_15_0, cD3_15_1, cD3_15_2, cD3_15_3⟩, _⟩ := block4 D3_15
    have lD3_15 := lt_of_block D3_15
    obtain ⟨⟨cD4_15_0, cD4_15_1, cD4_15_2, cD4_15_3⟩, _⟩ := block4 D4_15
    have lD4_15 := lt_of_block D4_15
    obtain ⟨⟨cD5_15_0, cD5_15_1, cD5_15_2, cD5_15_3⟩, _⟩ := block4 D5_15
    have lD5_15 := lt_of_block D5_15
    go_wp2_with fail
    clear cb0_0 cb0_1 cb0_2 cb0_3 lb0 cD1_15_0 cD1_15_1 cD1_15_2 cD1_15_3 lD1_15 cD2_15_0 cD2_15_1 cD2_15_2 cD2_15_3 lD2_15 cD3_15_0 cD3_15_1 cD3_15_2 cD3_15_3 lD3_15 cD4_15_0 cD4_15_1 cD4_15_2 cD4_15_3 lD4_15 cD5_15_0 cD5_15_1 cD5_15_2 cD5_15_3 lD5_15
    refine (eqField_any (kI (vldF W0 H0 n0) W0) (kI (vldF W0 H0 n0) H0) (kI (vldF W0 H0 n0) W0) (kI (vldF W0 H0 n0) H0) (kB (vldF W0 H0 n0) Q0) (kB (vldF W0 H0 n0) Q0) _ _ rn4 _ rn1 _ rx4 rx1 rl4 rl1 (by omega) (by omega) rfl rfl rfl ((rf4).trans (Eq.symm rf1)) _ (ownsRow_varr O4_15) (ownsRow_varr O1_15)).mono ?_
    rintro e w13 ⟨rfl, hX16⟩
    have E16 := Lib.hid (E15.out.trans hX16)
    have D1_16 := hX16.block D1_15
    have D2_16 := hX16.block D2_15
    have D3_16 := hX16.block D3_15
    have D4_16 := hX16.block D4_15
    have D5_16 := hX16.block D5_15
    have O0_16 := ownsRow_ext O0_15 hX16
    have O1_16 := ownsRow_ext O1_15 hX16
    have O2_16 := ownsRow_ext O2_15 hX16
    have O3_16 := ownsRow_ext O3_m15 hX16
    have O4_16 := ownsRow_ext O4_15 hX16
    have O5_16 := ownsRow_ext O5_15 hX16
    clear hX16 E15 D1_15 D2_15 D3_15 D4_15 D5_15 O0_15 O1_15 O2_15 O3_m15 O4_15 O5_15
    obtain ⟨⟨cb0_0, cb0_1, cb0_2, cb0_3⟩, _⟩ := block4 (E16.out.block B0)
    have lb0 := lt_of_block (E16.out.block B0)
    obtain ⟨⟨cD1_16_0, cD1_16_1, cD1_16_2, cD1_16_3⟩, _⟩ := block4 D1_16
    have lD1_16 := lt_of_block D1_16
    obtain ⟨⟨cD2_16_0, cD2_16_1, cD2_16_2, cD2_16_3⟩, _⟩ := block4 D2_16
    have lD2_16 := lt_of_block D2_16
    obtain ⟨⟨cD3_16_0, cD3_16_1, cD3_16_2, cD3_16_3⟩, _⟩ := block4 D3_16
    have lD3_16 := lt_of_block D3_16
    obtain ⟨⟨cD4_16_0, cD4_16_1, cD4_16_2, cD4_16_3⟩, _⟩ := block4 D4_16
    have lD4_16 := lt_of_block D4_16
    obtain ⟨⟨cD5_16_0, cD5_16_1, cD5_16_2, cD5_16_3⟩, _⟩ := block4 D5_16
    have lD5_16 := lt_of_block D5_16
    go_wp2_with fail
    clear cb0_0 cb0_1 cb0_2 cb0_3 lb0 cD1_16_0 cD1_16_1 cD1_16_2 cD1_16_3 lD1_16 cD2_16_0 cD2_16_1 cD2_16_2 cD2_16_3 lD2_16 cD3_16_0 cD3_16_1 cD3_16_2 cD3_16_3 lD3_16 cD4_16_0 cD4_16_1 cD4_16_2 cD4_16_3 lD4_16 cD5_16_0 cD5_16_1 cD5_16_2 cD5_16_3 lD5_16
    refine (eqField_any (kI (vldF W0 H0 n0) W0) (kI (vldF W0 H0 n0) H0) (kI (vldF W0 H0 n0) W0) (kI (vldF W0 H0 n0) H0) (kB (vldF W0 H0 n0) Q0) (kB (vldF W0 H0 n0) Q0) _ _ rn5 _ rn2 _ rx5 rx2 rl5 rl2 (by omega) (by omega) rfl rfl rfl ((rf5).trans (Eq.symm rf2)) _ (ownsRow_varr O5_16) (ownsRow_varr O2_16)).mono ?_
    rintro e w14 ⟨rfl, hX17⟩
    have E17 := Lib.hid (E16.out.trans hX17)
    have D1_17 := hX17.block D1_16
    have D2_17 := hX17.block D2_16
    have D3_17 := hX17.block D3_16
    have D4_17 := hX17.block D4_16
    have D5_17 := hX17.block D5_16
    have O0_17 := ownsRow_ext O0_16 hX17
    have O1_17 := ownsRow_ext O1_16 hX17
    have O2_17 := ownsRow_ext O2_16 hX17
    have O3_17 := ownsRow_ext O3_16 hX17
    have O4_17 := ownsRow_ext O4_16 hX17
    have O5_17 := ownsRow_ext O5_16 hX17
    clear hX17 E16 D1_16 D2_16 D3_16 D4_16 D5_16 O0_16 O1_16 O2_16 O3_16 O4_16 O5_16
    obtain ⟨⟨cb0_0, cb0_1, cb0_2, cb0_3⟩, _⟩ := block4 (E17.out.block B0)
    have lb0 := lt_of_block (E17.out.block B0)
    obtain ⟨⟨cD1_17_0, cD1_17_1, cD1_17_2, cD1_17_3⟩, _⟩ := block4 D1_17
    have lD1_17 := lt_of_block D1_17
    obtain ⟨⟨cD2_17_0, cD2_17_1, cD2_17_2, cD2_17_3⟩, _⟩ := block4 D2_17
    have lD2_17 := lt_of_block D2_17
    obtain ⟨⟨cD3_17_0, cD3_17_1, cD3_17_2, cD3_17_3⟩, _⟩ := block4 D3_17
    have lD3_17 := lt_of_block D3_17
    obtain ⟨⟨cD4_17_0, cD4_17_1, cD4_17_2, cD4_17_3⟩, _⟩ := block4 D4_17
    have lD4_17 := lt_of_block D4_17
    obtain ⟨⟨cD5_17_0, cD5_17_1, cD5_17_2, cD5_17_3⟩, _⟩ := block4 D5_17
    have lD5_17 := lt_of_block D5_17
    go_wp2_with fail
    clear cb0_0 cb0_1 cb0_2 cb0_3 lb0 cD1_17_0 cD1_17_1 cD1_17_2 cD1_17_3 lD1_17 cD2_17_0 cD2_17_1 cD2_17_2 cD2_17_3 lD2_17 cD3_17_0 cD3_17_1 cD3_17_2 cD3_17_3 lD3_17 cD4_17_0 cD4_17_1 cD4_17_2 cD4_17_3 lD4_17 cD5_17_0 cD5_17_1 cD5_17_2 cD5_17_3 lD5_17
    refine (markField_any (kI (vldF W0 H0 n0) W0) (kI (vldF W0 H0 n0) H0) (kB (vldF W0 H0 n0) Q0) ra4 rn4 rc4 _ rx4 1 (by omega) (by omega) (by omega) _ O4_17).mono ?_
    rintro e w15 ⟨rfl, hG18, O4_m18⟩
    have E18 := Lib.hid (Ext.rowv E17.out O4_17 ab9 hG18)
    have D1_18 := block_keep (by decide) O4_17 hG18 D1_17
    have D2_18 := block_keep (by decide) O4_17 hG18 D2_17
    have D3_18 := block_keep (by decide) O4_17 hG18 D3_17
    have D4_18 := block_keep (by decide) O4_17 hG18 D4_17
    have D5_18 := block_keep (by decide) O4_17 hG18 D5_17
    have O0_18 := row_keep1 O0_17 O4_17 lt0_4 hG18
    have O1_18 := row_keep1 O1_17 O4_17 lt1_4 hG18
    have O2_18 := row_keep1 O2_17 O4_17 lt2_4 hG18
    have O3_18 := row_keep1 O3_17 O4_17 lt3_4 hG18
    have O5_18 := row_keepA O5_17 (apart_symm HAP4.out) hG18
    clear hG18 E17 D1_17 D2_17 D3_17 D4_17 D5_17 O0_17 O1_17 O2_17 O3_17 O5_17
    clear O4_17
    obtain ⟨⟨cb0_0, cb0_1, cb0_2, cb0_3⟩, _⟩ := block4 (E18.out.block B0)
    have lb0 := lt_of_block (E18.out.block B0)
    obtain ⟨⟨cD1_18_0, cD1_18_1, cD1_18_2, cD1_18_3⟩, _⟩ := block4 D1_18
    have lD1_18 := lt_of_block D1_18
    obtain ⟨⟨cD2_18_0, cD2_18_1, cD2_18_2, cD2_18_3⟩, _⟩ := block4 D2_18
    have lD2_18 := lt_of_block D2_18
    obtain ⟨⟨cD3_18_0, cD3_18_1, cD3_18_2, cD3_18_3⟩, _⟩ := block4 D3_18
    have lD3_18 := lt_of_block D3_18
    obtain ⟨⟨cD4_18_0, cD4_18_1, cD4_18_2, cD4_18_3⟩, _⟩ := block4 D4_18
    have lD4_18 := lt_of_block D4_18
    obtain ⟨⟨cD5_18_0, cD5_18_1, cD5_18_2, cD5_18_3⟩, _⟩ := block4 D5_18
    have lD5_18 := lt_of_block D5_18
    go_wp2_with fail
    clear cb0_0 cb0_1 cb0_2 cb0_3 lb0 cD1_18_0 cD1_18_1 cD1_18_2 cD1_18_3 lD1_18 cD2_18_0 cD2_18_1 cD2_18_2 cD2_18_3 lD2_18 cD3_18_0 cD3_18_1 cD3_18_2 cD3_18_3 lD3_18 cD4_18_0 cD4_18_1 cD4_18_2 cD4_18_3 lD4_18 cD5_18_0 cD5_18_1 cD5_18_2 cD5_18_3 lD5_18
    refine (markField_any (kI (vldF W0 H0 n0) W0) (kI (vldF W0 H0 n0) H0) (kB (vldF W0 H0 n0) Q0) ra5 rn5 rc5 _ rx5 (1 + rn4) (by omega) (by omega) (by omega) _ O5_18).mono ?_
    rintro e w16 ⟨rfl, hG19, O5_m19⟩
    have E19 := Lib.hid (Ext.rowv E18.out O5_18 ab9 hG19)
    have D1_19 := block_keep (by decide) O5_18 hG19 D1_18
    have D2_19 := block_keep (by decide) O5_18 hG19 D2_18
    have D3_19 := block_keep (by decide) O5_18 hG19 D3_18
    have D4_19 := block_keep (by decide) O5_18 hG19 D4_18
    have D5_19 := block_keep (by decide) O5_18 hG19 D5_18
    have O0_19 := row_keep1 O0_18 O5_18 lt0_4 hG19
    have O1_19 := row_keep1 O1_18 O5_18 lt1_4 hG19
    have O2_19 := row_keep1 O2_18 O5_18 lt2_4 hG19
    have O3_19 := row_keep1 O3_18 O5_18 lt3_4 hG19
    have O4_19 := row_keepA O4_m18 HAP4.out hG19
    clear hG19 E18 D1_18 D2_18 D3_18 D4_18 D5_18 O0_18 O1_18 O2_18 O3_18 O4_m18
    clear O5_18
    obtain ⟨⟨cb0_0, cb0_1, cb0_2, cb0_3⟩, _⟩ := block4 (E19.out.block B0)
    have lb0 := lt_of_block (E19.out.block B0)
    obtain ⟨⟨cD1_19_0, cD1_19_1, cD1_19_2, cD1_19_3⟩, _⟩ := block4 D1_19
    have lD1_19 := lt_of_block D1_19
    obtain ⟨⟨cD2_19_0, cD2_19_1, cD2_19_2, cD2_19_3⟩, _⟩ := block4 D2_19
    have lD2_19 := lt_of_block D2_19
    obtain ⟨⟨cD3_19_0, cD3_19_1, cD3_19_2, cD3_19_3⟩, _⟩ := block4 D3_19
    have lD3_19 := lt_of_block D3_19
    obtain ⟨⟨cD4_19_0, cD4_19_1, cD4_19_2, cD4_19_3⟩, _⟩ := block4 D4_19
    have lD4_19 := lt_of_block D4_19
    obtain ⟨⟨cD5_19_0, cD5_19_1, cD5_19_2, cD5_19_3⟩, _⟩ := block4 D5_19
    have lD5_19 := lt_of_block D5_19
    go_wp2_with fail
    clear cb0_0 cb0_1 cb0_2 cb0_3 lb0 cD1_19_0 cD1_19_1 cD1_19_2 cD1_19_3 lD1_19 cD2_19_0 cD2_19_1 cD2_19_2 cD2_19_3 lD2_19 cD3_19_0 cD3_19_1 cD3_19_2 cD3_19_3 lD3_19 cD4_19_0 cD4_19_1 cD4_19_2 cD4_19_3 lD4_19 cD5_19_0 cD5_19_1 cD5_19_2 cD5_19_3 lD5_19
    refine (heldField_any (kI (vldF W0 H0 n0) W0) (kI (vldF W0 H0 n0) H0) (kB (vldF W0 H0 n0) Q0) ra4 rn4 rc4 1 (by omega) (by omega) (by omega) _ (ownsRow_varr O4_19)).mono ?_
    rintro e w17 ⟨rfl, hX20⟩
    have E20 := Lib.hid (E19.out.trans hX20)
    have D1_20 := hX20.block D1_19
    have D2_20 := hX20.block D2_19
    have D3_20 := hX20.block D3_19
    have D4_20 := hX20.block D4_19
    have D5_20 := hX20.block D5_19
    have O0_20 := ownsRow_ext O0_19 hX20
    have O1_20 := ownsRow_ext O1_19 hX20
    have O2_20 := ownsRow_ext O2_19 hX20
    have O3_20 := ownsRow_ext O3_19 hX20
    have O4_20 := ownsRow_ext O4_19 hX20
    have O5_20 := ownsRow_ext O5_m19 hX20
    clear hX20 E19 D1_19 D2_19 D3_19 D4_19 D5_19 O0_19 O1_19 O2_19 O3_19 O4_19 O5_m19
    obtain ⟨⟨cb0_0, cb0_1, cb0_2, cb0_3⟩, _⟩ := block4 (E20.out.block B0)
    have lb0 := lt_of_block (E20.out.block B0)
    obtain ⟨⟨cD1_20_0, cD1_20_1, cD1_20_2, cD1_20_3⟩, _⟩ := block4 D1_20
    have lD1_20 := lt_of_block D1_20
    obtain ⟨⟨cD2_20_0, cD2_20_1, cD2_20_2, cD2_20_3⟩, _⟩ := block4 D2_20
    have lD2_20 := lt_of_block D2_20
    obtain ⟨⟨cD3_20_0, cD3_20_1, cD3_20_2, cD3_20_3⟩, _⟩ := block4 D3_20
    have lD3_20 := lt_of_block D3_20
    obtain ⟨⟨cD4_20_0, cD4_20_1, cD4_20_2, cD4_20_3⟩, _⟩ := block4 D4_20
    have lD4_20 := lt_of_block D4_20
    obtain ⟨⟨cD5_20_0, cD5_20_1, cD5_20_2, cD5_20_3⟩, _⟩ := block4 D5_20
    have lD5_20 := lt_of_block D5_20
    go_wp2_with fail
    clear cb0_0 cb0_1 cb0_2 cb0_3 lb0 cD1_20_0 cD1_20_1 cD1_20_2 cD1_20_3 lD1_20 cD2_20_0 cD2_20_1 cD2_20_2 cD2_20_3 lD2_20 cD3_20_0 cD3_20_1 cD3_20_2 cD3_20_3 lD3_20 cD4_20_0 cD4_20_1 cD4_20_2 cD4_20_3 lD4_20 cD5_20_0 cD5_20_1 cD5_20_2 cD5_20_3 lD5_20
    refine (heldField_any (kI (vldF W0 H0 n0) W0) (kI (vldF W0 H0 n0) H0) (kB (vldF W0 H0 n0) Q0) ra5 rn5 rc5 (1 + rn4) (by omega) (by omega) (by omega) _ (ownsRow_varr O5_20)).mono ?_
    rintro e w18 ⟨rfl, hX21⟩
    have E21 := Lib.hid (E20.out.trans hX21)
    have D1_21 := hX21.block D1_20
    have D2_21 := hX21.block D2_20
    have D3_21 := hX21.block D3_20
    have D4_21 := hX21.block D4_20
    have D5_21 := hX21.block D5_20
    have O0_21 := ownsRow_ext O0_20 hX21
    have O1_21 := ownsRow_ext O1_20 hX21
    have O2_21 := ownsRow_ext O2_20 hX21
    have O3_21 := ownsRow_ext O3_20 hX21
    have O4_21 := ownsRow_ext O4_20 hX21
    have O5_21 := ownsRow_ext O5_20 hX21
    clear hX21 E20 D1_20 D2_20 D3_20 D4_20 D5_20 O0_20 O1_20 O2_20 O3_20 O4_20 O5_20
    obtain ⟨⟨cb0_0, cb0_1, cb0_2, cb0_3⟩, _⟩ := block4 (E21.out.block B0)
    have lb0 := lt_of_block (E21.out.block B0)
    obtain ⟨⟨cD1_21_0, cD1_21_1, cD1_21_2, cD1_21_3⟩, _⟩ := block4 D1_21
    have lD1_21 := lt_of_block D1_21
    obtain ⟨⟨cD2_21_0, cD2_21_1, cD2_21_2, cD2_21_3⟩, _⟩ := block4 D2_21
    have lD2_21 := lt_of_block D2_21
    obtain ⟨⟨cD3_21_0, cD3_21_1, cD3_21_2, cD3_21_3⟩, _⟩ := block4 D3_21
    have lD3_21 := lt_of_block D3_21
    obtain ⟨⟨cD4_21_0, cD4_21_1, cD4_21_2, cD4_21_3⟩, _⟩ := block4 D4_21
    have lD4_21 := lt_of_block D4_21
    obtain ⟨⟨cD5_21_0, cD5_21_1, cD5_21_2, cD5_21_3⟩, _⟩ := block4 D5_21
    have lD5_21 := lt_of_block D5_21
    go_wp2_with fail
    clear cb0_0 cb0_1 cb0_2 cb0_3 lb0 cD1_21_0 cD1_21_1 cD1_21_2 cD1_21_3 lD1_21 cD2_21_0 cD2_21_1 cD2_21_2 cD2_21_3 lD2_21 cD3_21_0 cD3_21_1 cD3_21_2 cD3_21_3 lD3_21 cD4_21_0 cD4_21_1 cD4_21_2 cD4_21_3 lD4_21 cD5_21_0 cD5_21_1 cD5_21_2 cD5_21_3 lD5_21
    refine (toField_any W0 H0 Q0 s0 n0 c0 zs0 hz0 hl0 _ (VArr.ext R0 E21.out)).mono ?_
    rintro e w19 ⟨b6, rfl, hX22, O6⟩
    have ab22 : wb.heap.size ≤ w18.heap.size := E21.out.size
    have lt0_6 := fun g hg => (O0_21.lt g hg).2
    have lt1_6 := fun g hg => (O1_21.lt g hg).2
    have lt2_6 := fun g hg => (O2_21.lt g hg).2
    have lt3_6 := fun g hg => (O3_21.lt g hg).2
    have lt4_6 := fun g hg => (O4_21.lt g hg).2
    have lt5_6 := fun g hg => (O5_21.lt g hg).2
    have E22 := Lib.hid (E21.out.trans hX22)
    have D1_22 := hX22.block D1_21
    have D2_22 := hX22.block D2_21
    have D3_22 := hX22.block D3_21
    have D4_22 := hX22.block D4_21
    have D5_22 := hX22.block D5_21
    have O0_22 := ownsRow_ext O0_21 hX22
    have O1_22 := ownsRow_ext O1_21 hX22
    have O2_22 := ownsRow_ext O2_21 hX22
    have O3_22 := ownsRow_ext O3_21 hX22
    have O4_22 := ownsRow_ext O4_21 hX22
    have O5_22 := ownsRow_ext O5_21 hX22
    clear hX22 E21 D1_21 D2_21 D3_21 D4_21 D5_21 O0_21 O1_21 O2_21 O3_21 O4_21 O5_21
    obtain ⟨⟨cb0_0, cb0_1, cb0_2, cb0_3⟩, _⟩ := block4 (E22.out.block B0)
    have lb0 := lt_of_block (E22.out.block B0)
    obtain ⟨⟨cD1_22_0, cD1_22_1, cD1_22_2, cD1_22_3⟩, _⟩ := block4 D1_22
    have lD1_22 := lt_of_block D1_22
    obtain ⟨⟨cD2_22_0, cD2_22_1, cD2_22_2, cD2_22_3⟩, _⟩ := block4 D2_22
    have lD2_22 := lt_of_block D2_22
    obtain ⟨⟨cD3_22_0, cD3_22_1, cD3_22_2, cD3_22_3⟩, _⟩ := block4 D3_22
    have lD3_22 := lt_of_block D3_22
    obtain ⟨⟨cD4_22_0, cD4_22_1, cD4_22_2, cD4_22_3⟩, _⟩ := block4 D4_22
    have lD4_22 := lt_of_block D4_22
    obtain ⟨⟨cD5_22_0, cD5_22_1, cD5_22_2, cD5_22_3⟩, _⟩ := block4 D5_22
    have lD5_22 := lt_of_block D5_22
    go_wp2_with fail
    clear cb0_0 cb0_1 cb0_2 cb0_3 lb0 cD1_22_0 cD1_22_1 cD1_22_2 cD1_22_3 lD1_22 cD2_22_0 cD2_22_1 cD2_22_2 cD2_22_3 lD2_22 cD3_22_0 cD3_22_1 cD3_22_2 cD3_22_3 lD3_22 cD4_22_0 cD4_22_1 cD4_22_2 cD4_22_3 lD4_22 cD5_22_0 cD5_22_1 cD5_22_2 cD5_22_3 lD5_22
    refine (implSlopes_any W0 H0 Q0 (some ⟨b6, 0, none⟩) n0 n0 zs0 hz0 hl0 _ (ownsRow_varr O6)).mono ?_
    rintro e w20 ⟨ra7, rn7, rc7, rx7, ra8, rn8, rc8, rx8, rfl, hX23, O7, rl7, re7, rf7, O8, rl8, re8, rf8, hAP7⟩
    have ab23 : wb.heap.size ≤ w19.heap.size := E22.out.size
    have lt0_7 := fun g hg => (O0_22.lt g hg).2
    have lt1_7 := fun g hg => (O1_22.lt g hg).2
    have lt2_7 := fun g hg => (O2_22.lt g hg).2
    have lt3_7 := fun g hg => (O3_22.lt g hg).2
    have lt4_7 := fun g hg => (O4_22.lt g hg).2
    have lt5_7 := fun g hg => (O5_22.lt g hg).2
    have lt6_7 := fun g hg => (O6.lt g hg).2
    have E23 := Lib.hid (E22.out.trans hX23)
    have D1_23 := hX23.block D1_22
    have D2_23 := hX23.block D2_22
    have D3_23 := hX23.block D3_22
    have D4_23 := hX23.block D4_22
    have D5_23 := hX23.block D5_22
    have O0_23 := ownsRow_ext O0_22 hX23
    have O1_23 := ownsRow_ext O1_22 hX23
    have O2_23 := ownsRow_ext O2_22 hX23
    have O3_23 := ownsRow_ext O3_22 hX23
    have O4_23 := ownsRow_ext O4_22 hX23
    have O5_23 := ownsRow_ext O5_22 hX23
    have O6_23 := ownsRow_ext O6 hX23
    clear hX23 E22 D1_22 D2_22 D3_22 D4_22 D5_22 O0_22 O1_22 O2_22 O3_22 O4_22 O5_22 O6
    have HAP7 := Lib.hid hAP7
    clear hAP7
    obtain ⟨⟨cb0_0, cb0_1, cb0_2, cb0_3⟩, _⟩ := block4 (E23.out.block B0)
    have lb0 := lt_of_block (E23.out.block B0)
    obtain ⟨⟨cD1_23_0, cD1_23_1, cD1_23_2, cD1_23_3⟩, _⟩ := block4 D1_23
    have lD1_23 := lt_of_block D1_23
    obtain ⟨⟨cD2_23_0, cD2_23_1, cD2_23_2, cD2_23_3⟩, _⟩ := block4 D2_23
    have lD2_23 := lt_of_block D2_23
    obtain ⟨⟨cD3_23_0, cD3_23_1, cD3_23_2, cD3_23_3⟩, _⟩ := block4 D3_23
    have lD3_23 := lt_of_block D3_23
    obtain ⟨⟨cD4_23_0, cD4_23_1, cD4_23_2, cD4_23_3⟩, _⟩ := block4 D4_23
    have lD4_23 := lt_of_block D4_23
    obtain ⟨⟨cD5_23_0, cD5_23_1, cD5_23_2, cD5_23_3⟩, _⟩ := block4 D5_23
    have lD5_23 := lt_of_block D5_23
    go_wp2_with fail
    clear cb0_0 cb0_1 cb0_2 cb0_3 lb0 cD1_23_0 cD1_23_1 cD1_23_2 cD1_23_3 lD1_23 cD2_23_0 cD2_23_1 cD2_23_2 cD2_23_3 lD2_23 cD3_23_0 cD3_23_1 cD3_23_2 cD3_23_3 lD3_23 cD4_23_0 cD4_23_1 cD4_23_2 cD4_23_3 lD4_23 cD5_23_0 cD5_23_1 cD5_23_2 cD5_23_3 lD5_23
    have hY24 := ((Ext.refl w20).alloc (.cells #[.int .i64 (kI (vldF W0 H0 n0) W0), .int .i64 (kI (vldF W0 H0 n0) H0), .bool (kB (vldF W0 H0 n0) Q0), .slice ra7 rn7 rc7] 27)).alloc (.cells #[.int .i64 (kI (vldF W0 H0 n0) W0), .int .i64 (kI (vldF W0 H0 n0) H0), .bool (kB (vldF W0 H0 n0) Q0), .slice ra8 rn8 rc8] 27)
    have D6 := heap_mid1 w20 (.cells #[.int .i64 (kI (vldF W0 H0 n0) W0), .int .i64 (kI (vldF W0 H0 n0) H0), .bool (kB (vldF W0 H0 n0) Q0), .slice ra7 rn7 rc7] 27) (.cells #[.int .i64 (kI (vldF W0 H0 n0) W0), .int .i64 (kI (vldF W0 H0 n0) H0), .bool (kB (vldF W0 H0 n0) Q0), .slice ra8 rn8 rc8] 27)
    have D7 := heap_new1 w20 (.cells #[.int .i64 (kI (vldF W0 H0 n0) W0), .int .i64 (kI (vldF W0 H0 n0) H0), .bool (kB (vldF W0 H0 n0) Q0), .slice ra7 rn7 rc7] 27) (.cells #[.int .i64 (kI (vldF W0 H0 n0) W0), .int .i64 (kI (vldF W0 H0 n0) H0), .bool (kB (vldF W0 H0 n0) Q0), .slice ra8 rn8 rc8] 27)
    generalize hw24 : (w20.alloc (.cells #[.int .i64 (kI (vldF W0 H0 n0) W0), .int .i64 (kI (vldF W0 H0 n0) H0), .bool (kB (vldF W0 H0 n0) Q0), .slice ra7 rn7 rc7] 27)).alloc (.cells #[.int .i64 (kI (vldF W0 H0 n0) W0), .int .i64 (kI (vldF W0 H0 n0) H0), .bool (kB (vldF W0 H0 n0) Q0), .slice ra8 rn8 rc8] 27) = w21 at *
    clear hw24
    have E25 := Lib.hid (E23.out.trans hY24)
    have D1_25 := hY24.block D1_23
    have D2_25 := hY24.block D2_23
    have D3_25 := hY24.block D3_23
    have D4_25 := hY24.block D4_23
    have D5_25 := hY24.block D5_23
    have O0_25 := ownsRow_ext O0_23 hY24
    have O1_25 := ownsRow_ext O1_23 hY24
    have O2_25 := ownsRow_ext O2_23 hY24
    have O3_25 := ownsRow_ext O3_23 hY24
    have O4_25 := ownsRow_ext O4_23 hY24
    have O5_25 := ownsRow_ext O5_23 hY24
    have O6_25 := ownsRow_ext O6_23 hY24
    have O7_25 := ownsRow_ext O7 hY24
    have O8_25 := ownsRow_ext O8 hY24
    clear hY24 E23 D1_23 D2_23 D3_23 D4_23 D5_23 O0_23 O1_23 O2_23 O3_23 O4_23 O5_23 O6_23 O7 O8
    refine (eqField_any (kI (vldF W0 H0 n0) W0) (kI (vldF W0 H0 n0) H0) (kI (vldF W0 H0 n0) W0) (kI (vldF W0 H0 n0) H0) (kB (vldF W0 H0 n0) Q0) (kB (vldF W0 H0 n0) Q0) _ _ rn7 _ rn1 _ rx7 rx1 rl7 rl1 (by omega) (by omega) rfl rfl rfl ((rf7).trans (Eq.symm rf1)) _ (ownsRow_varr O7_25) (ownsRow_varr O1_25)).mono ?_
    rintro e w22 ⟨rfl, hX26⟩
    have E26 := Lib.hid (E25.out.trans hX26)
    have D1_26 := hX26.block D1_25
    have D2_26 := hX26.block D2_25
    have D3_26 := hX26.block D3_25
    have D4_26 := hX26.block D4_25
    have D5_26 := hX26.block D5_25
    have D6_26 := hX26.block D6
    have D7_26 := hX26.block D7
    have O0_26 := ownsRow_ext O0_25 hX26
    have O1_26 := ownsRow_ext O1_25 hX26
    have O2_26 := ownsRow_ext O2_25 hX26
    have O3_26 := ownsRow_ext O3_25 hX26
    have O4_26 := ownsRow_ext O4_25 hX26
    have O5_26 := ownsRow_ext O5_25 hX26
    have O6_26 := ownsRow_ext O6_25 hX26
    have O7_26 := ownsRow_ext O7_25 hX26
    have O8_26 := ownsRow_ext O8_25 hX26
    clear hX26 E25 D1_25 D2_25 D3_25 D4_25 D5_25 D6 D7 O0_25 O1_25 O2_25 O3_25 O4_25 O5_25 O6_25 O7_25 O8_25
    obtain ⟨⟨cb0_0, cb0_1, cb0_2, cb0_3⟩, _⟩ := block4 (E26.out.block B0)
    have lb0 := lt_of_block (E26.out.block B0)
    obtain ⟨⟨cD1_26_0, cD1_26_1, cD1_26_2, cD1_26_3⟩, _⟩ := block4 D1_26
    have lD1_26 := lt_of_block D1_26
    obtain ⟨⟨cD2_26_0, cD2_26_1, cD2_26_2, cD2_26_3⟩, _⟩ := block4 D2_26
    have lD2_26 := lt_of_block D2_26
    obtain ⟨⟨cD3_26_0, cD3_26_1, cD3_26_2, cD3_26_3⟩, _⟩ := block4 D3_26
    have lD3_26 := lt_of_block D3_26
    obtain ⟨⟨cD4_26_0, cD4_26_1, cD4_26_2, cD4_26_3⟩, _⟩ := block4 D4_26
    have lD4_26 := lt_of_block D4_26
    obtain ⟨⟨cD5_26_0, cD5_26_1, cD5_26_2, cD5_26_3⟩, _⟩ := block4 D5_26
    have lD5_26 := lt_of_block D5_26
    obtain ⟨⟨cD6_26_0, cD6_26_1, cD6_26_2, cD6_26_3⟩, _⟩ := block4 D6_26
    have lD6_26 := lt_of_block D6_26
    obtain ⟨⟨cD7_26_0, cD7_26_1, cD7_26_2, cD7_26_3⟩, _⟩ := block4 D7_26
    have lD7_26 := lt_of_block D7_26
    go_wp2_with fail
    clear cb0_0 cb0_1 cb0_2 cb0_3 lb0 cD1_26_0 cD1_26_1 cD1_26_2 cD1_26_3 lD1_26 cD2_26_0 cD2_26_1 cD2_26_2 cD2_26_3 lD2_26 cD3_26_0 cD3_26_1 cD3_26_2 cD3_26_3 lD3_26 cD4_26_0 cD4_26_1 cD4_26_2 cD4_26_3 lD4_26 cD5_26_0 cD5_26_1 cD5_26_2 cD5_26_3 lD5_26 cD6_26_0 cD6_26_1 cD6_26_2 cD6_26_3 lD6_26 cD7_26_0 cD7_26_1 cD7_26_2 cD7_26_3 lD7_26
    refine (eqField_any (kI (vldF W0 H0 n0) W0) (kI (vldF W0 H0 n0) H0) (kI (vldF W0 H0 n0) W0) (kI (vldF W0 H0 n0) H0) (kB (vldF W0 H0 n0) Q0) (kB (vldF W0 H0 n0) Q0) _ _ rn8 _ rn2 _ rx8 rx2 rl8 rl2 (by omega) (by omega) rfl rfl rfl ((rf8).trans (Eq.symm rf2)) _ (ownsRow_varr O8_26) (ownsRow_varr O2_26)).mono ?_
    rintro e w23 ⟨rfl, hX27⟩
    have E27 := Lib.hid (E26.out.trans hX27)
    have D1_27 := hX27.block D1_26
    have D2_27 := hX27.block D2_26
    have D3_27 := hX27.block D3_26
    have D4_27 := hX27.block D4_26
    have D5_27 := hX27.block D5_26
    have D6_27 := hX27.block D6_26
    have D7_27 := hX27.block D7_26
    have O0_27 := ownsRow_ext O0_26 hX27
    have O1_27 := ownsRow_ext O1_26 hX27
    have O2_27 := ownsRow_ext O2_26 hX27
    have O3_27 := ownsRow_ext O3_26 hX27
    have O4_27 := ownsRow_ext O4_26 hX27
    have O5_27 := ownsRow_ext O5_26 hX27
    have O6_27 := ownsRow_ext O6_26 hX27
    have O7_27 := ownsRow_ext O7_26 hX27
    have O8_27 := ownsRow_ext O8_26 hX27
    clear hX27 E26 D1_26 D2_26 D3_26 D4_26 D5_26 D6_26 D7_26 O0_26 O1_26 O2_26 O3_26 O4_26 O5_26 O6_26 O7_26 O8_26
    obtain ⟨⟨cb0_0, cb0_1, cb0_2, cb0_3⟩, _⟩ := block4 (E27.out.block B0)
    have lb0 := lt_of_block (E27.out.block B0)
    obtain ⟨⟨cD1_27_0, cD1_27_1, cD1_27_2, cD1_27_3⟩, _⟩ := block4 D1_27
    have lD1_27 := lt_of_block D1_27
    obtain ⟨⟨cD2_27_0, cD2_27_1, cD2_27_2, cD2_27_3⟩, _⟩ := block4 D2_27
    have lD2_27 := lt_of_block D2_27
    obtain ⟨⟨cD3_27_0, cD3_27_1, cD3_27_2, cD3_27_3⟩, _⟩ := block4 D3_27
    have lD3_27 := lt_of_block D3_27
    obtain ⟨⟨cD4_27_0, cD4_27_1, cD4_27_2, cD4_27_3⟩, _⟩ := block4 D4_27
    have lD4_27 := lt_of_block D4_27
    obtain ⟨⟨cD5_27_0, cD5_27_1, cD5_27_2, cD5_27_3⟩, _⟩ := block4 D5_27
    have lD5_27 := lt_of_block D5_27
    obtain ⟨⟨cD6_27_0, cD6_27_1, cD6_27_2, cD6_27_3⟩, _⟩ := block4 D6_27
    have lD6_27 := lt_of_block D6_27
    obtain ⟨⟨cD7_27_0, cD7_27_1, cD7_27_2, cD7_27_3⟩, _⟩ := block4 D7_27
    have lD7_27 := lt_of_block D7_27
    go_wp2_with fail
    clear cb0_0 cb0_1 cb0_2 cb0_3 lb0 cD1_27_0 cD1_27_1 cD1_27_2 cD1_27_3 lD1_27 cD2_27_0 cD2_27_1 cD2_27_2 cD2_27_3 lD2_27 cD3_27_0 cD3_27_1 cD3_27_2 cD3_27_3 lD3_27 cD4_27_0 cD4_27_1 cD4_27_2 cD4_27_3 lD4_27 cD5_27_0 cD5_27_1 cD5_27_2 cD5_27_3 lD5_27 cD6_27_0 cD6_27_1 cD6_27_2 cD6_27_3 lD6_27 cD7_27_0 cD7_27_1 cD7_27_2 cD7_27_3 lD7_27
    refine (heldField_any (kI (vldF W0 H0 n0) W0) (kI (vldF W0 H0 n0) H0) (kB (vldF W0 H0 n0) Q0) ra4 rn4 rc4 1 (by omega) (by omega) (by omega) _ (ownsRow_varr O4_27)).mono ?_
    rintro e w24 ⟨rfl, hX28⟩
    have E28 := Lib.hid (E27.out.trans hX28)
    have D1_28 := hX28.block D1_27
    have D2_28 := hX28.block D2_27
    have D3_28 := hX28.block D3_27
    have D4_28 := hX28.block D4_27
    have D5_28 := hX28.block D5_27
    have D6_28 := hX28.block D6_27
    have D7_28 := hX28.block D7_27
    have O0_28 := ownsRow_ext O0_27 hX28
    have O1_28 := ownsRow_ext O1_27 hX28
    have O2_28 := ownsRow_ext O2_27 hX28
    have O3_28 := ownsRow_ext O3_27 hX28
    have O4_28 := ownsRow_ext O4_27 hX28
    have O5_28 := ownsRow_ext O5_27 hX28
    have O6_28 := ownsRow_ext O6_27 hX28
    have O7_28 := ownsRow_ext O7_27 hX28
    have O8_28 := ownsRow_ext O8_27 hX28
    clear hX28 E27 D1_27 D2_27 D3_27 D4_27 D5_27 D6_27 D7_27 O0_27 O1_27 O2_27 O3_27 O4_27 O5_27 O6_27 O7_27 O8_27
    obtain ⟨⟨cb0_0, cb0_1, cb0_2, cb0_3⟩, _⟩ := block4 (E28.out.block B0)
    have lb0 := lt_of_block (E28.out.block B0)
    obtain ⟨⟨cD1_28_0, cD1_28_1, cD1_28_2, cD1_28_3⟩, _⟩ := block4 D1_28
    have lD1_28 := lt_of_block D1_28
    obtain ⟨⟨cD2_28_0, cD2_28_1, cD2_28_2, cD2_28_3⟩, _⟩ := block4 D2_28
    have lD2_28 := lt_of_block D2_28
    obtain ⟨⟨cD3_28_0, cD3_28_1, cD3_28_2, cD3_28_3⟩, _⟩ := block4 D3_28
    have lD3_28 := lt_of_block D3_28
    obtain ⟨⟨cD4_28_0, cD4_28_1, cD4_28_2, cD4_28_3⟩, _⟩ := block4 D4_28
    have lD4_28 := lt_of_block D4_28
    obtain ⟨⟨cD5_28_0, cD5_28_1, cD5_28_2, cD5_28_3⟩, _⟩ := block4 D5_28
    have lD5_28 := lt_of_block D5_28
    obtain ⟨⟨cD6_28_0, cD6_28_1, cD6_28_2, cD6_28_3⟩, _⟩ := block4 D6_28
    have lD6_28 := lt_of_block D6_28
    obtain ⟨⟨cD7_28_0, cD7_28_1, cD7_28_2, cD7_28_3⟩, _⟩ := block4 D7_28
    have lD7_28 := lt_of_block D7_28
    go_wp2_with fail
    clear cb0_0 cb0_1 cb0_2 cb0_3 lb0 cD1_28_0 cD1_28_1 cD1_28_2 cD1_28_3 lD1_28 cD2_28_0 cD2_28_1 cD2_28_2 cD2_28_3 lD2_28 cD3_28_0 cD3_28_1 cD3_28_2 cD3_28_3 lD3_28 cD4_28_0 cD4_28_1 cD4_28_2 cD4_28_3 lD4_28 cD5_28_0 cD5_28_1 cD5_28_2 cD5_28_3 lD5_28 cD6_28_0 cD6_28_1 cD6_28_2 cD6_28_3 lD6_28 cD7_28_0 cD7_28_1 cD7_28_2 cD7_28_3 lD7_28
    refine (heldField_any (kI (vldF W0 H0 n0) W0) (kI (vldF W0 H0 n0) H0) (kB (vldF W0 H0 n0) Q0) ra5 rn5 rc5 (1 + rn4) (by omega) (by omega) (by omega) _ (ownsRow_varr O5_28)).mono ?_
    rintro e w25 ⟨rfl, hX29⟩
    have E29 := Lib.hid (E28.out.trans hX29)
    have D1_29 := hX29.block D1_28
    have D2_29 := hX29.block D2_28
    have D3_29 := hX29.block D3_28
    have D4_29 := hX29.block D4_28
    have D5_29 := hX29.block D5_28
    have D6_29 := hX29.block D6_28
    have D7_29 := hX29.block D7_28
    have O0_29 := ownsRow_ext O0_28 hX29
    have O1_29 := ownsRow_ext O1_28 hX29
    have O2_29 := ownsRow_ext O2_28 hX29
    have O3_29 := ownsRow_ext O3_28 hX29
    have O4_29 := ownsRow_ext O4_28 hX29
    have O5_29 := ownsRow_ext O5_28 hX29
    have O6_29 := ownsRow_ext O6_28 hX29
    have O7_29 := ownsRow_ext O7_28 hX29
    have O8_29 := ownsRow_ext O8_28 hX29
    clear hX29 E28 D1_28 D2_28 D3_28 D4_28 D5_28 D6_28 D7_28 O0_28 O1_28 O2_28 O3_28 O4_28 O5_28 O6_28 O7_28 O8_28
    obtain ⟨⟨cb0_0, cb0_1, cb0_2, cb0_3⟩, _⟩ := block4 (E29.out.block B0)
    have lb0 := lt_of_block (E29.out.block B0)
    obtain ⟨⟨cD1_29_0, cD1_29_1, cD1_29_2, cD1_29_3⟩, _⟩ := block4 D1_29
    have lD1_29 := lt_of_block D1_29
    obtain ⟨⟨cD2_29_0, cD2_29_1, cD2_29_2, cD2_29_3⟩, _⟩ := block4 D2_29
    have lD2_29 := lt_of_block D2_29
    obtain ⟨⟨cD3_29_0, cD3_29_1, cD3_29_2, cD3_29_3⟩, _⟩ := block4 D3_29
    have lD3_29 := lt_of_block D3_29
    obtain ⟨⟨cD4_29_0, cD4_29_1, cD4_29_2, cD4_29_3⟩, _⟩ := block4 D4_29
    have lD4_29 := lt_of_block D4_29
    obtain ⟨⟨cD5_29_0, cD5_29_1, cD5_29_2, cD5_29_3⟩, _⟩ := block4 D5_29
    have lD5_29 := lt_of_block D5_29
    obtain ⟨⟨cD6_29_0, cD6_29_1, cD6_29_2, cD6_29_3⟩, _⟩ := block4 D6_29
    have lD6_29 := lt_of_block D6_29
    obtain ⟨⟨cD7_29_0, cD7_29_1, cD7_29_2, cD7_29_3⟩, _⟩ := block4 D7_29
    have lD7_29 := lt_of_block D7_29
    go_wp2
    go_ret
    exact ⟨rfl, EB.trans E29.out⟩
end Go.Proofs.Ytllpbkmdcaikoaa
