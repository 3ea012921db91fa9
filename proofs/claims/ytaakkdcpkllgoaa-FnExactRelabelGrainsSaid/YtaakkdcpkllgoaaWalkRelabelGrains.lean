/-
  The walk of the statement on RelabelGrains.
-/
import Derived.Test.YtaakkdcpkllgoaaGrP
import Derived.Test.YtaakkdcpkllgoaaLate
import Derived.Test.YtaakkdcpkllgoaaPost
namespace Go.Proofs.Ytaakkdcpkllgoaa
open Go.RowKit
set_option linter.unusedVariables false
set_option linter.unusedSimpArgs false
set_option linter.unnecessarySimpa false

set_option maxRecDepth 100000 in
set_option maxHeartbeats 4000000 in
theorem walk_FnExactRelabelGrains (W0 H0 : Int) (s0 : Option Addr) (n0 c0 : Nat) (zs0 : List Int) (hz0 : zs0.length = n0) (hn0 : n0 ≤ 9223372036854775807) (wW0 : (Lit.int .i64 W0).wf = true) (wH0 : (Lit.int .i64 H0).wf = true) (s1 : Option Addr) (n1 c1 : Nat) (zs1 : List Int) (hz1 : zs1.length = n1) (hn1 : n1 ≤ 9223372036854775807) (w : World) (hR0 : VArr w s0 (ints zs0)) (hR1 : VArr w s1 (ints zs1)) :
    Calls Try.prog 7 #[.agg #[.int .i64 W0, .int .i64 H0, .slice s0 n0 c0], .slice s1 n1 c1] w fun e w' => e = .returned (.bool true) ∧ Ext w w' := by
  have EB : Ext w (w.alloc (.cells #[.int .i64 W0, .int .i64 H0, .slice s0 n0 c0] 33)) := Ext.alloc (Ext.refl w) _
  have B0 := heap_new w (.cells #[.int .i64 W0, .int .i64 H0, .slice s0 n0 c0] 33)
  by_cases hl1 : n1 ≤ 1048576
  case neg =>
    have eS : decide ((1048576 : Int) < (n1 : Int)) = true := by simp; omega
    go_enter Try.func7, Try.ntmps7
    go_wp2
    go_ret
    first | exact ⟨rfl, EB⟩ | exact ⟨rfl, Ext.refl _⟩
  have eS_n1 : decide ((1048576 : Int) < (n1 : Int)) = false := by simp; omega
  by_cases big0 : (1048576 : Int) - n0 < 0
  · -- too large
    go_enter Try.func7, Try.ntmps7
    go_wp2_with fail
    have R0 := hR0.ext EB
    have R1 := hR1.ext EB
    generalize hsz : w.heap.size = pz at *
    generalize (w.alloc (.cells #[.int .i64 W0, .int .i64 H0, .slice s0 n0 c0] 33)) = wb at *
    have HSZ := Lib.hid hsz
    clear hsz
    have E0 : Hid (Ext wb wb) := Ext.refl wb
    refine (szGrains_any W0 H0 s0 n0 c0 (1048576 : Int) hn0 (by omega) (by omega) _).mono ?_
    rw [if_pos (by omega)]
    rintro e w1 ⟨rfl, hX1⟩
    have E1 := Lib.hid (E0.out.trans hX1)
    clear hX1 E0
    obtain ⟨⟨cb0_0, cb0_1, cb0_2⟩, _⟩ := block3 (E1.out.block B0)
    have lb0 := lt_of_block (E1.out.block B0)
    go_wp2
    go_ret
    exact ⟨rfl, EB.trans E1.out⟩
  · -- not so large
    have hl0 : n0 ≤ 1048576 := by omega
    go_enter Try.func7, Try.ntmps7
    go_wp2_with fail
    have R0 := hR0.ext EB
    have R1 := hR1.ext EB
    generalize hsz : w.heap.size = pz at *
    generalize (w.alloc (.cells #[.int .i64 W0, .int .i64 H0, .slice s0 n0 c0] 33)) = wb at *
    have HSZ := Lib.hid hsz
    clear hsz
    have E0 : Hid (Ext wb wb) := Ext.refl wb
    refine (szGrains_any W0 H0 s0 n0 c0 (1048576 : Int) hn0 (by omega) (by omega) _).mono ?_
    rw [if_neg (by omega)]
    rintro e w1 ⟨rfl, hX1⟩
    have E1 := Lib.hid (E0.out.trans hX1)
    clear hX1 E0
    obtain ⟨⟨cb0_0, cb0_1, cb0_2⟩, _⟩ := block3 (E1.out.block B0)
    have lb0 := lt_of_block (E1.out.block B0)
    go_wp2_with fail
    clear cb0_0 cb0_1 cb0_2 lb0
    refine (toGrains_any W0 H0 s0 n0 c0 zs0 hz0 hl0 _ (VArr.ext R0 E1.out)).mono ?_
    rintro e w2 ⟨b0, rfl, hX2, O0⟩
    have ab2 : wb.heap.size ≤ w1.heap.size := E1.out.size
    have E2 := Lib.hid (E1.out.trans hX2)
    clear hX2 E1
    obtain ⟨⟨cb0_0, cb0_1, cb0_2⟩, _⟩ := block3 (E2.out.block B0)
    have lb0 := lt_of_block (E2.out.block B0)
    go_wp2_with fail
    clear cb0_0 cb0_1 cb0_2 lb0
    refine (toInt64S_ex s1 n1 c1 zs1 hz1 hl1 _ (VArr.ext R1 E2.out)).mono ?_
    rintro e w3 ⟨b1, rfl, hX3, O1⟩
    have ab3 : wb.heap.size ≤ w2.heap.size := E2.out.size
    have lt0_1 := fun g hg => (O0.lt g hg).2
    have E3 := Lib.hid (E2.out.trans hX3)
    have O0_3 := ownsRow_ext O0 hX3
    clear hX3 E2 O0
    obtain ⟨⟨cb0_0, cb0_1, cb0_2⟩, _⟩ := block3 (E3.out.block B0)
    have lb0 := lt_of_block (E3.out.block B0)
    go_wp2_with fail
    clear cb0_0 cb0_1 cb0_2 lb0
    refine (specRel_any W0 H0 (some ⟨b0, 0, none⟩) n0 n0 (some ⟨b1, 0, none⟩) n1 n1 zs0 zs1 hz0 hz1 hl0 hl1 _ (ownsRow_varr O0_3) (ownsRow_varr O1)).mono ?_
    rintro e w4 ⟨ra2, rn2, rc2, rfl, hX4, O2, rl2, re2⟩
    have ab4 : wb.heap.size ≤ w3.heap.size := E3.out.size
    have lt0_2 := fun g hg => (O0_3.lt g hg).2
    have lt1_2 := fun g hg => (O1.lt g hg).2
    have E4 := Lib.hid (E3.out.trans hX4)
    have O0_4 := ownsRow_ext O0_3 hX4
    have O1_4 := ownsRow_ext O1 hX4
    clear hX4 E3 O0_3 O1
    obtain ⟨⟨cb0_0, cb0_1, cb0_2⟩, _⟩ := block3 (E4.out.block B0)
    have lb0 := lt_of_block (E4.out.block B0)
    go_wp2_with fail
    clear cb0_0 cb0_1 cb0_2 lb0
    have hY5 := (Ext.refl w4).alloc (.cells #[.int .i64 (keepI (relOk W0 H0 zs0 n1 zs1) W0), .int .i64 (keepI (relOk W0 H0 zs0 n1 zs1) H0), .slice ra2 rn2 rc2] 24)
    have D1 := heap_new w4 (.cells #[.int .i64 (keepI (relOk W0 H0 zs0 n1 zs1) W0), .int .i64 (keepI (relOk W0 H0 zs0 n1 zs1) H0), .slice ra2 rn2 rc2] 24)
    generalize hw5 : w4.alloc (.cells #[.int .i64 (keepI (relOk W0 H0 zs0 n1 zs1) W0), .int .i64 (keepI (relOk W0 H0 zs0 n1 zs1) H0), .slice ra2 rn2 rc2] 24) = w5 at *
    clear hw5
    have E6 := Lib.hid (E4.out.trans hY5)
    have O0_6 := ownsRow_ext O0_4 hY5
    have O1_6 := ownsRow_ext O1_4 hY5
    have O2_6 := ownsRow_ext O2 hY5
    clear hY5 E4 O0_4 O1_4 O2
    refine (toGrains_any W0 H0 s0 n0 c0 zs0 hz0 hl0 _ (VArr.ext R0 E6.out)).mono ?_
    rintro e w6 ⟨b3, rfl, hX7, O3⟩
    have ab7 : wb.heap.size ≤ w5.heap.size := E6.out.size
    have lt0_3 := fun g hg => (O0_6.lt g hg).2
    have lt1_3 := fun g hg => (O1_6.lt g hg).2
    have lt2_3 := fun g hg => (O2_6.lt g hg).2
    have E7 := Lib.hid (E6.out.trans hX7)
    have D1_7 := hX7.block D1
    have O0_7 := ownsRow_ext O0_6 hX7
    have O1_7 := ownsRow_ext O1_6 hX7
    have O2_7 := ownsRow_ext O2_6 hX7
    clear hX7 E6 D1 O0_6 O1_6 O2_6
    obtain ⟨⟨cb0_0, cb0_1, cb0_2⟩, _⟩ := block3 (E7.out.block B0)
    have lb0 := lt_of_block (E7.out.block B0)
    obtain ⟨⟨cD1_7_0, cD1_7_1, cD1_7_2⟩, _⟩ := block3 D1_7
    have lD1_7 := lt_of_block D1_7
    go_wp2_with fail
    clear cb0_0 cb0_1 cb0_2 lb0 cD1_7_0 cD1_7_1 cD1_7_2 lD1_7
    have hY8 := (Ext.refl w6).alloc (.cells #[.int .i64 W0, .int .i64 H0, .slice (some ⟨b3, 0, none⟩) n0 n0] 24)
    have D2 := heap_new w6 (.cells #[.int .i64 W0, .int .i64 H0, .slice (some ⟨b3, 0, none⟩) n0 n0] 24)
    generalize hw8 : w6.alloc (.cells #[.int .i64 W0, .int .i64 H0, .slice (some ⟨b3, 0, none⟩) n0 n0] 24) = w7 at *
    clear hw8
    have E9 := Lib.hid (E7.out.trans hY8)
    have D1_9 := hY8.block D1_7
    have O0_9 := ownsRow_ext O0_7 hY8
    have O1_9 := ownsRow_ext O1_7 hY8
    have O2_9 := ownsRow_ext O2_7 hY8
    have O3_9 := ownsRow_ext O3 hY8
    clear hY8 E7 D1_7 O0_7 O1_7 O2_7 O3
    refine (toInt64S_ex s1 n1 c1 zs1 hz1 hl1 _ (VArr.ext R1 E9.out)).mono ?_
    rintro e w8 ⟨b4, rfl, hX10, O4⟩
    have ab10 : wb.heap.size ≤ w7.heap.size := E9.out.size
    have lt0_4 := fun g hg => (O0_9.lt g hg).2
    have lt1_4 := fun g hg => (O1_9.lt g hg).2
    have lt2_4 := fun g hg => (O2_9.lt g hg).2
    have lt3_4 := fun g hg => (O3_9.lt g hg).2
    have E10 := Lib.hid (E9.out.trans hX10)
    have D1_10 := hX10.block D1_9
    have D2_10 := hX10.block D2
    have O0_10 := ownsRow_ext O0_9 hX10
    have O1_10 := ownsRow_ext O1_9 hX10
    have O2_10 := ownsRow_ext O2_9 hX10
    have O3_10 := ownsRow_ext O3_9 hX10
    clear hX10 E9 D1_9 D2 O0_9 O1_9 O2_9 O3_9
    obtain ⟨⟨cb0_0, cb0_1, cb0_2⟩, _⟩ := block3 (E10.out.block B0)
    have lb0 := lt_of_block (E10.out.block B0)
    obtain ⟨⟨cD1_10_0, cD1_10_1, cD1_10_2⟩, _⟩ := block3 D1_10
    have lD1_10 := lt_of_block D1_10
    obtain ⟨⟨cD2_10_0, cD2_10_1, cD2_10_2⟩, _⟩ := block3 D2_10
    have lD2_10 := lt_of_block D2_10
    go_wp2_with fail
    clear cb0_0 cb0_1 cb0_2 lb0 cD1_10_0 cD1_10_1 cD1_10_2 lD1_10 cD2_10_0 cD2_10_1 cD2_10_2 lD2_10
    refine (implRel_any W0 H0 (some ⟨b3, 0, none⟩) n0 n0 (some ⟨b4, 0, none⟩) n1 n1 zs0 zs1 hz0 hz1 hl0 hl1 _ (ownsRow_varr O3_10) (ownsRow_varr O4)).mono ?_
    rintro e w9 ⟨ra5, rn5, rc5, rfl, hX11, O5, rl5, re5⟩
    have ab11 : wb.heap.size ≤ w8.heap.size := E10.out.size
    have lt0_5 := fun g hg => (O0_10.lt g hg).2
    have lt1_5 := fun g hg => (O1_10.lt g hg).2
    have lt2_5 := fun g hg => (O2_10.lt g hg).2
    have lt3_5 := fun g hg => (O3_10.lt g hg).2
    have lt4_5 := fun g hg => (O4.lt g hg).2
    have E11 := Lib.hid (E10.out.trans hX11)
    have D1_11 := hX11.block D1_10
    have D2_11 := hX11.block D2_10
    have O0_11 := ownsRow_ext O0_10 hX11
    have O1_11 := ownsRow_ext O1_10 hX11
    have O2_11 := ownsRow_ext O2_10 hX11
    have O3_11 := ownsRow_ext O3_10 hX11
    have O4_11 := ownsRow_ext O4 hX11
    clear hX11 E10 D1_10 D2_10 O0_10 O1_10 O2_10 O3_10 O4
    obtain ⟨⟨cb0_0, cb0_1, cb0_2⟩, _⟩ := block3 (E11.out.block B0)
    have lb0 := lt_of_block (E11.out.block B0)
    obtain ⟨⟨cD1_11_0, cD1_11_1, cD1_11_2⟩, _⟩ := block3 D1_11
    have lD1_11 := lt_of_block D1_11
    obtain ⟨⟨cD2_11_0, cD2_11_1, cD2_11_2⟩, _⟩ := block3 D2_11
    have lD2_11 := lt_of_block D2_11
    go_wp2_with fail
    clear cb0_0 cb0_1 cb0_2 lb0 cD1_11_0 cD1_11_1 cD1_11_2 lD1_11 cD2_11_0 cD2_11_1 cD2_11_2 lD2_11
    have hY12 := (Ext.refl w9).alloc (.cells #[.int .i64 (keepI (relOk W0 H0 zs0 n1 zs1) W0), .int .i64 (keepI (relOk W0 H0 zs0 n1 zs1) H0), .slice ra5 rn5 rc5] 24)
    have D3 := heap_new w9 (.cells #[.int .i64 (keepI (relOk W0 H0 zs0 n1 zs1) W0), .int .i64 (keepI (relOk W0 H0 zs0 n1 zs1) H0), .slice ra5 rn5 rc5] 24)
    generalize hw12 : w9.alloc (.cells #[.int .i64 (keepI (relOk W0 H0 zs0 n1 zs1) W0), .int .i64 (keepI (relOk W0 H0 zs0 n1 zs1) H0), .slice ra5 rn5 rc5] 24) = w10 at *
    clear hw12
    have E13 := Lib.hid (E11.out.trans hY12)
    have D1_13 := hY12.block D1_11
    have D2_13 := hY12.block D2_11
    have O0_13 := ownsRow_ext O0_11 hY12
    have O1_13 := ownsRow_ext O1_11 hY12
    have O2_13 := ownsRow_ext O2_11 hY12
    have O3_13 := ownsRow_ext O3_11 hY12
    have O4_13 := ownsRow_ext O4_11 hY12
    have O5_13 := ownsRow_ext O5 hY12
    clear hY12 E11 D1_11 D2_11 O0_11 O1_11 O2_11 O3_11 O4_11 O5
    refine (eqGrains_any (keepI (relOk W0 H0 zs0 n1 zs1) W0) (keepI (relOk W0 H0 zs0 n1 zs1) H0) (keepI (relOk W0 H0 zs0 n1 zs1) W0) (keepI (relOk W0 H0 zs0 n1 zs1) H0) _ _ rn5 _ rn2 _ (keepL (relOk W0 H0 zs0 n1 zs1) (relZ W0 H0 zs0 zs1)) (keepL (relOk W0 H0 zs0 n1 zs1) (relZ W0 H0 zs0 zs1)) rl5 rl2 (by omega) (by omega) rfl rfl rfl _ (ownsRow_varr O5_13) (ownsRow_varr O2_13)).mono ?_
    rintro e w11 ⟨rfl, hX14⟩
    have E14 := Lib.hid (E13.out.trans hX14)
    have D1_14 := hX14.block D1_13
    have D2_14 := hX14.block D2_13
    have D3_14 := hX14.block D3
    have O0_14 := ownsRow_ext O0_13 hX14
    have O1_14 := ownsRow_ext O1_13 hX14
    have O2_14 := ownsRow_ext O2_13 hX14
    have O3_14 := ownsRow_ext O3_13 hX14
    have O4_14 := ownsRow_ext O4_13 hX14
    have O5_14 := ownsRow_ext O5_13 hX14
    clear hX14 E13 D1_13 D2_13 D3 O0_13 O1_13 O2_13 O3_13 O4_13 O5_13
    obtain ⟨⟨cb0_0, cb0_1, cb0_2⟩, _⟩ := block3 (E14.out.block B0)
    have lb0 := lt_of_block (E14.out.block B0)
    obtain ⟨⟨cD1_14_0, cD1_14_1, cD1_14_2⟩, _⟩ := block3 D1_14
    have lD1_14 := lt_of_block D1_14
    obtain ⟨⟨cD2_14_0, cD2_14_1, cD2_14_2⟩, _⟩ := block3 D2_14
    have lD2_14 := lt_of_block D2_14
    obtain ⟨⟨cD3_14_0, cD3_14_1, cD3_14_2⟩, _⟩ := block3 D3_14
    have lD3_14 := lt_of_block D3_14
    go_wp2_with fail
    clear cb0_0 cb0_1 cb0_2 lb0 cD1_14_0 cD1_14_1 cD1_14_2 lD1_14 cD2_14_0 cD2_14_1 cD2_14_2 lD2_14 cD3_14_0 cD3_14_1 cD3_14_2 lD3_14
    refine region_grow (C := Ext w11) (K := fun f args v wv => (f = 25 → toPostHeights w11 args v wv) ∧ (f = 18 → v = .bool true)) ⟨fun _ _ h k => h.trans k, fun f args v u u' h ex => ⟨(fun hf => ((h.1) hf).ext ex), ((h.2))⟩⟩ (by kernel_rfl) (by kernel_rfl) ((Ext.refl w11).drew) ?_
    refine grow_det (c := .agg #[.int .i64 W0, .int .i64 H0, .slice (some ⟨b3, 0, none⟩) n0 n0]) rfl (fun u hu _ => ?_) ?_
    · obtain ⟨⟨d0, d1, d2⟩, _⟩ := block3 (hu.block D2_14)
      go_simp
    refine grow_det (c := .agg #[.int .i64 W0, .int .i64 H0, .slice s0 n0 c0]) rfl (fun u hu _ => ?_) ?_
    · obtain ⟨⟨d0, d1, d2⟩, _⟩ := block3 (hu.block (E14.out.block B0))
      go_simp
    refine grow_cg 25 (fun v => ∃ b, v = .agg #[.int .i64 W0, .int .i64 H0, .slice (some ⟨b, 0, none⟩) n0 n0]) (fun v wv => ∃ b, v = .agg #[.int .i64 W0, .int .i64 H0, .slice (some ⟨b, 0, none⟩) n0 n0] ∧ VArr wv (some ⟨b, 0, none⟩) (ints zs0)) rfl ?_
    refine ⟨#[.agg #[.int .i64 W0, .int .i64 H0, .slice s0 n0 c0]], fun u => ?_, fun u hu _ => ?_, fun v u h => ?_, fun v hv => ?_⟩
    · go_simp
    · refine (toGrains_any W0 H0 s0 n0 c0 zs0 hz0 hl0 _ (VArr.ext (VArr.ext R0 E14.out) hu)).mono fun e u' h => ?_
      obtain ⟨b, he, hx, ho⟩ := h
      exact ⟨_, he, hx, ⟨(fun _ => toPostHeights_mk hz0 (VArr.ext R0 E14.out) (ownsRow_varr ho)), (fun h => by cases h)⟩⟩
    · exact toPostHeights_get ((h.1) rfl) hz0 (VArr.ext R0 E14.out)
    obtain ⟨bq1, rfl⟩ := hv
    refine grow_c1 18 rfl ?_
    refine ⟨#[.agg #[.int .i64 W0, .int .i64 H0, .slice (some ⟨b3, 0, none⟩) n0 n0], .agg #[.int .i64 W0, .int .i64 H0, .slice (some ⟨bq1, 0, none⟩) n0 n0]], fun u => ?_, .bool true, fun u hu hk => ?_, fun v u h => (h.2) rfl, fun u => ⟨(fun h => by cases h), (fun _ => rfl)⟩, ?_⟩
    · go_simp
    · exact eqGrains_any W0 H0 W0 H0 _ _ n0 _ n0 _ zs0 zs0 hz0 hz0 (by omega) (by omega) rfl rfl rfl _ (VArr.ext (ownsRow_varr O3_14) hu) (by obtain ⟨b, hb, hv⟩ := hk 54 (by simp [Oper.looksAt, Op.operands, Call.operands]); simp at hb; subst hb; exact hv)
    refine grow_q rfl ?_
    apply Exists.intro
    refine ⟨fun u hu _ => ?_, ?_⟩
    · go_simp; try rfl
    refine grow_nil (fun w12 hX15 hh => ?_)
    obtain ⟨_, _⟩ := hh
    go_simp
    have E15 := Lib.hid (E14.out.trans hX15)
    have D1_15 := hX15.block D1_14
    have D2_15 := hX15.block D2_14
    have D3_15 := hX15.block D3_14
    have O0_15 := ownsRow_ext O0_14 hX15
    have O1_15 := ownsRow_ext O1_14 hX15
    have O2_15 := ownsRow_ext O2_14 hX15
    have O3_15 := ownsRow_ext O3_14 hX15
    have O4_15 := ownsRow_ext O4_14 hX15
    have O5_15 := ownsRow_ext O5_14 hX15
    clear hX15 E14 D1_14 D2_14 D3_14 O0_14 O1_14 O2_14 O3_14 O4_14 O5_14
    obtain ⟨⟨cb0_0, cb0_1, cb0_2⟩, _⟩ := block3 (E15.out.block B0)
    have lb0 := lt_of_block (E15.out.block B0)
    obtain ⟨⟨cD1_15_0, cD1_15_1, cD1_15_2⟩, _⟩ := block3 D1_15
    have lD1_15 := lt_of_block D1_15
    obtain ⟨⟨cD2_15_0, cD2_15_1, cD2_15_2⟩, _⟩ := block3 D2_15
    have lD2_15 := lt_of_block D2_15
    obtain ⟨⟨cD3_15_0, cD3_15_1, cD3_15_2⟩, _⟩ := block3 D3_15
    have lD3_15 := lt_of_block D3_15
    go_wp2_with fail
    clear cb0_0 cb0_1 cb0_2 lb0 cD1_15_0 cD1_15_1 cD1_15_2 lD1_15 cD2_15_0 cD2_15_1 cD2_15_2 lD2_15 cD3_15_0 cD3_15_1 cD3_15_2 lD3_15
    refine (toInt64S_ex s1 n1 c1 zs1 hz1 hl1 _ (VArr.ext R1 E15.out)).mono ?_
    rintro e w13 ⟨b6, rfl, hX16, O6⟩
    have ab16 : wb.heap.size ≤ w12.heap.size := E15.out.size
    have lt0_6 := fun g hg => (O0_15.lt g hg).2
    have lt1_6 := fun g hg => (O1_15.lt g hg).2
    have lt2_6 := fun g hg => (O2_15.lt g hg).2
    have lt3_6 := fun g hg => (O3_15.lt g hg).2
    have lt4_6 := fun g hg => (O4_15.lt g hg).2
    have lt5_6 := fun g hg => (O5_15.lt g hg).2
    have E16 := Lib.hid (E15.out.trans hX16)
    have D1_16 := hX16.block D1_15
    have D2_16 := hX16.block D2_15
    have D3_16 := hX16.block D3_15
    have O0_16 := ownsRow_ext O0_15 hX16
    have O1_16 := ownsRow_ext O1_15 hX16
    have O2_16 := ownsRow_ext O2_15 hX16
    have O3_16 := ownsRow_ext O3_15 hX16
    have O4_16 := ownsRow_ext O4_15 hX16
    have O5_16 := ownsRow_ext O5_15 hX16
    clear hX16 E15 D1_15 D2_15 D3_15 O0_15 O1_15 O2_15 O3_15 O4_15 O5_15
    obtain ⟨⟨cb0_0, cb0_1, cb0_2⟩, _⟩ := block3 (E16.out.block B0)
    have lb0 := lt_of_block (E16.out.block B0)
    obtain ⟨⟨cD1_16_0, cD1_16_1, cD1_16_2⟩, _⟩ := block3 D1_16
    have lD1_16 := lt_of_block D1_16
    obtain ⟨⟨cD2_16_0, cD2_16_1, cD2_16_2⟩, _⟩ := block3 D2_16
    have lD2_16 := lt_of_block D2_16
    obtain ⟨⟨cD3_16_0, cD3_16_1, cD3_16_2⟩, _⟩ := block3 D3_16
    have lD3_16 := lt_of_block D3_16
    go_wp2_with fail
    clear cb0_0 cb0_1 cb0_2 lb0 cD1_16_0 cD1_16_1 cD1_16_2 lD1_16 cD2_16_0 cD2_16_1 cD2_16_2 lD2_16 cD3_16_0 cD3_16_1 cD3_16_2 lD3_16
    refine (eqInt64S_all _ _ n1 _ n1 _ zs1 zs1 hz1 hz1 (by omega) (by omega) rfl _ (ownsRow_varr O4_16) (ownsRow_varr O6)).mono ?_
    rintro e w14 ⟨rfl, hX17⟩
    have E17 := Lib.hid (E16.out.trans hX17)
    have D1_17 := hX17.block D1_16
    have D2_17 := hX17.block D2_16
    have D3_17 := hX17.block D3_16
    have O0_17 := ownsRow_ext O0_16 hX17
    have O1_17 := ownsRow_ext O1_16 hX17
    have O2_17 := ownsRow_ext O2_16 hX17
    have O3_17 := ownsRow_ext O3_16 hX17
    have O4_17 := ownsRow_ext O4_16 hX17
    have O5_17 := ownsRow_ext O5_16 hX17
    have O6_17 := ownsRow_ext O6 hX17
    clear hX17 E16 D1_16 D2_16 D3_16 O0_16 O1_16 O2_16 O3_16 O4_16 O5_16 O6
    obtain ⟨⟨cb0_0, cb0_1, cb0_2⟩, _⟩ := block3 (E17.out.block B0)
    have lb0 := lt_of_block (E17.out.block B0)
    obtain ⟨⟨cD1_17_0, cD1_17_1, cD1_17_2⟩, _⟩ := block3 D1_17
    have lD1_17 := lt_of_block D1_17
    obtain ⟨⟨cD2_17_0, cD2_17_1, cD2_17_2⟩, _⟩ := block3 D2_17
    have lD2_17 := lt_of_block D2_17
    obtain ⟨⟨cD3_17_0, cD3_17_1, cD3_17_2⟩, _⟩ := block3 D3_17
    have lD3_17 := lt_of_block D3_17
    go_wp2_with fail
    clear cb0_0 cb0_1 cb0_2 lb0 cD1_17_0 cD1_17_1 cD1_17_2 lD1_17 cD2_17_0 cD2_17_1 cD2_17_2 lD2_17 cD3_17_0 cD3_17_1 cD3_17_2 lD3_17
    refine (markGrains_any W0 H0 (some ⟨b3, 0, none⟩) n0 n0 _ zs0 1 (by omega) (by omega) (by omega) _ O3_17).mono ?_
    rintro e w15 ⟨rfl, hG18, O3_m18⟩
    have E18 := Lib.hid (Ext.rowv E17.out O3_17 ab7 hG18)
    have D1_18 := block_keep (by decide) O3_17 hG18 D1_17
    have D2_18 := block_keep (by decide) O3_17 hG18 D2_17
    have D3_18 := block_keep (by decide) O3_17 hG18 D3_17
    have O0_18 := row_keep1 O0_17 O3_17 lt0_3 hG18
    have O1_18 := row_keep1 O1_17 O3_17 lt1_3 hG18
    have O2_18 := row_keep1 O2_17 O3_17 lt2_3 hG18
    have O4_18 := row_keep2 O4_17 O3_17 lt3_4 hG18
    have O5_18 := row_keep2 O5_17 O3_17 lt3_5 hG18
    have O6_18 := row_keep2 O6_17 O3_17 lt3_6 hG18
    clear hG18 E17 D1_17 D2_17 D3_17 O0_17 O1_17 O2_17 O4_17 O5_17 O6_17
    clear O3_17
    obtain ⟨⟨cb0_0, cb0_1, cb0_2⟩, _⟩ := block3 (E18.out.block B0)
    have lb0 := lt_of_block (E18.out.block B0)
    obtain ⟨⟨cD1_18_0, cD1_18_1, cD1_18_2⟩, _⟩ := block3 D1_18
    have lD1_18 := lt_of_block D1_18
    obtain ⟨⟨cD2_18_0, cD2_18_1, cD2_18_2⟩, _⟩ := block3 D2_18
    have lD2_18 := lt_of_block D2_18
    obtain ⟨⟨cD3_18_0, cD3_18_1, cD3_18_2⟩, _⟩ := block3 D3_18
    have lD3_18 := lt_of_block D3_18
    go_wp2_with fail
    clear cb0_0 cb0_1 cb0_2 lb0 cD1_18_0 cD1_18_1 cD1_18_2 lD1_18 cD2_18_0 cD2_18_1 cD2_18_2 lD2_18 cD3_18_0 cD3_18_1 cD3_18_2 lD3_18
    refine (markInt64S_any (some ⟨b4, 0, none⟩) n1 n1 _ zs1 (1 + n0) (by omega) (by omega) (by omega) _ O4_18).mono ?_
    rintro e w16 ⟨rfl, hG19, O4_m19⟩
    have E19 := Lib.hid (Ext.rowv E18.out O4_18 ab10 hG19)
    have D1_19 := block_keep (by decide) O4_18 hG19 D1_18
    have D2_19 := block_keep (by decide) O4_18 hG19 D2_18
    have D3_19 := block_keep (by decide) O4_18 hG19 D3_18
    have O0_19 := row_keep1 O0_18 O4_18 lt0_4 hG19
    have O1_19 := row_keep1 O1_18 O4_18 lt1_4 hG19
    have O2_19 := row_keep1 O2_18 O4_18 lt2_4 hG19
    have O3_19 := row_keep1 O3_m18 O4_18 lt3_4 hG19
    have O5_19 := row_keep2 O5_18 O4_18 lt4_5 hG19
    have O6_19 := row_keep2 O6_18 O4_18 lt4_6 hG19
    clear hG19 E18 D1_18 D2_18 D3_18 O0_18 O1_18 O2_18 O3_m18 O5_18 O6_18
    clear O4_18
    obtain ⟨⟨cb0_0, cb0_1, cb0_2⟩, _⟩ := block3 (E19.out.block B0)
    have lb0 := lt_of_block (E19.out.block B0)
    obtain ⟨⟨cD1_19_0, cD1_19_1, cD1_19_2⟩, _⟩ := block3 D1_19
    have lD1_19 := lt_of_block D1_19
    obtain ⟨⟨cD2_19_0, cD2_19_1, cD2_19_2⟩, _⟩ := block3 D2_19
    have lD2_19 := lt_of_block D2_19
    obtain ⟨⟨cD3_19_0, cD3_19_1, cD3_19_2⟩, _⟩ := block3 D3_19
    have lD3_19 := lt_of_block D3_19
    go_wp2_with fail
    clear cb0_0 cb0_1 cb0_2 lb0 cD1_19_0 cD1_19_1 cD1_19_2 lD1_19 cD2_19_0 cD2_19_1 cD2_19_2 lD2_19 cD3_19_0 cD3_19_1 cD3_19_2 lD3_19
    refine (eqGrains_any (keepI (relOk W0 H0 zs0 n1 zs1) W0) (keepI (relOk W0 H0 zs0 n1 zs1) H0) (keepI (relOk W0 H0 zs0 n1 zs1) W0) (keepI (relOk W0 H0 zs0 n1 zs1) H0) _ _ rn5 _ rn2 _ (keepL (relOk W0 H0 zs0 n1 zs1) (relZ W0 H0 zs0 zs1)) (keepL (relOk W0 H0 zs0 n1 zs1) (relZ W0 H0 zs0 zs1)) rl5 rl2 (by omega) (by omega) rfl rfl rfl _ (ownsRow_varr O5_19) (ownsRow_varr O2_19)).mono ?_
    rintro e w17 ⟨rfl, hX20⟩
    have E20 := Lib.hid (E19.out.trans hX20)
    have D1_20 := hX20.block D1_19
    have D2_20 := hX20.block D2_19
    have D3_20 := hX20.block D3_19
    have O0_20 := ownsRow_ext O0_19 hX20
    have O1_20 := ownsRow_ext O1_19 hX20
    have O2_20 := ownsRow_ext O2_19 hX20
    have O3_20 := ownsRow_ext O3_19 hX20
    have O4_20 := ownsRow_ext O4_m19 hX20
    have O5_20 := ownsRow_ext O5_19 hX20
    have O6_20 := ownsRow_ext O6_19 hX20
    clear hX20 E19 D1_19 D2_19 D3_19 O0_19 O1_19 O2_19 O3_19 O4_m19 O5_19 O6_19
    obtain ⟨⟨cb0_0, cb0_1, cb0_2⟩, _⟩ := block3 (E20.out.block B0)
    have lb0 := lt_of_block (E20.out.block B0)
    obtain ⟨⟨cD1_20_0, cD1_20_1, cD1_20_2⟩, _⟩ := block3 D1_20
    have lD1_20 := lt_of_block D1_20
    obtain ⟨⟨cD2_20_0, cD2_20_1, cD2_20_2⟩, _⟩ := block3 D2_20
    have lD2_20 := lt_of_block D2_20
    obtain ⟨⟨cD3_20_0, cD3_20_1, cD3_20_2⟩, _⟩ := block3 D3_20
    have lD3_20 := lt_of_block D3_20
    go_wp2_with fail
    clear cb0_0 cb0_1 cb0_2 lb0 cD1_20_0 cD1_20_1 cD1_20_2 lD1_20 cD2_20_0 cD2_20_1 cD2_20_2 lD2_20 cD3_20_0 cD3_20_1 cD3_20_2 lD3_20
    refine (markGrains_any (keepI (relOk W0 H0 zs0 n1 zs1) W0) (keepI (relOk W0 H0 zs0 n1 zs1) H0) ra5 rn5 rc5 _ (keepL (relOk W0 H0 zs0 n1 zs1) (relZ W0 H0 zs0 zs1)) 1 (by omega) (by omega) (by omega) _ O5_20).mono ?_
    rintro e w18 ⟨rfl, hG21, O5_m21⟩
    have E21 := Lib.hid (Ext.rowv E20.out O5_20 ab11 hG21)
    have D1_21 := block_keep (by decide) O5_20 hG21 D1_20
    have D2_21 := block_keep (by decide) O5_20 hG21 D2_20
    have D3_21 := block_keep (by decide) O5_20 hG21 D3_20
    have O0_21 := row_keep1 O0_20 O5_20 lt0_5 hG21
    have O1_21 := row_keep1 O1_20 O5_20 lt1_5 hG21
    have O2_21 := row_keep1 O2_20 O5_20 lt2_5 hG21
    have O3_21 := row_keep1 O3_20 O5_20 lt3_5 hG21
    have O4_21 := row_keep1 O4_20 O5_20 lt4_5 hG21
    have O6_21 := row_keep2 O6_20 O5_20 lt5_6 hG21
    clear hG21 E20 D1_20 D2_20 D3_20 O0_20 O1_20 O2_20 O3_20 O4_20 O6_20
    clear O5_20
    obtain ⟨⟨cb0_0, cb0_1, cb0_2⟩, _⟩ := block3 (E21.out.block B0)
    have lb0 := lt_of_block (E21.out.block B0)
    obtain ⟨⟨cD1_21_0, cD1_21_1, cD1_21_2⟩, _⟩ := block3 D1_21
    have lD1_21 := lt_of_block D1_21
    obtain ⟨⟨cD2_21_0, cD2_21_1, cD2_21_2⟩, _⟩ := block3 D2_21
    have lD2_21 := lt_of_block D2_21
    obtain ⟨⟨cD3_21_0, cD3_21_1, cD3_21_2⟩, _⟩ := block3 D3_21
    have lD3_21 := lt_of_block D3_21
    go_wp2_with fail
    clear cb0_0 cb0_1 cb0_2 lb0 cD1_21_0 cD1_21_1 cD1_21_2 lD1_21 cD2_21_0 cD2_21_1 cD2_21_2 lD2_21 cD3_21_0 cD3_21_1 cD3_21_2 lD3_21
    refine (heldGrains_any (keepI (relOk W0 H0 zs0 n1 zs1) W0) (keepI (relOk W0 H0 zs0 n1 zs1) H0) ra5 rn5 rc5 1 (by omega) (by omega) (by omega) _ (ownsRow_varr O5_m21)).mono ?_
    rintro e w19 ⟨rfl, hX22⟩
    have E22 := Lib.hid (E21.out.trans hX22)
    have D1_22 := hX22.block D1_21
    have D2_22 := hX22.block D2_21
    have D3_22 := hX22.block D3_21
    have O0_22 := ownsRow_ext O0_21 hX22
    have O1_22 := ownsRow_ext O1_21 hX22
    have O2_22 := ownsRow_ext O2_21 hX22
    have O3_22 := ownsRow_ext O3_21 hX22
    have O4_22 := ownsRow_ext O4_21 hX22
    have O5_22 := ownsRow_ext O5_m21 hX22
    have O6_22 := ownsRow_ext O6_21 hX22
    clear hX22 E21 D1_21 D2_21 D3_21 O0_21 O1_21 O2_21 O3_21 O4_21 O5_m21 O6_21
    obtain ⟨⟨cb0_0, cb0_1, cb0_2⟩, _⟩ := block3 (E22.out.block B0)
    have lb0 := lt_of_block (E22.out.block B0)
    obtain ⟨⟨cD1_22_0, cD1_22_1, cD1_22_2⟩, _⟩ := block3 D1_22
    have lD1_22 := lt_of_block D1_22
    obtain ⟨⟨cD2_22_0, cD2_22_1, cD2_22_2⟩, _⟩ := block3 D2_22
    have lD2_22 := lt_of_block D2_22
    obtain ⟨⟨cD3_22_0, cD3_22_1, cD3_22_2⟩, _⟩ := block3 D3_22
    have lD3_22 := lt_of_block D3_22
    go_wp2_with fail
    clear cb0_0 cb0_1 cb0_2 lb0 cD1_22_0 cD1_22_1 cD1_22_2 lD1_22 cD2_22_0 cD2_22_1 cD2_22_2 lD2_22 cD3_22_0 cD3_22_1 cD3_22_2 lD3_22
    refine (toGrains_any W0 H0 s0 n0 c0 zs0 hz0 hl0 _ (VArr.ext R0 E22.out)).mono ?_
    rintro e w20 ⟨b7, rfl, hX23, O7⟩
    have ab23 : wb.heap.size ≤ w19.heap.size := E22.out.size
    have lt0_7 := fun g hg => (O0_22.lt g hg).2
    have lt1_7 := fun g hg => (O1_22.lt g hg).2
    have lt2_7 := fun g hg => (O2_22.lt g hg).2
    have lt3_7 := fun g hg => (O3_22.lt g hg).2
    have lt4_7 := fun g hg => (O4_22.lt g hg).2
    have lt5_7 := fun g hg => (O5_22.lt g hg).2
    have lt6_7 := fun g hg => (O6_22.lt g hg).2
    have E23 := Lib.hid (E22.out.trans hX23)
    have D1_23 := hX23.block D1_22
    have D2_23 := hX23.block D2_22
    have D3_23 := hX23.block D3_22
    have O0_23 := ownsRow_ext O0_22 hX23
    have O1_23 := ownsRow_ext O1_22 hX23
    have O2_23 := ownsRow_ext O2_22 hX23
    have O3_23 := ownsRow_ext O3_22 hX23
    have O4_23 := ownsRow_ext O4_22 hX23
    have O5_23 := ownsRow_ext O5_22 hX23
    have O6_23 := ownsRow_ext O6_22 hX23
    clear hX23 E22 D1_22 D2_22 D3_22 O0_22 O1_22 O2_22 O3_22 O4_22 O5_22 O6_22
    obtain ⟨⟨cb0_0, cb0_1, cb0_2⟩, _⟩ := block3 (E23.out.block B0)
    have lb0 := lt_of_block (E23.out.block B0)
    obtain ⟨⟨cD1_23_0, cD1_23_1, cD1_23_2⟩, _⟩ := block3 D1_23
    have lD1_23 := lt_of_block D1_23
    obtain ⟨⟨cD2_23_0, cD2_23_1, cD2_23_2⟩, _⟩ := block3 D2_23
    have lD2_23 := lt_of_block D2_23
    obtain ⟨⟨cD3_23_0, cD3_23_1, cD3_23_2⟩, _⟩ := block3 D3_23
    have lD3_23 := lt_of_block D3_23
    go_wp2_with fail
    clear cb0_0 cb0_1 cb0_2 lb0 cD1_23_0 cD1_23_1 cD1_23_2 lD1_23 cD2_23_0 cD2_23_1 cD2_23_2 lD2_23 cD3_23_0 cD3_23_1 cD3_23_2 lD3_23
    refine (toInt64S_ex s1 n1 c1 zs1 hz1 hl1 _ (VArr.ext R1 E23.out)).mono ?_
    rintro e w21 ⟨b8, rfl, hX24, O8⟩
    have ab24 : wb.heap.size ≤ w20.heap.size := E23.out.size
    have lt0_8 := fun g hg => (O0_23.lt g hg).2
    have lt1_8 := fun g hg => (O1_23.lt g hg).2
    have lt2_8 := fun g hg => (O2_23.lt g hg).2
    have lt3_8 := fun g hg => (O3_23.lt g hg).2
    have lt4_8 := fun g hg => (O4_23.lt g hg).2
    have lt5_8 := fun g hg => (O5_23.lt g hg).2
    have lt6_8 := fun g hg => (O6_23.lt g hg).2
    have lt7_8 := fun g hg => (O7.lt g hg).2
    have E24 := Lib.hid (E23.out.trans hX24)
    have D1_24 := hX24.block D1_23
    have D2_24 := hX24.block D2_23
    have D3_24 := hX24.block D3_23
    have O0_24 := ownsRow_ext O0_23 hX24
    have O1_24 := ownsRow_ext O1_23 hX24
    have O2_24 := ownsRow_ext O2_23 hX24
    have O3_24 := ownsRow_ext O3_23 hX24
    have O4_24 := ownsRow_ext O4_23 hX24
    have O5_24 := ownsRow_ext O5_23 hX24
    have O6_24 := ownsRow_ext O6_23 hX24
    have O7_24 := ownsRow_ext O7 hX24
    clear hX24 E23 D1_23 D2_23 D3_23 O0_23 O1_23 O2_23 O3_23 O4_23 O5_23 O6_23 O7
    obtain ⟨⟨cb0_0, cb0_1, cb0_2⟩, _⟩ := block3 (E24.out.block B0)
    have lb0 := lt_of_block (E24.out.block B0)
    obtain ⟨⟨cD1_24_0, cD1_24_1, cD1_24_2⟩, _⟩ := block3 D1_24
    have lD1_24 := lt_of_block D1_24
    obtain ⟨⟨cD2_24_0, cD2_24_1, cD2_24_2⟩, _⟩ := block3 D2_24
    have lD2_24 := lt_of_block D2_24
    obtain ⟨⟨cD3_24_0, cD3_24_1, cD3_24_2⟩, _⟩ := block3 D3_24
    have lD3_24 := lt_of_block D3_24
    go_wp2_with fail
    clear cb0_0 cb0_1 cb0_2 lb0 cD1_24_0 cD1_24_1 cD1_24_2 lD1_24 cD2_24_0 cD2_24_1 cD2_24_2 lD2_24 cD3_24_0 cD3_24_1 cD3_24_2 lD3_24
    refine (implRel_any W0 H0 (some ⟨b7, 0, none⟩) n0 n0 (some ⟨b8, 0, none⟩) n1 n1 zs0 zs1 hz0 hz1 hl0 hl1 _ (ownsRow_varr O7_24) (ownsRow_varr O8)).mono ?_
    rintro e w22 ⟨ra9, rn9, rc9, rfl, hX25, O9, rl9, re9⟩
    have ab25 : wb.heap.size ≤ w21.heap.size := E24.out.size
    have lt0_9 := fun g hg => (O0_24.lt g hg).2
    have lt1_9 := fun g hg => (O1_24.lt g hg).2
    have lt2_9 := fun g hg => (O2_24.lt g hg).2
    have lt3_9 := fun g hg => (O3_24.lt g hg).2
    have lt4_9 := fun g hg => (O4_24.lt g hg).2
    have lt5_9 := fun g hg => (O5_24.lt g hg).2
    have lt6_9 := fun g hg => (O6_24.lt g hg).2
    have lt7_9 := fun g hg => (O7_24.lt g hg).2
    have lt8_9 := fun g hg => (O8.lt g hg).2
    have E25 := Lib.hid (E24.out.trans hX25)
    have D1_25 := hX25.block D1_24
    have D2_25 := hX25.block D2_24
    have D3_25 := hX25.block D3_24
    have O0_25 := ownsRow_ext O0_24 hX25
    have O1_25 := ownsRow_ext O1_24 hX25
    have O2_25 := ownsRow_ext O2_24 hX25
    have O3_25 := ownsRow_ext O3_24 hX25
    have O4_25 := ownsRow_ext O4_24 hX25
    have O5_25 := ownsRow_ext O5_24 hX25
    have O6_25 := ownsRow_ext O6_24 hX25
    have O7_25 := ownsRow_ext O7_24 hX25
    have O8_25 := ownsRow_ext O8 hX25
    clear hX25 E24 D1_24 D2_24 D3_24 O0_24 O1_24 O2_24 O3_24 O4_24 O5_24 O6_24 O7_24 O8
    obtain ⟨⟨cb0_0, cb0_1, cb0_2⟩, _⟩ := block3 (E25.out.block B0)
    have lb0 := lt_of_block (E25.out.block B0)
    obtain ⟨⟨cD1_25_0, cD1_25_1, cD1_25_2⟩, _⟩ := block3 D1_25
    have lD1_25 := lt_of_block D1_25
    obtain ⟨⟨cD2_25_0, cD2_25_1, cD2_25_2⟩, _⟩ := block3 D2_25
    have lD2_25 := lt_of_block D2_25
    obtain ⟨⟨cD3_25_0, cD3_25_1, cD3_25_2⟩, _⟩ := block3 D3_25
    have lD3_25 := lt_of_block D3_25
    go_wp2_with fail
    clear cb0_0 cb0_1 cb0_2 lb0 cD1_25_0 cD1_25_1 cD1_25_2 lD1_25 cD2_25_0 cD2_25_1 cD2_25_2 lD2_25 cD3_25_0 cD3_25_1 cD3_25_2 lD3_25
    have hY26 := (Ext.refl w22).alloc (.cells #[.int .i64 (keepI (relOk W0 H0 zs0 n1 zs1) W0), .int .i64 (keepI (relOk W0 H0 zs0 n1 zs1) H0), .slice ra9 rn9 rc9] 24)
    have D4 := heap_new w22 (.cells #[.int .i64 (keepI (relOk W0 H0 zs0 n1 zs1) W0), .int .i64 (keepI (relOk W0 H0 zs0 n1 zs1) H0), .slice ra9 rn9 rc9] 24)
    generalize hw26 : w22.alloc (.cells #[.int .i64 (keepI (relOk W0 H0 zs0 n1 zs1) W0), .int .i64 (keepI (relOk W0 H0 zs0 n1 zs1) H0), .slice ra9 rn9 rc9] 24) = w23 at *
    clear hw26
    have E27 := Lib.hid (E25.out.trans hY26)
    have D1_27 := hY26.block D1_25
    have D2_27 := hY26.block D2_25
    have D3_27 := hY26.block D3_25
    have O0_27 := ownsRow_ext O0_25 hY26
    have O1_27 := ownsRow_ext O1_25 hY26
    have O2_27 := ownsRow_ext O2_25 hY26
    have O3_27 := ownsRow_ext O3_25 hY26
    have O4_27 := ownsRow_ext O4_25 hY26
    have O5_27 := ownsRow_ext O5_25 hY26
    have O6_27 := ownsRow_ext O6_25 hY26
    have O7_27 := ownsRow_ext O7_25 hY26
    have O8_27 := ownsRow_ext O8_25 hY26
    have O9_27 := ownsRow_ext O9 hY26
    clear hY26 E25 D1_25 D2_25 D3_25 O0_25 O1_25 O2_25 O3_25 O4_25 O5_25 O6_25 O7_25 O8_25 O9
    refine (eqGrains_any (keepI (relOk W0 H0 zs0 n1 zs1) W0) (keepI (relOk W0 H0 zs0 n1 zs1) H0) (keepI (relOk W0 H0 zs0 n1 zs1) W0) (keepI (relOk W0 H0 zs0 n1 zs1) H0) _ _ rn9 _ rn2 _ (keepL (relOk W0 H0 zs0 n1 zs1) (relZ W0 H0 zs0 zs1)) (keepL (relOk W0 H0 zs0 n1 zs1) (relZ W0 H0 zs0 zs1)) rl9 rl2 (by omega) (by omega) rfl rfl rfl _ (ownsRow_varr O9_27) (ownsRow_varr O2_27)).mono ?_
    rintro e w24 ⟨rfl, hX28⟩
    have E28 := Lib.hid (E27.out.trans hX28)
    have D1_28 := hX28.block D1_27
    have D2_28 := hX28.block D2_27
    have D3_28 := hX28.block D3_27
    have D4_28 := hX28.block D4
    have O0_28 := ownsRow_ext O0_27 hX28
    have O1_28 := ownsRow_ext O1_27 hX28
    have O2_28 := ownsRow_ext O2_27 hX28
    have O3_28 := ownsRow_ext O3_27 hX28
    have O4_28 := ownsRow_ext O4_27 hX28
    have O5_28 := ownsRow_ext O5_27 hX28
    have O6_28 := ownsRow_ext O6_27 hX28
    have O7_28 := ownsRow_ext O7_27 hX28
    have O8_28 := ownsRow_ext O8_27 hX28
    have O9_28 := ownsRow_ext O9_27 hX28
    clear hX28 E27 D1_27 D2_27 D3_27 D4 O0_27 O1_27 O2_27 O3_27 O4_27 O5_27 O6_27 O7_27 O8_27 O9_27
    obtain ⟨⟨cb0_0, cb0_1, cb0_2⟩, _⟩ := block3 (E28.out.block B0)
    have lb0 := lt_of_block (E28.out.block B0)
    obtain ⟨⟨cD1_28_0, cD1_28_1, cD1_28_2⟩, _⟩ := block3 D1_28
    have lD1_28 := lt_of_block D1_28
    obtain ⟨⟨cD2_28_0, cD2_28_1, cD2_28_2⟩, _⟩ := block3 D2_28
    have lD2_28 := lt_of_block D2_28
    obtain ⟨⟨cD3_28_0, cD3_28_1, cD3_28_2⟩, _⟩ := block3 D3_28
    have lD3_28 := lt_of_block D3_28
    obtain ⟨⟨cD4_28_0, cD4_28_1, cD4_28_2⟩, _⟩ := block3 D4_28
    have lD4_28 := lt_of_block D4_28
    go_wp2_with fail
    clear cb0_0 cb0_1 cb0_2 lb0 cD1_28_0 cD1_28_1 cD1_28_2 lD1_28 cD2_28_0 cD2_28_1 cD2_28_2 lD2_28 cD3_28_0 cD3_28_1 cD3_28_2 lD3_28 cD4_28_0 cD4_28_1 cD4_28_2 lD4_28
    refine (heldGrains_any (keepI (relOk W0 H0 zs0 n1 zs1) W0) (keepI (relOk W0 H0 zs0 n1 zs1) H0) ra5 rn5 rc5 1 (by omega) (by omega) (by omega) _ (ownsRow_varr O5_28)).mono ?_
    rintro e w25 ⟨rfl, hX29⟩
    have E29 := Lib.hid (E28.out.trans hX29)
    have D1_29 := hX29.block D1_28
    have D2_29 := hX29.block D2_28
    have D3_29 := hX29.block D3_28
    have D4_29 := hX29.block D4_28
    have O0_29 := ownsRow_ext O0_28 hX29
    have O1_29 := ownsRow_ext O1_28 hX29
    have O2_29 := ownsRow_ext O2_28 hX29
    have O3_29 := ownsRow_ext O3_28 hX29
    have O4_29 := ownsRow_ext O4_28 hX29
    have O5_29 := ownsRow_ext O5_28 hX29
    have O6_29 := ownsRow_ext O6_28 hX29
    have O7_29 := ownsRow_ext O7_28 hX29
    have O8_29 := ownsRow_ext O8_28 hX29
    have O9_29 := ownsRow_ext O9_28 hX29
    clear hX29 E28 D1_28 D2_28 D3_28 D4_28 O0_28 O1_28 O2_28 O3_28 O4_28 O5_28 O6_28 O7_28 O8_28 O9_28
    obtain ⟨⟨cb0_0, cb0_1, cb0_2⟩, _⟩ := block3 (E29.out.block B0)
    have lb0 := lt_of_block (E29.out.block B0)
    obtain ⟨⟨cD1_29_0, cD1_29_1, cD1_29_2⟩, _⟩ := block3 D1_29
    have lD1_29 := lt_of_block D1_29
    obtain ⟨⟨cD2_29_0, cD2_29_1, cD2_29_2⟩, _⟩ := block3 D2_29
    have lD2_29 := lt_of_block D2_29
    obtain ⟨⟨cD3_29_0, cD3_29_1, cD3_29_2⟩, _⟩ := block3 D3_29
    have lD3_29 := lt_of_block D3_29
    obtain ⟨⟨cD4_29_0, cD4_29_1, cD4_29_2⟩, _⟩ := block3 D4_29
    have lD4_29 := lt_of_block D4_29
    go_wp2
    go_ret
    exact ⟨rfl, EB.trans E29.out⟩
end Go.Proofs.Ytaakkdcpkllgoaa
