/-
  The walk of the statement on SameField.
-/
import Derived.Test.YtllpbkmdcaikoaaFsB
import Derived.Test.YtllpbkmdcaikoaaLate
import Derived.Test.YtllpbkmdcaikoaaPost
namespace Go.Proofs.Ytllpbkmdcaikoaa
open Go.RowKit
set_option linter.unusedVariables false
set_option linter.unusedSimpArgs false
set_option linter.unnecessarySimpa false

set_option maxRecDepth 100000 in
set_option maxHeartbeats 4000000 in
theorem walk_FnExactSameField (W0 H0 : Int) (Q0 : Bool) (s0 : Option Addr) (n0 c0 : Nat) (zs0 : List Nat) (hz0 : zs0.length = n0) (hn0 : n0 ≤ 9223372036854775807) (wW0 : (Lit.int .i64 W0).wf = true) (wH0 : (Lit.int .i64 H0).wf = true) (hb0 : wfF zs0) (W1 H1 : Int) (Q1 : Bool) (s1 : Option Addr) (n1 c1 : Nat) (zs1 : List Nat) (hz1 : zs1.length = n1) (hn1 : n1 ≤ 9223372036854775807) (wW1 : (Lit.int .i64 W1).wf = true) (wH1 : (Lit.int .i64 H1).wf = true) (hb1 : wfF zs1) (w : World) (hR0 : VArr w s0 (flts zs0)) (hR1 : VArr w s1 (flts zs1)) :
    Calls Try.prog 3 #[.agg #[.int .i64 W0, .int .i64 H0, .bool Q0, .slice s0 n0 c0], .agg #[.int .i64 W1, .int .i64 H1, .bool Q1, .slice s1 n1 c1]] w fun e w' => e = .returned (.bool true) ∧ Ext w w' := by
  have EB : Ext w ((w.alloc (.cells #[.int .i64 W0, .int .i64 H0, .bool Q0, .slice s0 n0 c0] 24)).alloc (.cells #[.int .i64 W1, .int .i64 H1, .bool Q1, .slice s1 n1 c1] 24)) := Ext.alloc (Ext.alloc (Ext.refl w) _) _
  have B0 := heap_mid1 w (.cells #[.int .i64 W0, .int .i64 H0, .bool Q0, .slice s0 n0 c0] 24) (.cells #[.int .i64 W1, .int .i64 H1, .bool Q1, .slice s1 n1 c1] 24)
  have B1 := heap_new1 w (.cells #[.int .i64 W0, .int .i64 H0, .bool Q0, .slice s0 n0 c0] 24) (.cells #[.int .i64 W1, .int .i64 H1, .bool Q1, .slice s1 n1 c1] 24)
  by_cases big0 : (1048576 : Int) - n0 < 0
  · -- too large
    go_enter Try.func3, Try.ntmps3
    go_wp2_with fail
    have R0 := hR0.ext EB
    have R1 := hR1.ext EB
    generalize hsz : w.heap.size = pz at *
    generalize ((w.alloc (.cells #[.int .i64 W0, .int .i64 H0, .bool Q0, .slice s0 n0 c0] 24)).alloc (.cells #[.int .i64 W1, .int .i64 H1, .bool Q1, .slice s1 n1 c1] 24)) = wb at *
    have HSZ := Lib.hid hsz
    clear hsz
    have E0 : Hid (Ext wb wb) := Ext.refl wb
    refine (szField_any W0 H0 Q0 s0 n0 c0 (1048576 : Int) hn0 (by omega) (by omega) _).mono ?_
    rw [if_pos (by omega)]
    rintro e w1 ⟨rfl, hX1⟩
    have E1 := Lib.hid (E0.out.trans hX1)
    clear hX1 E0
    obtain ⟨⟨cb0_0, cb0_1, cb0_2, cb0_3⟩, _⟩ := block4 (E1.out.block B0)
    have lb0 := lt_of_block (E1.out.block B0)
    obtain ⟨⟨cb1_0, cb1_1, cb1_2, cb1_3⟩, _⟩ := block4 (E1.out.block B1)
    have lb1 := lt_of_block (E1.out.block B1)
    go_wp2
    go_ret
    exact ⟨rfl, EB.trans E1.out⟩
  · -- not so large
    have hl0 : n0 ≤ 1048576 := by omega
    by_cases big1 : (1048576 : Int) - n0 - n1 < 0
    · -- too large
      go_enter Try.func3, Try.ntmps3
      go_wp2_with fail
      have R0 := hR0.ext EB
      have R1 := hR1.ext EB
      generalize hsz : w.heap.size = pz at *
      generalize ((w.alloc (.cells #[.int .i64 W0, .int .i64 H0, .bool Q0, .slice s0 n0 c0] 24)).alloc (.cells #[.int .i64 W1, .int .i64 H1, .bool Q1, .slice s1 n1 c1] 24)) = wb at *
      have HSZ := Lib.hid hsz
      clear hsz
      have E0 : Hid (Ext wb wb) := Ext.refl wb
      refine (szField_any W0 H0 Q0 s0 n0 c0 (1048576 : Int) hn0 (by omega) (by omega) _).mono ?_
      rw [if_neg (by omega)]
      rintro e w1 ⟨rfl, hX1⟩
      have E1 := Lib.hid (E0.out.trans hX1)
      clear hX1 E0
      obtain ⟨⟨cb0_0, cb0_1, cb0_2, cb0_3⟩, _⟩ := block4 (E1.out.block B0)
      have lb0 := lt_of_block (E1.out.block B0)
      obtain ⟨⟨cb1_0, cb1_1, cb1_2, cb1_3⟩, _⟩ := block4 (E1.out.block B1)
      have lb1 := lt_of_block (E1.out.block B1)
      go_wp2_with fail
      clear cb0_0 cb0_1 cb0_2 cb0_3 lb0 cb1_0 cb1_1 cb1_2 cb1_3 lb1
      refine (szField_any W1 H1 Q1 s1 n1 c1 (1048576 - (n0 : Int)) hn1 (by omega) (by omega) _).mono ?_
      rw [if_pos (by omega)]
      rintro e w2 ⟨rfl, hX2⟩
      have E2 := Lib.hid (E1.out.trans hX2)
      clear hX2 E1
      obtain ⟨⟨cb0_0, cb0_1, cb0_2, cb0_3⟩, _⟩ := block4 (E2.out.block B0)
      have lb0 := lt_of_block (E2.out.block B0)
      obtain ⟨⟨cb1_0, cb1_1, cb1_2, cb1_3⟩, _⟩ := block4 (E2.out.block B1)
      have lb1 := lt_of_block (E2.out.block B1)
      go_wp2
      go_ret
      exact ⟨rfl, EB.trans E2.out⟩
    · -- not so large
      have hl1 : n1 ≤ 1048576 := by omega
      go_enter Try.func3, Try.ntmps3
      go_wp2_with fail
      have R0 := hR0.ext EB
      have R1 := hR1.ext EB
      generalize hsz : w.heap.size = pz at *
      generalize ((w.alloc (.cells #[.int .i64 W0, .int .i64 H0, .bool Q0, .slice s0 n0 c0] 24)).alloc (.cells #[.int .i64 W1, .int .i64 H1, .bool Q1, .slice s1 n1 c1] 24)) = wb at *
      have HSZ := Lib.hid hsz
      clear hsz
      have E0 : Hid (Ext wb wb) := Ext.refl wb
      refine (szField_any W0 H0 Q0 s0 n0 c0 (1048576 : Int) hn0 (by omega) (by omega) _).mono ?_
      rw [if_neg (by omega)]
      rintro e w1 ⟨rfl, hX1⟩
      have E1 := Lib.hid (E0.out.trans hX1)
      clear hX1 E0
      obtain ⟨⟨cb0_0, cb0_1, cb0_2, cb0_3⟩, _⟩ := block4 (E1.out.block B0)
      have lb0 := lt_of_block (E1.out.block B0)
      obtain ⟨⟨cb1_0, cb1_1, cb1_2, cb1_3⟩, _⟩ := block4 (E1.out.block B1)
      have lb1 := lt_of_block (E1.out.block B1)
      go_wp2_with fail
      clear cb0_0 cb0_1 cb0_2 cb0_3 lb0 cb1_0 cb1_1 cb1_2 cb1_3 lb1
      refine (szField_any W1 H1 Q1 s1 n1 c1 (1048576 - (n0 : Int)) hn1 (by omega) (by omega) _).mono ?_
      rw [if_neg (by omega)]
      rintro e w2 ⟨rfl, hX2⟩
      have E2 := Lib.hid (E1.out.trans hX2)
      clear hX2 E1
      obtain ⟨⟨cb0_0, cb0_1, cb0_2, cb0_3⟩, _⟩ := block4 (E2.out.block B0)
      have lb0 := lt_of_block (E2.out.block B0)
      obtain ⟨⟨cb1_0, cb1_1, cb1_2, cb1_3⟩, _⟩ := block4 (E2.out.block B1)
      have lb1 := lt_of_block (E2.out.block B1)
      go_wp2_with fail
      clear cb0_0 cb0_1 cb0_2 cb0_3 lb0 cb1_0 cb1_1 cb1_2 cb1_3 lb1
      refine region_grow (C := Ext w2) (K := fun f args v wv => (f = 19 → toPostField w2 args v wv) ∧ (f = 18 → v = .bool (sameFB W0 H0 Q0 W1 H1 Q1 zs0 zs1))) ⟨fun _ _ h k => h.trans k, fun f args v u u' h ex => ⟨(fun hf => ((h.1) hf).ext ex), (fun hf => (h.2) hf)⟩⟩ (by kernel_rfl) (by kernel_rfl) ((Ext.refl w2).drew) ?_
      refine grow_det (c := .agg #[.int .i64 W0, .int .i64 H0, .bool Q0, .slice s0 n0 c0]) rfl (fun u hu _ => ?_) ?_
      · obtain ⟨⟨d0, d1, d2, d3⟩, _⟩ := block4 (hu.block (E2.out.block B0))
        go_simp
      refine grow_cg 19 (fun v => ∃ b, v = .agg #[.int .i64 W0, .int .i64 H0, .bool Q0, .slice (some ⟨b, 0, none⟩) n0 n0]) (fun v wv => ∃ b, v = .agg #[.int .i64 W0, .int .i64 H0, .bool Q0, .slice (some ⟨b, 0, none⟩) n0 n0] ∧ VArr wv (some ⟨b, 0, none⟩) (flts zs0)) rfl ?_
      refine ⟨#[.agg #[.int .i64 W0, .int .i64 H0, .bool Q0, .slice s0 n0 c0]], fun u => ?_, fun u hu _ => ?_, fun v u h => ?_, fun v hv => ?_⟩
      · go_simp
      · refine (toField_any W0 H0 Q0 s0 n0 c0 zs0 hz0 hl0 _ (VArr.ext (VArr.ext R0 E2.out) hu)).mono fun e u' h => ?_
        obtain ⟨b, he, hx, ho⟩ := h
        exact ⟨_, he, hx, ⟨(fun _ => toPostField_mk hz0 (VArr.ext R0 E2.out) (ownsRow_varr ho)), (fun h => by cases h)⟩⟩
      · exact toPostField_get ((h.1) rfl) hz0 (VArr.ext R0 E2.out)
      obtain ⟨bq1, rfl⟩ := hv
      refine grow_det (c := .agg #[.int .i64 W1, .int .i64 H1, .bool Q1, .slice s1 n1 c1]) rfl (fun u hu _ => ?_) ?_
      · obtain ⟨⟨d0, d1, d2, d3⟩, _⟩ := block4 (hu.block (E2.out.block B1))
        go_simp
      refine grow_cg 19 (fun v => ∃ b, v = .agg #[.int .i64 W1, .int .i64 H1, .bool Q1, .slice (some ⟨b, 0, none⟩) n1 n1]) (fun v wv => ∃ b, v = .agg #[.int .i64 W1, .int .i64 H1, .bool Q1, .slice (some ⟨b, 0, none⟩) n1 n1] ∧ VArr wv (some ⟨b, 0, none⟩) (flts zs1)) rfl ?_
      refine ⟨#[.agg #[.int .i64 W1, .int .i64 H1, .bool Q1, .slice s1 n1 c1]], fun u => ?_, fun u hu _ => ?_, fun v u h => ?_, fun v hv => ?_⟩
      · go_simp
      · refine (toField_any W1 H1 Q1 s1 n1 c1 zs1 hz1 hl1 _ (VArr.ext (VArr.ext R1 E2.out) hu)).mono fun e u' h => ?_
        obtain ⟨b, he, hx, ho⟩ := h
        exact ⟨_, he, hx, ⟨(fun _ => toPostField_mk hz1 (VArr.ext R1 E2.out) (ownsRow_varr ho)), (fun h => by cases h)⟩⟩
      · exact toPostField_get ((h.1) rfl) hz1 (VArr.ext R1 E2.out)
      obtain ⟨bq2, rfl⟩ := hv
      refine grow_cg 18 (fun v => v = .bool (sameFB W0 H0 Q0 W1 H1 Q1 zs0 zs1)) (fun v wv => True) rfl ?_
      refine ⟨#[.agg #[.int .i64 W0, .int .i64 H0, .bool Q0, .slice (some ⟨bq1, 0, none⟩) n0 n0], .agg #[.int .i64 W1, .int .i64 H1, .bool Q1, .slice (some ⟨bq2, 0, none⟩) n1 n1]], fun u => ?_, fun u hu hk => ?_, fun v u h => ?_, fun v hv => ?_⟩
      · go_simp
      · refine (specSameF_any W0 H0 W1 H1 Q0 Q1 (some ⟨bq1, 0, none⟩) (some ⟨bq2, 0, none⟩) n0 n0 n1 n1 zs0 zs1 hz0 hz1 hl0 hl1 hb0 hb1  _ (by obtain ⟨b, hb, hv⟩ := hk 21 (by simp [Oper.looksAt, Op.operands, Call.operands]); simp at hb; subst hb; exact hv) (by obtain ⟨b, hb, hv⟩ := hk 23 (by simp [Oper.looksAt, Op.operands, Call.operands]); simp at hb; subst hb; exact hv)).mono fun e u' h => ?_
        exact ⟨_, h.1, h.2, ⟨(fun h => by cases h), (fun _ => rfl)⟩⟩
      · exact ⟨(h.2) rfl, trivial⟩
      subst hv
      refine grow_q rfl ?_
      apply Exists.intro
      refine ⟨fun u hu _ => ?_, ?_⟩
      · go_simp; try rfl
      refine grow_nil (fun w3 hX3 hh => ?_)
      obtain ⟨⟨⟨_, _⟩, _⟩, _⟩ := hh
      go_simp
      have E3 := Lib.hid (E2.out.trans hX3)
      clear hX3 E2
      obtain ⟨⟨cb0_0, cb0_1, cb0_2, cb0_3⟩, _⟩ := block4 (E3.out.block B0)
      have lb0 := lt_of_block (E3.out.block B0)
      obtain ⟨⟨cb1_0, cb1_1, cb1_2, cb1_3⟩, _⟩ := block4 (E3.out.block B1)
      have lb1 := lt_of_block (E3.out.block B1)
      go_wp2_with fail
      clear cb0_0 cb0_1 cb0_2 cb0_3 lb0 cb1_0 cb1_1 cb1_2 cb1_3 lb1
      refine (toField_any W0 H0 Q0 s0 n0 c0 zs0 hz0 hl0 _ (VArr.ext R0 E3.out)).mono ?_
      rintro e w4 ⟨b0, rfl, hX4, O0⟩
      have ab4 : wb.heap.size ≤ w3.heap.size := E3.out.size
      have E4 := Lib.hid (E3.out.trans hX4)
      clear hX4 E3
      obtain ⟨⟨cb0_0, cb0_1, cb0_2, cb0_3⟩, _⟩ := block4 (E4.out.block B0)
      have lb0 := lt_of_block (E4.out.block B0)
      obtain ⟨⟨cb1_0, cb1_1, cb1_2, cb1_3⟩, _⟩ := block4 (E4.out.block B1)
      have lb1 := lt_of_block (E4.out.block B1)
      go_wp2_with fail
      clear cb0_0 cb0_1 cb0_2 cb0_3 lb0 cb1_0 cb1_1 cb1_2 cb1_3 lb1
      have hY5 := (Ext.refl w4).alloc (.cells #[.int .i64 W0, .int .i64 H0, .bool Q0, .slice (some ⟨b0, 0, none⟩) n0 n0] 27)
      have D1 := heap_new w4 (.cells #[.int .i64 W0, .int .i64 H0, .bool Q0, .slice (some ⟨b0, 0, none⟩) n0 n0] 27)
      generalize hw5 : w4.alloc (.cells #[.int .i64 W0, .int .i64 H0, .bool Q0, .slice (some ⟨b0, 0, none⟩) n0 n0] 27) = w5 at *
      clear hw5
      have E6 := Lib.hid (E4.out.trans hY5)
      have O0_6 := ownsRow_ext O0 hY5
      clear hY5 E4 O0
      refine (toField_any W1 H1 Q1 s1 n1 c1 zs1 hz1 hl1 _ (VArr.ext R1 E6.out)).mono ?_
      rintro e w6 ⟨b1, rfl, hX7, O1⟩
      have ab7 : wb.heap.size ≤ w5.heap.size := E6.out.size
      have lt0_1 := fun g hg => (O0_6.lt g hg).2
      have E7 := Lib.hid (E6.out.trans hX7)
      have D1_7 := hX7.block D1
      have O0_7 := ownsRow_ext O0_6 hX7
      clear hX7 E6 D1 O0_6
      obtain ⟨⟨cb0_0, cb0_1, cb0_2, cb0_3⟩, _⟩ := block4 (E7.out.block B0)
      have lb0 := lt_of_block (E7.out.block B0)
      obtain ⟨⟨cb1_0, cb1_1, cb1_2, cb1_3⟩, _⟩ := block4 (E7.out.block B1)
      have lb1 := lt_of_block (E7.out.block B1)
      obtain ⟨⟨cD1_7_0, cD1_7_1, cD1_7_2, cD1_7_3⟩, _⟩ := block4 D1_7
      have lD1_7 := lt_of_block D1_7
      go_wp2_with fail
      clear cb0_0 cb0_1 cb0_2 cb0_3 lb0 cb1_0 cb1_1 cb1_2 cb1_3 lb1 cD1_7_0 cD1_7_1 cD1_7_2 cD1_7_3 lD1_7
      have hY8 := (Ext.refl w6).alloc (.cells #[.int .i64 W1, .int .i64 H1, .bool Q1, .slice (some ⟨b1, 0, none⟩) n1 n1] 27)
      have D2 := heap_new w6 (.cells #[.int .i64 W1, .int .i64 H1, .bool Q1, .slice (some ⟨b1, 0, none⟩) n1 n1] 27)
      generalize hw8 : w6.alloc (.cells #[.int .i64 W1, .int .i64 H1, .bool Q1, .slice (some ⟨b1, 0, none⟩) n1 n1] 27) = w7 at *
      clear hw8
      have E9 := Lib.hid (E7.out.trans hY8)
      have D1_9 := hY8.block D1_7
      have O0_9 := ownsRow_ext O0_7 hY8
      have O1_9 := ownsRow_ext O1 hY8
      clear hY8 E7 D1_7 O0_7 O1
      refine (implSameF_any W0 H0 W1 H1 Q0 Q1 (some ⟨b0, 0, none⟩) (some ⟨b1, 0, none⟩) n0 n0 n1 n1 zs0 zs1 hz0 hz1 hl0 hl1 hb0 hb1  _ (ownsRow_varr O0_9) (ownsRow_varr O1_9)).mono ?_
      rintro e w8 ⟨rfl, hX10⟩
      have ab10 : wb.heap.size ≤ w7.heap.size := E9.out.size
      have lt0_2 := fun g hg => (O0_9.lt g hg).2
      have lt1_2 := fun g hg => (O1_9.lt g hg).2
      have E10 := Lib.hid (E9.out.trans hX10)
      have D1_10 := hX10.block D1_9
      have D2_10 := hX10.block D2
      have O0_10 := ownsRow_ext O0_9 hX10
      have O1_10 := ownsRow_ext O1_9 hX10
      clear hX10 E9 D1_9 D2 O0_9 O1_9
      obtain ⟨⟨cb0_0, cb0_1, cb0_2, cb0_3⟩, _⟩ := block4 (E10.out.block B0)
      have lb0 := lt_of_block (E10.out.block B0)
      obtain ⟨⟨cb1_0, cb1_1, cb1_2, cb1_3⟩, _⟩ := block4 (E10.out.block B1)
      have lb1 := lt_of_block (E10.out.block B1)
      obtain ⟨⟨cD1_10_0, cD1_10_1, cD1_10_2, cD1_10_3⟩, _⟩ := block4 D1_10
      have lD1_10 := lt_of_block D1_10
      obtain ⟨⟨cD2_10_0, cD2_10_1, cD2_10_2, cD2_10_3⟩, _⟩ := block4 D2_10
      have lD2_10 := lt_of_block D2_10
      go_wp2_with fail
      clear cb0_0 cb0_1 cb0_2 cb0_3 lb0 cb1_0 cb1_1 cb1_2 cb1_3 lb1 cD1_10_0 cD1_10_1 cD1_10_2 cD1_10_3 lD1_10 cD2_10_0 cD2_10_1 cD2_10_2 cD2_10_3 lD2_10
      refine region_grow (C := Ext w8) (K := fun f args v wv => (f = 19 → toPostField w8 args v wv) ∧ (f = 21 → v = .bool true)) ⟨fun _ _ h k => h.trans k, fun f args v u u' h ex => ⟨(fun hf => ((h.1) hf).ext ex), ((h.2))⟩⟩ (by kernel_rfl) (by kernel_rfl) ((Ext.refl w8).drew) ?_
      refine grow_det (c := .agg #[.int .i64 W0, .int .i64 H0, .bool Q0, .slice (some ⟨b0, 0, none⟩) n0 n0]) rfl (fun u hu _ => ?_) ?_
      · obtain ⟨⟨d0, d1, d2, d3⟩, _⟩ := block4 (hu.block D1_10)
        go_simp
      refine grow_det (c := .agg #[.int .i64 W0, .int .i64 H0, .bool Q0, .slice s0 n0 c0]) rfl (fun u hu _ => ?_) ?_
      · obtain ⟨⟨d0, d1, d2, d3⟩, _⟩ := block4 (hu.block (E10.out.block B0))
        go_simp
      refine grow_cg 19 (fun v => ∃ b, v = .agg #[.int .i64 W0, .int .i64 H0, .bool Q0, .slice (some ⟨b, 0, none⟩) n0 n0]) (fun v wv => ∃ b, v = .agg #[.int .i64 W0, .int .i64 H0, .bool Q0, .slice (some ⟨b, 0, none⟩) n0 n0] ∧ VArr wv (some ⟨b, 0, none⟩) (flts zs0)) rfl ?_
      refine ⟨#[.agg #[.int .i64 W0, .int .i64 H0, .bool Q0, .slice s0 n0 c0]], fun u => ?_, fun u hu _ => ?_, fun v u h => ?_, fun v hv => ?_⟩
      · go_simp
      · refine (toField_any W0 H0 Q0 s0 n0 c0 zs0 hz0 hl0 _ (VArr.ext (VArr.ext R0 E10.out) hu)).mono fun e u' h => ?_
        obtain ⟨b, he, hx, ho⟩ := h
        exact ⟨_, he, hx, ⟨(fun _ => toPostField_mk hz0 (VArr.ext R0 E10.out) (ownsRow_varr ho)), (fun h => by cases h)⟩⟩
      · exact toPostField_get ((h.1) rfl) hz0 (VArr.ext R0 E10.out)
      obtain ⟨bq3, rfl⟩ := hv
      refine grow_c1 21 rfl ?_
      refine ⟨#[.agg #[.int .i64 W0, .int .i64 H0, .bool Q0, .slice (some ⟨b0, 0, none⟩) n0 n0], .agg #[.int .i64 W0, .int .i64 H0, .bool Q0, .slice (some ⟨bq3, 0, none⟩) n0 n0]], fun u => ?_, .bool true, fun u hu hk => ?_, fun v u h => (h.2) rfl, fun u => ⟨(fun h => by cases h), (fun _ => rfl)⟩, ?_⟩
      · go_simp
      · exact eqField_any W0 H0 W0 H0 Q0 Q0 _ _ n0 _ n0 _ zs0 zs0 hz0 hz0 (by omega) (by omega) rfl rfl rfl (((rfl : fas zs0 = fas zs0)).trans ((rfl : fas zs0 = fas zs0))) _ (VArr.ext (ownsRow_varr O0_10) hu) (by obtain ⟨b, hb, hv⟩ := hk 37 (by simp [Oper.looksAt, Op.operands, Call.operands]); simp at hb; subst hb; exact hv)
      refine grow_q rfl ?_
      apply Exists.intro
      refine ⟨fun u hu _ => ?_, ?_⟩
      · go_simp; try rfl
      refine grow_nil (fun w9 hX11 hh => ?_)
      obtain ⟨_, _⟩ := hh
      go_simp
      have E11 := Lib.hid (E10.out.trans hX11)
      have D1_11 := hX11.block D1_10
      have D2_11 := hX11.block D2_10
      have O0_11 := ownsRow_ext O0_10 hX11
      have O1_11 := ownsRow_ext O1_10 hX11
      clear hX11 E10 D1_10 D2_10 O0_10 O1_10
      obtain ⟨⟨cb0_0, cb0_1, cb0_2, cb0_3⟩, _⟩ := block4 (E11.out.block B0)
      have lb0 := lt_of_block (E11.out.block B0)
      obtain ⟨⟨cb1_0, cb1_1, cb1_2, cb1_3⟩, _⟩ := block4 (E11.out.block B1)
      have lb1 := lt_of_block (E11.out.block B1)
      obtain ⟨⟨cD1_11_0, cD1_11_1, cD1_11_2, cD1_11_3⟩, _⟩ := block4 D1_11
      have lD1_11 := lt_of_block D1_11
      obtain ⟨⟨cD2_11_0, cD2_11_1, cD2_11_2, cD2_11_3⟩, _⟩ := block4 D2_11
      have lD2_11 := lt_of_block D2_11
      go_wp2_with fail
      clear cb0_0 cb0_1 cb0_2 cb0_3 lb0 cb1_0 cb1_1 cb1_2 cb1_3 lb1 cD1_11_0 cD1_11_1 cD1_11_2 cD1_11_3 lD1_11 cD2_11_0 cD2_11_1 cD2_11_2 cD2_11_3 lD2_11
      refine region_grow (C := Ext w9) (K := fun f args v wv => (f = 19 → toPostField w9 args v wv) ∧ (f = 21 → v = .bool true)) ⟨fun _ _ h k => h.trans k, fun f args v u u' h ex => ⟨(fun hf => ((h.1) hf).ext ex), ((h.2))⟩⟩ (by kernel_rfl) (by kernel_rfl) ((Ext.refl w9).drew) ?_
      refine grow_det (c := .agg #[.int .i64 W1, .int .i64 H1, .bool Q1, .slice (some ⟨b1, 0, none⟩) n1 n1]) rfl (fun u hu _ => ?_) ?_
      · obtain ⟨⟨d0, d1, d2, d3⟩, _⟩ := block4 (hu.block D2_11)
        go_simp
      refine grow_det (c := .agg #[.int .i64 W1, .int .i64 H1, .bool Q1, .slice s1 n1 c1]) rfl (fun u hu _ => ?_) ?_
      · obtain ⟨⟨d0, d1, d2, d3⟩, _⟩ := block4 (hu.block (E11.out.block B1))
        go_simp
      refine grow_cg 19 (fun v => ∃ b, v = .agg #[.int .i64 W1, .int .i64 H1, .bool Q1, .slice (some ⟨b, 0, none⟩) n1 n1]) (fun v wv => ∃ b, v = .agg #[.int .i64 W1, .int .i64 H1, .bool Q1, .slice (some ⟨b, 0, none⟩) n1 n1] ∧ VArr wv (some ⟨b, 0, none⟩) (flts zs1)) rfl ?_
      refine ⟨#[.agg #[.int .i64 W1, .int .i64 H1, .bool Q1, .slice s1 n1 c1]], fun u => ?_, fun u hu _ => ?_, fun v u h => ?_, fun v hv => ?_⟩
      · go_simp
      · refine (toField_any W1 H1 Q1 s1 n1 c1 zs1 hz1 hl1 _ (VArr.ext (VArr.ext R1 E11.out) hu)).mono fun e u' h => ?_
        obtain ⟨b, he, hx, ho⟩ := h
        exact ⟨_, he, hx, ⟨(fun _ => toPostField_mk hz1 (VArr.ext R1 E11.out) (ownsRow_varr ho)), (fun h => by cases h)⟩⟩
      · exact toPostField_get ((h.1) rfl) hz1 (VArr.ext R1 E11.out)
      obtain ⟨bq4, rfl⟩ := hv
      refine grow_c1 21 rfl ?_
      refine ⟨#[.agg #[.int .i64 W1, .int .i64 H1, .bool Q1, .slice (some ⟨b1, 0, none⟩) n1 n1], .agg #[.int .i64 W1, .int .i64 H1, .bool Q1, .slice (some ⟨bq4, 0, none⟩) n1 n1]], fun u => ?_, .bool true, fun u hu hk => ?_, fun v u h => (h.2) rfl, fun u => ⟨(fun h => by cases h), (fun _ => rfl)⟩, ?_⟩
      · go_simp
      · exact eqField_any W1 H1 W1 H1 Q1 Q1 _ _ n1 _ n1 _ zs1 zs1 hz1 hz1 (by omega) (by omega) rfl rfl rfl (((rfl : fas zs1 = fas zs1)).trans ((rfl : fas zs1 = fas zs1))) _ (VArr.ext (ownsRow_varr O1_11) hu) (by obtain ⟨b, hb, hv⟩ := hk 42 (by simp [Oper.looksAt, Op.operands, Call.operands]); simp at hb; subst hb; exact hv)
      refine grow_q rfl ?_
      apply Exists.intro
      refine ⟨fun u hu _ => ?_, ?_⟩
      · go_simp; try rfl
      refine grow_nil (fun w10 hX12 hh => ?_)
      obtain ⟨_, _⟩ := hh
      go_simp
      have E12 := Lib.hid (E11.out.trans hX12)
      have D1_12 := hX12.block D1_11
      have D2_12 := hX12.block D2_11
      have O0_12 := ownsRow_ext O0_11 hX12
      have O1_12 := ownsRow_ext O1_11 hX12
      clear hX12 E11 D1_11 D2_11 O0_11 O1_11
      obtain ⟨⟨cb0_0, cb0_1, cb0_2, cb0_3⟩, _⟩ := block4 (E12.out.block B0)
      have lb0 := lt_of_block (E12.out.block B0)
      obtain ⟨⟨cb1_0, cb1_1, cb1_2, cb1_3⟩, _⟩ := block4 (E12.out.block B1)
      have lb1 := lt_of_block (E12.out.block B1)
      obtain ⟨⟨cD1_12_0, cD1_12_1, cD1_12_2, cD1_12_3⟩, _⟩ := block4 D1_12
      have lD1_12 := lt_of_block D1_12
      obtain ⟨⟨cD2_12_0, cD2_12_1, cD2_12_2, cD2_12_3⟩, _⟩ := block4 D2_12
      have lD2_12 := lt_of_block D2_12
      go_wp2
      go_ret
      exact ⟨rfl, EB.trans E12.out⟩
end Go.Proofs.Ytllpbkmdcaikoaa
