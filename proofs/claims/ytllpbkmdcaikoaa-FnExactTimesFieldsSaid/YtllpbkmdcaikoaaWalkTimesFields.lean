/-
  The walk of the statement on TimesFields.
-/
import Derived.Test.YtllpbkmdcaikoaaFlL
import Derived.Test.YtllpbkmdcaikoaaLate
import Derived.Test.YtllpbkmdcaikoaaPost
namespace Go.Proofs.Ytllpbkmdcaikoaa
open Go.RowKit
set_option linter.unusedVariables false
set_option linter.unusedSimpArgs false
set_option linter.unnecessarySimpa false

set_option maxRecDepth 100000 in
set_option maxHeartbeats 4000000 in
theorem walk_FnExactTimesFields (W0 H0 : Int) (Q0 : Bool) (s0 : Option Addr) (n0 c0 : Nat) (zs0 : List Nat) (hz0 : zs0.length = n0) (hn0 : n0 ≤ 9223372036854775807) (wW0 : (Lit.int .i64 W0).wf = true) (wH0 : (Lit.int .i64 H0).wf = true) (W1 H1 : Int) (Q1 : Bool) (s1 : Option Addr) (n1 c1 : Nat) (zs1 : List Nat) (hz1 : zs1.length = n1) (hn1 : n1 ≤ 9223372036854775807) (wW1 : (Lit.int .i64 W1).wf = true) (wH1 : (Lit.int .i64 H1).wf = true) (w : World) (hR0 : VArr w s0 (flts zs0)) (hR1 : VArr w s1 (flts zs1)) :
    Calls Try.prog 8 #[.agg #[.int .i64 W0, .int .i64 H0, .bool Q0, .slice s0 n0 c0], .agg #[.int .i64 W1, .int .i64 H1, .bool Q1, .slice s1 n1 c1]] w fun e w' => e = .returned (.bool true) ∧ Ext w w' := by
  have EB : Ext w ((w.alloc (.cells #[.int .i64 W0, .int .i64 H0, .bool Q0, .slice s0 n0 c0] 24)).alloc (.cells #[.int .i64 W1, .int .i64 H1, .bool Q1, .slice s1 n1 c1] 24)) := Ext.alloc (Ext.alloc (Ext.refl w) _) _
  have B0 := heap_mid1 w (.cells #[.int .i64 W0, .int .i64 H0, .bool Q0, .slice s0 n0 c0] 24) (.cells #[.int .i64 W1, .int .i64 H1, .bool Q1, .slice s1 n1 c1] 24)
  have B1 := heap_new1 w (.cells #[.int .i64 W0, .int .i64 H0, .bool Q0, .slice s0 n0 c0] 24) (.cells #[.int .i64 W1, .int .i64 H1, .bool Q1, .slice s1 n1 c1] 24)
  by_cases big0 : (1048576 : Int) - n0 < 0
  · -- too large
    go_enter Try.func8, Try.ntmps8
    go_wp2_with fail
    have R0 := hR0.ext EB
    have R1 := hR1.ext EB
    generalize hsz : w.heap.size = pz at *
    generalize ((w.alloc (.cells #[.int .i64 W0, .int .i64 H0, .bool Q0, .slice s0 n0 c0] 24)).alloc (.cells #[.int .i64 W1, .int .i64 H1, .bool Q1, .slice s1 n1 c1] 24)) = wb at *
    have HSZ := Lib.hid hsz
    clear hsz
    have E0 : Hid (Ext wb wb) := Ext.refl wb
    refine (szField_any W0 H0 Q0 s0 n0 c0 (1048576 : Int) hn0 (by omega) (by omega) _).mono ?_
    rw [if_pos (by omega)]
    rintro e w1 ⟨rfl, hX1⟩
    have E1 := Lib.hid (E0.out.trans hX1)
    clear hX1 E0
    obtain ⟨⟨cb0_0, cb0_1, cb0_2, cb0_3⟩, _⟩ := block4 (E1.out.block B0)
    have lb0 := lt_of_block (E1.out.block B0)
    obtain ⟨⟨cb1_0, cb1_1, cb1_2, cb1_3⟩, _⟩ := block4 (E1.out.block B1)
    have lb1 := lt_of_block (E1.out.block B1)
    go_wp2
    go_ret
    exact ⟨rfl, EB.trans E1.out⟩
  · -- not so large
    have hl0 : n0 ≤ 1048576 := by omega
    by_cases big1 : (1048576 : Int) - n0 - n1 < 0
    · -- too large
      go_enter Try.func8, Try.ntmps8
      go_wp2_with fail
      have R0 := hR0.ext EB
      have R1 := hR1.ext EB
      generalize hsz : w.heap.size = pz at *
      generalize ((w.alloc (.cells #[.int .i64 W0, .int .i64 H0, .bool Q0, .slice s0 n0 c0] 24)).alloc (.cells #[.int .i64 W1, .int .i64 H1, .bool Q1, .slice s1 n1 c1] 24)) = wb at *
      have HSZ := Lib.hid hsz
      clear hsz
      have E0 : Hid (Ext wb wb) := Ext.refl wb
      refine (szField_any W0 H0 Q0 s0 n0 c0 (1048576 : Int) hn0 (by omega) (by omega) _).mono ?_
      rw [if_neg (by omega)]
      rintro e w1 ⟨rfl, hX1⟩
      have E1 := Lib.hid (E0.out.trans hX1)
      clear hX1 E0
      obtain ⟨⟨cb0_0, cb0_1, cb0_2, cb0_3⟩, _⟩ := block4 (E1.out.block B0)
      have lb0 := lt_of_block (E1.out.block B0)
      obtain ⟨⟨cb1_0, cb1_1, cb1_2, cb1_3⟩, _⟩ := block4 (E1.out.block B1)
      have lb1 := lt_of_block (E1.out.block B1)
      go_wp2_with fail
      clear cb0_0 cb0_1 cb0_2 cb0_3 lb0 cb1_0 cb1_1 cb1_2 cb1_3 lb1
      refine (szField_any W1 H1 Q1 s1 n1 c1 (1048576 - (n0 : Int)) hn1 (by omega) (by omega) _).mono ?_
      rw [if_pos (by omega)]
      rintro e w2 ⟨rfl, hX2⟩
      have E2 := Lib.hid (E1.out.trans hX2)
      clear hX2 E1
      obtain ⟨⟨cb0_0, cb0_1, cb0_2, cb0_3⟩, _⟩ := block4 (E2.out.block B0)
      have lb0 := lt_of_block (E2.out.block B0)
      obtain ⟨⟨cb1_0, cb1_1, cb1_2, cb1_3⟩, _⟩ := block4 (E2.out.block B1)
      have lb1 := lt_of_block (E2.out.block B1)
      go_wp2
      go_ret
      exact ⟨rfl, EB.trans E2.out⟩
    · -- not so large
      have hl1 : n1 ≤ 1048576 := by omega
      go_enter Try.func8, Try.ntmps8
      go_wp2_with fail
      have R0 := hR0.ext EB
      have R1 := hR1.ext EB
      generalize hsz : w.heap.size = pz at *
      generalize ((w.alloc (.cells #[.int .i64 W0, .int .i64 H0, .bool Q0, .slice s0 n0 c0] 24)).alloc (.cells #[.int .i64 W1, .int .i64 H1, .bool Q1, .slice s1 n1 c1] 24)) = wb at *
      have HSZ := Lib.hid hsz
      clear hsz
      have E0 : Hid (Ext wb wb) := Ext.refl wb
      refine (szField_any W0 H0 Q0 s0 n0 c0 (1048576 : Int) hn0 (by omega) (by omega) _).mono ?_
      rw [if_neg (by omega)]
      rintro e w1 ⟨rfl, hX1⟩
      have E1 := Lib.hid (E0.out.trans hX1)
      clear hX1 E0
      obtain ⟨⟨cb0_0, cb0_1, cb0_2, cb0_3⟩, _⟩ := block4 (E1.out.block B0)
      have lb0 := lt_of_block (E1.out.block B0)
      obtain ⟨⟨cb1_0, cb1_1, cb1_2, cb1_3⟩, _⟩ := block4 (E1.out.block B1)
      have lb1 := lt_of_block (E1.out.block B1)
      go_wp2_with fail
      clear cb0_0 cb0_1 cb0_2 cb0_3 lb0 cb1_0 cb1_1 cb1_2 cb1_3 lb1
      refine (szField_any W1 H1 Q1 s1 n1 c1 (1048576 - (n0 : Int)) hn1 (by omega) (by omega) _).mono ?_
      rw [if_neg (by omega)]
      rintro e w2 ⟨rfl, hX2⟩
      have E2 := Lib.hid (E1.out.trans hX2)
      clear hX2 E1
      obtain ⟨⟨cb0_0, cb0_1, cb0_2, cb0_3⟩, _⟩ := block4 (E2.out.block B0)
      have lb0 := lt_of_block (E2.out.block B0)
      obtain ⟨⟨cb1_0, cb1_1, cb1_2, cb1_3⟩, _⟩ := block4 (E2.out.block B1)
      have lb1 := lt_of_block (E2.out.block B1)
      go_wp2_with fail
      clear cb0_0 cb0_1 cb0_2 cb0_3 lb0 cb1_0 cb1_1 cb1_2 cb1_3 lb1
      refine region_grow_late 9 7 (C := Ext w2) (K := fun f args v wv => (f = 19 → toPostField w2 args v wv) ∧ (f = 33 → ∃ ra rn rc, v = .tuple #[.agg #[.int .i64 (kI (twoB W0 H0 Q0 n0 W1 H1 Q1 n1) W0), .int .i64 (kI (twoB W0 H0 Q0 n0 W1 H1 Q1 n1) H0), .bool (kB (twoB W0 H0 Q0 n0 W1 H1 Q1 n1) Q0), .slice ra rn rc], .bool (twoB W0 H0 Q0 n0 W1 H1 Q1 n1)] ∧ rn ≤ 1048576 ∧ ∃ rx, wv.ownsRow w2.heap.size 30 1 (.slice ra rn rc) rn (flts rx) ∧ List.length rx = rn ∧ fas rx = (kL (twoB W0 H0 Q0 n0 W1 H1 Q1 n1) (gridF (Int.toNat W0) (bothG (fop .mul .f32) W0 H0 Q0 (fas zs0) (fas zs1)) (Int.toNat H0 * Int.toNat W0))))) ⟨fun _ _ h k => h.trans k, fun f args v u u' h ex => ⟨(fun hf => ((h.1) hf).ext ex), (fun hf => let ⟨ra, rn, rc, h1, h2, rx, h3, h4⟩ := (h.2) hf; ⟨ra, rn, rc, h1, h2, rx, ownsRow_ext h3 ex, h4⟩)⟩⟩ (by kernel_rfl) (by kernel_rfl) rfl rfl rfl rfl rfl (blind_extract rfl) (by kernel_rfl) ((Ext.refl w2).drew) ?_
      simp only [List.take_succ_cons, List.take_zero, List.drop_succ_cons, List.drop_zero]
      refine grow_det (c := .agg #[.int .i64 W0, .int .i64 H0, .bool Q0, .slice s0 n0 c0]) rfl (fun u hu _ => ?_) ?_
      · obtain ⟨⟨d0, d1, d2, d3⟩, _⟩ := block4 (hu.block (E2.out.block B0))
        go_simp
      refine grow_cg 19 (fun v => ∃ b, v = .agg #[.int .i64 W0, .int .i64 H0, .bool Q0, .slice (some ⟨b, 0, none⟩) n0 n0]) (fun v wv => ∃ b, v = .agg #[.int .i64 W0, .int .i64 H0, .bool Q0, .slice (some ⟨b, 0, none⟩) n0 n0] ∧ VArr wv (some ⟨b, 0, none⟩) (flts zs0)) rfl ?_
      refine ⟨#[.agg #[.int .i64 W0, .int .i64 H0, .bool Q0, .slice s0 n0 c0]], fun u => ?_, fun u hu _ => ?_, fun v u h => ?_, fun v hv => ?_⟩
      · go_simp
      · refine (toField_any W0 H0 Q0 s0 n0 c0 zs0 hz0 hl0 _ (VArr.ext (VArr.ext R0 E2.out) hu)).mono fun e u' h => ?_
        obtain ⟨b, he, hx, ho⟩ := h
        exact ⟨_, he, hx, ⟨(fun _ => toPostField_mk hz0 (VArr.ext R0 E2.out) (ownsRow_varr ho)), (fun h => by cases h)⟩⟩
      · exact toPostField_get ((h.1) rfl) hz0 (VArr.ext R0 E2.out)
      obtain ⟨bq1, rfl⟩ := hv
      refine grow_det (c := .agg #[.int .i64 W1, .int .i64 H1, .bool Q1, .slice s1 n1 c1]) rfl (fun u hu _ => ?_) ?_
      · obtain ⟨⟨d0, d1, d2, d3⟩, _⟩ := block4 (hu.block (E2.out.block B1))
        go_simp
      refine grow_cg 19 (fun v => ∃ b, v = .agg #[.int .i64 W1, .int .i64 H1, .bool Q1, .slice (some ⟨b, 0, none⟩) n1 n1]) (fun v wv => ∃ b, v = .agg #[.int .i64 W1, .int .i64 H1, .bool Q1, .slice (some ⟨b, 0, none⟩) n1 n1] ∧ VArr wv (some ⟨b, 0, none⟩) (flts zs1)) rfl ?_
      refine ⟨#[.agg #[.int .i64 W1, .int .i64 H1, .bool Q1, .slice s1 n1 c1]], fun u => ?_, fun u hu _ => ?_, fun v u h => ?_, fun v hv => ?_⟩
      · go_simp
      · refine (toField_any W1 H1 Q1 s1 n1 c1 zs1 hz1 hl1 _ (VArr.ext (VArr.ext R1 E2.out) hu)).mono fun e u' h => ?_
        obtain ⟨b, he, hx, ho⟩ := h
        exact ⟨_, he, hx, ⟨(fun _ => toPostField_mk hz1 (VArr.ext R1 E2.out) (ownsRow_varr ho)), (fun h => by cases h)⟩⟩
      · exact toPostField_get ((h.1) rfl) hz1 (VArr.ext R1 E2.out)
      obtain ⟨bq2, rfl⟩ := hv
      refine grow_cg 33 (fun v => ∃ ra rn rc, v = .tuple #[.agg #[.int .i64 (kI (twoB W0 H0 Q0 n0 W1 H1 Q1 n1) W0), .int .i64 (kI (twoB W0 H0 Q0 n0 W1 H1 Q1 n1) H0), .bool (kB (twoB W0 H0 Q0 n0 W1 H1 Q1 n1) Q0), .slice ra rn rc], .bool (twoB W0 H0 Q0 n0 W1 H1 Q1 n1)] ∧ rn ≤ 1048576) (fun v wv => ∀ ra rn rc, v = .tuple #[.agg #[.int .i64 (kI (twoB W0 H0 Q0 n0 W1 H1 Q1 n1) W0), .int .i64 (kI (twoB W0 H0 Q0 n0 W1 H1 Q1 n1) H0), .bool (kB (twoB W0 H0 Q0 n0 W1 H1 Q1 n1) Q0), .slice ra rn rc], .bool (twoB W0 H0 Q0 n0 W1 H1 Q1 n1)] → ∃ rx, wv.ownsRow w2.heap.size 30 1 (.slice ra rn rc) rn (flts rx) ∧ List.length rx = rn ∧ fas rx = (kL (twoB W0 H0 Q0 n0 W1 H1 Q1 n1) (gridF (Int.toNat W0) (bothG (fop .mul .f32) W0 H0 Q0 (fas zs0) (fas zs1)) (Int.toNat H0 * Int.toNat W0)))) rfl ?_
      refine ⟨#[.agg #[.int .i64 W0, .int .i64 H0, .bool Q0, .slice (some ⟨bq1, 0, none⟩) n0 n0], .agg #[.int .i64 W1, .int .i64 H1, .bool Q1, .slice (some ⟨bq2, 0, none⟩) n1 n1]], fun u => ?_, fun u hu hk => ?_, fun v u h => ?_, fun v hv => ?_⟩
      · go_simp
      · refine (specTimes_any W0 H0 Q0 W1 H1 Q1 (some ⟨bq1, 0, none⟩) (some ⟨bq2, 0, none⟩) n0 n0 n1 n1 zs0 zs1 hz0 hz1 hl0 hl1  _ (by obtain ⟨b, hb, hv⟩ := hk 29 (by simp [Oper.looksAt, Op.operands, Call.operands]); simp at hb; subst hb; exact hv) (by obtain ⟨b, hb, hv⟩ := hk 31 (by simp [Oper.looksAt, Op.operands, Call.operands]); simp at hb; subst hb; exact hv)).mono fun e u' h => ?_
        obtain ⟨ra, rn, rc, rx, he, hx, ho, hl, hle, hf⟩ := h
        exact ⟨_, he, hx, ⟨(fun h => by cases h), (fun _ => ⟨ra, rn, rc, rfl, hle, rx, ownsRow_mono ho hu.size, hl, hf⟩)⟩⟩
      · obtain ⟨ra, rn, rc, h1, h2, h3⟩ := (h.2) rfl
        refine ⟨⟨ra, rn, rc, h1, h2⟩, fun ra' rn' rc' he => ?_⟩
        rw [h1] at he; simp at he; obtain ⟨rfl, rfl, rfl⟩ := he; exact h3
      obtain ⟨ra0, rn0, rc0, rfl, re0⟩ := hv
      refine grow_q rfl ?_
      apply Exists.intro
      refine ⟨fun u hu _ => ?_, ?_⟩
      · go_simp; try rfl
      refine grow_q rfl ?_
      apply Exists.intro
      refine ⟨fun u hu _ => ?_, ?_⟩
      · go_simp; try rfl
      refine grow_q rfl ?_
      apply Exists.intro
      refine ⟨fun u hu _ => ?_, ?_⟩
      · go_simp; try rfl
      refine grow_newB (mk := fun b => .pointer (some ⟨b, 0, none⟩)) (ob := .cells #[.int .i64 0, .int .i64 0, .bool false, .slice none 0 0] 27) w2.heap.size rfl (fun b b' h => by simpa using h) (fun u hu => hu.size) (fun u _ _ => ?_) (fun q3 hq3 => ?_)
      · go_simp
      refine grow_nil (fun w3 hX3 hh => ?_)
      obtain ⟨⟨⟨⟨_, _⟩, _⟩, hrow⟩, hbox⟩ := hh
      obtain ⟨rx0, O0, rl0, rf0⟩ := hrow ra0 rn0 rc0 rfl
      clear hrow
      refine late_box 27 _ _ rfl q3 #[.int .i64 (kI (twoB W0 H0 Q0 n0 W1 H1 Q1 n1) W0), .int .i64 (kI (twoB W0 H0 Q0 n0 W1 H1 Q1 n1) H0), .bool (kB (twoB W0 H0 Q0 n0 W1 H1 Q1 n1) Q0), .slice ra0 rn0 rc0] ?_ ?_ 27 _ hbox (by kernel_rfl) rfl (by simp [Value.oneCell']) ?_
      · go_simp
      · go_simp
      intro w4 hS D1
      have hXs := hX3.row hS hq3
      have Os0 := ownsRow_box O0 (by decide) hbox hS
      clear O0
      clear hbox hS hX3 hq3
      have ab3 : wb.heap.size ≤ w2.heap.size := E2.out.size
      have E3 := Lib.hid (E2.out.trans hXs)
      clear hXs E2
      obtain ⟨⟨cb0_0, cb0_1, cb0_2, cb0_3⟩, _⟩ := block4 (E3.out.block B0)
      have lb0 := lt_of_block (E3.out.block B0)
      obtain ⟨⟨cb1_0, cb1_1, cb1_2, cb1_3⟩, _⟩ := block4 (E3.out.block B1)
      have lb1 := lt_of_block (E3.out.block B1)
      obtain ⟨⟨cD1_0, cD1_1, cD1_2, cD1_3⟩, _⟩ := block4 D1
      have lD1 := lt_of_block D1
      go_wp2_with fail
      clear cb0_0 cb0_1 cb0_2 cb0_3 lb0 cb1_0 cb1_1 cb1_2 cb1_3 lb1 cD1_0 cD1_1 cD1_2 cD1_3 lD1
      refine (toField_any W0 H0 Q0 s0 n0 c0 zs0 hz0 hl0 _ (VArr.ext R0 E3.out)).mono ?_
      rintro e w5 ⟨b1, rfl, hX4, O1⟩
      have ab4 : wb.heap.size ≤ w4.heap.size := E3.out.size
      have lt0_1 := fun g hg => (Os0.lt g hg).2
      have E4 := Lib.hid (E3.out.trans hX4)
      have D1_4 := hX4.block D1
      have Os0_4 := ownsRow_ext Os0 hX4
      clear hX4 E3 D1 Os0
      obtain ⟨⟨cb0_0, cb0_1, cb0_2, cb0_3⟩, _⟩ := block4 (E4.out.block B0)
      have lb0 := lt_of_block (E4.out.block B0)
      obtain ⟨⟨cb1_0, cb1_1, cb1_2, cb1_3⟩, _⟩ := block4 (E4.out.block B1)
      have lb1 := lt_of_block (E4.out.block B1)
      obtain ⟨⟨cD1_4_0, cD1_4_1, cD1_4_2, cD1_4_3⟩, _⟩ := block4 D1_4
      have lD1_4 := lt_of_block D1_4
      go_wp2_with fail
      clear cb0_0 cb0_1 cb0_2 cb0_3 lb0 cb1_0 cb1_1 cb1_2 cb1_3 lb1 cD1_4_0 cD1_4_1 cD1_4_2 cD1_4_3 lD1_4
      have hY5 := (Ext.refl w5).alloc (.cells #[.int .i64 W0, .int .i64 H0, .bool Q0, .slice (some ⟨b1, 0, none⟩) n0 n0] 27)
      have D2 := heap_new w5 (.cells #[.int .i64 W0, .int .i64 H0, .bool Q0, .slice (some ⟨b1, 0, none⟩) n0 n0] 27)
      generalize hw5 : w5.alloc (.cells #[.int .i64 W0, .int .i64 H0, .bool Q0, .slice (some ⟨b1, 0, none⟩) n0 n0] 27) = w6 at *
      clear hw5
      have E6 := Lib.hid (E4.out.trans hY5)
      have D1_6 := hY5.block D1_4
      have Os0_6 := ownsRow_ext Os0_4 hY5
      have O1_6 := ownsRow_ext O1 hY5
      clear hY5 E4 D1_4 Os0_4 O1
      refine (toField_any W1 H1 Q1 s1 n1 c1 zs1 hz1 hl1 _ (VArr.ext R1 E6.out)).mono ?_
      rintro e w7 ⟨b2, rfl, hX7, O2⟩
      have ab7 : wb.heap.size ≤ w6.heap.size := E6.out.size
      have lt0_2 := fun g hg => (Os0_6.lt g hg).2
      have lt1_2 := fun g hg => (O1_6.lt g hg).2
      have E7 := Lib.hid (E6.out.trans hX7)
      have D1_7 := hX7.block D1_6
      have D2_7 := hX7.block D2
      have Os0_7 := ownsRow_ext Os0_6 hX7
      have O1_7 := ownsRow_ext O1_6 hX7
      clear hX7 E6 D1_6 D2 Os0_6 O1_6
      obtain ⟨⟨cb0_0, cb0_1, cb0_2, cb0_3⟩, _⟩ := block4 (E7.out.block B0)
      have lb0 := lt_of_block (E7.out.block B0)
      obtain ⟨⟨cb1_0, cb1_1, cb1_2, cb1_3⟩, _⟩ := block4 (E7.out.block B1)
      have lb1 := lt_of_block (E7.out.block B1)
      obtain ⟨⟨cD1_7_0, cD1_7_1, cD1_7_2, cD1_7_3⟩, _⟩ := block4 D1_7
      have lD1_7 := lt_of_block D1_7
      obtain ⟨⟨cD2_7_0, cD2_7_1, cD2_7_2, cD2_7_3⟩, _⟩ := block4 D2_7
      have lD2_7 := lt_of_block D2_7
      go_wp2_with fail
      clear cb0_0 cb0_1 cb0_2 cb0_3 lb0 cb1_0 cb1_1 cb1_2 cb1_3 lb1 cD1_7_0 cD1_7_1 cD1_7_2 cD1_7_3 lD1_7 cD2_7_0 cD2_7_1 cD2_7_2 cD2_7_3 lD2_7
      have hY8 := (Ext.refl w7).alloc (.cells #[.int .i64 W1, .int .i64 H1, .bool Q1, .slice (some ⟨b2, 0, none⟩) n1 n1] 27)
      have D3 := heap_new w7 (.cells #[.int .i64 W1, .int .i64 H1, .bool Q1, .slice (some ⟨b2, 0, none⟩) n1 n1] 27)
      generalize hw8 : w7.alloc (.cells #[.int .i64 W1, .int .i64 H1, .bool Q1, .slice (some ⟨b2, 0, none⟩) n1 n1] 27) = w8 at *
      clear hw8
      have E9 := Lib.hid (E7.out.trans hY8)
      have D1_9 := hY8.block D1_7
      have D2_9 := hY8.block D2_7
      have Os0_9 := ownsRow_ext Os0_7 hY8
      have O1_9 := ownsRow_ext O1_7 hY8
      have O2_9 := ownsRow_ext O2 hY8
      clear hY8 E7 D1_7 D2_7 Os0_7 O1_7 O2
      refine (implTimes_any W0 H0 Q0 W1 H1 Q1 (some ⟨b1, 0, none⟩) (some ⟨b2, 0, none⟩) n0 n0 n1 n1 zs0 zs1 hz0 hz1 hl0 hl1  _ (ownsRow_varr O1_9) (ownsRow_varr O2_9)).mono ?_
      rintro e w9 ⟨ra3, rn3, rc3, rx3, rfl, hX10, O3, rl3, re3, rf3⟩
      have ab10 : wb.heap.size ≤ w8.heap.size := E9.out.size
      have lt0_3 := fun g hg => (Os0_9.lt g hg).2
      have lt1_3 := fun g hg => (O1_9.lt g hg).2
      have lt2_3 := fun g hg => (O2_9.lt g hg).2
      have E10 := Lib.hid (E9.out.trans hX10)
      have D1_10 := hX10.block D1_9
      have D2_10 := hX10.block D2_9
      have D3_10 := hX10.block D3
      have Os0_10 := ownsRow_ext Os0_9 hX10
      have O1_10 := ownsRow_ext O1_9 hX10
      have O2_10 := ownsRow_ext O2_9 hX10
      clear hX10 E9 D1_9 D2_9 D3 Os0_9 O1_9 O2_9
      obtain ⟨⟨cb0_0, cb0_1, cb0_2, cb0_3⟩, _⟩ := block4 (E10.out.block B0)
      have lb0 := lt_of_block (E10.out.block B0)
      obtain ⟨⟨cb1_0, cb1_1, cb1_2, cb1_3⟩, _⟩ := block4 (E10.out.block B1)
      have lb1 := lt_of_block (E10.out.block B1)
      obtain ⟨⟨cD1_10_0, cD1_10_1, cD1_10_2, cD1_10_3⟩, _⟩ := block4 D1_10
      have lD1_10 := lt_of_block D1_10
      obtain ⟨⟨cD2_10_0, cD2_10_1, cD2_10_2, cD2_10_3⟩, _⟩ := block4 D2_10
      have lD2_10 := lt_of_block D2_10
      obtain ⟨⟨cD3_10_0, cD3_10_1, cD3_10_2, cD3_10_3⟩, _⟩ := block4 D3_10
      have lD3_10 := lt_of_block D3_10
      go_wp2_with fail
      clear cb0_0 cb0_1 cb0_2 cb0_3 lb0 cb1_0 cb1_1 cb1_2 cb1_3 lb1 cD1_10_0 cD1_10_1 cD1_10_2 cD1_10_3 lD1_10 cD2_10_0 cD2_10_1 cD2_10_2 cD2_10_3 lD2_10 cD3_10_0 cD3_10_1 cD3_10_2 cD3_10_3 lD3_10
      have hY11 := (Ext.refl w9).alloc (.cells #[.int .i64 (kI (twoB W0 H0 Q0 n0 W1 H1 Q1 n1) W0), .int .i64 (kI (twoB W0 H0 Q0 n0 W1 H1 Q1 n1) H0), .bool (kB (twoB W0 H0 Q0 n0 W1 H1 Q1 n1) Q0), .slice ra3 rn3 rc3] 27)
      have D4 := heap_new w9 (.cells #[.int .i64 (kI (twoB W0 H0 Q0 n0 W1 H1 Q1 n1) W0), .int .i64 (kI (twoB W0 H0 Q0 n0 W1 H1 Q1 n1) H0), .bool (kB (twoB W0 H0 Q0 n0 W1 H1 Q1 n1) Q0), .slice ra3 rn3 rc3] 27)
      generalize hw11 : w9.alloc (.cells #[.int .i64 (kI (twoB W0 H0 Q0 n0 W1 H1 Q1 n1) W0), .int .i64 (kI (twoB W0 H0 Q0 n0 W1 H1 Q1 n1) H0), .bool (kB (twoB W0 H0 Q0 n0 W1 H1 Q1 n1) Q0), .slice ra3 rn3 rc3] 27) = w10 at *
      clear hw11
      have E12 := Lib.hid (E10.out.trans hY11)
      have D1_12 := hY11.block D1_10
      have D2_12 := hY11.block D2_10
      have D3_12 := hY11.block D3_10
      have Os0_12 := ownsRow_ext Os0_10 hY11
      have O1_12 := ownsRow_ext O1_10 hY11
      have O2_12 := ownsRow_ext O2_10 hY11
      have O3_12 := ownsRow_ext O3 hY11
      clear hY11 E10 D1_10 D2_10 D3_10 Os0_10 O1_10 O2_10 O3
      refine (eqField_any (kI (twoB W0 H0 Q0 n0 W1 H1 Q1 n1) W0) (kI (twoB W0 H0 Q0 n0 W1 H1 Q1 n1) H0) (kI (twoB W0 H0 Q0 n0 W1 H1 Q1 n1) W0) (kI (twoB W0 H0 Q0 n0 W1 H1 Q1 n1) H0) (kB (twoB W0 H0 Q0 n0 W1 H1 Q1 n1) Q0) (kB (twoB W0 H0 Q0 n0 W1 H1 Q1 n1) Q0) _ _ rn3 _ rn0 _ rx3 rx0 rl3 rl0 (by omega) (by omega) rfl rfl rfl ((rf3).trans (Eq.symm rf0)) _ (ownsRow_varr O3_12) (ownsRow_varr Os0_12)).mono ?_
      rintro e w11 ⟨rfl, hX13⟩
      have E13 := Lib.hid (E12.out.trans hX13)
      have D1_13 := hX13.block D1_12
      have D2_13 := hX13.block D2_12
      have D3_13 := hX13.block D3_12
      have D4_13 := hX13.block D4
      have Os0_13 := ownsRow_ext Os0_12 hX13
      have O1_13 := ownsRow_ext O1_12 hX13
      have O2_13 := ownsRow_ext O2_12 hX13
      have O3_13 := ownsRow_ext O3_12 hX13
      clear hX13 E12 D1_12 D2_12 D3_12 D4 Os0_12 O1_12 O2_12 O3_12
      obtain ⟨⟨cb0_0, cb0_1, cb0_2, cb0_3⟩, _⟩ := block4 (E13.out.block B0)
      have lb0 := lt_of_block (E13.out.block B0)
      obtain ⟨⟨cb1_0, cb1_1, cb1_2, cb1_3⟩, _⟩ := block4 (E13.out.block B1)
      have lb1 := lt_of_block (E13.out.block B1)
      obtain ⟨⟨cD1_13_0, cD1_13_1, cD1_13_2, cD1_13_3⟩, _⟩ := block4 D1_13
      have lD1_13 := lt_of_block D1_13
      obtain ⟨⟨cD2_13_0, cD2_13_1, cD2_13_2, cD2_13_3⟩, _⟩ := block4 D2_13
      have lD2_13 := lt_of_block D2_13
      obtain ⟨⟨cD3_13_0, cD3_13_1, cD3_13_2, cD3_13_3⟩, _⟩ := block4 D3_13
      have lD3_13 := lt_of_block D3_13
      obtain ⟨⟨cD4_13_0, cD4_13_1, cD4_13_2, cD4_13_3⟩, _⟩ := block4 D4_13
      have lD4_13 := lt_of_block D4_13
      go_wp2_with fail
      clear cb0_0 cb0_1 cb0_2 cb0_3 lb0 cb1_0 cb1_1 cb1_2 cb1_3 lb1 cD1_13_0 cD1_13_1 cD1_13_2 cD1_13_3 lD1_13 cD2_13_0 cD2_13_1 cD2_13_2 cD2_13_3 lD2_13 cD3_13_0 cD3_13_1 cD3_13_2 cD3_13_3 lD3_13 cD4_13_0 cD4_13_1 cD4_13_2 cD4_13_3 lD4_13
      refine region_grow (C := Ext w11) (K := fun f args v wv => (f = 19 → toPostField w11 args v wv) ∧ (f = 21 → v = .bool true)) ⟨fun _ _ h k => h.trans k, fun f args v u u' h ex => ⟨(fun hf => ((h.1) hf).ext ex), ((h.2))⟩⟩ (by kernel_rfl) (by kernel_rfl) ((Ext.refl w11).drew) ?_
      refine grow_det (c := .agg #[.int .i64 W0, .int .i64 H0, .bool Q0, .slice (some ⟨b1, 0, none⟩) n0 n0]) rfl (fun u hu _ => ?_) ?_
      · obtain ⟨⟨d0, d1, d2, d3⟩, _⟩ := block4 (hu.block D2_13)
        go_simp
      refine grow_det (c := .agg #[.int .i64 W0, .int .i64 H0, .bool Q0, .slice s0 n0 c0]) rfl (fun u hu _ => ?_) ?_
      · obtain ⟨⟨d0, d1, d2, d3⟩, _⟩ := block4 (hu.block (E13.out.block B0))
        go_simp
      refine grow_cg 19 (fun v => ∃ b, v = .agg #[.int .i64 W0, .int .i64 H0, .bool Q0, .slice (some ⟨b, 0, none⟩) n0 n0]) (fun v wv => ∃ b, v = .agg #[.int .i64 W0, .int .i64 H0, .bool Q0, .slice (some ⟨b, 0, none⟩) n0 n0] ∧ VArr wv (some ⟨b, 0, none⟩) (flts zs0)) rfl ?_
      refine ⟨#[.agg #[.int .i64 W0, .int .i64 H0, .bool Q0, .slice s0 n0 c0]], fun u => ?_, fun u hu _ => ?_, fun v u h => ?_, fun v hv => ?_⟩
      · go_simp
      · refine (toField_any W0 H0 Q0 s0 n0 c0 zs0 hz0 hl0 _ (VArr.ext (VArr.ext R0 E13.out) hu)).mono fun e u' h => ?_
        obtain ⟨b, he, hx, ho⟩ := h
        exact ⟨_, he, hx, ⟨(fun _ => toPostField_mk hz0 (VArr.ext R0 E13.out) (ownsRow_varr ho)), (fun h => by cases h)⟩⟩
      · exact toPostField_get ((h.1) rfl) hz0 (VArr.ext R0 E13.out)
      obtain ⟨bq3, rfl⟩ := hv
      refine grow_c1 21 rfl ?_
      refine ⟨#[.agg #[.int .i64 W0, .int .i64 H0, .bool Q0, .slice (some ⟨b1, 0, none⟩) n0 n0], .agg #[.int .i64 W0, .int .i64 H0, .bool Q0, .slice (some ⟨bq3, 0, none⟩) n0 n0]], fun u => ?_, .bool true, fun u hu hk => ?_, fun v u h => (h.2) rfl, fun u => ⟨(fun h => by cases h), (fun _ => rfl)⟩, ?_⟩
      · go_simp
      · exact eqField_any W0 H0 W0 H0 Q0 Q0 _ _ n0 _ n0 _ zs0 zs0 hz0 hz0 (by omega) (by omega) rfl rfl rfl (((rfl : fas zs0 = fas zs0)).trans ((rfl : fas zs0 = fas zs0))) _ (VArr.ext (ownsRow_varr O1_13) hu) (by obtain ⟨b, hb, hv⟩ := hk 56 (by simp [Oper.looksAt, Op.operands, Call.operands]); simp at hb; subst hb; exact hv)
      refine grow_q rfl ?_
      apply Exists.intro
      refine ⟨fun u hu _ => ?_, ?_⟩
      · go_simp; try rfl
      refine grow_nil (fun w12 hX14 hh => ?_)
      obtain ⟨_, _⟩ := hh
      go_simp
      have E14 := Lib.hid (E13.out.trans hX14)
      have D1_14 := hX14.block D1_13
      have D2_14 := hX14.block D2_13
      have D3_14 := hX14.block D3_13
      have D4_14 := hX14.block D4_13
      have Os0_14 := ownsRow_ext Os0_13 hX14
      have O1_14 := ownsRow_ext O1_13 hX14
      have O2_14 := ownsRow_ext O2_13 hX14
      have O3_14 := ownsRow_ext O3_13 hX14
      clear hX14 E13 D1_13 D2_13 D3_13 D4_13 Os0_13 O1_13 O2_13 O3_13
      obtain ⟨⟨cb0_0, cb0_1, cb0_2, cb0_3⟩, _⟩ := block4 (E14.out.block B0)
      have lb0 := lt_of_block (E14.out.block B0)
      obtain ⟨⟨cb1_0, cb1_1, cb1_2, cb1_3⟩, _⟩ := block4 (E14.out.block B1)
      have lb1 := lt_of_block (E14.out.block B1)
      obtain ⟨⟨cD1_14_0, cD1_14_1, cD1_14_2, cD1_14_3⟩, _⟩ := block4 D1_14
      have lD1_14 := lt_of_block D1_14
      obtain ⟨⟨cD2_14_0, cD2_14_1, cD2_14_2, cD2_14_3⟩, _⟩ := block4 D2_14
      have lD2_14 := lt_of_block D2_14
      obtain ⟨⟨cD3_14_0, cD3_14_1, cD3_14_2, cD3_14_3⟩, _⟩ := block4 D3_14
      have lD3_14 := lt_of_block D3_14
      obtain ⟨⟨cD4_14_0, cD4_14_1, cD4_14_2, cD4_14_3⟩, _⟩ := block4 D4_14
      have lD4_14 := lt_of_block D4_14
      go_wp2_with fail
      clear cb0_0 cb0_1 cb0_2 cb0_3 lb0 cb1_0 cb1_1 cb1_2 cb1_3 lb1 cD1_14_0 cD1_14_1 cD1_14_2 cD1_14_3 lD1_14 cD2_14_0 cD2_14_1 cD2_14_2 cD2_14_3 lD2_14 cD3_14_0 cD3_14_1 cD3_14_2 cD3_14_3 lD3_14 cD4_14_0 cD4_14_1 cD4_14_2 cD4_14_3 lD4_14
      refine region_grow (C := Ext w12) (K := fun f args v wv => (f = 19 → toPostField w12 args v wv) ∧ (f = 21 → v = .bool true)) ⟨fun _ _ h k => h.trans k, fun f args v u u' h ex => ⟨(fun hf => ((h.1) hf).ext ex), ((h.2))⟩⟩ (by kernel_rfl) (by kernel_rfl) ((Ext.refl w12).drew) ?_
      refine grow_det (c := .agg #[.int .i64 W1, .int .i64 H1, .bool Q1, .slice (some ⟨b2, 0, none⟩) n1 n1]) rfl (fun u hu _ => ?_) ?_
      · obtain ⟨⟨d0, d1, d2, d3⟩, _⟩ := block4 (hu.block D3_14)
        go_simp
      refine grow_det (c := .agg #[.int .i64 W1, .int .i64 H1, .bool Q1, .slice s1 n1 c1]) rfl (fun u hu _ => ?_) ?_
      · obtain ⟨⟨d0, d1, d2, d3⟩, _⟩ := block4 (hu.block (E14.out.block B1))
        go_simp
      refine grow_cg 19 (fun v => ∃ b, v = .agg #[.int .i64 W1, .int .i64 H1, .bool Q1, .slice (some ⟨b, 0, none⟩) n1 n1]) (fun v wv => ∃ b, v = .agg #[.int .i64 W1, .int .i64 H1, .bool Q1, .slice (some ⟨b, 0, none⟩) n1 n1] ∧ VArr wv (some ⟨b, 0, none⟩) (flts zs1)) rfl ?_
      refine ⟨#[.agg #[.int .i64 W1, .int .i64 H1, .bool Q1, .slice s1 n1 c1]], fun u => ?_, fun u hu _ => ?_, fun v u h => ?_, fun v hv => ?_⟩
      · go_simp
      · refine (toField_any W1 H1 Q1 s1 n1 c1 zs1 hz1 hl1 _ (VArr.ext (VArr.ext R1 E14.out) hu)).mono fun e u' h => ?_
        obtain ⟨b, he, hx, ho⟩ := h
        exact ⟨_, he, hx, ⟨(fun _ => toPostField_mk hz1 (VArr.ext R1 E14.out) (ownsRow_varr ho)), (fun h => by cases h)⟩⟩
      · exact toPostField_get ((h.1) rfl) hz1 (VArr.ext R1 E14.out)
      obtain ⟨bq4, rfl⟩ := hv
      refine grow_c1 21 rfl ?_
      refine ⟨#[.agg #[.int .i64 W1, .int .i64 H1, .bool Q1, .slice (some ⟨b2, 0, none⟩) n1 n1], .agg #[.int .i64 W1, .int .i64 H1, .bool Q1, .slice (some ⟨bq4, 0, none⟩) n1 n1]], fun u => ?_, .bool true, fun u hu hk => ?_, fun v u h => (h.2) rfl, fun u => ⟨(fun h => by cases h), (fun _ => rfl)⟩, ?_⟩
      · go_simp
      · exact eqField_any W1 H1 W1 H1 Q1 Q1 _ _ n1 _ n1 _ zs1 zs1 hz1 hz1 (by omega) (by omega) rfl rfl rfl (((rfl : fas zs1 = fas zs1)).trans ((rfl : fas zs1 = fas zs1))) _ (VArr.ext (ownsRow_varr O2_14) hu) (by obtain ⟨b, hb, hv⟩ := hk 61 (by simp [Oper.looksAt, Op.operands, Call.operands]); simp at hb; subst hb; exact hv)
      refine grow_q rfl ?_
      apply Exists.intro
      refine ⟨fun u hu _ => ?_, ?_⟩
      · go_simp; try rfl
      refine grow_nil (fun w13 hX15 hh => ?_)
      obtain ⟨_, _⟩ := hh
      go_simp
      have E15 := Lib.hid (E14.out.trans hX15)
      have D1_15 := hX15.block D1_14
      have D2_15 := hX15.block D2_14
      have D3_15 := hX15.block D3_14
      have D4_15 := hX15.block D4_14
      have Os0_15 := ownsRow_ext Os0_14 hX15
      have O1_15 := ownsRow_ext O1_14 hX15
      have O2_15 := ownsRow_ext O2_14 hX15
      have O3_15 := ownsRow_ext O3_14 hX15
      clear hX15 E14 D1_14 D2_14 D3_14 D4_14 Os0_14 O1_14 O2_14 O3_14
      obtain ⟨⟨cb0_0, cb0_1, cb0_2, cb0_3⟩, _⟩ := block4 (E15.out.block B0)
      have lb0 := lt_of_block (E15.out.block B0)
      obtain ⟨⟨cb1_0, cb1_1, cb1_2, cb1_3⟩, _⟩ := block4 (E15.out.block B1)
      have lb1 := lt_of_block (E15.out.block B1)
      obtain ⟨⟨cD1_15_0, cD1_15_1, cD1_15_2, cD1_15_3⟩, _⟩ := block4 D1_15
      have lD1_15 := lt_of_block D1_15
      obtain ⟨⟨cD2_15_0, cD2_15_1, cD2_15_2, cD2_15_3⟩, _⟩ := block4 D2_15
      have lD2_15 := lt_of_block D2_15
      obtain ⟨⟨cD3_15_0, cD3_15_1, cD3_15_2, cD3_15_3⟩, _⟩ := block4 D3_15
      have lD3_15 := lt_of_block D3_15
      obtain ⟨⟨cD4_15_0, cD4_15_1, cD4_15_2, cD4_15_3⟩, _⟩ := block4 D4_15
      have lD4_15 := lt_of_block D4_15
      go_wp2_with fail
      clear cb0_0 cb0_1 cb0_2 cb0_3 lb0 cb1_0 cb1_1 cb1_2 cb1_3 lb1 cD1_15_0 cD1_15_1 cD1_15_2 cD1_15_3 lD1_15 cD2_15_0 cD2_15_1 cD2_15_2 cD2_15_3 lD2_15 cD3_15_0 cD3_15_1 cD3_15_2 cD3_15_3 lD3_15 cD4_15_0 cD4_15_1 cD4_15_2 cD4_15_3 lD4_15
      refine (markField_any W0 H0 Q0 (some ⟨b1, 0, none⟩) n0 n0 _ zs0 1 (by omega) (by omega) (by omega) _ O1_15).mono ?_
      rintro e w14 ⟨rfl, hG16, O1_m16⟩
      have E16 := Lib.hid (Ext.rowv E15.out O1_15 ab4 hG16)
      have D1_16 := block_keep (by decide) O1_15 hG16 D1_15
      have D2_16 := block_keep (by decide) O1_15 hG16 D2_15
      have D3_16 := block_keep (by decide) O1_15 hG16 D3_15
      have D4_16 := block_keep (by decide) O1_15 hG16 D4_15
      have Os0_16 := row_keep1 Os0_15 O1_15 lt0_1 hG16
      have O2_16 := row_keep2 O2_15 O1_15 lt1_2 hG16
      have O3_16 := row_keep2 O3_15 O1_15 lt1_3 hG16
      clear hG16 E15 D1_15 D2_15 D3_15 D4_15 Os0_15 O2_15 O3_15
      clear O1_15
      obtain ⟨⟨cb0_0, cb0_1, cb0_2, cb0_3⟩, _⟩ := block4 (E16.out.block B0)
      have lb0 := lt_of_block (E16.out.block B0)
      obtain ⟨⟨cb1_0, cb1_1, cb1_2, cb1_3⟩, _⟩ := block4 (E16.out.block B1)
      have lb1 := lt_of_block (E16.out.block B1)
      obtain ⟨⟨cD1_16_0, cD1_16_1, cD1_16_2, cD1_16_3⟩, _⟩ := block4 D1_16
      have lD1_16 := lt_of_block D1_16
      obtain ⟨⟨cD2_16_0, cD2_16_1, cD2_16_2, cD2_16_3⟩, _⟩ := block4 D2_16
      have lD2_16 := lt_of_block D2_16
      obtain ⟨⟨cD3_16_0, cD3_16_1, cD3_16_2, cD3_16_3⟩, _⟩ := block4 D3_16
      have lD3_16 := lt_of_block D3_16
      obtain ⟨⟨cD4_16_0, cD4_16_1, cD4_16_2, cD4_16_3⟩, _⟩ := block4 D4_16
      have lD4_16 := lt_of_block D4_16
      go_wp2_with fail
      clear cb0_0 cb0_1 cb0_2 cb0_3 lb0 cb1_0 cb1_1 cb1_2 cb1_3 lb1 cD1_16_0 cD1_16_1 cD1_16_2 cD1_16_3 lD1_16 cD2_16_0 cD2_16_1 cD2_16_2 cD2_16_3 lD2_16 cD3_16_0 cD3_16_1 cD3_16_2 cD3_16_3 lD3_16 cD4_16_0 cD4_16_1 cD4_16_2 cD4_16_3 lD4_16
      refine (markField_any W1 H1 Q1 (some ⟨b2, 0, none⟩) n1 n1 _ zs1 (1 + n0) (by omega) (by omega) (by omega) _ O2_16).mono ?_
      rintro e w15 ⟨rfl, hG17, O2_m17⟩
      have E17 := Lib.hid (Ext.rowv E16.out O2_16 ab7 hG17)
      have D1_17 := block_keep (by decide) O2_16 hG17 D1_16
      have D2_17 := block_keep (by decide) O2_16 hG17 D2_16
      have D3_17 := block_keep (by decide) O2_16 hG17 D3_16
      have D4_17 := block_keep (by decide) O2_16 hG17 D4_16
      have Os0_17 := row_keep1 Os0_16 O2_16 lt0_2 hG17
      have O1_17 := row_keep1 O1_m16 O2_16 lt1_2 hG17
      have O3_17 := row_keep2 O3_16 O2_16 lt2_3 hG17
      clear hG17 E16 D1_16 D2_16 D3_16 D4_16 Os0_16 O1_m16 O3_16
      clear O2_16
      obtain ⟨⟨cb0_0, cb0_1, cb0_2, cb0_3⟩, _⟩ := block4 (E17.out.block B0)
      have lb0 := lt_of_block (E17.out.block B0)
      obtain ⟨⟨cb1_0, cb1_1, cb1_2, cb1_3⟩, _⟩ := block4 (E17.out.block B1)
      have lb1 := lt_of_block (E17.out.block B1)
      obtain ⟨⟨cD1_17_0, cD1_17_1, cD1_17_2, cD1_17_3⟩, _⟩ := block4 D1_17
      have lD1_17 := lt_of_block D1_17
      obtain ⟨⟨cD2_17_0, cD2_17_1, cD2_17_2, cD2_17_3⟩, _⟩ := block4 D2_17
      have lD2_17 := lt_of_block D2_17
      obtain ⟨⟨cD3_17_0, cD3_17_1, cD3_17_2, cD3_17_3⟩, _⟩ := block4 D3_17
      have lD3_17 := lt_of_block D3_17
      obtain ⟨⟨cD4_17_0, cD4_17_1, cD4_17_2, cD4_17_3⟩, _⟩ := block4 D4_17
      have lD4_17 := lt_of_block D4_17
      go_wp2_with fail
      clear cb0_0 cb0_1 cb0_2 cb0_3 lb0 cb1_0 cb1_1 cb1_2 cb1_3 lb1 cD1_17_0 cD1_17_1 cD1_17_2 cD1_17_3 lD1_17 cD2_17_0 cD2_17_1 cD2_17_2 cD2_17_3 lD2_17 cD3_17_0 cD3_17_1 cD3_17_2 cD3_17_3 lD3_17 cD4_17_0 cD4_17_1 cD4_17_2 cD4_17_3 lD4_17
      refine (eqField_any (kI (twoB W0 H0 Q0 n0 W1 H1 Q1 n1) W0) (kI (twoB W0 H0 Q0 n0 W1 H1 Q1 n1) H0) (kI (twoB W0 H0 Q0 n0 W1 H1 Q1 n1) W0) (kI (twoB W0 H0 Q0 n0 W1 H1 Q1 n1) H0) (kB (twoB W0 H0 Q0 n0 W1 H1 Q1 n1) Q0) (kB (twoB W0 H0 Q0 n0 W1 H1 Q1 n1) Q0) _ _ rn3 _ rn0 _ rx3 rx0 rl3 rl0 (by omega) (by omega) rfl rfl rfl ((rf3).trans (Eq.symm rf0)) _ (ownsRow_varr O3_17) (ownsRow_varr Os0_17)).mono ?_
      rintro e w16 ⟨rfl, hX18⟩
      have E18 := Lib.hid (E17.out.trans hX18)
      have D1_18 := hX18.block D1_17
      have D2_18 := hX18.block D2_17
      have D3_18 := hX18.block D3_17
      have D4_18 := hX18.block D4_17
      have Os0_18 := ownsRow_ext Os0_17 hX18
      have O1_18 := ownsRow_ext O1_17 hX18
      have O2_18 := ownsRow_ext O2_m17 hX18
      have O3_18 := ownsRow_ext O3_17 hX18
      clear hX18 E17 D1_17 D2_17 D3_17 D4_17 Os0_17 O1_17 O2_m17 O3_17
      obtain ⟨⟨cb0_0, cb0_1, cb0_2, cb0_3⟩, _⟩ := block4 (E18.out.block B0)
      have lb0 := lt_of_block (E18.out.block B0)
      obtain ⟨⟨cb1_0, cb1_1, cb1_2, cb1_3⟩, _⟩ := block4 (E18.out.block B1)
      have lb1 := lt_of_block (E18.out.block B1)
      obtain ⟨⟨cD1_18_0, cD1_18_1, cD1_18_2, cD1_18_3⟩, _⟩ := block4 D1_18
      have lD1_18 := lt_of_block D1_18
      obtain ⟨⟨cD2_18_0, cD2_18_1, cD2_18_2, cD2_18_3⟩, _⟩ := block4 D2_18
      have lD2_18 := lt_of_block D2_18
      obtain ⟨⟨cD3_18_0, cD3_18_1, cD3_18_2, cD3_18_3⟩, _⟩ := block4 D3_18
      have lD3_18 := lt_of_block D3_18
      obtain ⟨⟨cD4_18_0, cD4_18_1, cD4_18_2, cD4_18_3⟩, _⟩ := block4 D4_18
      have lD4_18 := lt_of_block D4_18
      go_wp2_with fail
      clear cb0_0 cb0_1 cb0_2 cb0_3 lb0 cb1_0 cb1_1 cb1_2 cb1_3 lb1 cD1_18_0 cD1_18_1 cD1_18_2 cD1_18_3 lD1_18 cD2_18_0 cD2_18_1 cD2_18_2 cD2_18_3 lD2_18 cD3_18_0 cD3_18_1 cD3_18_2 cD3_18_3 lD3_18 cD4_18_0 cD4_18_1 cD4_18_2 cD4_18_3 lD4_18
      refine (markField_any (kI (twoB W0 H0 Q0 n0 W1 H1 Q1 n1) W0) (kI (twoB W0 H0 Q0 n0 W1 H1 Q1 n1) H0) (kB (twoB W0 H0 Q0 n0 W1 H1 Q1 n1) Q0) ra3 rn3 rc3 _ rx3 1 (by omega) (by omega) (by omega) _ O3_18).mono ?_
      rintro e w17 ⟨rfl, hG19, O3_m19⟩
      have E19 := Lib.hid (Ext.rowv E18.out O3_18 ab10 hG19)
      have D1_19 := block_keep (by decide) O3_18 hG19 D1_18
      have D2_19 := block_keep (by decide) O3_18 hG19 D2_18
      have D3_19 := block_keep (by decide) O3_18 hG19 D3_18
      have D4_19 := block_keep (by decide) O3_18 hG19 D4_18
      have Os0_19 := row_keep1 Os0_18 O3_18 lt0_3 hG19
      have O1_19 := row_keep1 O1_18 O3_18 lt1_3 hG19
      have O2_19 := row_keep1 O2_18 O3_18 lt2_3 hG19
      clear hG19 E18 D1_18 D2_18 D3_18 D4_18 Os0_18 O1_18 O2_18
      clear O3_18
      obtain ⟨⟨cb0_0, cb0_1, cb0_2, cb0_3⟩, _⟩ := block4 (E19.out.block B0)
      have lb0 := lt_of_block (E19.out.block B0)
      obtain ⟨⟨cb1_0, cb1_1, cb1_2, cb1_3⟩, _⟩ := block4 (E19.out.block B1)
      have lb1 := lt_of_block (E19.out.block B1)
      obtain ⟨⟨cD1_19_0, cD1_19_1, cD1_19_2, cD1_19_3⟩, _⟩ := block4 D1_19
      have lD1_19 := lt_of_block D1_19
      obtain ⟨⟨cD2_19_0, cD2_19_1, cD2_19_2, cD2_19_3⟩, _⟩ := block4 D2_19
      have lD2_19 := lt_of_block D2_19
      obtain ⟨⟨cD3_19_0, cD3_19_1, cD3_19_2, cD3_19_3⟩, _⟩ := block4 D3_19
      have lD3_19 := lt_of_block D3_19
      obtain ⟨⟨cD4_19_0, cD4_19_1, cD4_19_2, cD4_19_3⟩, _⟩ := block4 D4_19
      have lD4_19 := lt_of_block D4_19
      go_wp2_with fail
      clear cb0_0 cb0_1 cb0_2 cb0_3 lb0 cb1_0 cb1_1 cb1_2 cb1_3 lb1 cD1_19_0 cD1_19_1 cD1_19_2 cD1_19_3 lD1_19 cD2_19_0 cD2_19_1 cD2_19_2 cD2_19_3 lD2_19 cD3_19_0 cD3_19_1 cD3_19_2 cD3_19_3 lD3_19 cD4_19_0 cD4_19_1 cD4_19_2 cD4_19_3 lD4_19
      refine (heldField_any (kI (twoB W0 H0 Q0 n0 W1 H1 Q1 n1) W0) (kI (twoB W0 H0 Q0 n0 W1 H1 Q1 n1) H0) (kB (twoB W0 H0 Q0 n0 W1 H1 Q1 n1) Q0) ra3 rn3 rc3 1 (by omega) (by omega) (by omega) _ (ownsRow_varr O3_m19)).mono ?_
      rintro e w18 ⟨rfl, hX20⟩
      have E20 := Lib.hid (E19.out.trans hX20)
      have D1_20 := hX20.block D1_19
      have D2_20 := hX20.block D2_19
      have D3_20 := hX20.block D3_19
      have D4_20 := hX20.block D4_19
      have Os0_20 := ownsRow_ext Os0_19 hX20
      have O1_20 := ownsRow_ext O1_19 hX20
      have O2_20 := ownsRow_ext O2_19 hX20
      have O3_20 := ownsRow_ext O3_m19 hX20
      clear hX20 E19 D1_19 D2_19 D3_19 D4_19 Os0_19 O1_19 O2_19 O3_m19
      obtain ⟨⟨cb0_0, cb0_1, cb0_2, cb0_3⟩, _⟩ := block4 (E20.out.block B0)
      have lb0 := lt_of_block (E20.out.block B0)
      obtain ⟨⟨cb1_0, cb1_1, cb1_2, cb1_3⟩, _⟩ := block4 (E20.out.block B1)
      have lb1 := lt_of_block (E20.out.block B1)
      obtain ⟨⟨cD1_20_0, cD1_20_1, cD1_20_2, cD1_20_3⟩, _⟩ := block4 D1_20
      have lD1_20 := lt_of_block D1_20
      obtain ⟨⟨cD2_20_0, cD2_20_1, cD2_20_2, cD2_20_3⟩, _⟩ := block4 D2_20
      have lD2_20 := lt_of_block D2_20
      obtain ⟨⟨cD3_20_0, cD3_20_1, cD3_20_2, cD3_20_3⟩, _⟩ := block4 D3_20
      have lD3_20 := lt_of_block D3_20
      obtain ⟨⟨cD4_20_0, cD4_20_1, cD4_20_2, cD4_20_3⟩, _⟩ := block4 D4_20
      have lD4_20 := lt_of_block D4_20
      go_wp2_with fail
      clear cb0_0 cb0_1 cb0_2 cb0_3 lb0 cb1_0 cb1_1 cb1_2 cb1_3 lb1 cD1_20_0 cD1_20_1 cD1_20_2 cD1_20_3 lD1_20 cD2_20_0 cD2_20_1 cD2_20_2 cD2_20_3 lD2_20 cD3_20_0 cD3_20_1 cD3_20_2 cD3_20_3 lD3_20 cD4_20_0 cD4_20_1 cD4_20_2 cD4_20_3 lD4_20
      refine region_grow_late 9 7 (C := Ext w18) (K := fun f args v wv => (f = 19 → toPostField w18 args v wv) ∧ (f = 34 → ∃ ra rn rc, v = .tuple #[.agg #[.int .i64 (kI (twoB W0 H0 Q0 n0 W1 H1 Q1 n1) W0), .int .i64 (kI (twoB W0 H0 Q0 n0 W1 H1 Q1 n1) H0), .bool (kB (twoB W0 H0 Q0 n0 W1 H1 Q1 n1) Q0), .slice ra rn rc], .bool (twoB W0 H0 Q0 n0 W1 H1 Q1 n1)] ∧ rn ≤ 1048576 ∧ ∃ rx, wv.ownsRow w18.heap.size 30 1 (.slice ra rn rc) rn (flts rx) ∧ List.length rx = rn ∧ fas rx = (kL (twoB W0 H0 Q0 n0 W1 H1 Q1 n1) (gridF (Int.toNat W0) (bothG (fop .mul .f32) W0 H0 Q0 (fas zs0) (fas zs1)) (Int.toNat H0 * Int.toNat W0))))) ⟨fun _ _ h k => h.trans k, fun f args v u u' h ex => ⟨(fun hf => ((h.1) hf).ext ex), (fun hf => let ⟨ra, rn, rc, h1, h2, rx, h3, h4⟩ := (h.2) hf; ⟨ra, rn, rc, h1, h2, rx, ownsRow_ext h3 ex, h4⟩)⟩⟩ (by kernel_rfl) (by kernel_rfl) rfl rfl rfl rfl rfl (blind_extract rfl) (by kernel_rfl) ((Ext.refl w18).drew) ?_
      simp only [List.take_succ_cons, List.take_zero, List.drop_succ_cons, List.drop_zero]
      refine grow_det (c := .agg #[.int .i64 W0, .int .i64 H0, .bool Q0, .slice s0 n0 c0]) rfl (fun u hu _ => ?_) ?_
      · obtain ⟨⟨d0, d1, d2, d3⟩, _⟩ := block4 (hu.block (E20.out.block B0))
        go_simp
      refine grow_cg 19 (fun v => ∃ b, v = .agg #[.int .i64 W0, .int .i64 H0, .bool Q0, .slice (some ⟨b, 0, none⟩) n0 n0]) (fun v wv => ∃ b, v = .agg #[.int .i64 W0, .int .i64 H0, .bool Q0, .slice (some ⟨b, 0, none⟩) n0 n0] ∧ VArr wv (some ⟨b, 0, none⟩) (flts zs0)) rfl ?_
      refine ⟨#[.agg #[.int .i64 W0, .int .i64 H0, .bool Q0, .slice s0 n0 c0]], fun u => ?_, fun u hu _ => ?_, fun v u h => ?_, fun v hv => ?_⟩
      · go_simp
      · refine (toField_any W0 H0 Q0 s0 n0 c0 zs0 hz0 hl0 _ (VArr.ext (VArr.ext R0 E20.out) hu)).mono fun e u' h => ?_
        obtain ⟨b, he, hx, ho⟩ := h
        exact ⟨_, he, hx, ⟨(fun _ => toPostField_mk hz0 (VArr.ext R0 E20.out) (ownsRow_varr ho)), (fun h => by cases h)⟩⟩
      · exact toPostField_get ((h.1) rfl) hz0 (VArr.ext R0 E20.out)
      obtain ⟨bq5, rfl⟩ := hv
      refine grow_det (c := .agg #[.int .i64 W1, .int .i64 H1, .bool Q1, .slice s1 n1 c1]) rfl (fun u hu _ => ?_) ?_
      · obtain ⟨⟨d0, d1, d2, d3⟩, _⟩ := block4 (hu.block (E20.out.block B1))
        go_simp
      refine grow_cg 19 (fun v => ∃ b, v = .agg #[.int .i64 W1, .int .i64 H1, .bool Q1, .slice (some ⟨b, 0, none⟩) n1 n1]) (fun v wv => ∃ b, v = .agg #[.int .i64 W1, .int .i64 H1, .bool Q1, .slice (some ⟨b, 0, none⟩) n1 n1] ∧ VArr wv (some ⟨b, 0, none⟩) (flts zs1)) rfl ?_
      refine ⟨#[.agg #[.int .i64 W1, .int .i64 H1, .bool Q1, .slice s1 n1 c1]], fun u => ?_, fun u hu _ => ?_, fun v u h => ?_, fun v hv => ?_⟩
      · go_simp
      · refine (toField_any W1 H1 Q1 s1 n1 c1 zs1 hz1 hl1 _ (VArr.ext (VArr.ext R1 E20.out) hu)).mono fun e u' h => ?_
        obtain ⟨b, he, hx, ho⟩ := h
        exact ⟨_, he, hx, ⟨(fun _ => toPostField_mk hz1 (VArr.ext R1 E20.out) (ownsRow_varr ho)), (fun h => by cases h)⟩⟩
      · exact toPostField_get ((h.1) rfl) hz1 (VArr.ext R1 E20.out)
      obtain ⟨bq6, rfl⟩ := hv
      refine grow_cg 34 (fun v => ∃ ra rn rc, v = .tuple #[.agg #[.int .i64 (kI (twoB W0 H0 Q0 n0 W1 H1 Q1 n1) W0), .int .i64 (kI (twoB W0 H0 Q0 n0 W1 H1 Q1 n1) H0), .bool (kB (twoB W0 H0 Q0 n0 W1 H1 Q1 n1) Q0), .slice ra rn rc], .bool (twoB W0 H0 Q0 n0 W1 H1 Q1 n1)] ∧ rn ≤ 1048576) (fun v wv => ∀ ra rn rc, v = .tuple #[.agg #[.int .i64 (kI (twoB W0 H0 Q0 n0 W1 H1 Q1 n1) W0), .int .i64 (kI (twoB W0 H0 Q0 n0 W1 H1 Q1 n1) H0), .bool (kB (twoB W0 H0 Q0 n0 W1 H1 Q1 n1) Q0), .slice ra rn rc], .bool (twoB W0 H0 Q0 n0 W1 H1 Q1 n1)] → ∃ rx, wv.ownsRow w18.heap.size 30 1 (.slice ra rn rc) rn (flts rx) ∧ List.length rx = rn ∧ fas rx = (kL (twoB W0 H0 Q0 n0 W1 H1 Q1 n1) (gridF (Int.toNat W0) (bothG (fop .mul .f32) W0 H0 Q0 (fas zs0) (fas zs1)) (Int.toNat H0 * Int.toNat W0)))) rfl ?_
      refine ⟨#[.agg #[.int .i64 W0, .int .i64 H0, .bool Q0, .slice (some ⟨bq5, 0, none⟩) n0 n0], .agg #[.int .i64 W1, .int .i64 H1, .bool Q1, .slice (some ⟨bq6, 0, none⟩) n1 n1]], fun u => ?_, fun u hu hk => ?_, fun v u h => ?_, fun v hv => ?_⟩
      · go_simp
      · refine (implTimes_any W0 H0 Q0 W1 H1 Q1 (some ⟨bq5, 0, none⟩) (some ⟨bq6, 0, none⟩) n0 n0 n1 n1 zs0 zs1 hz0 hz1 hl0 hl1  _ (by obtain ⟨b, hb, hv⟩ := hk 96 (by simp [Oper.looksAt, Op.operands, Call.operands]); simp at hb; subst hb; exact hv) (by obtain ⟨b, hb, hv⟩ := hk 98 (by simp [Oper.looksAt, Op.operands, Call.operands]); simp at hb; subst hb; exact hv)).mono fun e u' h => ?_
        obtain ⟨ra, rn, rc, rx, he, hx, ho, hl, hle, hf⟩ := h
        exact ⟨_, he, hx, ⟨(fun h => by cases h), (fun _ => ⟨ra, rn, rc, rfl, hle, rx, ownsRow_mono ho hu.size, hl, hf⟩)⟩⟩
      · obtain ⟨ra, rn, rc, h1, h2, h3⟩ := (h.2) rfl
        refine ⟨⟨ra, rn, rc, h1, h2⟩, fun ra' rn' rc' he => ?_⟩
        rw [h1] at he; simp at he; obtain ⟨rfl, rfl, rfl⟩ := he; exact h3
      obtain ⟨ra4, rn4, rc4, rfl, re4⟩ := hv
      refine grow_q rfl ?_
      apply Exists.intro
      refine ⟨fun u hu _ => ?_, ?_⟩
      · go_simp; try rfl
      refine grow_q rfl ?_
      apply Exists.intro
      refine ⟨fun u hu _ => ?_, ?_⟩
      · go_simp; try rfl
      refine grow_q rfl ?_
      apply Exists.intro
      refine ⟨fun u hu _ => ?_, ?_⟩
      · go_simp; try rfl
      refine grow_newB (mk := fun b => .pointer (some ⟨b, 0, none⟩)) (ob := .cells #[.int .i64 0, .int .i64 0, .bool false, .slice none 0 0] 27) w18.heap.size rfl (fun b b' h => by simpa using h) (fun u hu => hu.size) (fun u _ _ => ?_) (fun q21 hq21 => ?_)
      · go_simp
      refine grow_nil (fun w19 hX21 hh => ?_)
      obtain ⟨⟨⟨⟨_, _⟩, _⟩, hrow⟩, hbox⟩ := hh
      obtain ⟨rx4, O4, rl4, rf4⟩ := hrow ra4 rn4 rc4 rfl
      clear hrow
      refine late_box 27 _ _ rfl q21 #[.int .i64 (kI (twoB W0 H0 Q0 n0 W1 H1 Q1 n1) W0), .int .i64 (kI (twoB W0 H0 Q0 n0 W1 H1 Q1 n1) H0), .bool (kB (twoB W0 H0 Q0 n0 W1 H1 Q1 n1) Q0), .slice ra4 rn4 rc4] ?_ ?_ 27 _ hbox (by kernel_rfl) rfl (by simp [Value.oneCell']) ?_
      · go_simp
      · go_simp
      intro w20 hS D5
      have hXs := hX21.row hS hq21
      have Os4 := ownsRow_box O4 (by decide) hbox hS
      clear O4
      clear hbox hS hX21 hq21
      have ab21 : wb.heap.size ≤ w18.heap.size := E20.out.size
      have lt0_4 := fun g hg => (Os0_20.lt g hg).2
      have lt1_4 := fun g hg => (O1_20.lt g hg).2
      have lt2_4 := fun g hg => (O2_20.lt g hg).2
      have lt3_4 := fun g hg => (O3_20.lt g hg).2
      have E21 := Lib.hid (E20.out.trans hXs)
      have D1_21 := hXs.block D1_20
      have D2_21 := hXs.block D2_20
      have D3_21 := hXs.block D3_20
      have D4_21 := hXs.block D4_20
      have Os0_21 := ownsRow_ext Os0_20 hXs
      have O1_21 := ownsRow_ext O1_20 hXs
      have O2_21 := ownsRow_ext O2_20 hXs
      have O3_21 := ownsRow_ext O3_20 hXs
      clear hXs E20 D1_20 D2_20 D3_20 D4_20 Os0_20 O1_20 O2_20 O3_20
      obtain ⟨⟨cb0_0, cb0_1, cb0_2, cb0_3⟩, _⟩ := block4 (E21.out.block B0)
      have lb0 := lt_of_block (E21.out.block B0)
      obtain ⟨⟨cb1_0, cb1_1, cb1_2, cb1_3⟩, _⟩ := block4 (E21.out.block B1)
      have lb1 := lt_of_block (E21.out.block B1)
      obtain ⟨⟨cD1_21_0, cD1_21_1, cD1_21_2, cD1_21_3⟩, _⟩ := block4 D1_21
      have lD1_21 := lt_of_block D1_21
      obtain ⟨⟨cD2_21_0, cD2_21_1, cD2_21_2, cD2_21_3⟩, _⟩ := block4 D2_21
      have lD2_21 := lt_of_block D2_21
      obtain ⟨⟨cD3_21_0, cD3_21_1, cD3_21_2, cD3_21_3⟩, _⟩ := block4 D3_21
      have lD3_21 := lt_of_block D3_21
      obtain ⟨⟨cD4_21_0, cD4_21_1, cD4_21_2, cD4_21_3⟩, _⟩ := block4 D4_21
      have lD4_21 := lt_of_block D4_21
      obtain ⟨⟨cD5_0, cD5_1, cD5_2, cD5_3⟩, _⟩ := block4 D5
      have lD5 := lt_of_block D5
      go_wp2_with fail
      clear cb0_0 cb0_1 cb0_2 cb0_3 lb0 cb1_0 cb1_1 cb1_2 cb1_3 lb1 cD1_21_0 cD1_21_1 cD1_21_2 cD1_21_3 lD1_21 cD2_21_0 cD2_21_1 cD2_21_2 cD2_21_3 lD2_21 cD3_21_0 cD3_21_1 cD3_21_2 cD3_21_3 lD3_21 cD4_21_0 cD4_21_1 cD4_21_2 cD4_21_3 lD4_21 cD5_0 cD5_1 cD5_2 cD5_3 lD5
      refine (eqField_any (kI (twoB W0 H0 Q0 n0 W1 H1 Q1 n1) W0) (kI (twoB W0 H0 Q0 n0 W1 H1 Q1 n1) H0) (kI (twoB W0 H0 Q0 n0 W1 H1 Q1 n1) W0) (kI (twoB W0 H0 Q0 n0 W1 H1 Q1 n1) H0) (kB (twoB W0 H0 Q0 n0 W1 H1 Q1 n1) Q0) (kB (twoB W0 H0 Q0 n0 W1 H1 Q1 n1) Q0) _ _ rn4 _ rn0 _ rx4 rx0 rl4 rl0 (by omega) (by omega) rfl rfl rfl ((rf4).trans (Eq.symm rf0)) _ (ownsRow_varr Os4) (ownsRow_varr Os0_21)).mono ?_
      rintro e w21 ⟨rfl, hX22⟩
      have E22 := Lib.hid (E21.out.trans hX22)
      have D1_22 := hX22.block D1_21
      have D2_22 := hX22.block D2_21
      have D3_22 := hX22.block D3_21
      have D4_22 := hX22.block D4_21
      have D5_22 := hX22.block D5
      have Os0_22 := ownsRow_ext Os0_21 hX22
      have O1_22 := ownsRow_ext O1_21 hX22
      have O2_22 := ownsRow_ext O2_21 hX22
      have O3_22 := ownsRow_ext O3_21 hX22
      have Os4_22 := ownsRow_ext Os4 hX22
      clear hX22 E21 D1_21 D2_21 D3_21 D4_21 D5 Os0_21 O1_21 O2_21 O3_21 Os4
      obtain ⟨⟨cb0_0, cb0_1, cb0_2, cb0_3⟩, _⟩ := block4 (E22.out.block B0)
      have lb0 := lt_of_block (E22.out.block B0)
      obtain ⟨⟨cb1_0, cb1_1, cb1_2, cb1_3⟩, _⟩ := block4 (E22.out.block B1)
      have lb1 := lt_of_block (E22.out.block B1)
      obtain ⟨⟨cD1_22_0, cD1_22_1, cD1_22_2, cD1_22_3⟩, _⟩ := block4 D1_22
      have lD1_22 := lt_of_block D1_22
      obtain ⟨⟨cD2_22_0, cD2_22_1, cD2_22_2, cD2_22_3⟩, _⟩ := block4 D2_22
      have lD2_22 := lt_of_block D2_22
      obtain ⟨⟨cD3_22_0, cD3_22_1, cD3_22_2, cD3_22_3⟩, _⟩ := block4 D3_22
      have lD3_22 := lt_of_block D3_22
      obtain ⟨⟨cD4_22_0, cD4_22_1, cD4_22_2, cD4_22_3⟩, _⟩ := block4 D4_22
      have lD4_22 := lt_of_block D4_22
      obtain ⟨⟨cD5_22_0, cD5_22_1, cD5_22_2, cD5_22_3⟩, _⟩ := block4 D5_22
      have lD5_22 := lt_of_block D5_22
      go_wp2_with fail
      clear cb0_0 cb0_1 cb0_2 cb0_3 lb0 cb1_0 cb1_1 cb1_2 cb1_3 lb1 cD1_22_0 cD1_22_1 cD1_22_2 cD1_22_3 lD1_22 cD2_22_0 cD2_22_1 cD2_22_2 cD2_22_3 lD2_22 cD3_22_0 cD3_22_1 cD3_22_2 cD3_22_3 lD3_22 cD4_22_0 cD4_22_1 cD4_22_2 cD4_22_3 lD4_22 cD5_22_0 cD5_22_1 cD5_22_2 cD5_22_3 lD5_22
      refine (heldField_any (kI (twoB W0 H0 Q0 n0 W1 H1 Q1 n1) W0) (kI (twoB W0 H0 Q0 n0 W1 H1 Q1 n1) H0) (kB (twoB W0 H0 Q0 n0 W1 H1 Q1 n1) Q0) ra3 rn3 rc3 1 (by omega) (by omega) (by omega) _ (ownsRow_varr O3_22)).mono ?_
      rintro e w22 ⟨rfl, hX23⟩
      have E23 := Lib.hid (E22.out.trans hX23)
      have D1_23 := hX23.block D1_22
      have D2_23 := hX23.block D2_22
      have D3_23 := hX23.block D3_22
      have D4_23 := hX23.block D4_22
      have D5_23 := hX23.block D5_22
      have Os0_23 := ownsRow_ext Os0_22 hX23
      have O1_23 := ownsRow_ext O1_22 hX23
      have O2_23 := ownsRow_ext O2_22 hX23
      have O3_23 := ownsRow_ext O3_22 hX23
      have Os4_23 := ownsRow_ext Os4_22 hX23
      clear hX23 E22 D1_22 D2_22 D3_22 D4_22 D5_22 Os0_22 O1_22 O2_22 O3_22 Os4_22
      obtain ⟨⟨cb0_0, cb0_1, cb0_2, cb0_3⟩, _⟩ := block4 (E23.out.block B0)
      have lb0 := lt_of_block (E23.out.block B0)
      obtain ⟨⟨cb1_0, cb1_1, cb1_2, cb1_3⟩, _⟩ := block4 (E23.out.block B1)
      have lb1 := lt_of_block (E23.out.block B1)
      obtain ⟨⟨cD1_23_0, cD1_23_1, cD1_23_2, cD1_23_3⟩, _⟩ := block4 D1_23
      have lD1_23 := lt_of_block D1_23
      obtain ⟨⟨cD2_23_0, cD2_23_1, cD2_23_2, cD2_23_3⟩, _⟩ := block4 D2_23
      have lD2_23 := lt_of_block D2_23
      obtain ⟨⟨cD3_23_0, cD3_23_1, cD3_23_2, cD3_23_3⟩, _⟩ := block4 D3_23
      have lD3_23 := lt_of_block D3_23
      obtain ⟨⟨cD4_23_0, cD4_23_1, cD4_23_2, cD4_23_3⟩, _⟩ := block4 D4_23
      have lD4_23 := lt_of_block D4_23
      obtain ⟨⟨cD5_23_0, cD5_23_1, cD5_23_2, cD5_23_3⟩, _⟩ := block4 D5_23
      have lD5_23 := lt_of_block D5_23
      go_wp2
      go_ret
      exact ⟨rfl, EB.trans E23.out⟩
end Go.Proofs.Ytllpbkmdcaikoaa
