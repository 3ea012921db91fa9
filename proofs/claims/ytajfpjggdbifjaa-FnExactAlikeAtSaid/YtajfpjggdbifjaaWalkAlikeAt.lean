/-
  The walk of the statement on AlikeAt.
-/
import Derived.Test.YtajfpjggdbifjaaAkE
import Derived.Test.YtajfpjggdbifjaaLate
namespace Go.Proofs.Ytajfpjggdbifjaa
open Go.RowKit
set_option linter.unusedVariables false
set_option linter.unusedSimpArgs false
set_option linter.unnecessarySimpa false

set_option maxRecDepth 100000 in
set_option maxHeartbeats 4000000 in
theorem walk_FnExactAlikeAt (W0 H0 : Int) (s0 : Option Addr) (n0 c0 : Nat) (zs0 : List Int) (hz0 : zs0.length = n0) (hn0 : n0 ≤ 9223372036854775807) (wW0 : (Lit.int .i64 W0).wf = true) (wH0 : (Lit.int .i64 H0).wf = true) (a1 : Int) (w1 : (Lit.int .i64 a1).wf = true) (a2 : Int) (w2 : (Lit.int .i64 a2).wf = true) (w : World) (hR0 : VArr w s0 (ints zs0)) :
    Calls Try.prog 13 #[.agg #[.int .i64 W0, .int .i64 H0, .slice s0 n0 c0], .int .i64 a1, .int .i64 a2] w fun e w' => e = .returned (.bool true) ∧ Ext w w' := by
  have EB : Ext w (w.alloc (.cells #[.int .i64 W0, .int .i64 H0, .slice s0 n0 c0] 78)) := Ext.alloc (Ext.refl w) _
  have B0 := heap_new w (.cells #[.int .i64 W0, .int .i64 H0, .slice s0 n0 c0] 78)
  by_cases big0 : (1048576 : Int) - n0 < 0
  · -- too large
    go_enter Try.func13, Try.ntmps13
    go_wp2_with fail
    have R0 := hR0.ext EB
    generalize hsz : w.heap.size = pz at *
    generalize (w.alloc (.cells #[.int .i64 W0, .int .i64 H0, .slice s0 n0 c0] 78)) = wb at *
    have HSZ := Lib.hid hsz
    clear hsz
    have E0 : Hid (Ext wb wb) := Ext.refl wb
    refine (szHeights_any W0 H0 s0 n0 c0 (1048576 : Int) hn0 (by omega) (by omega) _).mono ?_
    rw [if_pos (by omega)]
    rintro e w1 ⟨rfl, hX1⟩
    have E1 := Lib.hid (E0.out.trans hX1)
    clear hX1 E0
    obtain ⟨⟨cb0_0, cb0_1, cb0_2⟩, _⟩ := block3 (E1.out.block B0)
    have lb0 := lt_of_block (E1.out.block B0)
    go_wp2
    go_ret
    exact ⟨rfl, EB.trans E1.out⟩
  · -- not so large
    have hl0 : n0 ≤ 1048576 := by omega
    go_enter Try.func13, Try.ntmps13
    go_wp2_with fail
    have R0 := hR0.ext EB
    generalize hsz : w.heap.size = pz at *
    generalize (w.alloc (.cells #[.int .i64 W0, .int .i64 H0, .slice s0 n0 c0] 78)) = wb at *
    have HSZ := Lib.hid hsz
    clear hsz
    have E0 : Hid (Ext wb wb) := Ext.refl wb
    refine (szHeights_any W0 H0 s0 n0 c0 (1048576 : Int) hn0 (by omega) (by omega) _).mono ?_
    rw [if_neg (by omega)]
    rintro e w1 ⟨rfl, hX1⟩
    have E1 := Lib.hid (E0.out.trans hX1)
    clear hX1 E0
    obtain ⟨⟨cb0_0, cb0_1, cb0_2⟩, _⟩ := block3 (E1.out.block B0)
    have lb0 := lt_of_block (E1.out.block B0)
    go_wp2_with fail
    clear cb0_0 cb0_1 cb0_2 lb0
    refine (toHeights_any W0 H0 s0 n0 c0 zs0 hz0 hl0 _ (VArr.ext R0 E1.out)).mono ?_
    rintro e w2 ⟨b0, rfl, hX2, O0⟩
    have ab2 : wb.heap.size ≤ w1.heap.size := E1.out.size
    have E2 := Lib.hid (E1.out.trans hX2)
    clear hX2 E1
    obtain ⟨⟨cb0_0, cb0_1, cb0_2⟩, _⟩ := block3 (E2.out.block B0)
    have lb0 := lt_of_block (E2.out.block B0)
    go_wp2_with fail
    clear cb0_0 cb0_1 cb0_2 lb0
    refine (specAlike_any W0 H0 a1 a2 (some ⟨b0, 0, none⟩) n0 n0 zs0 hz0 hl0 _ (ownsRow_varr O0)).mono ?_
    rintro e w3 ⟨fr1, rfl, hX3, fe1⟩
    have ab3 : wb.heap.size ≤ w2.heap.size := E2.out.size
    have lt0_1 := fun g hg => (O0.lt g hg).2
    have E3 := Lib.hid (E2.out.trans hX3)
    have O0_3 := ownsRow_ext O0 hX3
    clear hX3 E2 O0
    obtain ⟨⟨cb0_0, cb0_1, cb0_2⟩, _⟩ := block3 (E3.out.block B0)
    have lb0 := lt_of_block (E3.out.block B0)
    go_wp2_with fail
    clear cb0_0 cb0_1 cb0_2 lb0
    refine (toHeights_any W0 H0 s0 n0 c0 zs0 hz0 hl0 _ (VArr.ext R0 E3.out)).mono ?_
    rintro e w4 ⟨b1, rfl, hX4, O1⟩
    have ab4 : wb.heap.size ≤ w3.heap.size := E3.out.size
    have lt0_1 := fun g hg => (O0_3.lt g hg).2
    have E4 := Lib.hid (E3.out.trans hX4)
    have O0_4 := ownsRow_ext O0_3 hX4
    clear hX4 E3 O0_3
    obtain ⟨⟨cb0_0, cb0_1, cb0_2⟩, _⟩ := block3 (E4.out.block B0)
    have lb0 := lt_of_block (E4.out.block B0)
    go_wp2_with fail
    clear cb0_0 cb0_1 cb0_2 lb0
    have hY5 := (Ext.refl w4).alloc (.cells #[.int .i64 W0, .int .i64 H0, .slice (some ⟨b1, 0, none⟩) n0 n0] 81)
    have D1 := heap_new w4 (.cells #[.int .i64 W0, .int .i64 H0, .slice (some ⟨b1, 0, none⟩) n0 n0] 81)
    generalize hw5 : w4.alloc (.cells #[.int .i64 W0, .int .i64 H0, .slice (some ⟨b1, 0, none⟩) n0 n0] 81) = w5 at *
    clear hw5
    have E6 := Lib.hid (E4.out.trans hY5)
    have O0_6 := ownsRow_ext O0_4 hY5
    have O1_6 := ownsRow_ext O1 hY5
    clear hY5 E4 O0_4 O1
    refine (implAlike_any W0 H0 a1 a2 (some ⟨b1, 0, none⟩) n0 n0 zs0 hz0 hl0 _ (ownsRow_varr O1_6)).mono ?_
    rintro e w6 ⟨fr2, rfl, hX7, fe2⟩
    have ab7 : wb.heap.size ≤ w5.heap.size := E6.out.size
    have lt0_2 := fun g hg => (O0_6.lt g hg).2
    have lt1_2 := fun g hg => (O1_6.lt g hg).2
    have E7 := Lib.hid (E6.out.trans hX7)
    have D1_7 := hX7.block D1
    have O0_7 := ownsRow_ext O0_6 hX7
    have O1_7 := ownsRow_ext O1_6 hX7
    clear hX7 E6 D1 O0_6 O1_6
    obtain ⟨⟨cb0_0, cb0_1, cb0_2⟩, _⟩ := block3 (E7.out.block B0)
    have lb0 := lt_of_block (E7.out.block B0)
    obtain ⟨⟨cD1_7_0, cD1_7_1, cD1_7_2⟩, _⟩ := block3 D1_7
    have lD1_7 := lt_of_block D1_7
    go_wp2_with fail
    clear cb0_0 cb0_1 cb0_2 lb0 cD1_7_0 cD1_7_1 cD1_7_2 lD1_7
    refine (sameFloat_any _ _ (by rw [fa_wdr, fa_wdr, fe2, fe1]) _).mono ?_
    rintro e w7 ⟨rfl, hX8a⟩
    have hX8 := Ext.trans ((Ext.refl w6).drewN _) hX8a
    clear hX8a
    have E8 := Lib.hid (E7.out.trans hX8)
    have D1_8 := hX8.block D1_7
    have O0_8 := ownsRow_ext O0_7 hX8
    have O1_8 := ownsRow_ext O1_7 hX8
    clear hX8 E7 D1_7 O0_7 O1_7
    obtain ⟨⟨cb0_0, cb0_1, cb0_2⟩, _⟩ := block3 (E8.out.block B0)
    have lb0 := lt_of_block (E8.out.block B0)
    obtain ⟨⟨cD1_8_0, cD1_8_1, cD1_8_2⟩, _⟩ := block3 D1_8
    have lD1_8 := lt_of_block D1_8
    go_wp2_with fail
    clear cb0_0 cb0_1 cb0_2 lb0 cD1_8_0 cD1_8_1 cD1_8_2 lD1_8
    refine region_grow (C := Ext w7) (K := fun f args v wv => (f = 60 → toPostHeights w7 args v wv) ∧ (f = 62 → v = .bool true)) ⟨fun _ _ h k => h.trans k, fun f args v u u' h ex => ⟨(fun hf => ((h.1) hf).ext ex), ((h.2))⟩⟩ (by kernel_rfl) (by kernel_rfl) ((Ext.refl w7).drew) ?_
    refine grow_det (c := .agg #[.int .i64 W0, .int .i64 H0, .slice (some ⟨b1, 0, none⟩) n0 n0]) rfl (fun u hu _ => ?_) ?_
    · obtain ⟨⟨d0, d1, d2⟩, _⟩ := block3 (hu.block D1_8)
      go_simp
    refine grow_det (c := .agg #[.int .i64 W0, .int .i64 H0, .slice s0 n0 c0]) rfl (fun u hu _ => ?_) ?_
    · obtain ⟨⟨d0, d1, d2⟩, _⟩ := block3 (hu.block (E8.out.block B0))
      go_simp
    refine grow_cg 60 (fun v => ∃ b, v = .agg #[.int .i64 W0, .int .i64 H0, .slice (some ⟨b, 0, none⟩) n0 n0]) (fun v wv => ∃ b, v = .agg #[.int .i64 W0, .int .i64 H0, .slice (some ⟨b, 0, none⟩) n0 n0] ∧ VArr wv (some ⟨b, 0, none⟩) (ints zs0)) rfl ?_
    refine ⟨#[.agg #[.int .i64 W0, .int .i64 H0, .slice s0 n0 c0]], fun u => ?_, fun u hu _ => ?_, fun v u h => ?_, fun v hv => ?_⟩
    · go_simp
    · refine (toHeights_any W0 H0 s0 n0 c0 zs0 hz0 hl0 _ (VArr.ext (VArr.ext R0 E8.out) hu)).mono fun e u' h => ?_
      obtain ⟨b, he, hx, ho⟩ := h
      exact ⟨_, he, hx, ⟨(fun _ => toPostHeights_mk hz0 (VArr.ext R0 E8.out) (ownsRow_varr ho)), (fun h => by cases h)⟩⟩
    · exact toPostHeights_get ((h.1) rfl) hz0 (VArr.ext R0 E8.out)
    obtain ⟨bq1, rfl⟩ := hv
    refine grow_c1 62 rfl ?_
    refine ⟨#[.agg #[.int .i64 W0, .int .i64 H0, .slice (some ⟨b1, 0, none⟩) n0 n0], .agg #[.int .i64 W0, .int .i64 H0, .slice (some ⟨bq1, 0, none⟩) n0 n0]], fun u => ?_, .bool true, fun u hu hk => ?_, fun v u h => (h.2) rfl, fun u => ⟨(fun h => by cases h), (fun _ => rfl)⟩, ?_⟩
    · go_simp
    · exact eqHeights_any W0 H0 W0 H0 _ _ n0 _ n0 _ zs0 zs0 hz0 hz0 (by omega) (by omega) rfl rfl rfl _ (VArr.ext (ownsRow_varr O1_8) hu) (by obtain ⟨b, hb, hv⟩ := hk 48 (by simp [Oper.looksAt, Op.operands, Call.operands]); simp at hb; subst hb; exact hv)
    refine grow_q rfl ?_
    apply Exists.intro
    refine ⟨fun u hu _ => ?_, ?_⟩
    · go_simp; try rfl
    refine grow_nil (fun w8 hX9 hh => ?_)
    obtain ⟨_, _⟩ := hh
    go_simp
    have E9 := Lib.hid (E8.out.trans hX9)
    have D1_9 := hX9.block D1_8
    have O0_9 := ownsRow_ext O0_8 hX9
    have O1_9 := ownsRow_ext O1_8 hX9
    clear hX9 E8 D1_8 O0_8 O1_8
    obtain ⟨⟨cb0_0, cb0_1, cb0_2⟩, _⟩ := block3 (E9.out.block B0)
    have lb0 := lt_of_block (E9.out.block B0)
    obtain ⟨⟨cD1_9_0, cD1_9_1, cD1_9_2⟩, _⟩ := block3 D1_9
    have lD1_9 := lt_of_block D1_9
    go_wp2
    go_ret
    exact ⟨rfl, EB.trans E9.out⟩
end Go.Proofs.Ytajfpjggdbifjaa
