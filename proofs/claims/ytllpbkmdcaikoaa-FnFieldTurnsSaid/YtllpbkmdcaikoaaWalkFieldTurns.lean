/-
  The walk of the statement on turned fields. (Printed by gen_turnlaw.py.)
-/
import Derived.Test.YtllpbkmdcaikoaaFtE
import Derived.Test.YtllpbkmdcaikoaaLate
namespace Go.Proofs.Ytllpbkmdcaikoaa
open Go.RowKit
set_option linter.unusedVariables false
set_option linter.unusedSimpArgs false
set_option linter.unnecessarySimpa false

theorem self_sub : ∀ a : Fin 17, floatBits .sub .f32 (qb (((a : Nat) : Int) - 8)) (qb (((a : Nat) : Int) - 8)) = some 0 := by decide +kernel
theorem q_self {a : Int} (h : -8 ≤ a ∧ a ≤ 8) : (∀ u, frr .sub .f32 (qb a) (qb a) u = 0) ∧ frn .sub .f32 (qb a) (qb a) = 0 := by
  obtain ⟨i, rfl⟩ := int_fin (n := 17) h (by omega)
  unfold frr frn
  rw [self_sub i]
  exact ⟨fun _ => rfl, rfl⟩
theorem q_order {a : Int} (h : -8 ≤ a ∧ a ≤ 8) : FloatKind.f32.format.order (qb a) (qb a) = some .eq := by
  rw [order_fa, fa_qb h]
  refine ford_self .f32 ?_
  have h1 := fa_qb h
  unfold fa at h1
  split at h1
  · cases h1
  · rename_i h2
    exact Bool.eq_false_iff.2 h2

set_option maxRecDepth 100000 in
set_option maxHeartbeats 40000000 in
theorem walk_FnFieldTurns (s0 : Option Addr) (n0 c0 : Nat) (zs0 : List Int) (hz0 : zs0.length = n0) (hn0 : n0 ≤ 9223372036854775807) (hb0 : wfB zs0) (s1 : Option Addr) (n1 c1 : Nat) (zs1 : List Int) (hz1 : zs1.length = n1) (hn1 : n1 ≤ 9223372036854775807) (hb1 : wfB zs1) (w : World) (hR0 : VArr w s0 (byts zs0)) (hR1 : VArr w s1 (byts zs1)) :
    Calls Try.prog 16 #[.slice s0 n0 c0, .slice s1 n1 c1] w fun e w' => e = .returned (.bool true) ∧ Ext w w' := by
  by_cases big : (48 : Int) < n0 ∨ (48 : Int) < n1
  · have hb : (decide ((48 : Int) < n0) || decide ((48 : Int) < n1)) = true := by simpa using big
    go_enter Try.func16, Try.ntmps16
    go_wp2_with fail
    refine (r8Long_any s0 s1 n0 c0 n1 c1 _).mono ?_
    rw [hb]
    rintro e w' ⟨rfl, rfl⟩
    go_wp2
    go_ret
    exact ⟨rfl, Ext.refl _⟩
  · have hb : (decide ((48 : Int) < n0) || decide ((48 : Int) < n1)) = false := by
      rw [Bool.or_eq_false_iff, decide_eq_false_iff_not, decide_eq_false_iff_not]; omega
    go_enter Try.func16, Try.ntmps16
    go_wp2_with fail
    refine (r8Long_any s0 s1 n0 c0 n1 c1 _).mono ?_
    rw [hb]
    rintro e w' ⟨rfl, rfl⟩
    go_wp2_with fail
    refine (r8Field_any s0 n0 c0 zs0 hz0 (by omega) hb0 _ hR0).mono ?_
    rintro e w1 ⟨W, H, R, a5, m, d5, xs5, rfl, hXw, hO, hL, hv, hW6, hH5, hqs⟩
    have EW := Lib.hid hXw
    have V5 := Lib.hid (ownsRow_varr hO)
    have L5 := Lib.hid hL
    obtain ⟨q, hQ⟩ := QF.make (R := R) (by rw [hL]; exact hv) hqs
    obtain ⟨⟨h1, _⟩, h3, _⟩ := szF_iff.1 (vldF_iff.1 hv).1
    have hm : m ≤ 1048576 := by obtain ⟨_, _, _, _, _, _, _, _, _, h⟩ := vldF_facts hv; omega
    have hs1 : n1 ≤ 1048576 := by omega
    clear hXw hO hL hqs hb big
    cases R with
    | true =>
      go_wp2_with fail
      have D5a := heap_new w1 (.cells #[.int .i64 W, .int .i64 H, .bool true, .slice a5 m d5] 27)
      have X1a := (Ext.refl w1).alloc (.cells #[.int .i64 W, .int .i64 H, .bool true, .slice a5 m d5] 27)
      generalize hw1 : w1.alloc (.cells #[.int .i64 W, .int .i64 H, .bool true, .slice a5 m d5] 27) = w2 at *
      clear hw1
      have X1 := Lib.hid X1a
      have D5 := Lib.hid D5a
      clear X1a D5a
      refine (mirY W H true a5 m d5 xs5 L5.out hm hv _ (VArr.ext V5.out (X1.out))).mono ?_
      rintro e w3 ⟨a6, d6, xs6, rfl, hX2, hV, hL, hF⟩
      have X2 := Lib.hid hX2
      have V6 := Lib.hid hV
      have L6 := Lib.hid hL
      have F6 := Lib.hid hF
      clear hX2 hV hL hF
      go_wp2_with fail
      have D6a := heap_new w3 (.cells #[.int .i64 W, .int .i64 H, .bool true, .slice a6 m d6] 27)
      have X3a := (Ext.refl w3).alloc (.cells #[.int .i64 W, .int .i64 H, .bool true, .slice a6 m d6] 27)
      generalize hw3 : w3.alloc (.cells #[.int .i64 W, .int .i64 H, .bool true, .slice a6 m d6] 27) = w4 at *
      clear hw3
      have X3 := Lib.hid X3a
      have D6 := Lib.hid D6a
      clear X3a D6a
      refine (mirY W H true a6 m d6 xs6 L6.out hm hv _ (VArr.ext V6.out (X3.out))).mono ?_
      rintro e w5 ⟨a8, d8, xs8, rfl, hX4, hV, hL, hF⟩
      have X4 := Lib.hid hX4
      have V8 := Lib.hid hV
      have L8 := Lib.hid hL
      rw [F6.out] at hF
      have F8 := Lib.hid hF
      clear hX4 hV hL hF
      obtain ⟨⟨c5_0, c5_1, c5_2, c5_3⟩, _⟩ := block4 ((X2.out.trans (X3.out.trans (X4.out))).block D5.out)
      have lb5 := lt_of_block ((X2.out.trans (X3.out.trans (X4.out))).block D5.out)
      go_wp2_with fail
      clear c5_0 c5_1 c5_2 c5_3 lb5
      have D8a := heap_new w5 (.cells #[.int .i64 W, .int .i64 H, .bool true, .slice a8 m d8] 27)
      have X5a := (Ext.refl w5).alloc (.cells #[.int .i64 W, .int .i64 H, .bool true, .slice a8 m d8] 27)
      generalize hw5 : w5.alloc (.cells #[.int .i64 W, .int .i64 H, .bool true, .slice a8 m d8] 27) = w6 at *
      clear hw5
      have X5 := Lib.hid X5a
      have D8 := Lib.hid D8a
      clear X5a D8a
      refine (swapY W H true a5 m d5 xs5 L5.out hm hv _ (VArr.ext V5.out (X1.out.trans (X2.out.trans (X3.out.trans (X4.out.trans (X5.out))))))).mono ?_
      rintro e w7 ⟨a10, d10, xs10, rfl, hX6, hV, hL, hF⟩
      have X6 := Lib.hid hX6
      have V10 := Lib.hid hV
      have L10 := Lib.hid hL
      have F10 := Lib.hid hF
      clear hX6 hV hL hF
      go_wp2_with fail
      have D10a := heap_new w7 (.cells #[.int .i64 H, .int .i64 W, .bool true, .slice a10 m d10] 27)
      have X7a := (Ext.refl w7).alloc (.cells #[.int .i64 H, .int .i64 W, .bool true, .slice a10 m d10] 27)
      generalize hw7 : w7.alloc (.cells #[.int .i64 H, .int .i64 W, .bool true, .slice a10 m d10] 27) = w8 at *
      clear hw7
      have X7 := Lib.hid X7a
      have D10 := Lib.hid D10a
      clear X7a D10a
      refine (swapY H W true a10 m d10 xs10 L10.out hm (vld_swap hv) _ (VArr.ext V10.out (X7.out))).mono ?_
      rintro e w9 ⟨a12, d12, xs12, rfl, hX8, hV, hL, hF⟩
      have X8 := Lib.hid hX8
      have V12 := Lib.hid hV
      have L12 := Lib.hid hL
      rw [F10.out] at hF
      have F12 := Lib.hid hF
      clear hX8 hV hL hF
      go_wp2_with fail
      have D12a := heap_new w9 (.cells #[.int .i64 W, .int .i64 H, .bool true, .slice a12 m d12] 27)
      have X9a := (Ext.refl w9).alloc (.cells #[.int .i64 W, .int .i64 H, .bool true, .slice a12 m d12] 27)
      generalize hw9 : w9.alloc (.cells #[.int .i64 W, .int .i64 H, .bool true, .slice a12 m d12] 27) = w10 at *
      clear hw9
      have X9 := Lib.hid X9a
      have D12 := Lib.hid D12a
      clear X9a D12a
      refine (r8At_any s1 n1 c1 zs1 0 13 hz1 hs1 hb1 (by omega) (by omega) _ (VArr.ext hR1 (EW.out.trans (X1.out.trans (X2.out.trans (X3.out.trans (X4.out.trans (X5.out.trans (X6.out.trans (X7.out.trans (X8.out.trans (X9.out)))))))))))).mono ?_
      rintro e w' ⟨ux, rfl, ux0, ux1, rfl⟩
      obtain ⟨x, hxd⟩ : ∃ x : Int, ux - 6 = x := ⟨_, rfl⟩
      have x0 : -6 ≤ x := by omega
      have x1 : x ≤ 6 := by omega
      have hxw : IntKind.i64.wrap (ux - 6) = x := by rw [wrapS (by omega) (by omega)]; exact hxd
      go_wp2_with fail
      refine (r8At_any s1 n1 c1 zs1 1 13 hz1 hs1 hb1 (by omega) (by omega) _ (VArr.ext hR1 (EW.out.trans (X1.out.trans (X2.out.trans (X3.out.trans (X4.out.trans (X5.out.trans (X6.out.trans (X7.out.trans (X8.out.trans (X9.out)))))))))))).mono ?_
      rintro e w' ⟨uy, rfl, uy0, uy1, rfl⟩
      obtain ⟨y, hyd⟩ : ∃ y : Int, uy - 6 = y := ⟨_, rfl⟩
      have y0 : -6 ≤ y := by omega
      have y1 : y ≤ 6 := by omega
      have hyw : IntKind.i64.wrap (uy - 6) = y := by rw [wrapS (by omega) (by omega)]; exact hyd
      obtain ⟨⟨c5_0, c5_1, c5_2, c5_3⟩, _⟩ := block4 ((X2.out.trans (X3.out.trans (X4.out.trans (X5.out.trans (X6.out.trans (X7.out.trans (X8.out.trans (X9.out)))))))).block D5.out)
      have lb5 := lt_of_block ((X2.out.trans (X3.out.trans (X4.out.trans (X5.out.trans (X6.out.trans (X7.out.trans (X8.out.trans (X9.out)))))))).block D5.out)
      go_wp2_with fail
      clear c5_0 c5_1 c5_2 c5_3 lb5
      refine (rolY W H true a5 m d5 xs5 L5.out hm hv _ (VArr.ext V5.out (X1.out.trans (X2.out.trans (X3.out.trans (X4.out.trans (X5.out.trans (X6.out.trans (X7.out.trans (X8.out.trans (X9.out)))))))))) x y (by omega) (by omega)).mono ?_
      rintro e w11 ⟨a16, d16, xs16, rfl, hX10, hV, hL, hF⟩
      have X10 := Lib.hid hX10
      have V16 := Lib.hid hV
      have L16 := Lib.hid hL
      have F16 := Lib.hid hF
      clear hX10 hV hL hF
      go_wp2_with fail
      have D16a := heap_new w11 (.cells #[.int .i64 W, .int .i64 H, .bool true, .slice a16 m d16] 27)
      have X11a := (Ext.refl w11).alloc (.cells #[.int .i64 W, .int .i64 H, .bool true, .slice a16 m d16] 27)
      generalize hw11 : w11.alloc (.cells #[.int .i64 W, .int .i64 H, .bool true, .slice a16 m d16] 27) = w12 at *
      clear hw11
      have X11 := Lib.hid X11a
      have D16 := Lib.hid D16a
      clear X11a D16a
      refine (rolY W H true a16 m d16 xs16 L16.out hm hv _ (VArr.ext V16.out (X11.out)) (-x) (-y) (by omega) (by omega)).mono ?_
      rintro e w13 ⟨a18, d18, xs18, rfl, hX12, hV, hL, hF⟩
      have X12 := Lib.hid hX12
      have V18 := Lib.hid hV
      have L18 := Lib.hid hL
      rw [F16.out] at hF
      have F18 := Lib.hid hF
      clear hX12 hV hL hF
      have WF8 := Lib.hid (allOk.wf (hQ.ok.mir h1 h3 |>.mir h1 h3) F8.out (by rw [L8.out]; exact hv))
      have WF12 := Lib.hid (allOk.wf ((hQ.ok.swap h1 h3).swap h3 h1) F12.out (by rw [L12.out]; exact hv))
      have WF5 := Lib.hid (allOk.wf hQ.ok rfl (by rw [L5.out]; exact hv))
      have WF18 := Lib.hid (allOk.wf ((hQ.ok.rol h1 h3 x y).rol h1 h3 (-x) (-y)) F18.out (by rw [L18.out]; exact hv))
      obtain ⟨⟨c5_0, c5_1, c5_2, c5_3⟩, _⟩ := block4 ((X2.out.trans (X3.out.trans (X4.out.trans (X5.out.trans (X6.out.trans (X7.out.trans (X8.out.trans (X9.out.trans (X10.out.trans (X11.out.trans (X12.out))))))))))).block D5.out)
      have lb5 := lt_of_block ((X2.out.trans (X3.out.trans (X4.out.trans (X5.out.trans (X6.out.trans (X7.out.trans (X8.out.trans (X9.out.trans (X10.out.trans (X11.out.trans (X12.out))))))))))).block D5.out)
      go_wp2_with fail
      clear c5_0 c5_1 c5_2 c5_3 lb5
      have D18a := heap_new w13 (.cells #[.int .i64 W, .int .i64 H, .bool true, .slice a18 m d18] 27)
      have X13a := (Ext.refl w13).alloc (.cells #[.int .i64 W, .int .i64 H, .bool true, .slice a18 m d18] 27)
      generalize hw13 : w13.alloc (.cells #[.int .i64 W, .int .i64 H, .bool true, .slice a18 m d18] 27) = w14 at *
      clear hw13
      have X13 := Lib.hid X13a
      have D18 := Lib.hid D18a
      clear X13a D18a
      refine (vldY W H true a5 m d5 hm hv _).mono ?_
      rintro e w15 ⟨rfl, hX14⟩
      have X14 := Lib.hid hX14
      clear hX14
      obtain ⟨⟨c8_0, c8_1, c8_2, c8_3⟩, _⟩ := block4 ((X6.out.trans (X7.out.trans (X8.out.trans (X9.out.trans (X10.out.trans (X11.out.trans (X12.out.trans (X13.out.trans (X14.out))))))))).block D8.out)
      have lb8 := lt_of_block ((X6.out.trans (X7.out.trans (X8.out.trans (X9.out.trans (X10.out.trans (X11.out.trans (X12.out.trans (X13.out.trans (X14.out))))))))).block D8.out)
      obtain ⟨⟨c5_0, c5_1, c5_2, c5_3⟩, _⟩ := block4 ((X2.out.trans (X3.out.trans (X4.out.trans (X5.out.trans (X6.out.trans (X7.out.trans (X8.out.trans (X9.out.trans (X10.out.trans (X11.out.trans (X12.out.trans (X13.out.trans (X14.out))))))))))))).block D5.out)
      have lb5 := lt_of_block ((X2.out.trans (X3.out.trans (X4.out.trans (X5.out.trans (X6.out.trans (X7.out.trans (X8.out.trans (X9.out.trans (X10.out.trans (X11.out.trans (X12.out.trans (X13.out.trans (X14.out))))))))))))).block D5.out)
      go_wp2_with fail
      clear c8_0 c8_1 c8_2 c8_3 lb8 c5_0 c5_1 c5_2 c5_3 lb5
      refine (samY W H true a8 m d8 xs8 L8.out hm _ (VArr.ext V8.out (X5.out.trans (X6.out.trans (X7.out.trans (X8.out.trans (X9.out.trans (X10.out.trans (X11.out.trans (X12.out.trans (X13.out.trans (X14.out))))))))))) a5 d5 xs5 L5.out WF8.out WF5.out (by rw [F8.out]; exact mir_mir h1 h3 _ _ (by rw [show (fas xs5).length = m from by rw [fas, List.length_map]; exact L5.out]; exact hv)) (VArr.ext V5.out (X1.out.trans (X2.out.trans (X3.out.trans (X4.out.trans (X5.out.trans (X6.out.trans (X7.out.trans (X8.out.trans (X9.out.trans (X10.out.trans (X11.out.trans (X12.out.trans (X13.out.trans (X14.out)))))))))))))))).mono ?_
      rintro e w16 ⟨rfl, hX15⟩
      have X15 := Lib.hid hX15
      clear hX15
      obtain ⟨⟨c12_0, c12_1, c12_2, c12_3⟩, _⟩ := block4 ((X10.out.trans (X11.out.trans (X12.out.trans (X13.out.trans (X14.out.trans (X15.out)))))).block D12.out)
      have lb12 := lt_of_block ((X10.out.trans (X11.out.trans (X12.out.trans (X13.out.trans (X14.out.trans (X15.out)))))).block D12.out)
      obtain ⟨⟨c5_0, c5_1, c5_2, c5_3⟩, _⟩ := block4 ((X2.out.trans (X3.out.trans (X4.out.trans (X5.out.trans (X6.out.trans (X7.out.trans (X8.out.trans (X9.out.trans (X10.out.trans (X11.out.trans (X12.out.trans (X13.out.trans (X14.out.trans (X15.out)))))))))))))).block D5.out)
      have lb5 := lt_of_block ((X2.out.trans (X3.out.trans (X4.out.trans (X5.out.trans (X6.out.trans (X7.out.trans (X8.out.trans (X9.out.trans (X10.out.trans (X11.out.trans (X12.out.trans (X13.out.trans (X14.out.trans (X15.out)))))))))))))).block D5.out)
      go_wp2_with fail
      clear c12_0 c12_1 c12_2 c12_3 lb12 c5_0 c5_1 c5_2 c5_3 lb5
      refine (samY W H true a12 m d12 xs12 L12.out hm _ (VArr.ext V12.out (X9.out.trans (X10.out.trans (X11.out.trans (X12.out.trans (X13.out.trans (X14.out.trans (X15.out)))))))) a5 d5 xs5 L5.out WF12.out WF5.out (by rw [F12.out]; exact swap_swap h1 h3 _ _ (by rw [show (fas xs5).length = m from by rw [fas, List.length_map]; exact L5.out]; exact hv)) (VArr.ext V5.out (X1.out.trans (X2.out.trans (X3.out.trans (X4.out.trans (X5.out.trans (X6.out.trans (X7.out.trans (X8.out.trans (X9.out.trans (X10.out.trans (X11.out.trans (X12.out.trans (X13.out.trans (X14.out.trans (X15.out))))))))))))))))).mono ?_
      rintro e w17 ⟨rfl, hX16⟩
      have X16 := Lib.hid hX16
      clear hX16
      obtain ⟨⟨c18_0, c18_1, c18_2, c18_3⟩, _⟩ := block4 ((X14.out.trans (X15.out.trans (X16.out))).block D18.out)
      have lb18 := lt_of_block ((X14.out.trans (X15.out.trans (X16.out))).block D18.out)
      obtain ⟨⟨c5_0, c5_1, c5_2, c5_3⟩, _⟩ := block4 ((X2.out.trans (X3.out.trans (X4.out.trans (X5.out.trans (X6.out.trans (X7.out.trans (X8.out.trans (X9.out.trans (X10.out.trans (X11.out.trans (X12.out.trans (X13.out.trans (X14.out.trans (X15.out.trans (X16.out))))))))))))))).block D5.out)
      have lb5 := lt_of_block ((X2.out.trans (X3.out.trans (X4.out.trans (X5.out.trans (X6.out.trans (X7.out.trans (X8.out.trans (X9.out.trans (X10.out.trans (X11.out.trans (X12.out.trans (X13.out.trans (X14.out.trans (X15.out.trans (X16.out))))))))))))))).block D5.out)
      obtain ⟨⟨c10_0, c10_1, c10_2, c10_3⟩, _⟩ := block4 ((X8.out.trans (X9.out.trans (X10.out.trans (X11.out.trans (X12.out.trans (X13.out.trans (X14.out.trans (X15.out.trans (X16.out))))))))).block D10.out)
      have lb10 := lt_of_block ((X8.out.trans (X9.out.trans (X10.out.trans (X11.out.trans (X12.out.trans (X13.out.trans (X14.out.trans (X15.out.trans (X16.out))))))))).block D10.out)
      go_wp2_with fail
      clear c18_0 c18_1 c18_2 c18_3 lb18 c5_0 c5_1 c5_2 c5_3 lb5 c10_0 c10_1 c10_2 c10_3 lb10
      refine (samY W H true a18 m d18 xs18 L18.out hm _ (VArr.ext V18.out (X13.out.trans (X14.out.trans (X15.out.trans (X16.out))))) a5 d5 xs5 L5.out WF18.out WF5.out (by rw [F18.out]; exact roll_roll h1 h3 _ x y (by rw [show (fas xs5).length = m from by rw [fas, List.length_map]; exact L5.out]; exact hv)) (VArr.ext V5.out (X1.out.trans (X2.out.trans (X3.out.trans (X4.out.trans (X5.out.trans (X6.out.trans (X7.out.trans (X8.out.trans (X9.out.trans (X10.out.trans (X11.out.trans (X12.out.trans (X13.out.trans (X14.out.trans (X15.out.trans (X16.out)))))))))))))))))).mono ?_
      rintro e w18 ⟨rfl, hX17⟩
      have X17 := Lib.hid hX17
      clear hX17
      obtain ⟨⟨c5_0, c5_1, c5_2, c5_3⟩, _⟩ := block4 ((X2.out.trans (X3.out.trans (X4.out.trans (X5.out.trans (X6.out.trans (X7.out.trans (X8.out.trans (X9.out.trans (X10.out.trans (X11.out.trans (X12.out.trans (X13.out.trans (X14.out.trans (X15.out.trans (X16.out.trans (X17.out)))))))))))))))).block D5.out)
      have lb5 := lt_of_block ((X2.out.trans (X3.out.trans (X4.out.trans (X5.out.trans (X6.out.trans (X7.out.trans (X8.out.trans (X9.out.trans (X10.out.trans (X11.out.trans (X12.out.trans (X13.out.trans (X14.out.trans (X15.out.trans (X16.out.trans (X17.out)))))))))))))))).block D5.out)
      go_wp2_with fail
      clear c5_0 c5_1 c5_2 c5_3 lb5
      refine (lapY W H true a5 m d5 xs5 L5.out hm hv _ (VArr.ext V5.out (X1.out.trans (X2.out.trans (X3.out.trans (X4.out.trans (X5.out.trans (X6.out.trans (X7.out.trans (X8.out.trans (X9.out.trans (X10.out.trans (X11.out.trans (X12.out.trans (X13.out.trans (X14.out.trans (X15.out.trans (X16.out.trans (X17.out))))))))))))))))))).mono ?_
      rintro e w19 ⟨a20, d20, xs20, rfl, hX18, hV, hL, hF⟩
      have X18 := Lib.hid hX18
      have V20 := Lib.hid hV
      have L20 := Lib.hid hL
      have F20 := Lib.hid hF
      clear hX18 hV hL hF
      obtain ⟨⟨c5_0, c5_1, c5_2, c5_3⟩, _⟩ := block4 ((X2.out.trans (X3.out.trans (X4.out.trans (X5.out.trans (X6.out.trans (X7.out.trans (X8.out.trans (X9.out.trans (X10.out.trans (X11.out.trans (X12.out.trans (X13.out.trans (X14.out.trans (X15.out.trans (X16.out.trans (X17.out.trans (X18.out))))))))))))))))).block D5.out)
      have lb5 := lt_of_block ((X2.out.trans (X3.out.trans (X4.out.trans (X5.out.trans (X6.out.trans (X7.out.trans (X8.out.trans (X9.out.trans (X10.out.trans (X11.out.trans (X12.out.trans (X13.out.trans (X14.out.trans (X15.out.trans (X16.out.trans (X17.out.trans (X18.out))))))))))))))))).block D5.out)
      go_wp2_with fail
      clear c5_0 c5_1 c5_2 c5_3 lb5
      have D20a := heap_new w19 (.cells #[.int .i64 W, .int .i64 H, .bool true, .slice a20 m d20] 27)
      have X19a := (Ext.refl w19).alloc (.cells #[.int .i64 W, .int .i64 H, .bool true, .slice a20 m d20] 27)
      generalize hw19 : w19.alloc (.cells #[.int .i64 W, .int .i64 H, .bool true, .slice a20 m d20] 27) = w20 at *
      clear hw19
      have X19 := Lib.hid X19a
      have D20 := Lib.hid D20a
      clear X19a D20a
      refine (ninY W H true a5 m d5 xs5 L5.out hm hv _ (VArr.ext V5.out (X1.out.trans (X2.out.trans (X3.out.trans (X4.out.trans (X5.out.trans (X6.out.trans (X7.out.trans (X8.out.trans (X9.out.trans (X10.out.trans (X11.out.trans (X12.out.trans (X13.out.trans (X14.out.trans (X15.out.trans (X16.out.trans (X17.out.trans (X18.out.trans (X19.out))))))))))))))))))))).mono ?_
      rintro e w21 ⟨a22, d22, xs22, rfl, hX20, hV, hL, hF⟩
      have X20 := Lib.hid hX20
      have V22 := Lib.hid hV
      have L22 := Lib.hid hL
      have F22 := Lib.hid hF
      clear hX20 hV hL hF
      obtain ⟨⟨c6_0, c6_1, c6_2, c6_3⟩, _⟩ := block4 ((X4.out.trans (X5.out.trans (X6.out.trans (X7.out.trans (X8.out.trans (X9.out.trans (X10.out.trans (X11.out.trans (X12.out.trans (X13.out.trans (X14.out.trans (X15.out.trans (X16.out.trans (X17.out.trans (X18.out.trans (X19.out.trans (X20.out))))))))))))))))).block D6.out)
      have lb6 := lt_of_block ((X4.out.trans (X5.out.trans (X6.out.trans (X7.out.trans (X8.out.trans (X9.out.trans (X10.out.trans (X11.out.trans (X12.out.trans (X13.out.trans (X14.out.trans (X15.out.trans (X16.out.trans (X17.out.trans (X18.out.trans (X19.out.trans (X20.out))))))))))))))))).block D6.out)
      go_wp2_with fail
      clear c6_0 c6_1 c6_2 c6_3 lb6
      have D22a := heap_new w21 (.cells #[.int .i64 W, .int .i64 H, .bool true, .slice a22 m d22] 27)
      have X21a := (Ext.refl w21).alloc (.cells #[.int .i64 W, .int .i64 H, .bool true, .slice a22 m d22] 27)
      generalize hw21 : w21.alloc (.cells #[.int .i64 W, .int .i64 H, .bool true, .slice a22 m d22] 27) = w22 at *
      clear hw21
      have X21 := Lib.hid X21a
      have D22 := Lib.hid D22a
      clear X21a D22a
      refine (lapY W H true a6 m d6 xs6 L6.out hm hv _ (VArr.ext V6.out (X3.out.trans (X4.out.trans (X5.out.trans (X6.out.trans (X7.out.trans (X8.out.trans (X9.out.trans (X10.out.trans (X11.out.trans (X12.out.trans (X13.out.trans (X14.out.trans (X15.out.trans (X16.out.trans (X17.out.trans (X18.out.trans (X19.out.trans (X20.out.trans (X21.out))))))))))))))))))))).mono ?_
      rintro e w23 ⟨a24, d24, xs24, rfl, hX22, hV, hL, hF⟩
      have X22 := Lib.hid hX22
      have V24 := Lib.hid hV
      have L24 := Lib.hid hL
      rw [F6.out] at hF
      have F24 := Lib.hid hF
      clear hX22 hV hL hF
      obtain ⟨⟨c20_0, c20_1, c20_2, c20_3⟩, _⟩ := block4 ((X20.out.trans (X21.out.trans (X22.out))).block D20.out)
      have lb20 := lt_of_block ((X20.out.trans (X21.out.trans (X22.out))).block D20.out)
      go_wp2_with fail
      clear c20_0 c20_1 c20_2 c20_3 lb20
      have D24a := heap_new w23 (.cells #[.int .i64 W, .int .i64 H, .bool true, .slice a24 m d24] 27)
      have X23a := (Ext.refl w23).alloc (.cells #[.int .i64 W, .int .i64 H, .bool true, .slice a24 m d24] 27)
      generalize hw23 : w23.alloc (.cells #[.int .i64 W, .int .i64 H, .bool true, .slice a24 m d24] 27) = w24 at *
      clear hw23
      have X23 := Lib.hid X23a
      have D24 := Lib.hid D24a
      clear X23a D24a
      refine (mirY W H true a20 m d20 xs20 L20.out hm hv _ (VArr.ext V20.out (X19.out.trans (X20.out.trans (X21.out.trans (X22.out.trans (X23.out))))))).mono ?_
      rintro e w25 ⟨a26, d26, xs26, rfl, hX24, hV, hL, hF⟩
      have X24 := Lib.hid hX24
      have V26 := Lib.hid hV
      have L26 := Lib.hid hL
      rw [F20.out] at hF
      have F26 := Lib.hid hF
      clear hX24 hV hL hF
      obtain ⟨⟨c10_0, c10_1, c10_2, c10_3⟩, _⟩ := block4 ((X8.out.trans (X9.out.trans (X10.out.trans (X11.out.trans (X12.out.trans (X13.out.trans (X14.out.trans (X15.out.trans (X16.out.trans (X17.out.trans (X18.out.trans (X19.out.trans (X20.out.trans (X21.out.trans (X22.out.trans (X23.out.trans (X24.out))))))))))))))))).block D10.out)
      have lb10 := lt_of_block ((X8.out.trans (X9.out.trans (X10.out.trans (X11.out.trans (X12.out.trans (X13.out.trans (X14.out.trans (X15.out.trans (X16.out.trans (X17.out.trans (X18.out.trans (X19.out.trans (X20.out.trans (X21.out.trans (X22.out.trans (X23.out.trans (X24.out))))))))))))))))).block D10.out)
      go_wp2_with fail
      clear c10_0 c10_1 c10_2 c10_3 lb10
      have D26a := heap_new w25 (.cells #[.int .i64 W, .int .i64 H, .bool true, .slice a26 m d26] 27)
      have X25a := (Ext.refl w25).alloc (.cells #[.int .i64 W, .int .i64 H, .bool true, .slice a26 m d26] 27)
      generalize hw25 : w25.alloc (.cells #[.int .i64 W, .int .i64 H, .bool true, .slice a26 m d26] 27) = w26 at *
      clear hw25
      have X25 := Lib.hid X25a
      have D26 := Lib.hid D26a
      clear X25a D26a
      refine (lapY H W true a10 m d10 xs10 L10.out hm (vld_swap hv) _ (VArr.ext V10.out (X7.out.trans (X8.out.trans (X9.out.trans (X10.out.trans (X11.out.trans (X12.out.trans (X13.out.trans (X14.out.trans (X15.out.trans (X16.out.trans (X17.out.trans (X18.out.trans (X19.out.trans (X20.out.trans (X21.out.trans (X22.out.trans (X23.out.trans (X24.out.trans (X25.out))))))))))))))))))))).mono ?_
      rintro e w27 ⟨a28, d28, xs28, rfl, hX26, hV, hL, hF⟩
      have X26 := Lib.hid hX26
      have V28 := Lib.hid hV
      have L28 := Lib.hid hL
      rw [F10.out] at hF
      have F28 := Lib.hid hF
      clear hX26 hV hL hF
      obtain ⟨⟨c20_0, c20_1, c20_2, c20_3⟩, _⟩ := block4 ((X20.out.trans (X21.out.trans (X22.out.trans (X23.out.trans (X24.out.trans (X25.out.trans (X26.out))))))).block D20.out)
      have lb20 := lt_of_block ((X20.out.trans (X21.out.trans (X22.out.trans (X23.out.trans (X24.out.trans (X25.out.trans (X26.out))))))).block D20.out)
      go_wp2_with fail
      clear c20_0 c20_1 c20_2 c20_3 lb20
      have D28a := heap_new w27 (.cells #[.int .i64 H, .int .i64 W, .bool true, .slice a28 m d28] 27)
      have X27a := (Ext.refl w27).alloc (.cells #[.int .i64 H, .int .i64 W, .bool true, .slice a28 m d28] 27)
      generalize hw27 : w27.alloc (.cells #[.int .i64 H, .int .i64 W, .bool true, .slice a28 m d28] 27) = w28 at *
      clear hw27
      have X27 := Lib.hid X27a
      have D28 := Lib.hid D28a
      clear X27a D28a
      refine (swapY W H true a20 m d20 xs20 L20.out hm hv _ (VArr.ext V20.out (X19.out.trans (X20.out.trans (X21.out.trans (X22.out.trans (X23.out.trans (X24.out.trans (X25.out.trans (X26.out.trans (X27.out))))))))))).mono ?_
      rintro e w29 ⟨a30, d30, xs30, rfl, hX28, hV, hL, hF⟩
      have X28 := Lib.hid hX28
      have V30 := Lib.hid hV
      have L30 := Lib.hid hL
      rw [F20.out] at hF
      have F30 := Lib.hid hF
      clear hX28 hV hL hF
      obtain ⟨⟨c10_0, c10_1, c10_2, c10_3⟩, _⟩ := block4 ((X8.out.trans (X9.out.trans (X10.out.trans (X11.out.trans (X12.out.trans (X13.out.trans (X14.out.trans (X15.out.trans (X16.out.trans (X17.out.trans (X18.out.trans (X19.out.trans (X20.out.trans (X21.out.trans (X22.out.trans (X23.out.trans (X24.out.trans (X25.out.trans (X26.out.trans (X27.out.trans (X28.out))))))))))))))))))))).block D10.out)
      have lb10 := lt_of_block ((X8.out.trans (X9.out.trans (X10.out.trans (X11.out.trans (X12.out.trans (X13.out.trans (X14.out.trans (X15.out.trans (X16.out.trans (X17.out.trans (X18.out.trans (X19.out.trans (X20.out.trans (X21.out.trans (X22.out.trans (X23.out.trans (X24.out.trans (X25.out.trans (X26.out.trans (X27.out.trans (X28.out))))))))))))))))))))).block D10.out)
      go_wp2_with fail
      clear c10_0 c10_1 c10_2 c10_3 lb10
      have D30a := heap_new w29 (.cells #[.int .i64 H, .int .i64 W, .bool true, .slice a30 m d30] 27)
      have X29a := (Ext.refl w29).alloc (.cells #[.int .i64 H, .int .i64 W, .bool true, .slice a30 m d30] 27)
      generalize hw29 : w29.alloc (.cells #[.int .i64 H, .int .i64 W, .bool true, .slice a30 m d30] 27) = w30 at *
      clear hw29
      have X29 := Lib.hid X29a
      have D30 := Lib.hid D30a
      clear X29a D30a
      refine (ninY H W true a10 m d10 xs10 L10.out hm (vld_swap hv) _ (VArr.ext V10.out (X7.out.trans (X8.out.trans (X9.out.trans (X10.out.trans (X11.out.trans (X12.out.trans (X13.out.trans (X14.out.trans (X15.out.trans (X16.out.trans (X17.out.trans (X18.out.trans (X19.out.trans (X20.out.trans (X21.out.trans (X22.out.trans (X23.out.trans (X24.out.trans (X25.out.trans (X26.out.trans (X27.out.trans (X28.out.trans (X29.out))))))))))))))))))))))))).mono ?_
      rintro e w31 ⟨a32, d32, xs32, rfl, hX30, hV, hL, hF⟩
      have X30 := Lib.hid hX30
      have V32 := Lib.hid hV
      have L32 := Lib.hid hL
      rw [F10.out] at hF
      have F32 := Lib.hid hF
      clear hX30 hV hL hF
      obtain ⟨⟨c22_0, c22_1, c22_2, c22_3⟩, _⟩ := block4 ((X22.out.trans (X23.out.trans (X24.out.trans (X25.out.trans (X26.out.trans (X27.out.trans (X28.out.trans (X29.out.trans (X30.out))))))))).block D22.out)
      have lb22 := lt_of_block ((X22.out.trans (X23.out.trans (X24.out.trans (X25.out.trans (X26.out.trans (X27.out.trans (X28.out.trans (X29.out.trans (X30.out))))))))).block D22.out)
      go_wp2_with fail
      clear c22_0 c22_1 c22_2 c22_3 lb22
      have D32a := heap_new w31 (.cells #[.int .i64 H, .int .i64 W, .bool true, .slice a32 m d32] 27)
      have X31a := (Ext.refl w31).alloc (.cells #[.int .i64 H, .int .i64 W, .bool true, .slice a32 m d32] 27)
      generalize hw31 : w31.alloc (.cells #[.int .i64 H, .int .i64 W, .bool true, .slice a32 m d32] 27) = w32 at *
      clear hw31
      have X31 := Lib.hid X31a
      have D32 := Lib.hid D32a
      clear X31a D32a
      refine (swapY W H true a22 m d22 xs22 L22.out hm hv _ (VArr.ext V22.out (X21.out.trans (X22.out.trans (X23.out.trans (X24.out.trans (X25.out.trans (X26.out.trans (X27.out.trans (X28.out.trans (X29.out.trans (X30.out.trans (X31.out))))))))))))).mono ?_
      rintro e w33 ⟨a34, d34, xs34, rfl, hX32, hV, hL, hF⟩
      have X32 := Lib.hid hX32
      have V34 := Lib.hid hV
      have L34 := Lib.hid hL
      rw [F22.out] at hF
      have F34 := Lib.hid hF
      clear hX32 hV hL hF
      obtain ⟨⟨c16_0, c16_1, c16_2, c16_3⟩, _⟩ := block4 ((X12.out.trans (X13.out.trans (X14.out.trans (X15.out.trans (X16.out.trans (X17.out.trans (X18.out.trans (X19.out.trans (X20.out.trans (X21.out.trans (X22.out.trans (X23.out.trans (X24.out.trans (X25.out.trans (X26.out.trans (X27.out.trans (X28.out.trans (X29.out.trans (X30.out.trans (X31.out.trans (X32.out))))))))))))))))))))).block D16.out)
      have lb16 := lt_of_block ((X12.out.trans (X13.out.trans (X14.out.trans (X15.out.trans (X16.out.trans (X17.out.trans (X18.out.trans (X19.out.trans (X20.out.trans (X21.out.trans (X22.out.trans (X23.out.trans (X24.out.trans (X25.out.trans (X26.out.trans (X27.out.trans (X28.out.trans (X29.out.trans (X30.out.trans (X31.out.trans (X32.out))))))))))))))))))))).block D16.out)
      go_wp2_with fail
      clear c16_0 c16_1 c16_2 c16_3 lb16
      have D34a := heap_new w33 (.cells #[.int .i64 H, .int .i64 W, .bool true, .slice a34 m d34] 27)
      have X33a := (Ext.refl w33).alloc (.cells #[.int .i64 H, .int .i64 W, .bool true, .slice a34 m d34] 27)
      generalize hw33 : w33.alloc (.cells #[.int .i64 H, .int .i64 W, .bool true, .slice a34 m d34] 27) = w34 at *
      clear hw33
      have X33 := Lib.hid X33a
      have D34 := Lib.hid D34a
      clear X33a D34a
      refine (lapY W H true a16 m d16 xs16 L16.out hm hv _ (VArr.ext V16.out (X11.out.trans (X12.out.trans (X13.out.trans (X14.out.trans (X15.out.trans (X16.out.trans (X17.out.trans (X18.out.trans (X19.out.trans (X20.out.trans (X21.out.trans (X22.out.trans (X23.out.trans (X24.out.trans (X25.out.trans (X26.out.trans (X27.out.trans (X28.out.trans (X29.out.trans (X30.out.trans (X31.out.trans (X32.out.trans (X33.out))))))))))))))))))))))))).mono ?_
      rintro e w35 ⟨a36, d36, xs36, rfl, hX34, hV, hL, hF⟩
      have X34 := Lib.hid hX34
      have V36 := Lib.hid hV
      have L36 := Lib.hid hL
      rw [F16.out] at hF
      have F36 := Lib.hid hF
      clear hX34 hV hL hF
      obtain ⟨⟨c20_0, c20_1, c20_2, c20_3⟩, _⟩ := block4 ((X20.out.trans (X21.out.trans (X22.out.trans (X23.out.trans (X24.out.trans (X25.out.trans (X26.out.trans (X27.out.trans (X28.out.trans (X29.out.trans (X30.out.trans (X31.out.trans (X32.out.trans (X33.out.trans (X34.out))))))))))))))).block D20.out)
      have lb20 := lt_of_block ((X20.out.trans (X21.out.trans (X22.out.trans (X23.out.trans (X24.out.trans (X25.out.trans (X26.out.trans (X27.out.trans (X28.out.trans (X29.out.trans (X30.out.trans (X31.out.trans (X32.out.trans (X33.out.trans (X34.out))))))))))))))).block D20.out)
      go_wp2_with fail
      clear c20_0 c20_1 c20_2 c20_3 lb20
      have D36a := heap_new w35 (.cells #[.int .i64 W, .int .i64 H, .bool true, .slice a36 m d36] 27)
      have X35a := (Ext.refl w35).alloc (.cells #[.int .i64 W, .int .i64 H, .bool true, .slice a36 m d36] 27)
      generalize hw35 : w35.alloc (.cells #[.int .i64 W, .int .i64 H, .bool true, .slice a36 m d36] 27) = w36 at *
      clear hw35
      have X35 := Lib.hid X35a
      have D36 := Lib.hid D36a
      clear X35a D36a
      refine (rolY W H true a20 m d20 xs20 L20.out hm hv _ (VArr.ext V20.out (X19.out.trans (X20.out.trans (X21.out.trans (X22.out.trans (X23.out.trans (X24.out.trans (X25.out.trans (X26.out.trans (X27.out.trans (X28.out.trans (X29.out.trans (X30.out.trans (X31.out.trans (X32.out.trans (X33.out.trans (X34.out.trans (X35.out)))))))))))))))))) x y (by omega) (by omega)).mono ?_
      rintro e w37 ⟨a38, d38, xs38, rfl, hX36, hV, hL, hF⟩
      have X36 := Lib.hid hX36
      have V38 := Lib.hid hV
      have L38 := Lib.hid hL
      rw [F20.out] at hF
      have F38 := Lib.hid hF
      clear hX36 hV hL hF
      have WF24 := Lib.hid (allOk.wf ((hQ.mir h1 h3).okLap h1 h3) F24.out (by rw [L24.out]; exact hv))
      have WF26 := Lib.hid (allOk.wf ((hQ.okLap h1 h3).mir h1 h3) F26.out (by rw [L26.out]; exact hv))
      have WF28 := Lib.hid (allOk.wf ((hQ.swap h1 h3).okLap h3 h1) F28.out (by rw [L28.out]; exact (vld_swap hv)))
      have WF30 := Lib.hid (allOk.wf ((hQ.okLap h1 h3).swap h1 h3) F30.out (by rw [L30.out]; exact (vld_swap hv)))
      have WF32 := Lib.hid (allOk.wf ((hQ.swap h1 h3).okNin h3 h1) F32.out (by rw [L32.out]; exact (vld_swap hv)))
      have WF34 := Lib.hid (allOk.wf ((hQ.okNin h1 h3).swap h1 h3) F34.out (by rw [L34.out]; exact (vld_swap hv)))
      have WF36 := Lib.hid (allOk.wf ((hQ.roll h1 h3 x y).okLap h1 h3) F36.out (by rw [L36.out]; exact hv))
      have WF38 := Lib.hid (allOk.wf ((hQ.okLap h1 h3).rol h1 h3 x y) F38.out (by rw [L38.out]; exact hv))
      obtain ⟨⟨c5_0, c5_1, c5_2, c5_3⟩, _⟩ := block4 ((X2.out.trans (X3.out.trans (X4.out.trans (X5.out.trans (X6.out.trans (X7.out.trans (X8.out.trans (X9.out.trans (X10.out.trans (X11.out.trans (X12.out.trans (X13.out.trans (X14.out.trans (X15.out.trans (X16.out.trans (X17.out.trans (X18.out.trans (X19.out.trans (X20.out.trans (X21.out.trans (X22.out.trans (X23.out.trans (X24.out.trans (X25.out.trans (X26.out.trans (X27.out.trans (X28.out.trans (X29.out.trans (X30.out.trans (X31.out.trans (X32.out.trans (X33.out.trans (X34.out.trans (X35.out.trans (X36.out))))))))))))))))))))))))))))))))))).block D5.out)
      have lb5 := lt_of_block ((X2.out.trans (X3.out.trans (X4.out.trans (X5.out.trans (X6.out.trans (X7.out.trans (X8.out.trans (X9.out.trans (X10.out.trans (X11.out.trans (X12.out.trans (X13.out.trans (X14.out.trans (X15.out.trans (X16.out.trans (X17.out.trans (X18.out.trans (X19.out.trans (X20.out.trans (X21.out.trans (X22.out.trans (X23.out.trans (X24.out.trans (X25.out.trans (X26.out.trans (X27.out.trans (X28.out.trans (X29.out.trans (X30.out.trans (X31.out.trans (X32.out.trans (X33.out.trans (X34.out.trans (X35.out.trans (X36.out))))))))))))))))))))))))))))))))))).block D5.out)
      go_wp2_with fail
      clear c5_0 c5_1 c5_2 c5_3 lb5
      have D38a := heap_new w37 (.cells #[.int .i64 W, .int .i64 H, .bool true, .slice a38 m d38] 27)
      have X37a := (Ext.refl w37).alloc (.cells #[.int .i64 W, .int .i64 H, .bool true, .slice a38 m d38] 27)
      generalize hw37 : w37.alloc (.cells #[.int .i64 W, .int .i64 H, .bool true, .slice a38 m d38] 27) = w38 at *
      clear hw37
      have X37 := Lib.hid X37a
      have D38 := Lib.hid D38a
      clear X37a D38a
      refine (valY W H true a5 m d5 xs5 L5.out hm hv _ (VArr.ext V5.out (X1.out.trans (X2.out.trans (X3.out.trans (X4.out.trans (X5.out.trans (X6.out.trans (X7.out.trans (X8.out.trans (X9.out.trans (X10.out.trans (X11.out.trans (X12.out.trans (X13.out.trans (X14.out.trans (X15.out.trans (X16.out.trans (X17.out.trans (X18.out.trans (X19.out.trans (X20.out.trans (X21.out.trans (X22.out.trans (X23.out.trans (X24.out.trans (X25.out.trans (X26.out.trans (X27.out.trans (X28.out.trans (X29.out.trans (X30.out.trans (X31.out.trans (X32.out.trans (X33.out.trans (X34.out.trans (X35.out.trans (X36.out.trans (X37.out)))))))))))))))))))))))))))))))))))))) x y (by omega) (by omega) (q x y) (hQ x y).1).mono ?_
      rintro e w39 ⟨rfl, hX38⟩
      have X38 := Lib.hid hX38
      clear hX38
      obtain ⟨⟨c16_0, c16_1, c16_2, c16_3⟩, _⟩ := block4 ((X12.out.trans (X13.out.trans (X14.out.trans (X15.out.trans (X16.out.trans (X17.out.trans (X18.out.trans (X19.out.trans (X20.out.trans (X21.out.trans (X22.out.trans (X23.out.trans (X24.out.trans (X25.out.trans (X26.out.trans (X27.out.trans (X28.out.trans (X29.out.trans (X30.out.trans (X31.out.trans (X32.out.trans (X33.out.trans (X34.out.trans (X35.out.trans (X36.out.trans (X37.out.trans (X38.out))))))))))))))))))))))))))).block D16.out)
      have lb16 := lt_of_block ((X12.out.trans (X13.out.trans (X14.out.trans (X15.out.trans (X16.out.trans (X17.out.trans (X18.out.trans (X19.out.trans (X20.out.trans (X21.out.trans (X22.out.trans (X23.out.trans (X24.out.trans (X25.out.trans (X26.out.trans (X27.out.trans (X28.out.trans (X29.out.trans (X30.out.trans (X31.out.trans (X32.out.trans (X33.out.trans (X34.out.trans (X35.out.trans (X36.out.trans (X37.out.trans (X38.out))))))))))))))))))))))))))).block D16.out)
      go_wp2_with fail
      clear c16_0 c16_1 c16_2 c16_3 lb16
      refine (valY W H true a16 m d16 xs16 L16.out hm hv _ (VArr.ext V16.out (X11.out.trans (X12.out.trans (X13.out.trans (X14.out.trans (X15.out.trans (X16.out.trans (X17.out.trans (X18.out.trans (X19.out.trans (X20.out.trans (X21.out.trans (X22.out.trans (X23.out.trans (X24.out.trans (X25.out.trans (X26.out.trans (X27.out.trans (X28.out.trans (X29.out.trans (X30.out.trans (X31.out.trans (X32.out.trans (X33.out.trans (X34.out.trans (X35.out.trans (X36.out.trans (X37.out.trans (X38.out))))))))))))))))))))))))))))) 0 0 (by omega) (by omega) (q (-x) (-y)) (by rw [F16.out, about_roll0 h1 h3]; exact (hQ (-x) (-y)).1)).mono ?_
      rintro e w40 ⟨rfl, hX39⟩
      have X39 := Lib.hid hX39
      clear hX39
      obtain ⟨⟨c5_0, c5_1, c5_2, c5_3⟩, _⟩ := block4 ((X2.out.trans (X3.out.trans (X4.out.trans (X5.out.trans (X6.out.trans (X7.out.trans (X8.out.trans (X9.out.trans (X10.out.trans (X11.out.trans (X12.out.trans (X13.out.trans (X14.out.trans (X15.out.trans (X16.out.trans (X17.out.trans (X18.out.trans (X19.out.trans (X20.out.trans (X21.out.trans (X22.out.trans (X23.out.trans (X24.out.trans (X25.out.trans (X26.out.trans (X27.out.trans (X28.out.trans (X29.out.trans (X30.out.trans (X31.out.trans (X32.out.trans (X33.out.trans (X34.out.trans (X35.out.trans (X36.out.trans (X37.out.trans (X38.out.trans (X39.out)))))))))))))))))))))))))))))))))))))).block D5.out)
      have lb5 := lt_of_block ((X2.out.trans (X3.out.trans (X4.out.trans (X5.out.trans (X6.out.trans (X7.out.trans (X8.out.trans (X9.out.trans (X10.out.trans (X11.out.trans (X12.out.trans (X13.out.trans (X14.out.trans (X15.out.trans (X16.out.trans (X17.out.trans (X18.out.trans (X19.out.trans (X20.out.trans (X21.out.trans (X22.out.trans (X23.out.trans (X24.out.trans (X25.out.trans (X26.out.trans (X27.out.trans (X28.out.trans (X29.out.trans (X30.out.trans (X31.out.trans (X32.out.trans (X33.out.trans (X34.out.trans (X35.out.trans (X36.out.trans (X37.out.trans (X38.out.trans (X39.out)))))))))))))))))))))))))))))))))))))).block D5.out)
      go_wp2_with fail
      clear c5_0 c5_1 c5_2 c5_3 lb5
      refine (valY W H true a5 m d5 xs5 L5.out hm hv _ (VArr.ext V5.out (X1.out.trans (X2.out.trans (X3.out.trans (X4.out.trans (X5.out.trans (X6.out.trans (X7.out.trans (X8.out.trans (X9.out.trans (X10.out.trans (X11.out.trans (X12.out.trans (X13.out.trans (X14.out.trans (X15.out.trans (X16.out.trans (X17.out.trans (X18.out.trans (X19.out.trans (X20.out.trans (X21.out.trans (X22.out.trans (X23.out.trans (X24.out.trans (X25.out.trans (X26.out.trans (X27.out.trans (X28.out.trans (X29.out.trans (X30.out.trans (X31.out.trans (X32.out.trans (X33.out.trans (X34.out.trans (X35.out.trans (X36.out.trans (X37.out.trans (X38.out.trans (X39.out)))))))))))))))))))))))))))))))))))))))) (-x) (-y) (by omega) (by omega) (q (-x) (-y)) (hQ (-x) (-y)).1).mono ?_
      rintro e w41 ⟨rfl, hX40⟩
      have X40 := Lib.hid hX40
      clear hX40
      obtain ⟨fs1, fs2⟩ := q_self (hQ x y).2
      have fo1 := q_order (hQ (-x) (-y)).2
      have fo0 : FloatKind.f32.format.order 0 0 = some .eq := by decide
      have fd : ∀ u : World, u.drewN 0 = u := fun _ => rfl
      generalize qb (q x y) = va at *
      generalize qb (q (-x) (-y)) = vb at *
      obtain ⟨⟨c24_0, c24_1, c24_2, c24_3⟩, _⟩ := block4 ((X24.out.trans (X25.out.trans (X26.out.trans (X27.out.trans (X28.out.trans (X29.out.trans (X30.out.trans (X31.out.trans (X32.out.trans (X33.out.trans (X34.out.trans (X35.out.trans (X36.out.trans (X37.out.trans (X38.out.trans (X39.out.trans (X40.out))))))))))))))))).block D24.out)
      have lb24 := lt_of_block ((X24.out.trans (X25.out.trans (X26.out.trans (X27.out.trans (X28.out.trans (X29.out.trans (X30.out.trans (X31.out.trans (X32.out.trans (X33.out.trans (X34.out.trans (X35.out.trans (X36.out.trans (X37.out.trans (X38.out.trans (X39.out.trans (X40.out))))))))))))))))).block D24.out)
      obtain ⟨⟨c26_0, c26_1, c26_2, c26_3⟩, _⟩ := block4 ((X26.out.trans (X27.out.trans (X28.out.trans (X29.out.trans (X30.out.trans (X31.out.trans (X32.out.trans (X33.out.trans (X34.out.trans (X35.out.trans (X36.out.trans (X37.out.trans (X38.out.trans (X39.out.trans (X40.out))))))))))))))).block D26.out)
      have lb26 := lt_of_block ((X26.out.trans (X27.out.trans (X28.out.trans (X29.out.trans (X30.out.trans (X31.out.trans (X32.out.trans (X33.out.trans (X34.out.trans (X35.out.trans (X36.out.trans (X37.out.trans (X38.out.trans (X39.out.trans (X40.out))))))))))))))).block D26.out)
      go_wp2_with fail
      clear c24_0 c24_1 c24_2 c24_3 lb24 c26_0 c26_1 c26_2 c26_3 lb26
      refine (samY W H true a24 m d24 xs24 L24.out hm _ (VArr.ext V24.out (X23.out.trans (X24.out.trans (X25.out.trans (X26.out.trans (X27.out.trans (X28.out.trans (X29.out.trans (X30.out.trans (X31.out.trans (X32.out.trans (X33.out.trans (X34.out.trans (X35.out.trans (X36.out.trans (X37.out.trans (X38.out.trans (X39.out.trans (X40.out))))))))))))))))))) a26 d26 xs26 L26.out WF24.out WF26.out (by rw [F24.out, F26.out]; exact lap_mir h1 h3 hQ) (VArr.ext V26.out (X25.out.trans (X26.out.trans (X27.out.trans (X28.out.trans (X29.out.trans (X30.out.trans (X31.out.trans (X32.out.trans (X33.out.trans (X34.out.trans (X35.out.trans (X36.out.trans (X37.out.trans (X38.out.trans (X39.out.trans (X40.out)))))))))))))))))).mono ?_
      rintro e w42 ⟨rfl, hX41⟩
      have X41 := Lib.hid hX41
      clear hX41
      obtain ⟨⟨c28_0, c28_1, c28_2, c28_3⟩, _⟩ := block4 ((X28.out.trans (X29.out.trans (X30.out.trans (X31.out.trans (X32.out.trans (X33.out.trans (X34.out.trans (X35.out.trans (X36.out.trans (X37.out.trans (X38.out.trans (X39.out.trans (X40.out.trans (X41.out)))))))))))))).block D28.out)
      have lb28 := lt_of_block ((X28.out.trans (X29.out.trans (X30.out.trans (X31.out.trans (X32.out.trans (X33.out.trans (X34.out.trans (X35.out.trans (X36.out.trans (X37.out.trans (X38.out.trans (X39.out.trans (X40.out.trans (X41.out)))))))))))))).block D28.out)
      obtain ⟨⟨c30_0, c30_1, c30_2, c30_3⟩, _⟩ := block4 ((X30.out.trans (X31.out.trans (X32.out.trans (X33.out.trans (X34.out.trans (X35.out.trans (X36.out.trans (X37.out.trans (X38.out.trans (X39.out.trans (X40.out.trans (X41.out)))))))))))).block D30.out)
      have lb30 := lt_of_block ((X30.out.trans (X31.out.trans (X32.out.trans (X33.out.trans (X34.out.trans (X35.out.trans (X36.out.trans (X37.out.trans (X38.out.trans (X39.out.trans (X40.out.trans (X41.out)))))))))))).block D30.out)
      go_wp2_with fail
      clear c28_0 c28_1 c28_2 c28_3 lb28 c30_0 c30_1 c30_2 c30_3 lb30
      refine (samY H W true a28 m d28 xs28 L28.out hm _ (VArr.ext V28.out (X27.out.trans (X28.out.trans (X29.out.trans (X30.out.trans (X31.out.trans (X32.out.trans (X33.out.trans (X34.out.trans (X35.out.trans (X36.out.trans (X37.out.trans (X38.out.trans (X39.out.trans (X40.out.trans (X41.out)))))))))))))))) a30 d30 xs30 L30.out WF28.out WF30.out (by rw [F28.out, F30.out]; exact lap_swap h1 h3 hQ) (VArr.ext V30.out (X29.out.trans (X30.out.trans (X31.out.trans (X32.out.trans (X33.out.trans (X34.out.trans (X35.out.trans (X36.out.trans (X37.out.trans (X38.out.trans (X39.out.trans (X40.out.trans (X41.out))))))))))))))).mono ?_
      rintro e w43 ⟨rfl, hX42⟩
      have X42 := Lib.hid hX42
      clear hX42
      obtain ⟨⟨c32_0, c32_1, c32_2, c32_3⟩, _⟩ := block4 ((X32.out.trans (X33.out.trans (X34.out.trans (X35.out.trans (X36.out.trans (X37.out.trans (X38.out.trans (X39.out.trans (X40.out.trans (X41.out.trans (X42.out))))))))))).block D32.out)
      have lb32 := lt_of_block ((X32.out.trans (X33.out.trans (X34.out.trans (X35.out.trans (X36.out.trans (X37.out.trans (X38.out.trans (X39.out.trans (X40.out.trans (X41.out.trans (X42.out))))))))))).block D32.out)
      obtain ⟨⟨c34_0, c34_1, c34_2, c34_3⟩, _⟩ := block4 ((X34.out.trans (X35.out.trans (X36.out.trans (X37.out.trans (X38.out.trans (X39.out.trans (X40.out.trans (X41.out.trans (X42.out))))))))).block D34.out)
      have lb34 := lt_of_block ((X34.out.trans (X35.out.trans (X36.out.trans (X37.out.trans (X38.out.trans (X39.out.trans (X40.out.trans (X41.out.trans (X42.out))))))))).block D34.out)
      go_wp2_with fail
      clear c32_0 c32_1 c32_2 c32_3 lb32 c34_0 c34_1 c34_2 c34_3 lb34
      refine (samY H W true a32 m d32 xs32 L32.out hm _ (VArr.ext V32.out (X31.out.trans (X32.out.trans (X33.out.trans (X34.out.trans (X35.out.trans (X36.out.trans (X37.out.trans (X38.out.trans (X39.out.trans (X40.out.trans (X41.out.trans (X42.out))))))))))))) a34 d34 xs34 L34.out WF32.out WF34.out (by rw [F32.out, F34.out]; exact nin_swap h1 h3 hQ) (VArr.ext V34.out (X33.out.trans (X34.out.trans (X35.out.trans (X36.out.trans (X37.out.trans (X38.out.trans (X39.out.trans (X40.out.trans (X41.out.trans (X42.out)))))))))))).mono ?_
      rintro e w44 ⟨rfl, hX43⟩
      have X43 := Lib.hid hX43
      clear hX43
      obtain ⟨⟨c36_0, c36_1, c36_2, c36_3⟩, _⟩ := block4 ((X36.out.trans (X37.out.trans (X38.out.trans (X39.out.trans (X40.out.trans (X41.out.trans (X42.out.trans (X43.out)))))))).block D36.out)
      have lb36 := lt_of_block ((X36.out.trans (X37.out.trans (X38.out.trans (X39.out.trans (X40.out.trans (X41.out.trans (X42.out.trans (X43.out)))))))).block D36.out)
      obtain ⟨⟨c38_0, c38_1, c38_2, c38_3⟩, _⟩ := block4 ((X38.out.trans (X39.out.trans (X40.out.trans (X41.out.trans (X42.out.trans (X43.out)))))).block D38.out)
      have lb38 := lt_of_block ((X38.out.trans (X39.out.trans (X40.out.trans (X41.out.trans (X42.out.trans (X43.out)))))).block D38.out)
      obtain ⟨⟨c5_0, c5_1, c5_2, c5_3⟩, _⟩ := block4 ((X2.out.trans (X3.out.trans (X4.out.trans (X5.out.trans (X6.out.trans (X7.out.trans (X8.out.trans (X9.out.trans (X10.out.trans (X11.out.trans (X12.out.trans (X13.out.trans (X14.out.trans (X15.out.trans (X16.out.trans (X17.out.trans (X18.out.trans (X19.out.trans (X20.out.trans (X21.out.trans (X22.out.trans (X23.out.trans (X24.out.trans (X25.out.trans (X26.out.trans (X27.out.trans (X28.out.trans (X29.out.trans (X30.out.trans (X31.out.trans (X32.out.trans (X33.out.trans (X34.out.trans (X35.out.trans (X36.out.trans (X37.out.trans (X38.out.trans (X39.out.trans (X40.out.trans (X41.out.trans (X42.out.trans (X43.out)))))))))))))))))))))))))))))))))))))))))).block D5.out)
      have lb5 := lt_of_block ((X2.out.trans (X3.out.trans (X4.out.trans (X5.out.trans (X6.out.trans (X7.out.trans (X8.out.trans (X9.out.trans (X10.out.trans (X11.out.trans (X12.out.trans (X13.out.trans (X14.out.trans (X15.out.trans (X16.out.trans (X17.out.trans (X18.out.trans (X19.out.trans (X20.out.trans (X21.out.trans (X22.out.trans (X23.out.trans (X24.out.trans (X25.out.trans (X26.out.trans (X27.out.trans (X28.out.trans (X29.out.trans (X30.out.trans (X31.out.trans (X32.out.trans (X33.out.trans (X34.out.trans (X35.out.trans (X36.out.trans (X37.out.trans (X38.out.trans (X39.out.trans (X40.out.trans (X41.out.trans (X42.out.trans (X43.out)))))))))))))))))))))))))))))))))))))))))).block D5.out)
      go_wp2_with fail
      clear c36_0 c36_1 c36_2 c36_3 lb36 c38_0 c38_1 c38_2 c38_3 lb38 c5_0 c5_1 c5_2 c5_3 lb5
      refine (samY W H true a36 m d36 xs36 L36.out hm _ (VArr.ext V36.out (X35.out.trans (X36.out.trans (X37.out.trans (X38.out.trans (X39.out.trans (X40.out.trans (X41.out.trans (X42.out.trans (X43.out)))))))))) a38 d38 xs38 L38.out WF36.out WF38.out (by rw [F36.out, F38.out]; exact lap_roll h1 h3 hQ x y) (VArr.ext V38.out (X37.out.trans (X38.out.trans (X39.out.trans (X40.out.trans (X41.out.trans (X42.out.trans (X43.out))))))))).mono ?_
      rintro e w45 ⟨rfl, hX44⟩
      have X44 := Lib.hid hX44
      clear hX44
      go_wp2
      go_ret
      exact ⟨rfl, EW.out.trans (X1.out.trans (X2.out.trans (X3.out.trans (X4.out.trans (X5.out.trans (X6.out.trans (X7.out.trans (X8.out.trans (X9.out.trans (X10.out.trans (X11.out.trans (X12.out.trans (X13.out.trans (X14.out.trans (X15.out.trans (X16.out.trans (X17.out.trans (X18.out.trans (X19.out.trans (X20.out.trans (X21.out.trans (X22.out.trans (X23.out.trans (X24.out.trans (X25.out.trans (X26.out.trans (X27.out.trans (X28.out.trans (X29.out.trans (X30.out.trans (X31.out.trans (X32.out.trans (X33.out.trans (X34.out.trans (X35.out.trans (X36.out.trans (X37.out.trans (X38.out.trans (X39.out.trans (X40.out.trans (X41.out.trans (X42.out.trans (X43.out.trans (X44.out))))))))))))))))))))))))))))))))))))))))))))⟩
    | false =>
      go_wp2_with fail
      have D5a := heap_new w1 (.cells #[.int .i64 W, .int .i64 H, .bool false, .slice a5 m d5] 27)
      have X1a := (Ext.refl w1).alloc (.cells #[.int .i64 W, .int .i64 H, .bool false, .slice a5 m d5] 27)
      generalize hw1 : w1.alloc (.cells #[.int .i64 W, .int .i64 H, .bool false, .slice a5 m d5] 27) = w2 at *
      clear hw1
      have X1 := Lib.hid X1a
      have D5 := Lib.hid D5a
      clear X1a D5a
      refine (mirY W H false a5 m d5 xs5 L5.out hm hv _ (VArr.ext V5.out (X1.out))).mono ?_
      rintro e w3 ⟨a6, d6, xs6, rfl, hX2, hV, hL, hF⟩
      have X2 := Lib.hid hX2
      have V6 := Lib.hid hV
      have L6 := Lib.hid hL
      have F6 := Lib.hid hF
      clear hX2 hV hL hF
      go_wp2_with fail
      have D6a := heap_new w3 (.cells #[.int .i64 W, .int .i64 H, .bool false, .slice a6 m d6] 27)
      have X3a := (Ext.refl w3).alloc (.cells #[.int .i64 W, .int .i64 H, .bool false, .slice a6 m d6] 27)
      generalize hw3 : w3.alloc (.cells #[.int .i64 W, .int .i64 H, .bool false, .slice a6 m d6] 27) = w4 at *
      clear hw3
      have X3 := Lib.hid X3a
      have D6 := Lib.hid D6a
      clear X3a D6a
      refine (mirY W H false a6 m d6 xs6 L6.out hm hv _ (VArr.ext V6.out (X3.out))).mono ?_
      rintro e w5 ⟨a8, d8, xs8, rfl, hX4, hV, hL, hF⟩
      have X4 := Lib.hid hX4
      have V8 := Lib.hid hV
      have L8 := Lib.hid hL
      rw [F6.out] at hF
      have F8 := Lib.hid hF
      clear hX4 hV hL hF
      obtain ⟨⟨c5_0, c5_1, c5_2, c5_3⟩, _⟩ := block4 ((X2.out.trans (X3.out.trans (X4.out))).block D5.out)
      have lb5 := lt_of_block ((X2.out.trans (X3.out.trans (X4.out))).block D5.out)
      go_wp2_with fail
      clear c5_0 c5_1 c5_2 c5_3 lb5
      have D8a := heap_new w5 (.cells #[.int .i64 W, .int .i64 H, .bool false, .slice a8 m d8] 27)
      have X5a := (Ext.refl w5).alloc (.cells #[.int .i64 W, .int .i64 H, .bool false, .slice a8 m d8] 27)
      generalize hw5 : w5.alloc (.cells #[.int .i64 W, .int .i64 H, .bool false, .slice a8 m d8] 27) = w6 at *
      clear hw5
      have X5 := Lib.hid X5a
      have D8 := Lib.hid D8a
      clear X5a D8a
      refine (swapY W H false a5 m d5 xs5 L5.out hm hv _ (VArr.ext V5.out (X1.out.trans (X2.out.trans (X3.out.trans (X4.out.trans (X5.out))))))).mono ?_
      rintro e w7 ⟨a10, d10, xs10, rfl, hX6, hV, hL, hF⟩
      have X6 := Lib.hid hX6
      have V10 := Lib.hid hV
      have L10 := Lib.hid hL
      have F10 := Lib.hid hF
      clear hX6 hV hL hF
      go_wp2_with fail
      have D10a := heap_new w7 (.cells #[.int .i64 H, .int .i64 W, .bool false, .slice a10 m d10] 27)
      have X7a := (Ext.refl w7).alloc (.cells #[.int .i64 H, .int .i64 W, .bool false, .slice a10 m d10] 27)
      generalize hw7 : w7.alloc (.cells #[.int .i64 H, .int .i64 W, .bool false, .slice a10 m d10] 27) = w8 at *
      clear hw7
      have X7 := Lib.hid X7a
      have D10 := Lib.hid D10a
      clear X7a D10a
      refine (swapY H W false a10 m d10 xs10 L10.out hm (vld_swap hv) _ (VArr.ext V10.out (X7.out))).mono ?_
      rintro e w9 ⟨a12, d12, xs12, rfl, hX8, hV, hL, hF⟩
      have X8 := Lib.hid hX8
      have V12 := Lib.hid hV
      have L12 := Lib.hid hL
      rw [F10.out] at hF
      have F12 := Lib.hid hF
      clear hX8 hV hL hF
      go_wp2_with fail
      have D12a := heap_new w9 (.cells #[.int .i64 W, .int .i64 H, .bool false, .slice a12 m d12] 27)
      have X9a := (Ext.refl w9).alloc (.cells #[.int .i64 W, .int .i64 H, .bool false, .slice a12 m d12] 27)
      generalize hw9 : w9.alloc (.cells #[.int .i64 W, .int .i64 H, .bool false, .slice a12 m d12] 27) = w10 at *
      clear hw9
      have X9 := Lib.hid X9a
      have D12 := Lib.hid D12a
      clear X9a D12a
      refine (r8At_any s1 n1 c1 zs1 0 13 hz1 hs1 hb1 (by omega) (by omega) _ (VArr.ext hR1 (EW.out.trans (X1.out.trans (X2.out.trans (X3.out.trans (X4.out.trans (X5.out.trans (X6.out.trans (X7.out.trans (X8.out.trans (X9.out)))))))))))).mono ?_
      rintro e w' ⟨ux, rfl, ux0, ux1, rfl⟩
      obtain ⟨x, hxd⟩ : ∃ x : Int, ux - 6 = x := ⟨_, rfl⟩
      have x0 : -6 ≤ x := by omega
      have x1 : x ≤ 6 := by omega
      have hxw : IntKind.i64.wrap (ux - 6) = x := by rw [wrapS (by omega) (by omega)]; exact hxd
      go_wp2_with fail
      refine (r8At_any s1 n1 c1 zs1 1 13 hz1 hs1 hb1 (by omega) (by omega) _ (VArr.ext hR1 (EW.out.trans (X1.out.trans (X2.out.trans (X3.out.trans (X4.out.trans (X5.out.trans (X6.out.trans (X7.out.trans (X8.out.trans (X9.out)))))))))))).mono ?_
      rintro e w' ⟨uy, rfl, uy0, uy1, rfl⟩
      obtain ⟨y, hyd⟩ : ∃ y : Int, uy - 6 = y := ⟨_, rfl⟩
      have y0 : -6 ≤ y := by omega
      have y1 : y ≤ 6 := by omega
      have hyw : IntKind.i64.wrap (uy - 6) = y := by rw [wrapS (by omega) (by omega)]; exact hyd
      obtain ⟨⟨c5_0, c5_1, c5_2, c5_3⟩, _⟩ := block4 ((X2.out.trans (X3.out.trans (X4.out.trans (X5.out.trans (X6.out.trans (X7.out.trans (X8.out.trans (X9.out)))))))).block D5.out)
      have lb5 := lt_of_block ((X2.out.trans (X3.out.trans (X4.out.trans (X5.out.trans (X6.out.trans (X7.out.trans (X8.out.trans (X9.out)))))))).block D5.out)
      go_wp2_with fail
      clear c5_0 c5_1 c5_2 c5_3 lb5
      refine (rolY W H false a5 m d5 xs5 L5.out hm hv _ (VArr.ext V5.out (X1.out.trans (X2.out.trans (X3.out.trans (X4.out.trans (X5.out.trans (X6.out.trans (X7.out.trans (X8.out.trans (X9.out)))))))))) x y (by omega) (by omega)).mono ?_
      rintro e w11 ⟨a16, d16, xs16, rfl, hX10, hV, hL, hF⟩
      have X10 := Lib.hid hX10
      have V16 := Lib.hid hV
      have L16 := Lib.hid hL
      have F16 := Lib.hid hF
      clear hX10 hV hL hF
      go_wp2_with fail
      have D16a := heap_new w11 (.cells #[.int .i64 W, .int .i64 H, .bool false, .slice a16 m d16] 27)
      have X11a := (Ext.refl w11).alloc (.cells #[.int .i64 W, .int .i64 H, .bool false, .slice a16 m d16] 27)
      generalize hw11 : w11.alloc (.cells #[.int .i64 W, .int .i64 H, .bool false, .slice a16 m d16] 27) = w12 at *
      clear hw11
      have X11 := Lib.hid X11a
      have D16 := Lib.hid D16a
      clear X11a D16a
      refine (rolY W H false a16 m d16 xs16 L16.out hm hv _ (VArr.ext V16.out (X11.out)) (-x) (-y) (by omega) (by omega)).mono ?_
      rintro e w13 ⟨a18, d18, xs18, rfl, hX12, hV, hL, hF⟩
      have X12 := Lib.hid hX12
      have V18 := Lib.hid hV
      have L18 := Lib.hid hL
      rw [F16.out] at hF
      have F18 := Lib.hid hF
      clear hX12 hV hL hF
      have WF8 := Lib.hid (allOk.wf (hQ.ok.mir h1 h3 |>.mir h1 h3) F8.out (by rw [L8.out]; exact hv))
      have WF12 := Lib.hid (allOk.wf ((hQ.ok.swap h1 h3).swap h3 h1) F12.out (by rw [L12.out]; exact hv))
      have WF5 := Lib.hid (allOk.wf hQ.ok rfl (by rw [L5.out]; exact hv))
      obtain ⟨⟨c5_0, c5_1, c5_2, c5_3⟩, _⟩ := block4 ((X2.out.trans (X3.out.trans (X4.out.trans (X5.out.trans (X6.out.trans (X7.out.trans (X8.out.trans (X9.out.trans (X10.out.trans (X11.out.trans (X12.out))))))))))).block D5.out)
      have lb5 := lt_of_block ((X2.out.trans (X3.out.trans (X4.out.trans (X5.out.trans (X6.out.trans (X7.out.trans (X8.out.trans (X9.out.trans (X10.out.trans (X11.out.trans (X12.out))))))))))).block D5.out)
      go_wp2_with fail
      clear c5_0 c5_1 c5_2 c5_3 lb5
      have D18a := heap_new w13 (.cells #[.int .i64 W, .int .i64 H, .bool false, .slice a18 m d18] 27)
      have X13a := (Ext.refl w13).alloc (.cells #[.int .i64 W, .int .i64 H, .bool false, .slice a18 m d18] 27)
      generalize hw13 : w13.alloc (.cells #[.int .i64 W, .int .i64 H, .bool false, .slice a18 m d18] 27) = w14 at *
      clear hw13
      have X13 := Lib.hid X13a
      have D18 := Lib.hid D18a
      clear X13a D18a
      refine (vldY W H false a5 m d5 hm hv _).mono ?_
      rintro e w15 ⟨rfl, hX14⟩
      have X14 := Lib.hid hX14
      clear hX14
      obtain ⟨⟨c8_0, c8_1, c8_2, c8_3⟩, _⟩ := block4 ((X6.out.trans (X7.out.trans (X8.out.trans (X9.out.trans (X10.out.trans (X11.out.trans (X12.out.trans (X13.out.trans (X14.out))))))))).block D8.out)
      have lb8 := lt_of_block ((X6.out.trans (X7.out.trans (X8.out.trans (X9.out.trans (X10.out.trans (X11.out.trans (X12.out.trans (X13.out.trans (X14.out))))))))).block D8.out)
      obtain ⟨⟨c5_0, c5_1, c5_2, c5_3⟩, _⟩ := block4 ((X2.out.trans (X3.out.trans (X4.out.trans (X5.out.trans (X6.out.trans (X7.out.trans (X8.out.trans (X9.out.trans (X10.out.trans (X11.out.trans (X12.out.trans (X13.out.trans (X14.out))))))))))))).block D5.out)
      have lb5 := lt_of_block ((X2.out.trans (X3.out.trans (X4.out.trans (X5.out.trans (X6.out.trans (X7.out.trans (X8.out.trans (X9.out.trans (X10.out.trans (X11.out.trans (X12.out.trans (X13.out.trans (X14.out))))))))))))).block D5.out)
      go_wp2_with fail
      clear c8_0 c8_1 c8_2 c8_3 lb8 c5_0 c5_1 c5_2 c5_3 lb5
      refine (samY W H false a8 m d8 xs8 L8.out hm _ (VArr.ext V8.out (X5.out.trans (X6.out.trans (X7.out.trans (X8.out.trans (X9.out.trans (X10.out.trans (X11.out.trans (X12.out.trans (X13.out.trans (X14.out))))))))))) a5 d5 xs5 L5.out WF8.out WF5.out (by rw [F8.out]; exact mir_mir h1 h3 _ _ (by rw [show (fas xs5).length = m from by rw [fas, List.length_map]; exact L5.out]; exact hv)) (VArr.ext V5.out (X1.out.trans (X2.out.trans (X3.out.trans (X4.out.trans (X5.out.trans (X6.out.trans (X7.out.trans (X8.out.trans (X9.out.trans (X10.out.trans (X11.out.trans (X12.out.trans (X13.out.trans (X14.out)))))))))))))))).mono ?_
      rintro e w16 ⟨rfl, hX15⟩
      have X15 := Lib.hid hX15
      clear hX15
      obtain ⟨⟨c12_0, c12_1, c12_2, c12_3⟩, _⟩ := block4 ((X10.out.trans (X11.out.trans (X12.out.trans (X13.out.trans (X14.out.trans (X15.out)))))).block D12.out)
      have lb12 := lt_of_block ((X10.out.trans (X11.out.trans (X12.out.trans (X13.out.trans (X14.out.trans (X15.out)))))).block D12.out)
      obtain ⟨⟨c5_0, c5_1, c5_2, c5_3⟩, _⟩ := block4 ((X2.out.trans (X3.out.trans (X4.out.trans (X5.out.trans (X6.out.trans (X7.out.trans (X8.out.trans (X9.out.trans (X10.out.trans (X11.out.trans (X12.out.trans (X13.out.trans (X14.out.trans (X15.out)))))))))))))).block D5.out)
      have lb5 := lt_of_block ((X2.out.trans (X3.out.trans (X4.out.trans (X5.out.trans (X6.out.trans (X7.out.trans (X8.out.trans (X9.out.trans (X10.out.trans (X11.out.trans (X12.out.trans (X13.out.trans (X14.out.trans (X15.out)))))))))))))).block D5.out)
      go_wp2_with fail
      clear c12_0 c12_1 c12_2 c12_3 lb12 c5_0 c5_1 c5_2 c5_3 lb5
      refine (samY W H false a12 m d12 xs12 L12.out hm _ (VArr.ext V12.out (X9.out.trans (X10.out.trans (X11.out.trans (X12.out.trans (X13.out.trans (X14.out.trans (X15.out)))))))) a5 d5 xs5 L5.out WF12.out WF5.out (by rw [F12.out]; exact swap_swap h1 h3 _ _ (by rw [show (fas xs5).length = m from by rw [fas, List.length_map]; exact L5.out]; exact hv)) (VArr.ext V5.out (X1.out.trans (X2.out.trans (X3.out.trans (X4.out.trans (X5.out.trans (X6.out.trans (X7.out.trans (X8.out.trans (X9.out.trans (X10.out.trans (X11.out.trans (X12.out.trans (X13.out.trans (X14.out.trans (X15.out))))))))))))))))).mono ?_
      rintro e w17 ⟨rfl, hX16⟩
      have X16 := Lib.hid hX16
      clear hX16
      obtain ⟨⟨c5_0, c5_1, c5_2, c5_3⟩, _⟩ := block4 ((X2.out.trans (X3.out.trans (X4.out.trans (X5.out.trans (X6.out.trans (X7.out.trans (X8.out.trans (X9.out.trans (X10.out.trans (X11.out.trans (X12.out.trans (X13.out.trans (X14.out.trans (X15.out.trans (X16.out))))))))))))))).block D5.out)
      have lb5 := lt_of_block ((X2.out.trans (X3.out.trans (X4.out.trans (X5.out.trans (X6.out.trans (X7.out.trans (X8.out.trans (X9.out.trans (X10.out.trans (X11.out.trans (X12.out.trans (X13.out.trans (X14.out.trans (X15.out.trans (X16.out))))))))))))))).block D5.out)
      obtain ⟨⟨c10_0, c10_1, c10_2, c10_3⟩, _⟩ := block4 ((X8.out.trans (X9.out.trans (X10.out.trans (X11.out.trans (X12.out.trans (X13.out.trans (X14.out.trans (X15.out.trans (X16.out))))))))).block D10.out)
      have lb10 := lt_of_block ((X8.out.trans (X9.out.trans (X10.out.trans (X11.out.trans (X12.out.trans (X13.out.trans (X14.out.trans (X15.out.trans (X16.out))))))))).block D10.out)
      go_wp2_with fail
      clear c5_0 c5_1 c5_2 c5_3 lb5 c10_0 c10_1 c10_2 c10_3 lb10
      refine (lapY W H false a5 m d5 xs5 L5.out hm hv _ (VArr.ext V5.out (X1.out.trans (X2.out.trans (X3.out.trans (X4.out.trans (X5.out.trans (X6.out.trans (X7.out.trans (X8.out.trans (X9.out.trans (X10.out.trans (X11.out.trans (X12.out.trans (X13.out.trans (X14.out.trans (X15.out.trans (X16.out)))))))))))))))))).mono ?_
      rintro e w18 ⟨a20, d20, xs20, rfl, hX17, hV, hL, hF⟩
      have X17 := Lib.hid hX17
      have V20 := Lib.hid hV
      have L20 := Lib.hid hL
      have F20 := Lib.hid hF
      clear hX17 hV hL hF
      obtain ⟨⟨c5_0, c5_1, c5_2, c5_3⟩, _⟩ := block4 ((X2.out.trans (X3.out.trans (X4.out.trans (X5.out.trans (X6.out.trans (X7.out.trans (X8.out.trans (X9.out.trans (X10.out.trans (X11.out.trans (X12.out.trans (X13.out.trans (X14.out.trans (X15.out.trans (X16.out.trans (X17.out)))))))))))))))).block D5.out)
      have lb5 := lt_of_block ((X2.out.trans (X3.out.trans (X4.out.trans (X5.out.trans (X6.out.trans (X7.out.trans (X8.out.trans (X9.out.trans (X10.out.trans (X11.out.trans (X12.out.trans (X13.out.trans (X14.out.trans (X15.out.trans (X16.out.trans (X17.out)))))))))))))))).block D5.out)
      go_wp2_with fail
      clear c5_0 c5_1 c5_2 c5_3 lb5
      have D20a := heap_new w18 (.cells #[.int .i64 W, .int .i64 H, .bool false, .slice a20 m d20] 27)
      have X18a := (Ext.refl w18).alloc (.cells #[.int .i64 W, .int .i64 H, .bool false, .slice a20 m d20] 27)
      generalize hw18 : w18.alloc (.cells #[.int .i64 W, .int .i64 H, .bool false, .slice a20 m d20] 27) = w19 at *
      clear hw18
      have X18 := Lib.hid X18a
      have D20 := Lib.hid D20a
      clear X18a D20a
      refine (ninY W H false a5 m d5 xs5 L5.out hm hv _ (VArr.ext V5.out (X1.out.trans (X2.out.trans (X3.out.trans (X4.out.trans (X5.out.trans (X6.out.trans (X7.out.trans (X8.out.trans (X9.out.trans (X10.out.trans (X11.out.trans (X12.out.trans (X13.out.trans (X14.out.trans (X15.out.trans (X16.out.trans (X17.out.trans (X18.out)))))))))))))))))))).mono ?_
      rintro e w20 ⟨a22, d22, xs22, rfl, hX19, hV, hL, hF⟩
      have X19 := Lib.hid hX19
      have V22 := Lib.hid hV
      have L22 := Lib.hid hL
      have F22 := Lib.hid hF
      clear hX19 hV hL hF
      obtain ⟨⟨c6_0, c6_1, c6_2, c6_3⟩, _⟩ := block4 ((X4.out.trans (X5.out.trans (X6.out.trans (X7.out.trans (X8.out.trans (X9.out.trans (X10.out.trans (X11.out.trans (X12.out.trans (X13.out.trans (X14.out.trans (X15.out.trans (X16.out.trans (X17.out.trans (X18.out.trans (X19.out)))))))))))))))).block D6.out)
      have lb6 := lt_of_block ((X4.out.trans (X5.out.trans (X6.out.trans (X7.out.trans (X8.out.trans (X9.out.trans (X10.out.trans (X11.out.trans (X12.out.trans (X13.out.trans (X14.out.trans (X15.out.trans (X16.out.trans (X17.out.trans (X18.out.trans (X19.out)))))))))))))))).block D6.out)
      go_wp2_with fail
      clear c6_0 c6_1 c6_2 c6_3 lb6
      have D22a := heap_new w20 (.cells #[.int .i64 W, .int .i64 H, .bool false, .slice a22 m d22] 27)
      have X20a := (Ext.refl w20).alloc (.cells #[.int .i64 W, .int .i64 H, .bool false, .slice a22 m d22] 27)
      generalize hw20 : w20.alloc (.cells #[.int .i64 W, .int .i64 H, .bool false, .slice a22 m d22] 27) = w21 at *
      clear hw20
      have X20 := Lib.hid X20a
      have D22 := Lib.hid D22a
      clear X20a D22a
      refine (lapY W H false a6 m d6 xs6 L6.out hm hv _ (VArr.ext V6.out (X3.out.trans (X4.out.trans (X5.out.trans (X6.out.trans (X7.out.trans (X8.out.trans (X9.out.trans (X10.out.trans (X11.out.trans (X12.out.trans (X13.out.trans (X14.out.trans (X15.out.trans (X16.out.trans (X17.out.trans (X18.out.trans (X19.out.trans (X20.out)))))))))))))))))))).mono ?_
      rintro e w22 ⟨a24, d24, xs24, rfl, hX21, hV, hL, hF⟩
      have X21 := Lib.hid hX21
      have V24 := Lib.hid hV
      have L24 := Lib.hid hL
      rw [F6.out] at hF
      have F24 := Lib.hid hF
      clear hX21 hV hL hF
      obtain ⟨⟨c20_0, c20_1, c20_2, c20_3⟩, _⟩ := block4 ((X19.out.trans (X20.out.trans (X21.out))).block D20.out)
      have lb20 := lt_of_block ((X19.out.trans (X20.out.trans (X21.out))).block D20.out)
      go_wp2_with fail
      clear c20_0 c20_1 c20_2 c20_3 lb20
      have D24a := heap_new w22 (.cells #[.int .i64 W, .int .i64 H, .bool false, .slice a24 m d24] 27)
      have X22a := (Ext.refl w22).alloc (.cells #[.int .i64 W, .int .i64 H, .bool false, .slice a24 m d24] 27)
      generalize hw22 : w22.alloc (.cells #[.int .i64 W, .int .i64 H, .bool false, .slice a24 m d24] 27) = w23 at *
      clear hw22
      have X22 := Lib.hid X22a
      have D24 := Lib.hid D24a
      clear X22a D24a
      refine (mirY W H false a20 m d20 xs20 L20.out hm hv _ (VArr.ext V20.out (X18.out.trans (X19.out.trans (X20.out.trans (X21.out.trans (X22.out))))))).mono ?_
      rintro e w24 ⟨a26, d26, xs26, rfl, hX23, hV, hL, hF⟩
      have X23 := Lib.hid hX23
      have V26 := Lib.hid hV
      have L26 := Lib.hid hL
      rw [F20.out] at hF
      have F26 := Lib.hid hF
      clear hX23 hV hL hF
      obtain ⟨⟨c10_0, c10_1, c10_2, c10_3⟩, _⟩ := block4 ((X8.out.trans (X9.out.trans (X10.out.trans (X11.out.trans (X12.out.trans (X13.out.trans (X14.out.trans (X15.out.trans (X16.out.trans (X17.out.trans (X18.out.trans (X19.out.trans (X20.out.trans (X21.out.trans (X22.out.trans (X23.out)))))))))))))))).block D10.out)
      have lb10 := lt_of_block ((X8.out.trans (X9.out.trans (X10.out.trans (X11.out.trans (X12.out.trans (X13.out.trans (X14.out.trans (X15.out.trans (X16.out.trans (X17.out.trans (X18.out.trans (X19.out.trans (X20.out.trans (X21.out.trans (X22.out.trans (X23.out)))))))))))))))).block D10.out)
      go_wp2_with fail
      clear c10_0 c10_1 c10_2 c10_3 lb10
      have D26a := heap_new w24 (.cells #[.int .i64 W, .int .i64 H, .bool false, .slice a26 m d26] 27)
      have X24a := (Ext.refl w24).alloc (.cells #[.int .i64 W, .int .i64 H, .bool false, .slice a26 m d26] 27)
      generalize hw24 : w24.alloc (.cells #[.int .i64 W, .int .i64 H, .bool false, .slice a26 m d26] 27) = w25 at *
      clear hw24
      have X24 := Lib.hid X24a
      have D26 := Lib.hid D26a
      clear X24a D26a
      refine (lapY H W false a10 m d10 xs10 L10.out hm (vld_swap hv) _ (VArr.ext V10.out (X7.out.trans (X8.out.trans (X9.out.trans (X10.out.trans (X11.out.trans (X12.out.trans (X13.out.trans (X14.out.trans (X15.out.trans (X16.out.trans (X17.out.trans (X18.out.trans (X19.out.trans (X20.out.trans (X21.out.trans (X22.out.trans (X23.out.trans (X24.out)))))))))))))))))))).mono ?_
      rintro e w26 ⟨a28, d28, xs28, rfl, hX25, hV, hL, hF⟩
      have X25 := Lib.hid hX25
      have V28 := Lib.hid hV
      have L28 := Lib.hid hL
      rw [F10.out] at hF
      have F28 := Lib.hid hF
      clear hX25 hV hL hF
      obtain ⟨⟨c20_0, c20_1, c20_2, c20_3⟩, _⟩ := block4 ((X19.out.trans (X20.out.trans (X21.out.trans (X22.out.trans (X23.out.trans (X24.out.trans (X25.out))))))).block D20.out)
      have lb20 := lt_of_block ((X19.out.trans (X20.out.trans (X21.out.trans (X22.out.trans (X23.out.trans (X24.out.trans (X25.out))))))).block D20.out)
      go_wp2_with fail
      clear c20_0 c20_1 c20_2 c20_3 lb20
      have D28a := heap_new w26 (.cells #[.int .i64 H, .int .i64 W, .bool false, .slice a28 m d28] 27)
      have X26a := (Ext.refl w26).alloc (.cells #[.int .i64 H, .int .i64 W, .bool false, .slice a28 m d28] 27)
      generalize hw26 : w26.alloc (.cells #[.int .i64 H, .int .i64 W, .bool false, .slice a28 m d28] 27) = w27 at *
      clear hw26
      have X26 := Lib.hid X26a
      have D28 := Lib.hid D28a
      clear X26a D28a
      refine (swapY W H false a20 m d20 xs20 L20.out hm hv _ (VArr.ext V20.out (X18.out.trans (X19.out.trans (X20.out.trans (X21.out.trans (X22.out.trans (X23.out.trans (X24.out.trans (X25.out.trans (X26.out))))))))))).mono ?_
      rintro e w28 ⟨a30, d30, xs30, rfl, hX27, hV, hL, hF⟩
      have X27 := Lib.hid hX27
      have V30 := Lib.hid hV
      have L30 := Lib.hid hL
      rw [F20.out] at hF
      have F30 := Lib.hid hF
      clear hX27 hV hL hF
      obtain ⟨⟨c10_0, c10_1, c10_2, c10_3⟩, _⟩ := block4 ((X8.out.trans (X9.out.trans (X10.out.trans (X11.out.trans (X12.out.trans (X13.out.trans (X14.out.trans (X15.out.trans (X16.out.trans (X17.out.trans (X18.out.trans (X19.out.trans (X20.out.trans (X21.out.trans (X22.out.trans (X23.out.trans (X24.out.trans (X25.out.trans (X26.out.trans (X27.out)))))))))))))))))))).block D10.out)
      have lb10 := lt_of_block ((X8.out.trans (X9.out.trans (X10.out.trans (X11.out.trans (X12.out.trans (X13.out.trans (X14.out.trans (X15.out.trans (X16.out.trans (X17.out.trans (X18.out.trans (X19.out.trans (X20.out.trans (X21.out.trans (X22.out.trans (X23.out.trans (X24.out.trans (X25.out.trans (X26.out.trans (X27.out)))))))))))))))))))).block D10.out)
      go_wp2_with fail
      clear c10_0 c10_1 c10_2 c10_3 lb10
      have D30a := heap_new w28 (.cells #[.int .i64 H, .int .i64 W, .bool false, .slice a30 m d30] 27)
      have X28a := (Ext.refl w28).alloc (.cells #[.int .i64 H, .int .i64 W, .bool false, .slice a30 m d30] 27)
      generalize hw28 : w28.alloc (.cells #[.int .i64 H, .int .i64 W, .bool false, .slice a30 m d30] 27) = w29 at *
      clear hw28
      have X28 := Lib.hid X28a
      have D30 := Lib.hid D30a
      clear X28a D30a
      refine (ninY H W false a10 m d10 xs10 L10.out hm (vld_swap hv) _ (VArr.ext V10.out (X7.out.trans (X8.out.trans (X9.out.trans (X10.out.trans (X11.out.trans (X12.out.trans (X13.out.trans (X14.out.trans (X15.out.trans (X16.out.trans (X17.out.trans (X18.out.trans (X19.out.trans (X20.out.trans (X21.out.trans (X22.out.trans (X23.out.trans (X24.out.trans (X25.out.trans (X26.out.trans (X27.out.trans (X28.out)))))))))))))))))))))))).mono ?_
      rintro e w30 ⟨a32, d32, xs32, rfl, hX29, hV, hL, hF⟩
      have X29 := Lib.hid hX29
      have V32 := Lib.hid hV
      have L32 := Lib.hid hL
      rw [F10.out] at hF
      have F32 := Lib.hid hF
      clear hX29 hV hL hF
      obtain ⟨⟨c22_0, c22_1, c22_2, c22_3⟩, _⟩ := block4 ((X21.out.trans (X22.out.trans (X23.out.trans (X24.out.trans (X25.out.trans (X26.out.trans (X27.out.trans (X28.out.trans (X29.out))))))))).block D22.out)
      have lb22 := lt_of_block ((X21.out.trans (X22.out.trans (X23.out.trans (X24.out.trans (X25.out.trans (X26.out.trans (X27.out.trans (X28.out.trans (X29.out))))))))).block D22.out)
      go_wp2_with fail
      clear c22_0 c22_1 c22_2 c22_3 lb22
      have D32a := heap_new w30 (.cells #[.int .i64 H, .int .i64 W, .bool false, .slice a32 m d32] 27)
      have X30a := (Ext.refl w30).alloc (.cells #[.int .i64 H, .int .i64 W, .bool false, .slice a32 m d32] 27)
      generalize hw30 : w30.alloc (.cells #[.int .i64 H, .int .i64 W, .bool false, .slice a32 m d32] 27) = w31 at *
      clear hw30
      have X30 := Lib.hid X30a
      have D32 := Lib.hid D32a
      clear X30a D32a
      refine (swapY W H false a22 m d22 xs22 L22.out hm hv _ (VArr.ext V22.out (X20.out.trans (X21.out.trans (X22.out.trans (X23.out.trans (X24.out.trans (X25.out.trans (X26.out.trans (X27.out.trans (X28.out.trans (X29.out.trans (X30.out))))))))))))).mono ?_
      rintro e w32 ⟨a34, d34, xs34, rfl, hX31, hV, hL, hF⟩
      have X31 := Lib.hid hX31
      have V34 := Lib.hid hV
      have L34 := Lib.hid hL
      rw [F22.out] at hF
      have F34 := Lib.hid hF
      clear hX31 hV hL hF
      obtain ⟨⟨c16_0, c16_1, c16_2, c16_3⟩, _⟩ := block4 ((X12.out.trans (X13.out.trans (X14.out.trans (X15.out.trans (X16.out.trans (X17.out.trans (X18.out.trans (X19.out.trans (X20.out.trans (X21.out.trans (X22.out.trans (X23.out.trans (X24.out.trans (X25.out.trans (X26.out.trans (X27.out.trans (X28.out.trans (X29.out.trans (X30.out.trans (X31.out)))))))))))))))))))).block D16.out)
      have lb16 := lt_of_block ((X12.out.trans (X13.out.trans (X14.out.trans (X15.out.trans (X16.out.trans (X17.out.trans (X18.out.trans (X19.out.trans (X20.out.trans (X21.out.trans (X22.out.trans (X23.out.trans (X24.out.trans (X25.out.trans (X26.out.trans (X27.out.trans (X28.out.trans (X29.out.trans (X30.out.trans (X31.out)))))))))))))))))))).block D16.out)
      go_wp2_with fail
      clear c16_0 c16_1 c16_2 c16_3 lb16
      have D34a := heap_new w32 (.cells #[.int .i64 H, .int .i64 W, .bool false, .slice a34 m d34] 27)
      have X32a := (Ext.refl w32).alloc (.cells #[.int .i64 H, .int .i64 W, .bool false, .slice a34 m d34] 27)
      generalize hw32 : w32.alloc (.cells #[.int .i64 H, .int .i64 W, .bool false, .slice a34 m d34] 27) = w33 at *
      clear hw32
      have X32 := Lib.hid X32a
      have D34 := Lib.hid D34a
      clear X32a D34a
      refine (lapY W H false a16 m d16 xs16 L16.out hm hv _ (VArr.ext V16.out (X11.out.trans (X12.out.trans (X13.out.trans (X14.out.trans (X15.out.trans (X16.out.trans (X17.out.trans (X18.out.trans (X19.out.trans (X20.out.trans (X21.out.trans (X22.out.trans (X23.out.trans (X24.out.trans (X25.out.trans (X26.out.trans (X27.out.trans (X28.out.trans (X29.out.trans (X30.out.trans (X31.out.trans (X32.out)))))))))))))))))))))))).mono ?_
      rintro e w34 ⟨a36, d36, xs36, rfl, hX33, hV, hL, hF⟩
      have X33 := Lib.hid hX33
      have V36 := Lib.hid hV
      have L36 := Lib.hid hL
      rw [F16.out] at hF
      have F36 := Lib.hid hF
      clear hX33 hV hL hF
      obtain ⟨⟨c20_0, c20_1, c20_2, c20_3⟩, _⟩ := block4 ((X19.out.trans (X20.out.trans (X21.out.trans (X22.out.trans (X23.out.trans (X24.out.trans (X25.out.trans (X26.out.trans (X27.out.trans (X28.out.trans (X29.out.trans (X30.out.trans (X31.out.trans (X32.out.trans (X33.out))))))))))))))).block D20.out)
      have lb20 := lt_of_block ((X19.out.trans (X20.out.trans (X21.out.trans (X22.out.trans (X23.out.trans (X24.out.trans (X25.out.trans (X26.out.trans (X27.out.trans (X28.out.trans (X29.out.trans (X30.out.trans (X31.out.trans (X32.out.trans (X33.out))))))))))))))).block D20.out)
      go_wp2_with fail
      clear c20_0 c20_1 c20_2 c20_3 lb20
      have D36a := heap_new w34 (.cells #[.int .i64 W, .int .i64 H, .bool false, .slice a36 m d36] 27)
      have X34a := (Ext.refl w34).alloc (.cells #[.int .i64 W, .int .i64 H, .bool false, .slice a36 m d36] 27)
      generalize hw34 : w34.alloc (.cells #[.int .i64 W, .int .i64 H, .bool false, .slice a36 m d36] 27) = w35 at *
      clear hw34
      have X34 := Lib.hid X34a
      have D36 := Lib.hid D36a
      clear X34a D36a
      refine (rolY W H false a20 m d20 xs20 L20.out hm hv _ (VArr.ext V20.out (X18.out.trans (X19.out.trans (X20.out.trans (X21.out.trans (X22.out.trans (X23.out.trans (X24.out.trans (X25.out.trans (X26.out.trans (X27.out.trans (X28.out.trans (X29.out.trans (X30.out.trans (X31.out.trans (X32.out.trans (X33.out.trans (X34.out)))))))))))))))))) x y (by omega) (by omega)).mono ?_
      rintro e w36 ⟨a38, d38, xs38, rfl, hX35, hV, hL, hF⟩
      have X35 := Lib.hid hX35
      have V38 := Lib.hid hV
      have L38 := Lib.hid hL
      rw [F20.out] at hF
      have F38 := Lib.hid hF
      clear hX35 hV hL hF
      have WF24 := Lib.hid (allOk.wf ((hQ.mir h1 h3).okLap h1 h3) F24.out (by rw [L24.out]; exact hv))
      have WF26 := Lib.hid (allOk.wf ((hQ.okLap h1 h3).mir h1 h3) F26.out (by rw [L26.out]; exact hv))
      have WF28 := Lib.hid (allOk.wf ((hQ.swap h1 h3).okLap h3 h1) F28.out (by rw [L28.out]; exact (vld_swap hv)))
      have WF30 := Lib.hid (allOk.wf ((hQ.okLap h1 h3).swap h1 h3) F30.out (by rw [L30.out]; exact (vld_swap hv)))
      have WF32 := Lib.hid (allOk.wf ((hQ.swap h1 h3).okNin h3 h1) F32.out (by rw [L32.out]; exact (vld_swap hv)))
      have WF34 := Lib.hid (allOk.wf ((hQ.okNin h1 h3).swap h1 h3) F34.out (by rw [L34.out]; exact (vld_swap hv)))
      obtain ⟨⟨c5_0, c5_1, c5_2, c5_3⟩, _⟩ := block4 ((X2.out.trans (X3.out.trans (X4.out.trans (X5.out.trans (X6.out.trans (X7.out.trans (X8.out.trans (X9.out.trans (X10.out.trans (X11.out.trans (X12.out.trans (X13.out.trans (X14.out.trans (X15.out.trans (X16.out.trans (X17.out.trans (X18.out.trans (X19.out.trans (X20.out.trans (X21.out.trans (X22.out.trans (X23.out.trans (X24.out.trans (X25.out.trans (X26.out.trans (X27.out.trans (X28.out.trans (X29.out.trans (X30.out.trans (X31.out.trans (X32.out.trans (X33.out.trans (X34.out.trans (X35.out)))))))))))))))))))))))))))))))))).block D5.out)
      have lb5 := lt_of_block ((X2.out.trans (X3.out.trans (X4.out.trans (X5.out.trans (X6.out.trans (X7.out.trans (X8.out.trans (X9.out.trans (X10.out.trans (X11.out.trans (X12.out.trans (X13.out.trans (X14.out.trans (X15.out.trans (X16.out.trans (X17.out.trans (X18.out.trans (X19.out.trans (X20.out.trans (X21.out.trans (X22.out.trans (X23.out.trans (X24.out.trans (X25.out.trans (X26.out.trans (X27.out.trans (X28.out.trans (X29.out.trans (X30.out.trans (X31.out.trans (X32.out.trans (X33.out.trans (X34.out.trans (X35.out)))))))))))))))))))))))))))))))))).block D5.out)
      go_wp2_with fail
      clear c5_0 c5_1 c5_2 c5_3 lb5
      have D38a := heap_new w36 (.cells #[.int .i64 W, .int .i64 H, .bool false, .slice a38 m d38] 27)
      have X36a := (Ext.refl w36).alloc (.cells #[.int .i64 W, .int .i64 H, .bool false, .slice a38 m d38] 27)
      generalize hw36 : w36.alloc (.cells #[.int .i64 W, .int .i64 H, .bool false, .slice a38 m d38] 27) = w37 at *
      clear hw36
      have X36 := Lib.hid X36a
      have D38 := Lib.hid D38a
      clear X36a D38a
      refine (valY W H false a5 m d5 xs5 L5.out hm hv _ (VArr.ext V5.out (X1.out.trans (X2.out.trans (X3.out.trans (X4.out.trans (X5.out.trans (X6.out.trans (X7.out.trans (X8.out.trans (X9.out.trans (X10.out.trans (X11.out.trans (X12.out.trans (X13.out.trans (X14.out.trans (X15.out.trans (X16.out.trans (X17.out.trans (X18.out.trans (X19.out.trans (X20.out.trans (X21.out.trans (X22.out.trans (X23.out.trans (X24.out.trans (X25.out.trans (X26.out.trans (X27.out.trans (X28.out.trans (X29.out.trans (X30.out.trans (X31.out.trans (X32.out.trans (X33.out.trans (X34.out.trans (X35.out.trans (X36.out))))))))))))))))))))))))))))))))))))) x y (by omega) (by omega) (q x y) (hQ x y).1).mono ?_
      rintro e w38 ⟨rfl, hX37⟩
      have X37 := Lib.hid hX37
      clear hX37
      obtain ⟨⟨c16_0, c16_1, c16_2, c16_3⟩, _⟩ := block4 ((X12.out.trans (X13.out.trans (X14.out.trans (X15.out.trans (X16.out.trans (X17.out.trans (X18.out.trans (X19.out.trans (X20.out.trans (X21.out.trans (X22.out.trans (X23.out.trans (X24.out.trans (X25.out.trans (X26.out.trans (X27.out.trans (X28.out.trans (X29.out.trans (X30.out.trans (X31.out.trans (X32.out.trans (X33.out.trans (X34.out.trans (X35.out.trans (X36.out.trans (X37.out)))))))))))))))))))))))))).block D16.out)
      have lb16 := lt_of_block ((X12.out.trans (X13.out.trans (X14.out.trans (X15.out.trans (X16.out.trans (X17.out.trans (X18.out.trans (X19.out.trans (X20.out.trans (X21.out.trans (X22.out.trans (X23.out.trans (X24.out.trans (X25.out.trans (X26.out.trans (X27.out.trans (X28.out.trans (X29.out.trans (X30.out.trans (X31.out.trans (X32.out.trans (X33.out.trans (X34.out.trans (X35.out.trans (X36.out.trans (X37.out)))))))))))))))))))))))))).block D16.out)
      go_wp2_with fail
      clear c16_0 c16_1 c16_2 c16_3 lb16
      refine (valY W H false a16 m d16 xs16 L16.out hm hv _ (VArr.ext V16.out (X11.out.trans (X12.out.trans (X13.out.trans (X14.out.trans (X15.out.trans (X16.out.trans (X17.out.trans (X18.out.trans (X19.out.trans (X20.out.trans (X21.out.trans (X22.out.trans (X23.out.trans (X24.out.trans (X25.out.trans (X26.out.trans (X27.out.trans (X28.out.trans (X29.out.trans (X30.out.trans (X31.out.trans (X32.out.trans (X33.out.trans (X34.out.trans (X35.out.trans (X36.out.trans (X37.out)))))))))))))))))))))))))))) 0 0 (by omega) (by omega) (q (-x) (-y)) (by rw [F16.out, about_roll0 h1 h3]; exact (hQ (-x) (-y)).1)).mono ?_
      rintro e w39 ⟨rfl, hX38⟩
      have X38 := Lib.hid hX38
      clear hX38
      obtain ⟨⟨c5_0, c5_1, c5_2, c5_3⟩, _⟩ := block4 ((X2.out.trans (X3.out.trans (X4.out.trans (X5.out.trans (X6.out.trans (X7.out.trans (X8.out.trans (X9.out.trans (X10.out.trans (X11.out.trans (X12.out.trans (X13.out.trans (X14.out.trans (X15.out.trans (X16.out.trans (X17.out.trans (X18.out.trans (X19.out.trans (X20.out.trans (X21.out.trans (X22.out.trans (X23.out.trans (X24.out.trans (X25.out.trans (X26.out.trans (X27.out.trans (X28.out.trans (X29.out.trans (X30.out.trans (X31.out.trans (X32.out.trans (X33.out.trans (X34.out.trans (X35.out.trans (X36.out.trans (X37.out.trans (X38.out))))))))))))))))))))))))))))))))))))).block D5.out)
      have lb5 := lt_of_block ((X2.out.trans (X3.out.trans (X4.out.trans (X5.out.trans (X6.out.trans (X7.out.trans (X8.out.trans (X9.out.trans (X10.out.trans (X11.out.trans (X12.out.trans (X13.out.trans (X14.out.trans (X15.out.trans (X16.out.trans (X17.out.trans (X18.out.trans (X19.out.trans (X20.out.trans (X21.out.trans (X22.out.trans (X23.out.trans (X24.out.trans (X25.out.trans (X26.out.trans (X27.out.trans (X28.out.trans (X29.out.trans (X30.out.trans (X31.out.trans (X32.out.trans (X33.out.trans (X34.out.trans (X35.out.trans (X36.out.trans (X37.out.trans (X38.out))))))))))))))))))))))))))))))))))))).block D5.out)
      go_wp2_with fail
      clear c5_0 c5_1 c5_2 c5_3 lb5
      refine (valY W H false a5 m d5 xs5 L5.out hm hv _ (VArr.ext V5.out (X1.out.trans (X2.out.trans (X3.out.trans (X4.out.trans (X5.out.trans (X6.out.trans (X7.out.trans (X8.out.trans (X9.out.trans (X10.out.trans (X11.out.trans (X12.out.trans (X13.out.trans (X14.out.trans (X15.out.trans (X16.out.trans (X17.out.trans (X18.out.trans (X19.out.trans (X20.out.trans (X21.out.trans (X22.out.trans (X23.out.trans (X24.out.trans (X25.out.trans (X26.out.trans (X27.out.trans (X28.out.trans (X29.out.trans (X30.out.trans (X31.out.trans (X32.out.trans (X33.out.trans (X34.out.trans (X35.out.trans (X36.out.trans (X37.out.trans (X38.out))))))))))))))))))))))))))))))))))))))) (-x) (-y) (by omega) (by omega) (q (-x) (-y)) (hQ (-x) (-y)).1).mono ?_
      rintro e w40 ⟨rfl, hX39⟩
      have X39 := Lib.hid hX39
      clear hX39
      obtain ⟨fs1, fs2⟩ := q_self (hQ x y).2
      have fo1 := q_order (hQ (-x) (-y)).2
      have fo0 : FloatKind.f32.format.order 0 0 = some .eq := by decide
      have fd : ∀ u : World, u.drewN 0 = u := fun _ => rfl
      generalize qb (q x y) = va at *
      generalize qb (q (-x) (-y)) = vb at *
      obtain ⟨⟨c24_0, c24_1, c24_2, c24_3⟩, _⟩ := block4 ((X23.out.trans (X24.out.trans (X25.out.trans (X26.out.trans (X27.out.trans (X28.out.trans (X29.out.trans (X30.out.trans (X31.out.trans (X32.out.trans (X33.out.trans (X34.out.trans (X35.out.trans (X36.out.trans (X37.out.trans (X38.out.trans (X39.out))))))))))))))))).block D24.out)
      have lb24 := lt_of_block ((X23.out.trans (X24.out.trans (X25.out.trans (X26.out.trans (X27.out.trans (X28.out.trans (X29.out.trans (X30.out.trans (X31.out.trans (X32.out.trans (X33.out.trans (X34.out.trans (X35.out.trans (X36.out.trans (X37.out.trans (X38.out.trans (X39.out))))))))))))))))).block D24.out)
      obtain ⟨⟨c26_0, c26_1, c26_2, c26_3⟩, _⟩ := block4 ((X25.out.trans (X26.out.trans (X27.out.trans (X28.out.trans (X29.out.trans (X30.out.trans (X31.out.trans (X32.out.trans (X33.out.trans (X34.out.trans (X35.out.trans (X36.out.trans (X37.out.trans (X38.out.trans (X39.out))))))))))))))).block D26.out)
      have lb26 := lt_of_block ((X25.out.trans (X26.out.trans (X27.out.trans (X28.out.trans (X29.out.trans (X30.out.trans (X31.out.trans (X32.out.trans (X33.out.trans (X34.out.trans (X35.out.trans (X36.out.trans (X37.out.trans (X38.out.trans (X39.out))))))))))))))).block D26.out)
      go_wp2_with fail
      clear c24_0 c24_1 c24_2 c24_3 lb24 c26_0 c26_1 c26_2 c26_3 lb26
      refine (samY W H false a24 m d24 xs24 L24.out hm _ (VArr.ext V24.out (X22.out.trans (X23.out.trans (X24.out.trans (X25.out.trans (X26.out.trans (X27.out.trans (X28.out.trans (X29.out.trans (X30.out.trans (X31.out.trans (X32.out.trans (X33.out.trans (X34.out.trans (X35.out.trans (X36.out.trans (X37.out.trans (X38.out.trans (X39.out))))))))))))))))))) a26 d26 xs26 L26.out WF24.out WF26.out (by rw [F24.out, F26.out]; exact lap_mir h1 h3 hQ) (VArr.ext V26.out (X24.out.trans (X25.out.trans (X26.out.trans (X27.out.trans (X28.out.trans (X29.out.trans (X30.out.trans (X31.out.trans (X32.out.trans (X33.out.trans (X34.out.trans (X35.out.trans (X36.out.trans (X37.out.trans (X38.out.trans (X39.out)))))))))))))))))).mono ?_
      rintro e w41 ⟨rfl, hX40⟩
      have X40 := Lib.hid hX40
      clear hX40
      obtain ⟨⟨c28_0, c28_1, c28_2, c28_3⟩, _⟩ := block4 ((X27.out.trans (X28.out.trans (X29.out.trans (X30.out.trans (X31.out.trans (X32.out.trans (X33.out.trans (X34.out.trans (X35.out.trans (X36.out.trans (X37.out.trans (X38.out.trans (X39.out.trans (X40.out)))))))))))))).block D28.out)
      have lb28 := lt_of_block ((X27.out.trans (X28.out.trans (X29.out.trans (X30.out.trans (X31.out.trans (X32.out.trans (X33.out.trans (X34.out.trans (X35.out.trans (X36.out.trans (X37.out.trans (X38.out.trans (X39.out.trans (X40.out)))))))))))))).block D28.out)
      obtain ⟨⟨c30_0, c30_1, c30_2, c30_3⟩, _⟩ := block4 ((X29.out.trans (X30.out.trans (X31.out.trans (X32.out.trans (X33.out.trans (X34.out.trans (X35.out.trans (X36.out.trans (X37.out.trans (X38.out.trans (X39.out.trans (X40.out)))))))))))).block D30.out)
      have lb30 := lt_of_block ((X29.out.trans (X30.out.trans (X31.out.trans (X32.out.trans (X33.out.trans (X34.out.trans (X35.out.trans (X36.out.trans (X37.out.trans (X38.out.trans (X39.out.trans (X40.out)))))))))))).block D30.out)
      go_wp2_with fail
      clear c28_0 c28_1 c28_2 c28_3 lb28 c30_0 c30_1 c30_2 c30_3 lb30
      refine (samY H W false a28 m d28 xs28 L28.out hm _ (VArr.ext V28.out (X26.out.trans (X27.out.trans (X28.out.trans (X29.out.trans (X30.out.trans (X31.out.trans (X32.out.trans (X33.out.trans (X34.out.trans (X35.out.trans (X36.out.trans (X37.out.trans (X38.out.trans (X39.out.trans (X40.out)))))))))))))))) a30 d30 xs30 L30.out WF28.out WF30.out (by rw [F28.out, F30.out]; exact lap_swap h1 h3 hQ) (VArr.ext V30.out (X28.out.trans (X29.out.trans (X30.out.trans (X31.out.trans (X32.out.trans (X33.out.trans (X34.out.trans (X35.out.trans (X36.out.trans (X37.out.trans (X38.out.trans (X39.out.trans (X40.out))))))))))))))).mono ?_
      rintro e w42 ⟨rfl, hX41⟩
      have X41 := Lib.hid hX41
      clear hX41
      obtain ⟨⟨c32_0, c32_1, c32_2, c32_3⟩, _⟩ := block4 ((X31.out.trans (X32.out.trans (X33.out.trans (X34.out.trans (X35.out.trans (X36.out.trans (X37.out.trans (X38.out.trans (X39.out.trans (X40.out.trans (X41.out))))))))))).block D32.out)
      have lb32 := lt_of_block ((X31.out.trans (X32.out.trans (X33.out.trans (X34.out.trans (X35.out.trans (X36.out.trans (X37.out.trans (X38.out.trans (X39.out.trans (X40.out.trans (X41.out))))))))))).block D32.out)
      obtain ⟨⟨c34_0, c34_1, c34_2, c34_3⟩, _⟩ := block4 ((X33.out.trans (X34.out.trans (X35.out.trans (X36.out.trans (X37.out.trans (X38.out.trans (X39.out.trans (X40.out.trans (X41.out))))))))).block D34.out)
      have lb34 := lt_of_block ((X33.out.trans (X34.out.trans (X35.out.trans (X36.out.trans (X37.out.trans (X38.out.trans (X39.out.trans (X40.out.trans (X41.out))))))))).block D34.out)
      go_wp2_with fail
      clear c32_0 c32_1 c32_2 c32_3 lb32 c34_0 c34_1 c34_2 c34_3 lb34
      refine (samY H W false a32 m d32 xs32 L32.out hm _ (VArr.ext V32.out (X30.out.trans (X31.out.trans (X32.out.trans (X33.out.trans (X34.out.trans (X35.out.trans (X36.out.trans (X37.out.trans (X38.out.trans (X39.out.trans (X40.out.trans (X41.out))))))))))))) a34 d34 xs34 L34.out WF32.out WF34.out (by rw [F32.out, F34.out]; exact nin_swap h1 h3 hQ) (VArr.ext V34.out (X32.out.trans (X33.out.trans (X34.out.trans (X35.out.trans (X36.out.trans (X37.out.trans (X38.out.trans (X39.out.trans (X40.out.trans (X41.out)))))))))))).mono ?_
      rintro e w43 ⟨rfl, hX42⟩
      have X42 := Lib.hid hX42
      clear hX42
      obtain ⟨⟨c5_0, c5_1, c5_2, c5_3⟩, _⟩ := block4 ((X2.out.trans (X3.out.trans (X4.out.trans (X5.out.trans (X6.out.trans (X7.out.trans (X8.out.trans (X9.out.trans (X10.out.trans (X11.out.trans (X12.out.trans (X13.out.trans (X14.out.trans (X15.out.trans (X16.out.trans (X17.out.trans (X18.out.trans (X19.out.trans (X20.out.trans (X21.out.trans (X22.out.trans (X23.out.trans (X24.out.trans (X25.out.trans (X26.out.trans (X27.out.trans (X28.out.trans (X29.out.trans (X30.out.trans (X31.out.trans (X32.out.trans (X33.out.trans (X34.out.trans (X35.out.trans (X36.out.trans (X37.out.trans (X38.out.trans (X39.out.trans (X40.out.trans (X41.out.trans (X42.out))))))))))))))))))))))))))))))))))))))))).block D5.out)
      go_wp2
      go_ret
      exact ⟨rfl, EW.out.trans (X1.out.trans (X2.out.trans (X3.out.trans (X4.out.trans (X5.out.trans (X6.out.trans (X7.out.trans (X8.out.trans (X9.out.trans (X10.out.trans (X11.out.trans (X12.out.trans (X13.out.trans (X14.out.trans (X15.out.trans (X16.out.trans (X17.out.trans (X18.out.trans (X19.out.trans (X20.out.trans (X21.out.trans (X22.out.trans (X23.out.trans (X24.out.trans (X25.out.trans (X26.out.trans (X27.out.trans (X28.out.trans (X29.out.trans (X30.out.trans (X31.out.trans (X32.out.trans (X33.out.trans (X34.out.trans (X35.out.trans (X36.out.trans (X37.out.trans (X38.out.trans (X39.out.trans (X40.out.trans (X41.out.trans (X42.out))))))))))))))))))))))))))))))))))))))))))⟩
end Go.Proofs.Ytllpbkmdcaikoaa
