/-
  The walk of the statement on NewMelt. (Printed by gen_newmelt3.py.)
-/
import Derived.Test.YtajfpjggdbifjaaNmC
import Derived.Test.YtajfpjggdbifjaaLate
namespace Go.Proofs.Ytajfpjggdbifjaa
open Go.RowKit
set_option linter.unusedVariables false
set_option linter.unusedSimpArgs false
set_option linter.unnecessarySimpa false

set_option maxRecDepth 100000 in
set_option maxHeartbeats 4000000 in
theorem markMelt_box (W H : Int) (R : Bool) (a : Option Addr) (n c : Nat) (W' H' : Int) (R' : Bool) (a' : Option Addr) (n' c' : Nat) (f1 f2 f3 f4 f5 : Nat) (k : Int) (wb w : World) (base : Nat) (zs zs' : List Nat) (hb : wb.heap.size ≤ base) (E : Ext wb w) (hn : n ≤ 1048576) (hn' : n' ≤ 1048576) (hO : w.ownsRow base 28 1 (.slice a n c) n (flts zs)) (hO' : w.ownsRow base 28 1 (.slice a' n' c') n' (flts zs')) (hap : ∀ g, (Value.slice a n c).ownBlock = some g → (Value.slice a' n' c').ownBlock ≠ some g) :
    Calls Try.prog 52 #[.agg #[.int .i64 W, .int .i64 H, .bool R, .slice a n c, .int .i64 W', .int .i64 H', .bool R', .slice a' n' c', .float .f32 f1, .float .f32 f2, .float .f32 f3, .float .f32 f4, .float .f32 f5, .int .i64 k], .int .i64 1] w fun e w' => e = .returned (.int .i64 (1 + n + n')) ∧ (∀ (q : Nat) (ca : Array Value) (T : TypeId) (fr : Nat × Nat), T ≠ 28 → w.heap[q]? = some (.cells ca T fr) → w'.heap[q]? = some (.cells ca T fr)) ∧ Ext wb w' ∧ VArr w' a (flts (markF 1 n)) ∧ VArr w' a' (flts (markF (1 + n) n')) := by
  have hX := (Ext.refl w).alloc (.cells #[.int .i64 W, .int .i64 H, .bool R, .slice a n c, .int .i64 W', .int .i64 H', .bool R', .slice a' n' c', .float .f32 f1, .float .f32 f2, .float .f32 f3, .float .f32 f4, .float .f32 f5, .int .i64 k] 62)
  have b0 := heap_new w (.cells #[.int .i64 W, .int .i64 H, .bool R, .slice a n c, .int .i64 W', .int .i64 H', .bool R', .slice a' n' c', .float .f32 f1, .float .f32 f2, .float .f32 f3, .float .f32 f4, .float .f32 f5, .int .i64 k] 62)
  go_enter Try.func52, Try.ntmps52
  obtain ⟨⟨c0, c1, c2, c3, c4, c5, c6, c7, c8, c9, c10, c11, c12, c13⟩, _⟩ := block14 (b0)
  go_wp2_with fail
  clear c0 c1 c2 c3 c4 c5 c6 c7 c8 c9 c10 c11 c12 c13
  generalize w.alloc (.cells #[.int .i64 W, .int .i64 H, .bool R, .slice a n c, .int .i64 W', .int .i64 H', .bool R', .slice a' n' c', .float .f32 f1, .float .f32 f2, .float .f32 f3, .float .f32 f4, .float .f32 f5, .int .i64 k] 62) = w0 at *
  have O1 := ownsRow_ext hO hX
  have P1 := ownsRow_ext hO' hX
  refine (markField_any W H R a n c _ zs 1 (by omega) (by omega) hn _ O1).mono ?_
  rintro e w2 ⟨rfl, hG, hM⟩
  have b2 := block_keep (by decide) O1 hG b0
  have P2 := row_keepA P1 (apart_symm hap) hG
  have E2 : Ext wb w2 := Ext.rowv (E.trans hX) O1 hb hG
  have HB2 := Lib.hid b2
  have HP2 := Lib.hid P2
  have HE2 := Lib.hid E2
  have HM := Lib.hid hM
  have HG := Lib.hid hG
  have HX := Lib.hid hX
  have HO1 := Lib.hid O1
  clear hX b0 O1 P1 hO hO' hG hM b2 P2 E2 E
  obtain ⟨⟨c0, c1, c2, c3, c4, c5, c6, c7, c8, c9, c10, c11, c12, c13⟩, _⟩ := block14 (HB2.out)
  go_wp2_with fail
  clear c0 c1 c2 c3 c4 c5 c6 c7 c8 c9 c10 c11 c12 c13
  refine (markField_any W' H' R' a' n' c' _ zs' (1 + n) (by omega) (by omega) hn' _ HP2.out).mono ?_
  rintro e w4 ⟨rfl, hG4, hM4⟩
  have M4 := Lib.hid (row_keepA HM.out hap hG4)
  have E4 := Lib.hid (Ext.rowv HE2.out HP2.out hb hG4)
  have HM4 := Lib.hid hM4
  have HG4 := Lib.hid hG4
  clear hG4 hM4
  go_wp2
  refine bodyPost_ret (v := .int .i64 (1 + n + n')) ?_ rfl ⟨rfl, fun q ca T fr hT h => block_keep hT HP2.out HG4.out (block_keep hT HO1.out HG.out (HX.out.block h)), E4.out, ownsRow_varr M4.out, ownsRow_varr HM4.out⟩
  simp only [results, Try.results52]
  go_simp

set_option maxRecDepth 100000 in
set_option maxHeartbeats 8000000 in
theorem walk_FnExactNewMelt (a0 : Int) (w0 : (Lit.int .i64 a0).wf = true) (a1 : Int) (w1 : (Lit.int .i64 a1).wf = true) (a2 : Bool) (a3 : Nat) (w3 : (Lit.float .f32 a3).wf = true) (w : World) :
    Calls Try.prog 10 #[.int .i64 a0, .int .i64 a1, .bool a2, .float .f32 a3] w fun e w' => e = .returned (.bool true) ∧ Ext w w' := by
  clear w0 w1 w3
  have hS := specNew_any a0 a1 a2 a3
  have hI := implNew_any a0 a1 a2 a3
  unfold keepM at hS hI
  generalize newOk a0 a1 a3 = ok at *
  generalize kI ok a0 = W at *
  generalize kI ok a1 = H at *
  generalize kB ok a2 = R at *
  generalize kL ok (flatF a0 a1 0) = FS at *
  generalize kL ok (flatF a0 a1 a3) = GS at *
  generalize kN ok 1048576000 = f1 at *
  generalize kN ok 1056964608 = f2 at *
  generalize kN ok 1065353216 = f4 at *
  generalize kI ok 4 = kk at *
  have HS := Lib.hid hS
  have HI := Lib.hid hI
  clear hS hI
  go_enter Try.func10, Try.ntmps10
  go_wp2_with fail
  refine (HS.out _).mono ?_
  rintro e w1 ⟨sa, sn, sc, sx, sb, sm, sd, sy, rfl, hX1, sO, sl, sle, sf, sP, sl2, sle2, sf2, sap⟩
  clear sap
  have VX := Lib.hid (ownsRow_varr sO)
  have VY := Lib.hid (ownsRow_varr sP)
  have E1 := Lib.hid hX1
  clear hX1 sO sP
  go_wp2_with fail
  have D1a := heap_new w1 (.cells #[.int .i64 W, .int .i64 H, .bool R, .slice sa sn sc, .int .i64 W, .int .i64 H, .bool R, .slice sb sm sd, .float .f32 f1, .float .f32 f2, .float .f32 f2, .float .f32 f4, .float .f32 0, .int .i64 kk] 62)
  have X1a := (Ext.refl w1).alloc (.cells #[.int .i64 W, .int .i64 H, .bool R, .slice sa sn sc, .int .i64 W, .int .i64 H, .bool R, .slice sb sm sd, .float .f32 f1, .float .f32 f2, .float .f32 f2, .float .f32 f4, .float .f32 0, .int .i64 kk] 62)
  generalize w1.alloc (.cells #[.int .i64 W, .int .i64 H, .bool R, .slice sa sn sc, .int .i64 W, .int .i64 H, .bool R, .slice sb sm sd, .float .f32 f1, .float .f32 f2, .float .f32 f2, .float .f32 f4, .float .f32 0, .int .i64 kk] 62) = w2 at *
  generalize w1.heap.size = q1 at *
  have D1 := Lib.hid D1a
  have E2 := Lib.hid (E1.out.trans X1a)
  have UX := Lib.hid (VX.out.ext X1a)
  have UY := Lib.hid (VY.out.ext X1a)
  clear D1a X1a VX VY E1
  refine (HI.out _).mono ?_
  rintro e w3 ⟨ga, gn, gc, gx, gb, gm, gd, gy, rfl, hX3a, gO, gl, gle, gf, gP, gl2, gle2, gf2, gap⟩
  have hX3 := Lib.hid hX3a
  have GO := Lib.hid gO
  have GP := Lib.hid gP
  clear hX3a gO gP
  obtain ⟨⟨c0, c1, c2, c3, c4, c5, c6, c7, c8, c9, c10, c11, c12, c13⟩, _⟩ := block14 (hX3.out.block D1.out)
  have lc := lt_of_block (hX3.out.block D1.out)
  go_wp2_with fail
  clear c0 c1 c2 c3 c4 c5 c6 c7 c8 c9 c10 c11 c12 c13 lc
  have D2a := heap_new w3 (.cells #[.int .i64 W, .int .i64 H, .bool R, .slice ga gn gc, .int .i64 W, .int .i64 H, .bool R, .slice gb gm gd, .float .f32 f1, .float .f32 f2, .float .f32 f2, .float .f32 f4, .float .f32 0, .int .i64 kk] 62)
  have X3b := (Ext.refl w3).alloc (.cells #[.int .i64 W, .int .i64 H, .bool R, .slice ga gn gc, .int .i64 W, .int .i64 H, .bool R, .slice gb gm gd, .float .f32 f1, .float .f32 f2, .float .f32 f2, .float .f32 f4, .float .f32 0, .int .i64 kk] 62)
  generalize w3.alloc (.cells #[.int .i64 W, .int .i64 H, .bool R, .slice ga gn gc, .int .i64 W, .int .i64 H, .bool R, .slice gb gm gd, .float .f32 f1, .float .f32 f2, .float .f32 f2, .float .f32 f4, .float .f32 0, .int .i64 kk] 62) = w4 at *
  generalize w3.heap.size = q2 at *
  have D2 := Lib.hid D2a
  have Y4 := Lib.hid (hX3.out.trans X3b)
  have GO4 := Lib.hid (ownsRow_ext GO.out X3b)
  have GP4 := Lib.hid (ownsRow_ext GP.out X3b)
  clear D2a X3b hX3 GO GP
  refine (eqMelt_any W H R W H R kk ga gn gc gb gm gd f1 f2 f2 f4 0 sa sn sc sb sm sd f1 f2 f2 f4 0 gx gy sx sy gl gl2 sl sl2 gle gle2 sle sle2 (gf.trans sf.symm) (gf2.trans sf2.symm) rfl rfl rfl rfl rfl _ (ownsRow_varr GO4.out) (ownsRow_varr GP4.out) (UX.out.ext Y4.out) (UY.out.ext Y4.out)).mono ?_
  rintro e w5 ⟨rfl, hX5⟩
  have Y5 := Lib.hid (Y4.out.trans hX5)
  have D2' := Lib.hid (hX5.block D2.out)
  have GO5 := Lib.hid (ownsRow_ext GO4.out hX5)
  have GP5 := Lib.hid (ownsRow_ext GP4.out hX5)
  clear hX5 Y4 D2 GO4 GP4
  obtain ⟨⟨d0, d1, d2, d3, d4, d5, d6, d7, d8, d9, d10, d11, d12, d13⟩, _⟩ := block14 (D2'.out)
  have ld := lt_of_block (D2'.out)
  go_wp2_with fail
  clear d0 d1 d2 d3 d4 d5 d6 d7 d8 d9 d10 d11 d12 d13 ld
  refine (markMelt_box W H R ga gn gc W H R gb gm gd f1 f2 f2 f4 0 kk w2 w5 _ gx gy (Nat.le_refl _) Y5.out gle gle2 GO5.out GP5.out gap).mono ?_
  rintro e w6 ⟨rfl, hB6, hE6, hA6, hA6'⟩
  have Y6 := Lib.hid hE6
  have D6 := Lib.hid (hB6 _ _ _ _ (by decide) D2'.out)
  have M6 := Lib.hid hA6
  have N6 := Lib.hid hA6'
  clear hB6 hE6 hA6 hA6' Y5 GO5 GP5 D2'
  obtain ⟨⟨d0, d1, d2, d3, d4, d5, d6, d7, d8, d9, d10, d11, d12, d13⟩, _⟩ := block14 (D6.out)
  have ld := lt_of_block (D6.out)
  go_wp2_with fail
  clear d0 d1 d2 d3 d4 d5 d6 d7 d8 d9 d10 d11 d12 d13 ld
  refine (heldMelt_any W H R ga gn gc W H R gb gm gd f1 f2 f2 f4 0 kk _ gle gle2 M6.out N6.out).mono ?_
  rintro e w7 ⟨rfl, hX7⟩
  have Y7 := Lib.hid (Y6.out.trans hX7)
  have D7 := Lib.hid (hX7.block D6.out)
  have M7 := Lib.hid (M6.out.ext hX7)
  have N7 := Lib.hid (N6.out.ext hX7)
  clear hX7 Y6 D6 M6 N6
  go_wp2_with fail
  refine (HI.out _).mono ?_
  rintro e w8 ⟨ha, hn, hc, hx, hb, hm, hd, hy, rfl, hX8, hO, hl, hle, hf, hP, hl2, hle2, hf2, hap⟩
  clear hap
  have Z8 := Lib.hid hX8
  have HVX := Lib.hid (ownsRow_varr hO)
  have HVY := Lib.hid (ownsRow_varr hP)
  clear hX8 hO hP
  obtain ⟨⟨c0, c1, c2, c3, c4, c5, c6, c7, c8, c9, c10, c11, c12, c13⟩, _⟩ := block14 ((Y7.out.trans Z8.out).block D1.out)
  have lc := lt_of_block ((Y7.out.trans Z8.out).block D1.out)
  go_wp2_with fail
  clear c0 c1 c2 c3 c4 c5 c6 c7 c8 c9 c10 c11 c12 c13 lc
  have X8b := (Ext.refl w8).alloc (.cells #[.int .i64 W, .int .i64 H, .bool R, .slice ha hn hc, .int .i64 W, .int .i64 H, .bool R, .slice hb hm hd, .float .f32 f1, .float .f32 f2, .float .f32 f2, .float .f32 f4, .float .f32 0, .int .i64 kk] 62)
  generalize w8.alloc (.cells #[.int .i64 W, .int .i64 H, .bool R, .slice ha hn hc, .int .i64 W, .int .i64 H, .bool R, .slice hb hm hd, .float .f32 f1, .float .f32 f2, .float .f32 f2, .float .f32 f4, .float .f32 0, .int .i64 kk] 62) = w9 at *
  have Y9 := Lib.hid (Z8.out.trans X8b)
  refine (eqMelt_any W H R W H R kk ha hn hc hb hm hd f1 f2 f2 f4 0 sa sn sc sb sm sd f1 f2 f2 f4 0 hx hy sx sy hl hl2 sl sl2 hle hle2 sle sle2 (hf.trans sf.symm) (hf2.trans sf2.symm) rfl rfl rfl rfl rfl _ (HVX.out.ext X8b) (HVY.out.ext X8b) (UX.out.ext (Y7.out.trans Y9.out)) (UY.out.ext (Y7.out.trans Y9.out))).mono ?_
  rintro e w10 ⟨rfl, hX10⟩
  have Y10 := Lib.hid (Y9.out.trans hX10)
  clear X8b hX10 Y9 Z8
  obtain ⟨⟨d0, d1, d2, d3, d4, d5, d6, d7, d8, d9, d10, d11, d12, d13⟩, _⟩ := block14 (Y10.out.block D7.out)
  have ld := lt_of_block (Y10.out.block D7.out)
  go_wp2_with fail
  clear d0 d1 d2 d3 d4 d5 d6 d7 d8 d9 d10 d11 d12 d13 ld
  refine (heldMelt_any W H R ga gn gc W H R gb gm gd f1 f2 f2 f4 0 kk _ gle gle2 (M7.out.ext Y10.out) (N7.out.ext Y10.out)).mono ?_
  rintro e w11 ⟨rfl, hX11⟩
  have E11 := Lib.hid (E2.out.trans (Y7.out.trans (Y10.out.trans hX11)))
  clear hX11
  go_wp2
  go_ret
  exact ⟨rfl, E11.out⟩
end Go.Proofs.Ytajfpjggdbifjaa
