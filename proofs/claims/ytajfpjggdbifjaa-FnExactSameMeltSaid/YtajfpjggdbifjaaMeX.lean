/-
  SameMelt by the program. (Printed by gen_melt.py.)
-/
import Derived.Test.YtajfpjggdbifjaaMeW
namespace Go.Proofs.Ytajfpjggdbifjaa
open Go.RowKit
set_option linter.unusedVariables false
set_option linter.unusedSimpArgs false
set_option linter.unnecessarySimpa false


set_option maxRecDepth 100000 in
set_option maxHeartbeats 8000000 in
theorem implSameM_any (W H : Int) (R : Bool) (a : Option Addr) (n c : Nat) (W' H' : Int) (R' : Bool) (a' : Option Addr) (n' c' : Nat) (f1 f2 f3 f4 f5 : Nat) (k : Int) (U V : Int) (S : Bool) (b : Option Addr) (m d : Nat) (U' V' : Int) (S' : Bool) (b' : Option Addr) (m' d' : Nat) (e1 e2 e3 e4 e5 : Nat) (j : Int) (xs xs' ys ys' : List Nat) (hx : xs.length = n) (hx' : xs'.length = n') (hy : ys.length = m) (hy' : ys'.length = m') (hn : n ≤ 1048576) (hn' : n' ≤ 1048576) (hm : m ≤ 1048576) (hm' : m' ≤ 1048576) (wx : wfF xs) (wx' : wfF xs') (wy : wfF ys) (wy' : wfF ys') (hf : f1 < 4294967296 ∧ f2 < 4294967296 ∧ f3 < 4294967296 ∧ f4 < 4294967296 ∧ f5 < 4294967296) (he : e1 < 4294967296 ∧ e2 < 4294967296 ∧ e3 < 4294967296 ∧ e4 < 4294967296 ∧ e5 < 4294967296) (w : World) (hA : VArr w a (flts xs)) (hA' : VArr w a' (flts xs')) (hB : VArr w b (flts ys)) (hB' : VArr w b' (flts ys')) :
    Calls Try.prog 41 #[.agg #[.int .i64 W, .int .i64 H, .bool R, .slice a n c, .int .i64 W', .int .i64 H', .bool R', .slice a' n' c', .float .f32 f1, .float .f32 f2, .float .f32 f3, .float .f32 f4, .float .f32 f5, .int .i64 k], .agg #[.int .i64 U, .int .i64 V, .bool S, .slice b m d, .int .i64 U', .int .i64 V', .bool S', .slice b' m' d', .float .f32 e1, .float .f32 e2, .float .f32 e3, .float .f32 e4, .float .f32 e5, .int .i64 j]] w fun e w' => e = .returned (.bool (sameM W H R a n c W' H' R' a' n' c' f1 f2 f3 f4 f5 k U V S b m d U' V' S' b' m' d' e1 e2 e3 e4 e5 j xs xs' ys ys')) ∧ Ext w w' := by
  obtain ⟨l1, l2, l3, l4, l5⟩ := hf
  obtain ⟨g1, g2, g3, g4, g5⟩ := he
  have HX := Lib.hid (((Ext.refl w).alloc (.cells #[.int .i64 W, .int .i64 H, .bool R, .slice a n c, .int .i64 W', .int .i64 H', .bool R', .slice a' n' c', .float .f32 f1, .float .f32 f2, .float .f32 f3, .float .f32 f4, .float .f32 f5, .int .i64 k] 62)).alloc (.cells #[.int .i64 U, .int .i64 V, .bool S, .slice b m d, .int .i64 U', .int .i64 V', .bool S', .slice b' m' d', .float .f32 e1, .float .f32 e2, .float .f32 e3, .float .f32 e4, .float .f32 e5, .int .i64 j] 62))
  have HP := Lib.hid (heap_mid1 w (.cells #[.int .i64 W, .int .i64 H, .bool R, .slice a n c, .int .i64 W', .int .i64 H', .bool R', .slice a' n' c', .float .f32 f1, .float .f32 f2, .float .f32 f3, .float .f32 f4, .float .f32 f5, .int .i64 k] 62) (.cells #[.int .i64 U, .int .i64 V, .bool S, .slice b m d, .int .i64 U', .int .i64 V', .bool S', .slice b' m' d', .float .f32 e1, .float .f32 e2, .float .f32 e3, .float .f32 e4, .float .f32 e5, .int .i64 j] 62))
  have HQ := Lib.hid (heap_new1 w (.cells #[.int .i64 W, .int .i64 H, .bool R, .slice a n c, .int .i64 W', .int .i64 H', .bool R', .slice a' n' c', .float .f32 f1, .float .f32 f2, .float .f32 f3, .float .f32 f4, .float .f32 f5, .int .i64 k] 62) (.cells #[.int .i64 U, .int .i64 V, .bool S, .slice b m d, .int .i64 U', .int .i64 V', .bool S', .slice b' m' d', .float .f32 e1, .float .f32 e2, .float .f32 e3, .float .f32 e4, .float .f32 e5, .int .i64 j] 62))
  have HA := Lib.hid (hA.ext HX.out)
  have HA' := Lib.hid (hA'.ext HX.out)
  have HB := Lib.hid (hB.ext HX.out)
  have HB' := Lib.hid (hB'.ext HX.out)
  clear hA hA' hB hB'
  have HM0 : Hid (sameM W H R a n c W' H' R' a' n' c' f1 f2 f3 f4 f5 k U V S b m d U' V' S' b' m' d' e1 e2 e3 e4 e5 j xs xs' ys ys' = (sameFB W H R U V S xs ys && (sameFB W' H' R' U' V' S' xs' ys' && (fiveB f1 f2 f3 f4 f5 e1 e2 e3 e4 e5 && (k == j))))) := by show _ = _; rfl
  have c0 := block_cell HP.out 0
  have d0 := block_cell HQ.out 0
  have c1 := block_cell HP.out 1
  have d1 := block_cell HQ.out 1
  have c2 := block_cell HP.out 2
  have d2 := block_cell HQ.out 2
  have c3 := block_cell HP.out 3
  have d3 := block_cell HQ.out 3
  go_enter Try.func41, Try.ntmps41
  go_wp2_with fail
  clear c0 d0 c1 d1 c2 d2 c3 d3
  generalize (w.alloc (.cells #[.int .i64 W, .int .i64 H, .bool R, .slice a n c, .int .i64 W', .int .i64 H', .bool R', .slice a' n' c', .float .f32 f1, .float .f32 f2, .float .f32 f3, .float .f32 f4, .float .f32 f5, .int .i64 k] 62)).alloc (.cells #[.int .i64 U, .int .i64 V, .bool S, .slice b m d, .int .i64 U', .int .i64 V', .bool S', .slice b' m' d', .float .f32 e1, .float .f32 e2, .float .f32 e3, .float .f32 e4, .float .f32 e5, .int .i64 j] 62) = w0 at *
  generalize w.heap.size = p at *
  refine (implSameF_any W H U V R S a b n c m d xs ys hx hy hn hm wx wy _ HA.out HB.out).mono ?_
  cases q0 : sameFB W H R U V S xs ys with
  | false =>
    have HM : Hid (sameM W H R a n c W' H' R' a' n' c' f1 f2 f3 f4 f5 k U V S b m d U' V' S' b' m' d' e1 e2 e3 e4 e5 j xs xs' ys ys' = false) := by show _ = _; rw [HM0.out]; simp [q0]
    rintro e w1 ⟨rfl, hY⟩
    replace HX := Lib.hid (HX.out.trans hY)
    clear hY q0
    go_wp2
    go_ret
    exact ⟨by rw [HM.out]; rfl, HX.out⟩
  | true =>
    have Q0 := Lib.hid q0
    rintro e w1 ⟨rfl, hY⟩
    have HX0 := Lib.hid hY
    replace HX := Lib.hid (HX.out.trans hY)
    clear hY q0
    have c4 := block_cell (HX0.out.block HP.out) 4
    have d4 := block_cell (HX0.out.block HQ.out) 4
    have c5 := block_cell (HX0.out.block HP.out) 5
    have d5 := block_cell (HX0.out.block HQ.out) 5
    have c6 := block_cell (HX0.out.block HP.out) 6
    have d6 := block_cell (HX0.out.block HQ.out) 6
    have c7 := block_cell (HX0.out.block HP.out) 7
    have d7 := block_cell (HX0.out.block HQ.out) 7
    go_wp2_with fail
    clear c4 d4 c5 d5 c6 d6 c7 d7
    refine (implSameF_any W' H' U' V' R' S' a' b' n' c' m' d' xs' ys' hx' hy' hn' hm' wx' wy' _ (HA'.out.ext HX0.out) (HB'.out.ext HX0.out)).mono ?_
    cases q1 : sameFB W' H' R' U' V' S' xs' ys' with
    | false =>
      have HM : Hid (sameM W H R a n c W' H' R' a' n' c' f1 f2 f3 f4 f5 k U V S b m d U' V' S' b' m' d' e1 e2 e3 e4 e5 j xs xs' ys ys' = false) := by show _ = _; rw [HM0.out]; simp [q1]
      rintro e w2 ⟨rfl, hY⟩
      replace HX := Lib.hid (HX.out.trans hY)
      clear hY q1
      go_wp2
      go_ret
      exact ⟨by rw [HM.out]; rfl, HX.out⟩
    | true =>
      have Q1 := Lib.hid q1
      rintro e w2 ⟨rfl, hY⟩
      replace HX0 := Lib.hid (HX0.out.trans hY)
      replace HX := Lib.hid (HX.out.trans hY)
      clear hY q1
      have c8 := block_cell (HX0.out.block HP.out) 8
      have c9 := block_cell (HX0.out.block HP.out) 9
      have c10 := block_cell (HX0.out.block HP.out) 10
      have c11 := block_cell (HX0.out.block HP.out) 11
      have c12 := block_cell (HX0.out.block HP.out) 12
      have hXa := (Ext.refl w2).alloc (.cells #[.float .f32 f1, .float .f32 f2, .float .f32 f3, .float .f32 f4, .float .f32 f5] 28)
      have hXb := (Ext.refl (w2.alloc (.cells #[.float .f32 f1, .float .f32 f2, .float .f32 f3, .float .f32 f4, .float .f32 f5] 28))).alloc (.cells #[.float .f32 e1, .float .f32 e2, .float .f32 e3, .float .f32 e4, .float .f32 e5] 28)
      have V1 := (ownsRow_varr (row_of_blockF (n := 5) (B := w2.heap.size) (Nat.le_refl _) (by rfl) (by unfold maxLen; omega) (heap_new w2 (.cells #[.float .f32 f1, .float .f32 f2, .float .f32 f3, .float .f32 f4, .float .f32 f5] 28)))).ext hXb
      have V2 := ownsRow_varr (row_of_blockF (n := 5) (B := 0) (Nat.zero_le _) (by rfl) (by unfold maxLen; omega) (heap_new1 w2 (.cells #[.float .f32 f1, .float .f32 f2, .float .f32 f3, .float .f32 f4, .float .f32 f5] 28) (.cells #[.float .f32 e1, .float .f32 e2, .float .f32 e3, .float .f32 e4, .float .f32 e5] 28)))
      have HXX := Lib.hid (HX.out.trans (hXa.trans hXb))
      have HPB := Lib.hid ((hXa.trans hXb).block (HX0.out.block HP.out))
      have HQB := Lib.hid ((hXa.trans hXb).block (HX0.out.block HQ.out))
      have HV1 := Lib.hid V1
      have HV2 := Lib.hid V2
      have WF1 : Hid (wfF [f1, f2, f3, f4, f5]) := fun i hi => by
        match i, hi with
        | 0, _ => exact l1
        | 1, _ => exact l2
        | 2, _ => exact l3
        | 3, _ => exact l4
        | 4, _ => exact l5
      have WF2 : Hid (wfF [e1, e2, e3, e4, e5]) := fun i hi => by
        match i, hi with
        | 0, _ => exact g1
        | 1, _ => exact g2
        | 2, _ => exact g3
        | 3, _ => exact g4
        | 4, _ => exact g5
      have d8 := block_cell (hXa.block (HX0.out.block HQ.out)) 8
      have d9 := block_cell (hXa.block (HX0.out.block HQ.out)) 9
      have d10 := block_cell (hXa.block (HX0.out.block HQ.out)) 10
      have d11 := block_cell (hXa.block (HX0.out.block HQ.out)) 11
      have d12 := block_cell (hXa.block (HX0.out.block HQ.out)) 12
      clear hXa hXb V1 V2
      go_wp2_with fail
      clear c8 d8 c9 d9 c10 d10 c11 d11 c12 d12
      refine (sameNumbers_any _ _ 5 5 5 5 [f1, f2, f3, f4, f5] [e1, e2, e3, e4, e5] rfl rfl (by omega) (by omega) WF1.out WF2.out _ HV1.out HV2.out).mono ?_
      rw [five_sameL]
      cases q2 : fiveB f1 f2 f3 f4 f5 e1 e2 e3 e4 e5 with
      | false =>
        have HM : Hid (sameM W H R a n c W' H' R' a' n' c' f1 f2 f3 f4 f5 k U V S b m d U' V' S' b' m' d' e1 e2 e3 e4 e5 j xs xs' ys ys' = false) := by show _ = _; rw [HM0.out, q2]; simp
        rintro e w3 ⟨rfl, hY⟩
        replace HX := Lib.hid (HXX.out.trans hY)
        clear hY q2
        go_wp2
        go_ret
        exact ⟨by rw [HM.out]; rfl, HX.out⟩
      | true =>
        have HM : Hid (sameM W H R a n c W' H' R' a' n' c' f1 f2 f3 f4 f5 k U V S b m d U' V' S' b' m' d' e1 e2 e3 e4 e5 j xs xs' ys ys' = (k == j)) := by show _ = _; rw [HM0.out, Q0.out, Q1.out, q2]; simp
        rintro e w3 ⟨rfl, hY⟩
        replace HX := Lib.hid (HXX.out.trans hY)
        have c13 := block_cell (hY.block HPB.out) 13
        have d13 := block_cell (hY.block HQB.out) 13
        clear hY q2
        go_wp2
        go_ret
        exact ⟨by rw [HM.out]; rfl, HX.out⟩
end Go.Proofs.Ytajfpjggdbifjaa
