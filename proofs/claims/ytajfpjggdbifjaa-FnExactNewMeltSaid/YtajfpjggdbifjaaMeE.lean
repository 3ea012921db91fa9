/-
  Valid melts by the program. (Printed by gen_melt.py.)
-/
import Derived.Test.YtajfpjggdbifjaaMeD
import Derived.Test.YtajfpjggdbifjaaFlP
namespace Go.Proofs.Ytajfpjggdbifjaa
open Go.RowKit
set_option linter.unusedVariables false
set_option linter.unusedSimpArgs false
set_option linter.unnecessarySimpa false


set_option maxRecDepth 100000 in
set_option maxHeartbeats 8000000 in
theorem implValidM_any (W H : Int) (R : Bool) (a : Option Addr) (n c : Nat) (W' H' : Int) (R' : Bool) (a' : Option Addr) (n' c' : Nat) (f1 f2 f3 f4 f5 : Nat) (k : Int) (xs xs' : List Nat) (hz : xs.length = n) (hz' : xs'.length = n') (hn : n ≤ 1048576) (hn' : n' ≤ 1048576) (w : World) (hA : VArr w a (flts xs)) (hA' : VArr w a' (flts xs')) :
    Calls Try.prog 44 #[.agg #[.int .i64 W, .int .i64 H, .bool R, .slice a n c, .int .i64 W', .int .i64 H', .bool R', .slice a' n' c', .float .f32 f1, .float .f32 f2, .float .f32 f3, .float .f32 f4, .float .f32 f5, .int .i64 k]] w fun e w' => e = .returned (.bool (vldM W H R n W' H' R' n' xs xs' f1 f2 f3 f4 f5 k)) ∧ Ext w w' := by
  have hX := (Ext.refl w).alloc (.cells #[.int .i64 W, .int .i64 H, .bool R, .slice a n c, .int .i64 W', .int .i64 H', .bool R', .slice a' n' c', .float .f32 f1, .float .f32 f2, .float .f32 f3, .float .f32 f4, .float .f32 f5, .int .i64 k] 62)
  have b0 := heap_new w (.cells #[.int .i64 W, .int .i64 H, .bool R, .slice a n c, .int .i64 W', .int .i64 H', .bool R', .slice a' n' c', .float .f32 f1, .float .f32 f2, .float .f32 f3, .float .f32 f4, .float .f32 f5, .int .i64 k] 62)
  have hA1 := hA.ext hX
  have hA1' := hA'.ext hX
  clear hA hA'
  have c0 := block_cell b0 0
  have c1 := block_cell b0 1
  have c2 := block_cell b0 2
  have c3 := block_cell b0 3
  go_enter Try.func44, Try.ntmps44
  go_wp2_with fail
  generalize w.alloc (.cells #[.int .i64 W, .int .i64 H, .bool R, .slice a n c, .int .i64 W', .int .i64 H', .bool R', .slice a' n' c', .float .f32 f1, .float .f32 f2, .float .f32 f3, .float .f32 f4, .float .f32 f5, .int .i64 k] 62) = w0 at *
  generalize hpp : w.heap.size = p at *
  clear c0 c1 c2 c3
  refine (implValidF_any W H R a n c (by omega) _).mono ?_
  cases hv : vldF W H n with
  | false =>
    have HM : Hid (vldM W H R n W' H' R' n' xs xs' f1 f2 f3 f4 f5 k = false) := by show _ = _; simp [vldM, twoB, hv]
    rintro e u1 ⟨rfl, hY⟩
    have HX := Lib.hid (hX.trans hY)
    clear hX hY hA1 hA1' b0
    go_wp2
    go_ret
    exact ⟨by rw [HM.out]; rfl, HX.out⟩
  | true =>
    rintro e u1 ⟨rfl, hY⟩
    replace hX := hX.trans hY
    replace hA1 := hA1.ext hY
    replace hA1' := hA1'.ext hY
    replace b0 := hY.block b0
    clear hY
    have c4 := block_cell b0 4
    have c5 := block_cell b0 5
    have c6 := block_cell b0 6
    have c7 := block_cell b0 7
    go_wp2_with fail
    clear c4 c5 c6 c7
    refine (implValidF_any W' H' R' a' n' c' (by omega) _).mono ?_
    cases hv' : vldF W' H' n' with
    | false =>
      have HM : Hid (vldM W H R n W' H' R' n' xs xs' f1 f2 f3 f4 f5 k = false) := by show _ = _; simp [vldM, twoB, hv']
      rintro e u2 ⟨rfl, hY⟩
      have HX := Lib.hid (hX.trans hY)
      clear hX hY hA1 hA1' b0
      go_wp2
      go_ret
      exact ⟨by rw [HM.out]; rfl, HX.out⟩
    | true =>
      rintro e u2 ⟨rfl, hY⟩
      replace hX := hX.trans hY
      replace hA1 := hA1.ext hY
      replace hA1' := hA1'.ext hY
      replace b0 := hY.block b0
      clear hY
      have c0 := block_cell b0 0
      have c1 := block_cell b0 1
      have c2 := block_cell b0 2
      have c3 := block_cell b0 3
      have c4 := block_cell b0 4
      have c5 := block_cell b0 5
      have c6 := block_cell b0 6
      have c7 := block_cell b0 7
      go_wp2_with fail
      clear c0 c1 c2 c3 c4 c5 c6 c7
      refine (alike_any W H W' H' R R' a a' n c n' c' _).mono ?_
      cases hal : alikeB W H R W' H' R' with
      | false =>
        have HM : Hid (vldM W H R n W' H' R' n' xs xs' f1 f2 f3 f4 f5 k = false) := by show _ = _; simp [vldM, twoB, hal]
        rintro e u3 ⟨rfl, hY⟩
        have HX := Lib.hid (hX.trans hY)
        clear hX hY hA1 hA1' b0
        go_wp2
        go_ret
        exact ⟨by rw [HM.out]; rfl, HX.out⟩
      | true =>
        rintro e u3 ⟨rfl, hY⟩
        replace hX := hX.trans hY
        replace hA1 := hA1.ext hY
        replace hA1' := hA1'.ext hY
        replace b0 := hY.block b0
        clear hY
        have c4 := block_cell b0 4
        have c5 := block_cell b0 5
        have c6 := block_cell b0 6
        have c7 := block_cell b0 7
        go_wp2_with fail
        clear c4 c5 c6 c7
        refine (finiteField_any W' H' R' a' n' c' xs' hz' hn' _ hA1').mono ?_
        cases hfi : xs'.all finB with
        | false =>
          have HM : Hid (vldM W H R n W' H' R' n' xs xs' f1 f2 f3 f4 f5 k = false) := by show _ = _; simp [vldM, twoB, hfi]
          rintro e u4 ⟨rfl, hY⟩
          have HX := Lib.hid (hX.trans hY)
          clear hX hY hA1 hA1' b0
          go_wp2
          go_ret
          exact ⟨by rw [HM.out]; rfl, HX.out⟩
        | true =>
          rintro e u4 ⟨rfl, hY⟩
          replace hX := hX.trans hY
          replace hA1 := hA1.ext hY
          replace hA1' := hA1'.ext hY
          replace b0 := hY.block b0
          clear hY
          have c3 := block_cell b0 3
          go_wp2_with fail
          cases hph : xs.all phB with
          | false =>
            have HM : Hid (vldM W H R n W' H' R' n' xs xs' f1 f2 f3 f4 f5 k = false) := by show _ = _; simp [vldM, twoB, hph]
            have HP : Hid (xs.any (fun x => !phB x) = true) := by show _ = _; rw [any_not_all, hph]; rfl
            refine (containsFuncF_any a n c xs (fun x => !phB x) 106 hz hn _ (fun args u => by go_simp) validMelt1_any hA1).mono ?_
            rw [HP.out]
            rintro e u5 ⟨rfl, hY⟩
            clear c3
            have HX := Lib.hid (hX.trans hY)
            clear hX hY hA1 hA1' b0 hv hv' hal hfi hph
            go_wp2
            go_ret
            exact ⟨by rw [HM.out]; rfl, HX.out⟩
          | true =>
            have HM : Hid (vldM W H R n W' H' R' n' xs xs' f1 f2 f3 f4 f5 k = (four f1 f2 f3 f4 && lastB f5 k)) := by show _ = _; simp [vldM, twoB, hv, hv', hal, hfi, hph]
            have HP : Hid (xs.any (fun x => !phB x) = false) := by show _ = _; rw [any_not_all, hph]; rfl
            refine (containsFuncF_any a n c xs (fun x => !phB x) 106 hz hn _ (fun args u => by go_simp) validMelt1_any hA1).mono ?_
            rw [HP.out]
            rintro e u5 ⟨rfl, hY⟩
            clear c3
            have HX := Lib.hid (hX.trans hY)
            have HB := Lib.hid (hY.block b0)
            clear hX hY b0 hA1 hA1' hv hv' hal hfi hph hz hz'
            have c8 := block_cell HB.out 8
            have c9 := block_cell HB.out 9
            have c10 := block_cell HB.out 10
            have c11 := block_cell HB.out 11
            have hXa := (Ext.refl u5).alloc (.cells #[.float .f32 f1, .float .f32 f2, .float .f32 f3, .float .f32 f4] 28)
            have hV4 : VArr (u5.alloc (.cells #[.float .f32 f1, .float .f32 f2, .float .f32 f3, .float .f32 f4] 28)) (some ⟨u5.heap.size, 0, none⟩) (flts [f1, f2, f3, f4]) := ownsRow_varr (row_of_blockF (n := 4) (B := u5.heap.size) (Nat.le_refl _) (by rfl) (by unfold maxLen; omega) (heap_new u5 (.cells #[.float .f32 f1, .float .f32 f2, .float .f32 f3, .float .f32 f4] 28)))
            have HXa := Lib.hid (HX.out.trans hXa)
            have HBa := Lib.hid (hXa.block HB.out)
            have HV4 := Lib.hid hV4
            clear hXa hV4
            go_wp2
            clear c8 c9 c10 c11
            generalize u5.alloc (.cells #[.float .f32 f1, .float .f32 f2, .float .f32 f3, .float .f32 f4] 28) = u6 at *
            generalize u5.heap.size = q at *
            have HFE : Hid ((four f1 f2 f3 f4 = true) ↔ ∀ j, j < 4 → leB ([f1, f2, f3, f4][j]?.getD 0) = true) := by
              show _ ↔ _
              constructor
              · intro h j hj
                simp only [four, Bool.and_eq_true] at h
                match j, hj with
                | 0, _ => exact h.1.1.1
                | 1, _ => exact h.1.1.2
                | 2, _ => exact h.1.2
                | 3, _ => exact h.2
              · intro h
                simp only [four, Bool.and_eq_true]
                exact ⟨⟨⟨h 0 (by omega), h 1 (by omega)⟩, h 2 (by omega)⟩, h 3 (by omega)⟩
            have HFL : Hid (([f1, f2, f3, f4] : List Nat).length = 4) := rfl
            generalize ([f1, f2, f3, f4] : List Nat) = fs at *
            go_loopw [43] (fun i wr => ∃ k : Nat, k ≤ 4 ∧ i = .int .i64 k ∧ (∀ j, j < k → leB (fs[j]?.getD 0) = true) ∧ Ext u6 wr) (fun i _ => 4 - (intOf i).toNat)
            case atStart => exact ⟨0, Nat.zero_le _, rfl, fun j hj => by omega, Ext.refl _⟩
            case round =>
              obtain ⟨i, hi, rfl, hup, hE⟩ := hrel
              have HU := Lib.hid hup
              have HE := Lib.hid hE
              clear hup hE
              by_cases hlt : i < 4
              · have hc := (HV4.out.ext HE.out).ofFlts i (by rw [HFL.out]; exact hlt)
                rw [List.getD_eq_getElem?_getD, Nat.zero_add] at hc
                have HNO : Hid (leB (fs[i]?.getD 0) = false → four f1 f2 f3 f4 = false) := fun h => by
                  cases h4 : four f1 f2 f3 f4 with
                  | false => rfl
                  | true => have := HFE.out.1 h4 i hlt; rw [h] at this; cases this
                have HYE : Hid (leB (fs[i]?.getD 0) = true → ∀ j, j < i + 1 → leB (fs[j]?.getD 0) = true) := fun h j hj => by
                  by_cases e : j = i
                  · subst e; exact h
                  · exact HU.out j (by omega)
                generalize fs[i]?.getD 0 = x at *
                go_wp2_with fail
                refine (aMass_any x _).mono ?_
                clear hc
                cases hx : leB x with
                | false =>
                  have HN := Lib.hid (HNO.out hx)
                  rintro e u7 ⟨rfl, hY⟩
                  clear hx
                  go_wp2
                  go_ret
                  exact ⟨by rw [HM.out, HN.out]; rfl, HXa.out.trans (HE.out.trans hY)⟩
                | true =>
                  have HN := Lib.hid (HYE.out hx)
                  rintro e u7 ⟨rfl, hY⟩
                  have HE2 := Lib.hid (HE.out.trans hY)
                  clear hx hY HE
                  go_wp2
                  go_roundw
                  case rel => exact ⟨i + 1, by omega, by go_num, HN.out, HE2.out⟩
                  case measure => simp [intOf]; omega
              · obtain rfl : i = 4 := by omega
                have HL : Hid (vldM W H R n W' H' R' n' xs xs' f1 f2 f3 f4 f5 k = lastB f5 k) := by
                  show _ = _
                  rw [HM.out, HFE.out.2 HU.out]
                  rfl
                have c12 := block_cell (HE.out.block HBa.out) 12
                have c13 := block_cell (HE.out.block HBa.out) 13
                cases h5 : ge0 f5 with
                | false =>
                  have HN : Hid (lastB f5 k = false) := by show _ = _; simp [lastB, h5]
                  unfold ge0 at h5
                  go_wp2
                  go_ret
                  exact ⟨by rw [HL.out, HN.out]; rfl, HXa.out.trans HE.out⟩
                | true =>
                  cases h6 : lt1 f5 with
                  | false =>
                    have HN : Hid (lastB f5 k = false) := by show _ = _; simp [lastB, h6]
                    unfold ge0 at h5
                    unfold lt1 at h6
                    go_wp2
                    go_ret
                    exact ⟨by rw [HL.out, HN.out]; rfl, HXa.out.trans HE.out⟩
                  | true =>
                    have HN : Hid (lastB f5 k = inB k 1 8) := by show _ = _; simp [lastB, h5, h6]
                    unfold ge0 at h5
                    unfold lt1 at h6
                    go_wp2_with (go_at_call 68; refine (within_any _ _ _ _).mono ?_; rintro e w' ⟨rfl, rfl⟩)
                    go_ret
                    exact ⟨by rw [HL.out, HN.out]; rfl, HXa.out.trans HE.out⟩
end Go.Proofs.Ytajfpjggdbifjaa
