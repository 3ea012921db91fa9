/-
  Valid melts by the reference. (Printed by gen_melt.py.)
-/
import Derived.Test.YtajfpjggdbifjaaMeC
namespace Go.Proofs.Ytajfpjggdbifjaa
open Go.RowKit
set_option linter.unusedVariables false
set_option linter.unusedSimpArgs false
set_option linter.unnecessarySimpa false


set_option maxRecDepth 100000 in
set_option maxHeartbeats 8000000 in
theorem l03Is_yes (p : Nat) (W H : Int) (R : Bool) (a : Option Addr) (n c : Nat) (W' H' : Int) (R' : Bool) (a' : Option Addr) (n' c' : Nat) (f1 f2 f3 f4 f5 : Nat) (k : Int) (xs xs' : List Nat) (hz : xs.length = n) (hz' : xs'.length = n') (hn : n ≤ 1048576) (hn' : n' ≤ 1048576) (ht : twoB W H R n W' H' R' n' = true) (w : World) (hp : w.heap[p]? = some (.cells #[.int .i64 W, .int .i64 H, .bool R, .slice a n c, .int .i64 W', .int .i64 H', .bool R', .slice a' n' c', .float .f32 f1, .float .f32 f2, .float .f32 f3, .float .f32 f4, .float .f32 f5, .int .i64 k] 62 (0, 0))) (hA : VArr w a (flts xs)) (hA' : VArr w a' (flts xs')) :
    Calls Try.prog 103 #[.pointer (some ⟨p, 0, none⟩)] w fun e w' => e = .returned (.bool (vldM W H R n W' H' R' n' xs xs' f1 f2 f3 f4 f5 k)) ∧ Ext w w' := by
  have HM : Hid (vldM W H R n W' H' R' n' xs xs' f1 f2 f3 f4 f5 k = ((xs.all phB && xs'.all finB) && (four f1 f2 f3 f4 && lastB f5 k))) := by show _ = _; simp [vldM, ht]
  obtain ⟨hvv, hal⟩ := (Bool.and_eq_true_iff).1 ht
  obtain ⟨hv, hv'⟩ := (Bool.and_eq_true_iff).1 hvv
  obtain ⟨rfl, rfl, rfl⟩ := alikeB_iff.1 hal
  clear hal hvv ht
  have HP := Lib.hid hp
  have HA := Lib.hid hA
  have HA' := Lib.hid hA'
  have HZ := Lib.hid hz
  have HZ' := Lib.hid hz'
  have C0 := Lib.hid (block_cell hp 0)
  have C1 := Lib.hid (block_cell hp 1)
  have C2 := Lib.hid (block_cell hp 2)
  have C4 := Lib.hid (block_cell hp 4)
  have C5 := Lib.hid (block_cell hp 5)
  have C6 := Lib.hid (block_cell hp 6)
  have HF0 : Hid (FldAtO w p 0 W H R a n c) := ⟨block_cell hp 0, block_cell hp 1, block_cell hp 2, block_cell hp 3⟩
  have HF4 : Hid (FldAtO w p 4 W H R a' n' c') := ⟨block_cell hp 4, block_cell hp 5, block_cell hp 6, block_cell hp 7⟩
  clear hp hA hA'
  have HV0 := Lib.hid hv
  have HV4 := Lib.hid hv'
  have hnn : n' = n := by
    have h1 := (vldF_facts hv)
    have h2 := (vldF_facts hv')
    obtain ⟨q1, q2, e1, e2, _, _, _, _, e3, _⟩ := h1
    obtain ⟨q3, q4, e4, e5, _, _, _, _, e6, _⟩ := h2
    have : q1 = q3 := by omega
    have : q2 = q4 := by omega
    subst_vars
    simp_all
  have hn1 : 0 < n ∧ n ≤ 256 := by
    obtain ⟨q1, q2, e1, e2, i1, _, i3, _, e3, e4⟩ := vldF_facts hv
    exact ⟨by rw [e3]; exact Nat.mul_pos (by omega) (by omega), e4⟩
  obtain ⟨b, o, rfl⟩ := HA.out.starts (i := 0) (by simp; omega)
  obtain ⟨b', o', rfl⟩ := HA'.out.starts (i := 0) (by simp; omega)
  have HNN := Lib.hid hnn
  clear hv hv' hz hz'
  go_enter Try.func103, Try.ntmps103
  go_wp2_with fail
  refine region_grow (C := Ext w) (K := fun _ args V _ => (args = #[.pointer (some ⟨p, 0, none⟩)] → V = .bool true) ∧ (args = #[.pointer (some ⟨p, 4, none⟩)] → V = .bool true)) ⟨fun _ _ h k => h.trans k, fun _ _ _ _ _ h _ => h⟩ (by kernel_rfl) (by kernel_rfl) ((Ext.refl w).drew) ?_
  (with_reducible refine grow_q (by kernel_rfl) ?_); apply Exists.intro; refine ⟨fun u hu _ => ?_, ?_⟩; focus (go_simp; rfl)
  (with_reducible refine grow_q (by kernel_rfl) ?_); apply Exists.intro; refine ⟨fun u hu _ => ?_, ?_⟩; focus (go_simp; rfl)
  (with_reducible refine grow_q (by kernel_rfl) ?_); apply Exists.intro; refine ⟨fun u hu _ => ?_, ?_⟩; focus (go_simp; rfl)
  with_reducible refine grow_c1 148 (by kernel_rfl) ?_
  refine ⟨#[.pointer (some ⟨p, 0, none⟩)], fun u => ?_, .bool true, fun u hu _ => (l02IsO_any p 0 W H R (some ⟨b, o, none⟩) n c (by omega) u ((HF0.out).ext hu)).mono (fun e w' h => ⟨by rw [HV0.out] at h; exact h.1, h.2⟩), fun V u h => h.1 rfl, fun u => ⟨fun _ => rfl, fun h => absurd h (by simp)⟩, ?_⟩
  · go_simp
  (with_reducible refine grow_q (by kernel_rfl) ?_); apply Exists.intro; refine ⟨fun u hu _ => ?_, ?_⟩; focus (go_simp; rfl)
  (with_reducible refine grow_q (by kernel_rfl) ?_); apply Exists.intro; refine ⟨fun u hu _ => ?_, ?_⟩; focus (go_simp; rfl)
  (with_reducible refine grow_q (by kernel_rfl) ?_); apply Exists.intro; refine ⟨fun u hu _ => ?_, ?_⟩; focus (go_simp; rfl)
  (with_reducible refine grow_q (by kernel_rfl) ?_); apply Exists.intro; refine ⟨fun u hu _ => ?_, ?_⟩; focus (go_simp; rfl)
  (with_reducible refine grow_q (by kernel_rfl) ?_); apply Exists.intro; refine ⟨fun u hu _ => ?_, ?_⟩; focus (go_simp; rfl)
  with_reducible refine grow_c1 148 (by kernel_rfl) ?_
  refine ⟨#[.pointer (some ⟨p, 4, none⟩)], fun u => ?_, .bool true, fun u hu _ => (l02IsO_any p 4 W H R (some ⟨b', o', none⟩) n' c' (by omega) u ((HF4.out).ext hu)).mono (fun e w' h => ⟨by rw [HV4.out] at h; exact h.1, h.2⟩), fun V u h => h.2 rfl, fun u => ⟨fun h => absurd h (by simp), fun _ => rfl⟩, ?_⟩
  · go_simp
  (with_reducible refine grow_q (by kernel_rfl) ?_); apply Exists.intro; refine ⟨fun u hu _ => ?_, ?_⟩; focus (go_simp; rfl)
  (with_reducible refine grow_q (by kernel_rfl) ?_); apply Exists.intro; refine ⟨fun u hu _ => ?_, ?_⟩; focus (go_simp; rfl)
  (with_reducible refine grow_q (by kernel_rfl) ?_); apply Exists.intro; refine ⟨fun u hu _ => ?_, ?_⟩; focus (go_simp; rfl)
  (with_reducible refine grow_q (by kernel_rfl) ?_); apply Exists.intro; refine ⟨fun u hu _ => ?_, ?_⟩; focus (go_simp; rfl)
  (with_reducible refine grow_q (by kernel_rfl) ?_); apply Exists.intro; refine ⟨fun u hu _ => ?_, ?_⟩; focus (go_simp; rfl)
  (with_reducible refine grow_q (by kernel_rfl) ?_); apply Exists.intro; refine ⟨fun u hu _ => ?_, ?_⟩; focus (go_simp; rfl)
  (with_reducible refine grow_q (by kernel_rfl) ?_); apply Exists.intro; refine ⟨fun u hu _ => ?_, ?_⟩; focus (go_simp; rfl)
  (with_reducible refine grow_q (by kernel_rfl) ?_); apply Exists.intro; refine ⟨fun u hu _ => ?_, ?_⟩; focus (have c := (Ext.cell hu C0.out); go_simp; rfl)
  (with_reducible refine grow_q (by kernel_rfl) ?_); apply Exists.intro; refine ⟨fun u hu _ => ?_, ?_⟩; focus (go_simp; rfl)
  (with_reducible refine grow_q (by kernel_rfl) ?_); apply Exists.intro; refine ⟨fun u hu _ => ?_, ?_⟩; focus (go_simp; rfl)
  (with_reducible refine grow_q (by kernel_rfl) ?_); apply Exists.intro; refine ⟨fun u hu _ => ?_, ?_⟩; focus (go_simp; rfl)
  (with_reducible refine grow_q (by kernel_rfl) ?_); apply Exists.intro; refine ⟨fun u hu _ => ?_, ?_⟩; focus (go_simp; rfl)
  (with_reducible refine grow_q (by kernel_rfl) ?_); apply Exists.intro; refine ⟨fun u hu _ => ?_, ?_⟩; focus (have c := (Ext.cell hu C4.out); go_simp; rfl)
  (with_reducible refine grow_q (by kernel_rfl) ?_); apply Exists.intro; refine ⟨fun u hu _ => ?_, ?_⟩; focus (go_simp; rfl)
  (with_reducible refine grow_q (by kernel_rfl) ?_); apply Exists.intro; refine ⟨fun u hu _ => ?_, ?_⟩; focus (go_simp; rfl)
  (with_reducible refine grow_q (by kernel_rfl) ?_); apply Exists.intro; refine ⟨fun u hu _ => ?_, ?_⟩; focus (go_simp; rfl)
  (with_reducible refine grow_q (by kernel_rfl) ?_); apply Exists.intro; refine ⟨fun u hu _ => ?_, ?_⟩; focus (go_simp; rfl)
  (with_reducible refine grow_q (by kernel_rfl) ?_); apply Exists.intro; refine ⟨fun u hu _ => ?_, ?_⟩; focus (go_simp; rfl)
  (with_reducible refine grow_q (by kernel_rfl) ?_); apply Exists.intro; refine ⟨fun u hu _ => ?_, ?_⟩; focus (go_simp; rfl)
  (with_reducible refine grow_q (by kernel_rfl) ?_); apply Exists.intro; refine ⟨fun u hu _ => ?_, ?_⟩; focus (go_simp; rfl)
  (with_reducible refine grow_q (by kernel_rfl) ?_); apply Exists.intro; refine ⟨fun u hu _ => ?_, ?_⟩; focus (have c := (Ext.cell hu C1.out); go_simp; rfl)
  (with_reducible refine grow_q (by kernel_rfl) ?_); apply Exists.intro; refine ⟨fun u hu _ => ?_, ?_⟩; focus (go_simp; rfl)
  (with_reducible refine grow_q (by kernel_rfl) ?_); apply Exists.intro; refine ⟨fun u hu _ => ?_, ?_⟩; focus (go_simp; rfl)
  (with_reducible refine grow_q (by kernel_rfl) ?_); apply Exists.intro; refine ⟨fun u hu _ => ?_, ?_⟩; focus (go_simp; rfl)
  (with_reducible refine grow_q (by kernel_rfl) ?_); apply Exists.intro; refine ⟨fun u hu _ => ?_, ?_⟩; focus (go_simp; rfl)
  (with_reducible refine grow_q (by kernel_rfl) ?_); apply Exists.intro; refine ⟨fun u hu _ => ?_, ?_⟩; focus (have c := (Ext.cell hu C5.out); go_simp; rfl)
  (with_reducible refine grow_q (by kernel_rfl) ?_); apply Exists.intro; refine ⟨fun u hu _ => ?_, ?_⟩; focus (go_simp; rfl)
  (with_reducible refine grow_q (by kernel_rfl) ?_); apply Exists.intro; refine ⟨fun u hu _ => ?_, ?_⟩; focus (go_simp; rfl)
  (with_reducible refine grow_q (by kernel_rfl) ?_); apply Exists.intro; refine ⟨fun u hu _ => ?_, ?_⟩; focus (go_simp; rfl)
  (with_reducible refine grow_q (by kernel_rfl) ?_); apply Exists.intro; refine ⟨fun u hu _ => ?_, ?_⟩; focus (go_simp; rfl)
  (with_reducible refine grow_q (by kernel_rfl) ?_); apply Exists.intro; refine ⟨fun u hu _ => ?_, ?_⟩; focus (go_simp; rfl)
  (with_reducible refine grow_q (by kernel_rfl) ?_); apply Exists.intro; refine ⟨fun u hu _ => ?_, ?_⟩; focus (go_simp; rfl)
  (with_reducible refine grow_q (by kernel_rfl) ?_); apply Exists.intro; refine ⟨fun u hu _ => ?_, ?_⟩; focus (go_simp; rfl)
  (with_reducible refine grow_q (by kernel_rfl) ?_); apply Exists.intro; refine ⟨fun u hu _ => ?_, ?_⟩; focus (have c := (Ext.cell hu C2.out); go_simp; rfl)
  (with_reducible refine grow_q (by kernel_rfl) ?_); apply Exists.intro; refine ⟨fun u hu _ => ?_, ?_⟩; focus (go_simp; rfl)
  (with_reducible refine grow_q (by kernel_rfl) ?_); apply Exists.intro; refine ⟨fun u hu _ => ?_, ?_⟩; focus (go_simp; rfl)
  (with_reducible refine grow_q (by kernel_rfl) ?_); apply Exists.intro; refine ⟨fun u hu _ => ?_, ?_⟩; focus (go_simp; rfl)
  (with_reducible refine grow_q (by kernel_rfl) ?_); apply Exists.intro; refine ⟨fun u hu _ => ?_, ?_⟩; focus (go_simp; rfl)
  (with_reducible refine grow_q (by kernel_rfl) ?_); apply Exists.intro; refine ⟨fun u hu _ => ?_, ?_⟩; focus (have c := (Ext.cell hu C6.out); go_simp; rfl)
  (with_reducible refine grow_q (by kernel_rfl) ?_); apply Exists.intro; refine ⟨fun u hu _ => ?_, ?_⟩; focus (go_simp; rfl)
  (with_reducible refine grow_q (by kernel_rfl) ?_); apply Exists.intro; refine ⟨fun u hu _ => ?_, ?_⟩; focus (go_simp; rfl)
  refine grow_nil (fun w4 hw4 _ => ?_)
  have HX4 := Lib.hid hw4
  clear hw4
  go_simp
  clear hnn
  obtain ⟨⟨c0, c1, c2, c3, c4, c5, c6, c7, c8, c9, c10, c11, c12, c13⟩, _⟩ := block14 (HX4.out.block HP.out)
  go_wp2
  clear c0 c1 c2 c3 c4 c5 c6 c7 c8 c9 c10 c11 c12 c13
  go_loopw [61] (fun i wr => ∃ k : Nat, k ≤ n ∧ i = .int .i64 k ∧ upB xs xs' k ∧ Ext w wr) (fun i _ => n - (intOf i).toNat)
  case atStart => exact ⟨0, Nat.zero_le _, rfl, fun j hj => by omega, HX4.out⟩
  case round =>
    obtain ⟨i, hi, rfl, hup, hE⟩ := hrel
    have HU := Lib.hid hup
    have HE := Lib.hid hE
    clear hup hE HX4
    obtain ⟨⟨c0, c1, c2, c3, c4, c5, c6, c7, c8, c9, c10, c11, c12, c13⟩, _⟩ := block14 (HE.out.block HP.out)
    by_cases hlt : i < n
    · have hc := (HA.out.ext HE.out).ofFlts i (by rw [HZ.out]; exact hlt)
      have hc' := (HA'.out.ext HE.out).ofFlts i (by rw [HZ'.out, HNN.out]; exact hlt)
      have hin' : i < n' := by rw [HNN.out]; exact hlt
      rw [List.getD_eq_getElem?_getD] at hc hc'
      have HNO1 : Hid (phB (xs[i]?.getD 0) = false → (xs.all phB && xs'.all finB) = false) := all_no1 (by rw [HZ.out]; exact hlt)
      have HNO2 : Hid (finB (xs'[i]?.getD 0) = false → (xs.all phB && xs'.all finB) = false) := all_no2 (by rw [HZ'.out]; exact hin')
      have HUP : Hid (phB (xs[i]?.getD 0) = true → finB (xs'[i]?.getD 0) = true → upB xs xs' (i + 1)) := fun h1 h2 j hj => by
        by_cases e : j = i
        · subst e; exact ⟨h1, h2⟩
        · exact HU.out j (by omega)
      generalize xs[i]?.getD 0 = x at *
      generalize xs'[i]?.getD 0 = y at *
      cases hg0 : ge0 x with
      | false =>
        have HA0 := Lib.hid (HNO1.out (by simp [phB, hg0]))
        unfold ge0 at hg0
        go_wp2
        go_ret
        exact ⟨by rw [HM.out, HA0.out]; rfl, HE.out⟩
      | true =>
        cases hg1 : gt1 x with
        | true =>
          have HA0 := Lib.hid (HNO1.out (by simp [phB, hg1]))
          unfold ge0 at hg0
          unfold gt1 at hg1
          go_wp2
          go_ret
          exact ⟨by rw [HM.out, HA0.out]; rfl, HE.out⟩
        | false =>
          have HA1 : Hid (phB x = true) := by show _ = _; simp [phB, hg0, hg1]
          unfold ge0 at hg0
          unfold gt1 at hg1
          go_wp2_with fail
          refine (l01Finite_any y _).mono ?_
          cases hf : finB y with
          | false =>
            have HA0 := Lib.hid (HNO2.out hf)
            rintro e w5 ⟨rfl, hX5⟩
            clear c0 c1 c2 c3 c4 c5 c6 c7 c8 c9 c10 c11 c12 c13
            clear hg0 hg1 hf hc hc'
            go_wp2
            go_ret
            exact ⟨by rw [HM.out, HA0.out]; rfl, HE.out.trans hX5⟩
          | true =>
            have HA0 := Lib.hid (HUP.out HA1.out hf)
            rintro e w5 ⟨rfl, hX5⟩
            have HE5 := Lib.hid (HE.out.trans hX5)
            clear c0 c1 c2 c3 c4 c5 c6 c7 c8 c9 c10 c11 c12 c13
            clear hg0 hg1 hf hc hc' hX5 HE
            go_wp2
            go_roundw
            case rel => exact ⟨i + 1, by omega, by go_num, HA0.out, HE5.out⟩
            case measure => simp [intOf]; omega
    · obtain rfl : i = n := by omega
      have HALL := Lib.hid (upB_all HZ.out (by rw [HZ'.out, HNN.out]) HU.out)
      have HM2 : Hid (vldM W H R i W H R n' xs xs' f1 f2 f3 f4 f5 k = (four f1 f2 f3 f4 && lastB f5 k)) := by show _ = _; rw [HM.out, HALL.out]; rfl
      clear HM HALL
      have HE1 := Lib.hid HE.out
      clear HE
      go_wp2_with fail
      clear c0 c1 c2 c3 c4 c5 c6 c7 c8 c9 c10 c11 c12 c13
      refine (l03Least_any f1 _).mono ?_
      cases q1 : leB f1 with
      | false =>
        have HN : Hid ((four f1 f2 f3 f4 && lastB f5 k) = false) := by show _ = _; simp [four, q1]
        rintro e w6 ⟨rfl, hX6⟩
        go_wp2
        go_ret
        exact ⟨by rw [HM2.out, HN.out]; rfl, HE1.out.trans hX6⟩
      | true =>
        rintro e w6 ⟨rfl, hX6⟩
        have HE2 := Lib.hid (HE1.out.trans hX6)
        have Q1 := Lib.hid q1
        clear q1 hX6
        obtain ⟨⟨c0, c1, c2, c3, c4, c5, c6, c7, c8, c9, c10, c11, c12, c13⟩, _⟩ := block14 (HE2.out.block HP.out)
        go_wp2_with fail
        clear c0 c1 c2 c3 c4 c5 c6 c7 c8 c9 c10 c11 c12 c13
        refine (l03Least_any f2 _).mono ?_
        cases q2 : leB f2 with
        | false =>
          have HN : Hid ((four f1 f2 f3 f4 && lastB f5 k) = false) := by show _ = _; simp [four, q2]
          rintro e w7 ⟨rfl, hX7⟩
          go_wp2
          go_ret
          exact ⟨by rw [HM2.out, HN.out]; rfl, HE2.out.trans hX7⟩
        | true =>
          rintro e w7 ⟨rfl, hX7⟩
          have HE3 := Lib.hid (HE2.out.trans hX7)
          have Q2 := Lib.hid q2
          clear q2 hX7
          obtain ⟨⟨c0, c1, c2, c3, c4, c5, c6, c7, c8, c9, c10, c11, c12, c13⟩, _⟩ := block14 (HE3.out.block HP.out)
          go_wp2_with fail
          clear c0 c1 c2 c3 c4 c5 c6 c7 c8 c9 c10 c11 c12 c13
          refine (l03Least_any f3 _).mono ?_
          cases q3 : leB f3 with
          | false =>
            have HN : Hid ((four f1 f2 f3 f4 && lastB f5 k) = false) := by show _ = _; simp [four, q3]
            rintro e w8 ⟨rfl, hX8⟩
            go_wp2
            go_ret
            exact ⟨by rw [HM2.out, HN.out]; rfl, HE3.out.trans hX8⟩
          | true =>
            rintro e w8 ⟨rfl, hX8⟩
            have HE4 := Lib.hid (HE3.out.trans hX8)
            have Q3 := Lib.hid q3
            clear q3 hX8
            obtain ⟨⟨c0, c1, c2, c3, c4, c5, c6, c7, c8, c9, c10, c11, c12, c13⟩, _⟩ := block14 (HE4.out.block HP.out)
            go_wp2_with fail
            clear c0 c1 c2 c3 c4 c5 c6 c7 c8 c9 c10 c11 c12 c13
            refine (l03Least_any f4 _).mono ?_
            cases q4 : leB f4 with
            | false =>
              have HN : Hid ((four f1 f2 f3 f4 && lastB f5 k) = false) := by show _ = _; simp [four, q4]
              rintro e w9 ⟨rfl, hX9⟩
              go_wp2
              go_ret
              exact ⟨by rw [HM2.out, HN.out]; rfl, HE4.out.trans hX9⟩
            | true =>
              rintro e w9 ⟨rfl, hX9⟩
              have HE5 := Lib.hid (HE4.out.trans hX9)
              have Q4 := Lib.hid q4
              clear q4 hX9
              obtain ⟨⟨c0, c1, c2, c3, c4, c5, c6, c7, c8, c9, c10, c11, c12, c13⟩, _⟩ := block14 (HE5.out.block HP.out)
              have HL : Hid ((four f1 f2 f3 f4 && lastB f5 k) = lastB f5 k) := by show _ = _; simp [four, Q1.out, Q2.out, Q3.out, Q4.out]
              cases h5 : ge0 f5 with
              | false =>
                have HN : Hid (lastB f5 k = false) := by show _ = _; simp [lastB, h5]
                unfold ge0 at h5
                go_wp2
                go_ret
                exact ⟨by rw [HM2.out, HL.out, HN.out]; rfl, HE5.out⟩
              | true =>
                cases h6 : lt1 f5 with
                | false =>
                  have HN : Hid (lastB f5 k = false) := by show _ = _; simp [lastB, h6]
                  unfold ge0 at h5
                  unfold lt1 at h6
                  go_wp2
                  go_ret
                  exact ⟨by rw [HM2.out, HL.out, HN.out]; rfl, HE5.out⟩
                | true =>
                  have HN : Hid (lastB f5 k = inB k 1 8) := by show _ = _; simp [lastB, h5, h6]
                  unfold ge0 at h5
                  unfold lt1 at h6
                  go_wp2_with (go_at_call 151; refine (l00In_any _ _ _ _).mono ?_; rintro e w' ⟨rfl, rfl⟩)
                  go_ret
                  exact ⟨by rw [HM2.out, HL.out, HN.out]; rfl, HE5.out⟩

theorem l03Is_any (p : Nat) (W H : Int) (R : Bool) (a : Option Addr) (n c : Nat) (W' H' : Int) (R' : Bool) (a' : Option Addr) (n' c' : Nat) (f1 f2 f3 f4 f5 : Nat) (k : Int) (xs xs' : List Nat) (hz : xs.length = n) (hz' : xs'.length = n') (hn : n ≤ 1048576) (hn' : n' ≤ 1048576) (w : World) (hp : w.heap[p]? = some (.cells #[.int .i64 W, .int .i64 H, .bool R, .slice a n c, .int .i64 W', .int .i64 H', .bool R', .slice a' n' c', .float .f32 f1, .float .f32 f2, .float .f32 f3, .float .f32 f4, .float .f32 f5, .int .i64 k] 62 (0, 0))) (hA : VArr w a (flts xs)) (hA' : VArr w a' (flts xs')) :
    Calls Try.prog 103 #[.pointer (some ⟨p, 0, none⟩)] w fun e w' => e = .returned (.bool (vldM W H R n W' H' R' n' xs xs' f1 f2 f3 f4 f5 k)) ∧ Ext w w' := by
  cases ht : twoB W H R n W' H' R' n' with
  | false =>
    have hm : vldM W H R n W' H' R' n' xs xs' f1 f2 f3 f4 f5 k = false := by simp [vldM, ht]
    rw [hm]
    exact l03Is_no p W H R a n c W' H' R' a' n' c' f1 f2 f3 f4 f5 k hn hn' ht w hp
  | true => exact l03Is_yes p W H R a n c W' H' R' a' n' c' f1 f2 f3 f4 f5 k xs xs' hz hz' hn hn' ht w hp hA hA'
end Go.Proofs.Ytajfpjggdbifjaa
