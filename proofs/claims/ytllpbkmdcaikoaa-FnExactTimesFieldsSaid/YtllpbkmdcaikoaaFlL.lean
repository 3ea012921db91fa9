/-
  The reference's AddFields, LessFields, TimesFields.
-/
import Derived.Test.YtllpbkmdcaikoaaFlK
namespace Go.Proofs.Ytllpbkmdcaikoaa
open Go.RowKit
set_option linter.unusedVariables false
set_option linter.unusedSimpArgs false
set_option linter.unnecessarySimpa false

set_option maxRecDepth 100000 in
set_option maxHeartbeats 2000000 in
theorem specAdd_any (W H : Int) (R : Bool) (W' H' : Int) (R' : Bool) (a a' : Option Addr) (n c n' c' : Nat) (zs zs' : List Nat) (hz : zs.length = n) (hz' : zs'.length = n') (hn : n ≤ 1048576) (hn' : n' ≤ 1048576) (w : World) (hA : VArr w a (flts zs)) (hA' : VArr w a' (flts zs')) :
    Calls Try.prog 27 #[.agg #[.int .i64 W, .int .i64 H, .bool R, .slice a n c], .agg #[.int .i64 W', .int .i64 H', .bool R', .slice a' n' c']] w (keepF w (twoB W H R n W' H' R' n') W H R (gridF W.toNat (bothG (fop .add .f32) W H R (fas zs) (fas zs')) (H.toNat * W.toNat))) := by
  obtain ⟨i0, hi, hz0, hz1, hz2⟩ := info_parts info32
  have hX : Ext w (((w.alloc (.cells #[.int .i64 W, .int .i64 H, .bool R, .slice a n c] 27)).alloc (.cells #[.int .i64 W', .int .i64 H', .bool R', .slice a' n' c'] 27)).alloc (.cells #[.int .i64 0, .int .i64 0, .bool false, .slice none 0 0] 27)) := (((Ext.refl w).alloc _).alloc _).alloc _
  have b0 := heap_mid3 w (.cells #[.int .i64 W, .int .i64 H, .bool R, .slice a n c] 27) (.cells #[.int .i64 W', .int .i64 H', .bool R', .slice a' n' c'] 27) (.cells #[.int .i64 0, .int .i64 0, .bool false, .slice none 0 0] 27)
  have b1 := heap_mid2 w (.cells #[.int .i64 W, .int .i64 H, .bool R, .slice a n c] 27) (.cells #[.int .i64 W', .int .i64 H', .bool R', .slice a' n' c'] 27) (.cells #[.int .i64 0, .int .i64 0, .bool false, .slice none 0 0] 27)
  have b2 := heap_new2 w (.cells #[.int .i64 W, .int .i64 H, .bool R, .slice a n c] 27) (.cells #[.int .i64 W', .int .i64 H', .bool R', .slice a' n' c'] 27) (.cells #[.int .i64 0, .int .i64 0, .bool false, .slice none 0 0] 27)
  have hA1 := hA.ext hX
  have hA1' := hA'.ext hX
  go_enter Try.func27, Try.ntmps27
  go_wp2_with fail
  refine (l02Two_any _ _ W H W' H' R R' a a' n c n' c' hn hn' _ (FldAt.box b0) (FldAt.box b1)).mono ?_
  generalize ((w.alloc (.cells #[.int .i64 W, .int .i64 H, .bool R, .slice a n c] 27)).alloc (.cells #[.int .i64 W', .int .i64 H', .bool R', .slice a' n' c'] 27)).alloc (.cells #[.int .i64 0, .int .i64 0, .bool false, .slice none 0 0] 27) = w0 at *
  rintro e w1 ⟨rfl, hX1⟩
  cases hv : twoB W H R n W' H' R' n' with
  | false =>
    have HOK := Lib.hid hv
    obtain ⟨⟨d0, d1, d2, d3⟩, f0, f1, f2, f3⟩ := block4 (hX1.block b2)
    have HE := Lib.hid ((hX.trans hX1).fin4 (q := w.heap.size + 1 + 1) (by omega) (.int .i64 0) (.int .i64 0) (.bool false) (.slice none 0 0))
    clear hX hX1 b0 b1 b2 hA hA1 hA' hA1' hv hz hz'
    go_wp2
    refine bodyPost_ret (v := .tuple #[.agg #[.int .i64 0, .int .i64 0, .bool false, .slice none 0 0], .bool false]) ?_ rfl (keepF_no HOK.out (twoF_none HE.out))
    simp only [results, Try.results27]
    go_simp
  | true =>
    have HOK := Lib.hid hv
    obtain ⟨hv1, hv2, hal⟩ := twoB_iff.1 hv
    obtain ⟨rfl, rfl, rfl⟩ := alikeB_iff.1 hal
    obtain ⟨Wn, Hn, rfl, rfl, k1, k2, k3, k4, hnn, hn256⟩ := vldF_facts hv1
    have hnn' : n' = n := by
      have h1 := (vldF_iff.1 hv1).2
      have h2 := (vldF_iff.1 hv2).2
      omega
    subst hnn'
    have hn1 : 0 < n' := by rw [hnn]; exact Nat.mul_pos (by omega) (by omega)
    obtain ⟨b, o, rfl⟩ := hA.starts (i := 0) (by simp; omega)
    obtain ⟨b', o', rfl⟩ := hA'.starts (i := 0) (by simp; omega)
    have HNN := Lib.hid hnn
    have HV := Lib.hid hv1
    have HZ := Lib.hid hz
    have HZ' := Lib.hid hz'
    have HA := Lib.hid (hA1.ext hX1)
    have HA' := Lib.hid (hA1'.ext hX1)
    clear hv hv1 hv2 hal hnn hA hA1 hA' hA1' hz hz'
    obtain ⟨⟨c0, c1, c2, c3⟩, _⟩ := block4 (hX1.block b0)
    go_wp2_with fail
    refine (l02New_any Wn Hn R _).mono ?_
    rintro e w2 ⟨bb, rfl, hX2, hbb, hO⟩
    have hXa := (Ext.refl w2).alloc (.cells #[.int .i64 Wn, .int .i64 Hn, .bool R, .slice (some ⟨bb, 0, none⟩) 0 0] 27)
    have bq := heap_new w2 (.cells #[.int .i64 Wn, .int .i64 Hn, .bool R, .slice (some ⟨bb, 0, none⟩) 0 0] 27)
    have hq : w1.heap.size ≤ w2.heap.size := hX2.size
    have hr : w.heap.size + 1 + 1 < w1.heap.size := lt_of_block (hX1.block b2)
    have hw : w.heap.size ≤ w1.heap.size := (hX.trans hX1).size
    have F0 : FillF w1 (w.heap.size + 1 + 1) w2.heap.size Wn Hn R [] (w2.alloc (.cells #[.int .i64 Wn, .int .i64 Hn, .bool R, .slice (some ⟨bb, 0, none⟩) 0 0] 27)) 0 :=
      ⟨hX2.trans hXa, hXa.block (hX2.block (hX1.block b2)), _, 0, bq, ownsRow_ext hO hXa⟩
    have HP := Lib.hid (hX1.block b0)
    have HP' := Lib.hid (hX1.block b1)
    have HX := Lib.hid (hX.trans hX1)
    clear hX hX1 hX2 hXa b0 b1 b2 bq hO hbb c0 c1 c2 c3
    go_wp2
    generalize w2.alloc (.cells #[.int .i64 Wn, .int .i64 Hn, .bool R, .slice (some ⟨bb, 0, none⟩) 0 0] 27) = w3 at *
    generalize w2.heap.size = q at *
    go_loopw [7] (fun i wr => ∃ (k : Nat) (xs : List Nat), k ≤ n' ∧ i = .int .i64 k ∧ fas xs = gridF Wn (bothG (fop .add .f32) Wn Hn R (fas zs) (fas zs')) k ∧ FillF w1 (w.heap.size + 1 + 1) q Wn Hn R xs wr k) (fun i _ => n' - (intOf i).toNat)
    case atStart => exact ⟨0, [], Nat.zero_le _, rfl, rfl, F0⟩
    case round =>
      obtain ⟨k, xs, hk, rfl, hxs, hF⟩ := hrel
      clear F0
      have HXS := Lib.hid hxs
      clear hxs
      obtain ⟨hX, hR, a2, c2, hB, hO⟩ := hF
      have hP := hX.block HP.out
      have hP' := hX.block HP'.out
      obtain ⟨⟨c0, c1, c2', c3⟩, _⟩ := block4 hP
      by_cases hlt : k < n'
      · have HGN : Hid (gridF Wn (bothG (fop .add .f32) Wn Hn R (fas zs) (fas zs')) (k + 1) = gridF Wn (bothG (fop .add .f32) Wn Hn R (fas zs) (fas zs')) k ++ [fop .add .f32 (fa .f32 (zs[k]?.getD 0)) (fa .f32 (zs'[k]?.getD 0))]) := by
          show _ = _
          rw [gridF_next]
          unfold bothG
          rw [aboutV_cell R _ k1 (by rw [← HNN.out]; exact hlt), aboutV_cell R _ k1 (by rw [← HNN.out]; exact hlt), fas_at rfl (by rw [HZ.out]; exact hlt), fas_at rfl (by rw [HZ'.out]; exact hlt)]
        have hca := (HA.out.ext hX).ofFlts k (by rw [HZ.out]; exact hlt)
        have hcb := (HA'.out.ext hX).ofFlts k (by rw [HZ'.out]; exact hlt)
        rw [List.getD_eq_getElem?_getD] at hca hcb
        generalize zs[k]?.getD 0 = za at *
        generalize zs'[k]?.getD 0 = zb at *
        go_wp2_with fail
        refine region_grow_tail 14 (C := Ext wr) (K := fun f args V _ => True) ⟨fun _ _ h k => h.trans k, fun _ _ _ _ _ h _ => h⟩ (by kernel_rfl) (by kernel_rfl) ((Ext.refl wr).drew) ?_
        simp only [List.take_succ_cons, List.take_zero, List.drop_succ_cons, List.drop_zero]
        iterate 12 (refine grow_q rfl ?_; apply Exists.intro; refine ⟨fun u' hu' _ => ?_, ?_⟩; focus (obtain ⟨⟨c0, c1, c2, c3⟩, _⟩ := block4 (hu'.block hP); obtain ⟨⟨d0, d1, d2, d3⟩, _⟩ := block4 (hu'.block hP'); obtain ⟨⟨e0, e1, e2, e3⟩, _⟩ := block4 (hu'.block hB); have g0 := hu'.cell hca; have g1 := hu'.cell hcb; go_simp; rfl))
        refine grow_f .f32 rfl ⟨_, _, fun u hu _ => (by go_simp; exact ⟨rfl, rfl⟩), _, fun u => fa_frr _ _ _ _ u, fun z hz' => ?_⟩
        refine grow_newB (mk := fun b => .slice (some ⟨b, 0, none⟩) 1 1) (ob := .cells #[.float .f32 z] 30) wr.heap.size rfl (fun b b' h => by simpa using h) (fun u hu => hu.size) (fun u _ _ => ?_) (fun nb hnb => ?_)
        · go_simp
        refine grow_nil (fun w4 hw4 hh => ?_)
        obtain ⟨_, hb3⟩ := hh
        have HZV := Lib.hid hz'
        clear hz'
        have HXu := Lib.hid (hX.trans hw4)
        have HRu := Lib.hid (hw4.block hR)
        have HBu := Lib.hid (hw4.block hB)
        have HOu := Lib.hid (ownsRow_ext hO hw4)
        clear hX hP hP' hR hB hO hw4 c0 c1 c2' c3 hca hcb
        have HU := Lib.hid HXu.out.size
        go_simp
        go_wp2_with (at_builtin; refine wpList_append_own _ rfl _ _ 22 rfl w1.heap.size 30 i0 (.float .f32 0) 1 4 Try.underlying22 hi hz0 hz1 hz2 rfl (by decide) (.slice a2 k c2) k (flts xs) rfl HOu.out ⟨nb, 0, none⟩ 1 1 [.float .f32 z] rfl rfl ?c1 ?c2 ?c3 ?c4 ?c5 ?_)
        case c1 => exact cell_one_at hb3
        case c2 => intro u hu; simp at hu; subst hu; rfl
        case c3 => unfold maxLen; omega
        case c4 => omega
        case c5 => exact HU.out
        intro v' w5 hown hg _
        obtain ⟨a3, c3', rfl⟩ := ownsRow_shape hown
        have HOWN := Lib.hid hown
        have HG := Lib.hid hg
        clear hown hg
        have hb4 := FillF.cellAt HXu.out HBu.out HOu.out HG.out
        obtain ⟨⟨_, _, _, c3⟩, _, _, _, f3⟩ := block4 hb4
        clear hb4
        go_wp2
        go_roundw
        case rel =>
          refine ⟨k + 1, xs ++ [z], by omega, by go_num, ?_, FillF.push HXu.out (by omega) (by omega) HRu.out HBu.out HOu.out HOWN.out HG.out⟩
          rw [HGN.out, fas_append, HXS.out]; exact congrArg (fun q => gridF Wn (bothG (fop .add .f32) Wn Hn R (fas zs) (fas zs')) k ++ [q]) HZV.out
        case measure => simp [intOf]; omega
      · obtain rfl : k = n' := by omega
        obtain ⟨⟨e0, e1, e2, e3⟩, _⟩ := block4 hB
        obtain ⟨⟨d0, d1, d2, d3⟩, f0, f1, f2, f3⟩ := block4 hR
        obtain ⟨HE, HO⟩ := stored4 (T := 27) (u0 := .int .i64 Wn) (u1 := .int .i64 Hn) (u2 := .bool R) (u3 := .slice a2 k c2) (HX.out.trans hX) (by decide) (by omega) hR hO
        have HE' := Lib.hid HE
        have HO' := Lib.hid (ownsRow_mono HO hw)
        clear hX hP hP' hR hB hO HE HO
        go_wp2
        refine bodyPost_ret (v := .tuple #[.agg #[.int .i64 Wn, .int .i64 Hn, .bool R, .slice a2 k c2], .bool true]) ?_ rfl (keepF_yes HOK.out ⟨a2, _, c2, xs, rfl, HE'.out, HO'.out, ?_, by omega, ?_⟩)
        · simp only [results, Try.results27]
          go_simp
        · have h := congrArg List.length HXS.out
          simpa using h
        · simp only [Int.toNat_natCast]
          rw [← HNN.out]
          exact HXS.out

set_option maxRecDepth 100000 in
set_option maxHeartbeats 2000000 in
theorem specLess_any (W H : Int) (R : Bool) (W' H' : Int) (R' : Bool) (a a' : Option Addr) (n c n' c' : Nat) (zs zs' : List Nat) (hz : zs.length = n) (hz' : zs'.length = n') (hn : n ≤ 1048576) (hn' : n' ≤ 1048576) (w : World) (hA : VArr w a (flts zs)) (hA' : VArr w a' (flts zs')) :
    Calls Try.prog 31 #[.agg #[.int .i64 W, .int .i64 H, .bool R, .slice a n c], .agg #[.int .i64 W', .int .i64 H', .bool R', .slice a' n' c']] w (keepF w (twoB W H R n W' H' R' n') W H R (gridF W.toNat (bothG (fop .sub .f32) W H R (fas zs) (fas zs')) (H.toNat * W.toNat))) := by
  obtain ⟨i0, hi, hz0, hz1, hz2⟩ := info_parts info32
  have hX : Ext w (((w.alloc (.cells #[.int .i64 W, .int .i64 H, .bool R, .slice a n c] 27)).alloc (.cells #[.int .i64 W', .int .i64 H', .bool R', .slice a' n' c'] 27)).alloc (.cells #[.int .i64 0, .int .i64 0, .bool false, .slice none 0 0] 27)) := (((Ext.refl w).alloc _).alloc _).alloc _
  have b0 := heap_mid3 w (.cells #[.int .i64 W, .int .i64 H, .bool R, .slice a n c] 27) (.cells #[.int .i64 W', .int .i64 H', .bool R', .slice a' n' c'] 27) (.cells #[.int .i64 0, .int .i64 0, .bool false, .slice none 0 0] 27)
  have b1 := heap_mid2 w (.cells #[.int .i64 W, .int .i64 H, .bool R, .slice a n c] 27) (.cells #[.int .i64 W', .int .i64 H', .bool R', .slice a' n' c'] 27) (.cells #[.int .i64 0, .int .i64 0, .bool false, .slice none 0 0] 27)
  have b2 := heap_new2 w (.cells #[.int .i64 W, .int .i64 H, .bool R, .slice a n c] 27) (.cells #[.int .i64 W', .int .i64 H', .bool R', .slice a' n' c'] 27) (.cells #[.int .i64 0, .int .i64 0, .bool false, .slice none 0 0] 27)
  have hA1 := hA.ext hX
  have hA1' := hA'.ext hX
  go_enter Try.func31, Try.ntmps31
  go_wp2_with fail
  refine (l02Two_any _ _ W H W' H' R R' a a' n c n' c' hn hn' _ (FldAt.box b0) (FldAt.box b1)).mono ?_
  generalize ((w.alloc (.cells #[.int .i64 W, .int .i64 H, .bool R, .slice a n c] 27)).alloc (.cells #[.int .i64 W', .int .i64 H', .bool R', .slice a' n' c'] 27)).alloc (.cells #[.int .i64 0, .int .i64 0, .bool false, .slice none 0 0] 27) = w0 at *
  rintro e w1 ⟨rfl, hX1⟩
  cases hv : twoB W H R n W' H' R' n' with
  | false =>
    have HOK := Lib.hid hv
    obtain ⟨⟨d0, d1, d2, d3⟩, f0, f1, f2, f3⟩ := block4 (hX1.block b2)
    have HE := Lib.hid ((hX.trans hX1).fin4 (q := w.heap.size + 1 + 1) (by omega) (.int .i64 0) (.int .i64 0) (.bool false) (.slice none 0 0))
    clear hX hX1 b0 b1 b2 hA hA1 hA' hA1' hv hz hz'
    go_wp2
    refine bodyPost_ret (v := .tuple #[.agg #[.int .i64 0, .int .i64 0, .bool false, .slice none 0 0], .bool false]) ?_ rfl (keepF_no HOK.out (twoF_none HE.out))
    simp only [results, Try.results31]
    go_simp
  | true =>
    have HOK := Lib.hid hv
    obtain ⟨hv1, hv2, hal⟩ := twoB_iff.1 hv
    obtain ⟨rfl, rfl, rfl⟩ := alikeB_iff.1 hal
    obtain ⟨Wn, Hn, rfl, rfl, k1, k2, k3, k4, hnn, hn256⟩ := vldF_facts hv1
    have hnn' : n' = n := by
      have h1 := (vldF_iff.1 hv1).2
      have h2 := (vldF_iff.1 hv2).2
      omega
    subst hnn'
    have hn1 : 0 < n' := by rw [hnn]; exact Nat.mul_pos (by omega) (by omega)
    obtain ⟨b, o, rfl⟩ := hA.starts (i := 0) (by simp; omega)
    obtain ⟨b', o', rfl⟩ := hA'.starts (i := 0) (by simp; omega)
    have HNN := Lib.hid hnn
    have HV := Lib.hid hv1
    have HZ := Lib.hid hz
    have HZ' := Lib.hid hz'
    have HA := Lib.hid (hA1.ext hX1)
    have HA' := Lib.hid (hA1'.ext hX1)
    clear hv hv1 hv2 hal hnn hA hA1 hA' hA1' hz hz'
    obtain ⟨⟨c0, c1, c2, c3⟩, _⟩ := block4 (hX1.block b0)
    go_wp2_with fail
    refine (l02New_any Wn Hn R _).mono ?_
    rintro e w2 ⟨bb, rfl, hX2, hbb, hO⟩
    have hXa := (Ext.refl w2).alloc (.cells #[.int .i64 Wn, .int .i64 Hn, .bool R, .slice (some ⟨bb, 0, none⟩) 0 0] 27)
    have bq := heap_new w2 (.cells #[.int .i64 Wn, .int .i64 Hn, .bool R, .slice (some ⟨bb, 0, none⟩) 0 0] 27)
    have hq : w1.heap.size ≤ w2.heap.size := hX2.size
    have hr : w.heap.size + 1 + 1 < w1.heap.size := lt_of_block (hX1.block b2)
    have hw : w.heap.size ≤ w1.heap.size := (hX.trans hX1).size
    have F0 : FillF w1 (w.heap.size + 1 + 1) w2.heap.size Wn Hn R [] (w2.alloc (.cells #[.int .i64 Wn, .int .i64 Hn, .bool R, .slice (some ⟨bb, 0, none⟩) 0 0] 27)) 0 :=
      ⟨hX2.trans hXa, hXa.block (hX2.block (hX1.block b2)), _, 0, bq, ownsRow_ext hO hXa⟩
    have HP := Lib.hid (hX1.block b0)
    have HP' := Lib.hid (hX1.block b1)
    have HX := Lib.hid (hX.trans hX1)
    clear hX hX1 hX2 hXa b0 b1 b2 bq hO hbb c0 c1 c2 c3
    go_wp2
    generalize w2.alloc (.cells #[.int .i64 Wn, .int .i64 Hn, .bool R, .slice (some ⟨bb, 0, none⟩) 0 0] 27) = w3 at *
    generalize w2.heap.size = q at *
    go_loopw [7] (fun i wr => ∃ (k : Nat) (xs : List Nat), k ≤ n' ∧ i = .int .i64 k ∧ fas xs = gridF Wn (bothG (fop .sub .f32) Wn Hn R (fas zs) (fas zs')) k ∧ FillF w1 (w.heap.size + 1 + 1) q Wn Hn R xs wr k) (fun i _ => n' - (intOf i).toNat)
    case atStart => exact ⟨0, [], Nat.zero_le _, rfl, rfl, F0⟩
    case round =>
      obtain ⟨k, xs, hk, rfl, hxs, hF⟩ := hrel
      clear F0
      have HXS := Lib.hid hxs
      clear hxs
      obtain ⟨hX, hR, a2, c2, hB, hO⟩ := hF
      have hP := hX.block HP.out
      have hP' := hX.block HP'.out
      obtain ⟨⟨c0, c1, c2', c3⟩, _⟩ := block4 hP
      by_cases hlt : k < n'
      · have HGN : Hid (gridF Wn (bothG (fop .sub .f32) Wn Hn R (fas zs) (fas zs')) (k + 1) = gridF Wn (bothG (fop .sub .f32) Wn Hn R (fas zs) (fas zs')) k ++ [fop .sub .f32 (fa .f32 (zs[k]?.getD 0)) (fa .f32 (zs'[k]?.getD 0))]) := by
          show _ = _
          rw [gridF_next]
          unfold bothG
          rw [aboutV_cell R _ k1 (by rw [← HNN.out]; exact hlt), aboutV_cell R _ k1 (by rw [← HNN.out]; exact hlt), fas_at rfl (by rw [HZ.out]; exact hlt), fas_at rfl (by rw [HZ'.out]; exact hlt)]
        have hca := (HA.out.ext hX).ofFlts k (by rw [HZ.out]; exact hlt)
        have hcb := (HA'.out.ext hX).ofFlts k (by rw [HZ'.out]; exact hlt)
        rw [List.getD_eq_getElem?_getD] at hca hcb
        generalize zs[k]?.getD 0 = za at *
        generalize zs'[k]?.getD 0 = zb at *
        go_wp2_with fail
        refine region_grow_tail 14 (C := Ext wr) (K := fun f args V _ => True) ⟨fun _ _ h k => h.trans k, fun _ _ _ _ _ h _ => h⟩ (by kernel_rfl) (by kernel_rfl) ((Ext.refl wr).drew) ?_
        simp only [List.take_succ_cons, List.take_zero, List.drop_succ_cons, List.drop_zero]
        iterate 12 (refine grow_q rfl ?_; apply Exists.intro; refine ⟨fun u' hu' _ => ?_, ?_⟩; focus (obtain ⟨⟨c0, c1, c2, c3⟩, _⟩ := block4 (hu'.block hP); obtain ⟨⟨d0, d1, d2, d3⟩, _⟩ := block4 (hu'.block hP'); obtain ⟨⟨e0, e1, e2, e3⟩, _⟩ := block4 (hu'.block hB); have g0 := hu'.cell hca; have g1 := hu'.cell hcb; go_simp; rfl))
        refine grow_f .f32 rfl ⟨_, _, fun u hu _ => (by go_simp; exact ⟨rfl, rfl⟩), _, fun u => fa_frr _ _ _ _ u, fun z hz' => ?_⟩
        refine grow_newB (mk := fun b => .slice (some ⟨b, 0, none⟩) 1 1) (ob := .cells #[.float .f32 z] 30) wr.heap.size rfl (fun b b' h => by simpa using h) (fun u hu => hu.size) (fun u _ _ => ?_) (fun nb hnb => ?_)
        · go_simp
        refine grow_nil (fun w4 hw4 hh => ?_)
        obtain ⟨_, hb3⟩ := hh
        have HZV := Lib.hid hz'
        clear hz'
        have HXu := Lib.hid (hX.trans hw4)
        have HRu := Lib.hid (hw4.block hR)
        have HBu := Lib.hid (hw4.block hB)
        have HOu := Lib.hid (ownsRow_ext hO hw4)
        clear hX hP hP' hR hB hO hw4 c0 c1 c2' c3 hca hcb
        have HU := Lib.hid HXu.out.size
        go_simp
        go_wp2_with (at_builtin; refine wpList_append_own _ rfl _ _ 22 rfl w1.heap.size 30 i0 (.float .f32 0) 1 4 Try.underlying22 hi hz0 hz1 hz2 rfl (by decide) (.slice a2 k c2) k (flts xs) rfl HOu.out ⟨nb, 0, none⟩ 1 1 [.float .f32 z] rfl rfl ?c1 ?c2 ?c3 ?c4 ?c5 ?_)
        case c1 => exact cell_one_at hb3
        case c2 => intro u hu; simp at hu; subst hu; rfl
        case c3 => unfold maxLen; omega
        case c4 => omega
        case c5 => exact HU.out
        intro v' w5 hown hg _
        obtain ⟨a3, c3', rfl⟩ := ownsRow_shape hown
        have HOWN := Lib.hid hown
        have HG := Lib.hid hg
        clear hown hg
        have hb4 := FillF.cellAt HXu.out HBu.out HOu.out HG.out
        obtain ⟨⟨_, _, _, c3⟩, _, _, _, f3⟩ := block4 hb4
        clear hb4
        go_wp2
        go_roundw
        case rel =>
          refine ⟨k + 1, xs ++ [z], by omega, by go_num, ?_, FillF.push HXu.out (by omega) (by omega) HRu.out HBu.out HOu.out HOWN.out HG.out⟩
          rw [HGN.out, fas_append, HXS.out]; exact congrArg (fun q => gridF Wn (bothG (fop .sub .f32) Wn Hn R (fas zs) (fas zs')) k ++ [q]) HZV.out
        case measure => simp [intOf]; omega
      · obtain rfl : k = n' := by omega
        obtain ⟨⟨e0, e1, e2, e3⟩, _⟩ := block4 hB
        obtain ⟨⟨d0, d1, d2, d3⟩, f0, f1, f2, f3⟩ := block4 hR
        obtain ⟨HE, HO⟩ := stored4 (T := 27) (u0 := .int .i64 Wn) (u1 := .int .i64 Hn) (u2 := .bool R) (u3 := .slice a2 k c2) (HX.out.trans hX) (by decide) (by omega) hR hO
        have HE' := Lib.hid HE
        have HO' := Lib.hid (ownsRow_mono HO hw)
        clear hX hP hP' hR hB hO HE HO
        go_wp2
        refine bodyPost_ret (v := .tuple #[.agg #[.int .i64 Wn, .int .i64 Hn, .bool R, .slice a2 k c2], .bool true]) ?_ rfl (keepF_yes HOK.out ⟨a2, _, c2, xs, rfl, HE'.out, HO'.out, ?_, by omega, ?_⟩)
        · simp only [results, Try.results31]
          go_simp
        · have h := congrArg List.length HXS.out
          simpa using h
        · simp only [Int.toNat_natCast]
          rw [← HNN.out]
          exact HXS.out

set_option maxRecDepth 100000 in
set_option maxHeartbeats 2000000 in
theorem specTimes_any (W H : Int) (R : Bool) (W' H' : Int) (R' : Bool) (a a' : Option Addr) (n c n' c' : Nat) (zs zs' : List Nat) (hz : zs.length = n) (hz' : zs'.length = n') (hn : n ≤ 1048576) (hn' : n' ≤ 1048576) (w : World) (hA : VArr w a (flts zs)) (hA' : VArr w a' (flts zs')) :
    Calls Try.prog 33 #[.agg #[.int .i64 W, .int .i64 H, .bool R, .slice a n c], .agg #[.int .i64 W', .int .i64 H', .bool R', .slice a' n' c']] w (keepF w (twoB W H R n W' H' R' n') W H R (gridF W.toNat (bothG (fop .mul .f32) W H R (fas zs) (fas zs')) (H.toNat * W.toNat))) := by
  obtain ⟨i0, hi, hz0, hz1, hz2⟩ := info_parts info32
  have hX : Ext w (((w.alloc (.cells #[.int .i64 W, .int .i64 H, .bool R, .slice a n c] 27)).alloc (.cells #[.int .i64 W', .int .i64 H', .bool R', .slice a' n' c'] 27)).alloc (.cells #[.int .i64 0, .int .i64 0, .bool false, .slice none 0 0] 27)) := (((Ext.refl w).alloc _).alloc _).alloc _
  have b0 := heap_mid3 w (.cells #[.int .i64 W, .int .i64 H, .bool R, .slice a n c] 27) (.cells #[.int .i64 W', .int .i64 H', .bool R', .slice a' n' c'] 27) (.cells #[.int .i64 0, .int .i64 0, .bool false, .slice none 0 0] 27)
  have b1 := heap_mid2 w (.cells #[.int .i64 W, .int .i64 H, .bool R, .slice a n c] 27) (.cells #[.int .i64 W', .int .i64 H', .bool R', .slice a' n' c'] 27) (.cells #[.int .i64 0, .int .i64 0, .bool false, .slice none 0 0] 27)
  have b2 := heap_new2 w (.cells #[.int .i64 W, .int .i64 H, .bool R, .slice a n c] 27) (.cells #[.int .i64 W', .int .i64 H', .bool R', .slice a' n' c'] 27) (.cells #[.int .i64 0, .int .i64 0, .bool false, .slice none 0 0] 27)
  have hA1 := hA.ext hX
  have hA1' := hA'.ext hX
  go_enter Try.func33, Try.ntmps33
  go_wp2_with fail
  refine (l02Two_any _ _ W H W' H' R R' a a' n c n' c' hn hn' _ (FldAt.box b0) (FldAt.box b1)).mono ?_
  generalize ((w.alloc (.cells #[.int .i64 W, .int .i64 H, .bool R, .slice a n c] 27)).alloc (.cells #[.int .i64 W', .int .i64 H', .bool R', .slice a' n' c'] 27)).alloc (.cells #[.int .i64 0, .int .i64 0, .bool false, .slice none 0 0] 27) = w0 at *
  rintro e w1 ⟨rfl, hX1⟩
  cases hv : twoB W H R n W' H' R' n' with
  | false =>
    have HOK := Lib.hid hv
    obtain ⟨⟨d0, d1, d2, d3⟩, f0, f1, f2, f3⟩ := block4 (hX1.block b2)
    have HE := Lib.hid ((hX.trans hX1).fin4 (q := w.heap.size + 1 + 1) (by omega) (.int .i64 0) (.int .i64 0) (.bool false) (.slice none 0 0))
    clear hX hX1 b0 b1 b2 hA hA1 hA' hA1' hv hz hz'
    go_wp2
    refine bodyPost_ret (v := .tuple #[.agg #[.int .i64 0, .int .i64 0, .bool false, .slice none 0 0], .bool false]) ?_ rfl (keepF_no HOK.out (twoF_none HE.out))
    simp only [results, Try.results33]
    go_simp
  | true =>
    have HOK := Lib.hid hv
    obtain ⟨hv1, hv2, hal⟩ := twoB_iff.1 hv
    obtain ⟨rfl, rfl, rfl⟩ := alikeB_iff.1 hal
    obtain ⟨Wn, Hn, rfl, rfl, k1, k2, k3, k4, hnn, hn256⟩ := vldF_facts hv1
    have hnn' : n' = n := by
      have h1 := (vldF_iff.1 hv1).2
      have h2 := (vldF_iff.1 hv2).2
      omega
    subst hnn'
    have hn1 : 0 < n' := by rw [hnn]; exact Nat.mul_pos (by omega) (by omega)
    obtain ⟨b, o, rfl⟩ := hA.starts (i := 0) (by simp; omega)
    obtain ⟨b', o', rfl⟩ := hA'.starts (i := 0) (by simp; omega)
    have HNN := Lib.hid hnn
    have HV := Lib.hid hv1
    have HZ := Lib.hid hz
    have HZ' := Lib.hid hz'
    have HA := Lib.hid (hA1.ext hX1)
    have HA' := Lib.hid (hA1'.ext hX1)
    clear hv hv1 hv2 hal hnn hA hA1 hA' hA1' hz hz'
    obtain ⟨⟨c0, c1, c2, c3⟩, _⟩ := block4 (hX1.block b0)
    go_wp2_with fail
    refine (l02New_any Wn Hn R _).mono ?_
    rintro e w2 ⟨bb, rfl, hX2, hbb, hO⟩
    have hXa := (Ext.refl w2).alloc (.cells #[.int .i64 Wn, .int .i64 Hn, .bool R, .slice (some ⟨bb, 0, none⟩) 0 0] 27)
    have bq := heap_new w2 (.cells #[.int .i64 Wn, .int .i64 Hn, .bool R, .slice (some ⟨bb, 0, none⟩) 0 0] 27)
    have hq : w1.heap.size ≤ w2.heap.size := hX2.size
    have hr : w.heap.size + 1 + 1 < w1.heap.size := lt_of_block (hX1.block b2)
    have hw : w.heap.size ≤ w1.heap.size := (hX.trans hX1).size
    have F0 : FillF w1 (w.heap.size + 1 + 1) w2.heap.size Wn Hn R [] (w2.alloc (.cells #[.int .i64 Wn, .int .i64 Hn, .bool R, .slice (some ⟨bb, 0, none⟩) 0 0] 27)) 0 :=
      ⟨hX2.trans hXa, hXa.block (hX2.block (hX1.block b2)), _, 0, bq, ownsRow_ext hO hXa⟩
    have HP := Lib.hid (hX1.block b0)
    have HP' := Lib.hid (hX1.block b1)
    have HX := Lib.hid (hX.trans hX1)
    clear hX hX1 hX2 hXa b0 b1 b2 bq hO hbb c0 c1 c2 c3
    go_wp2
    generalize w2.alloc (.cells #[.int .i64 Wn, .int .i64 Hn, .bool R, .slice (some ⟨bb, 0, none⟩) 0 0] 27) = w3 at *
    generalize w2.heap.size = q at *
    go_loopw [7] (fun i wr => ∃ (k : Nat) (xs : List Nat), k ≤ n' ∧ i = .int .i64 k ∧ fas xs = gridF Wn (bothG (fop .mul .f32) Wn Hn R (fas zs) (fas zs')) k ∧ FillF w1 (w.heap.size + 1 + 1) q Wn Hn R xs wr k) (fun i _ => n' - (intOf i).toNat)
    case atStart => exact ⟨0, [], Nat.zero_le _, rfl, rfl, F0⟩
    case round =>
      obtain ⟨k, xs, hk, rfl, hxs, hF⟩ := hrel
      clear F0
      have HXS := Lib.hid hxs
      clear hxs
      obtain ⟨hX, hR, a2, c2, hB, hO⟩ := hF
      have hP := hX.block HP.out
      have hP' := hX.block HP'.out
      obtain ⟨⟨c0, c1, c2', c3⟩, _⟩ := block4 hP
      by_cases hlt : k < n'
      · have HGN : Hid (gridF Wn (bothG (fop .mul .f32) Wn Hn R (fas zs) (fas zs')) (k + 1) = gridF Wn (bothG (fop .mul .f32) Wn Hn R (fas zs) (fas zs')) k ++ [fop .mul .f32 (fa .f32 (zs[k]?.getD 0)) (fa .f32 (zs'[k]?.getD 0))]) := by
          show _ = _
          rw [gridF_next]
          unfold bothG
          rw [aboutV_cell R _ k1 (by rw [← HNN.out]; exact hlt), aboutV_cell R _ k1 (by rw [← HNN.out]; exact hlt), fas_at rfl (by rw [HZ.out]; exact hlt), fas_at rfl (by rw [HZ'.out]; exact hlt)]
        have hca := (HA.out.ext hX).ofFlts k (by rw [HZ.out]; exact hlt)
        have hcb := (HA'.out.ext hX).ofFlts k (by rw [HZ'.out]; exact hlt)
        rw [List.getD_eq_getElem?_getD] at hca hcb
        generalize zs[k]?.getD 0 = za at *
        generalize zs'[k]?.getD 0 = zb at *
        go_wp2_with fail
        refine region_grow_tail 14 (C := Ext wr) (K := fun f args V _ => True) ⟨fun _ _ h k => h.trans k, fun _ _ _ _ _ h _ => h⟩ (by kernel_rfl) (by kernel_rfl) ((Ext.refl wr).drew) ?_
        simp only [List.take_succ_cons, List.take_zero, List.drop_succ_cons, List.drop_zero]
        iterate 12 (refine grow_q rfl ?_; apply Exists.intro; refine ⟨fun u' hu' _ => ?_, ?_⟩; focus (obtain ⟨⟨c0, c1, c2, c3⟩, _⟩ := block4 (hu'.block hP); obtain ⟨⟨d0, d1, d2, d3⟩, _⟩ := block4 (hu'.block hP'); obtain ⟨⟨e0, e1, e2, e3⟩, _⟩ := block4 (hu'.block hB); have g0 := hu'.cell hca; have g1 := hu'.cell hcb; go_simp; rfl))
        refine grow_f .f32 rfl ⟨_, _, fun u hu _ => (by go_simp; exact ⟨rfl, rfl⟩), _, fun u => fa_frr _ _ _ _ u, fun z hz' => ?_⟩
        refine grow_newB (mk := fun b => .slice (some ⟨b, 0, none⟩) 1 1) (ob := .cells #[.float .f32 z] 30) wr.heap.size rfl (fun b b' h => by simpa using h) (fun u hu => hu.size) (fun u _ _ => ?_) (fun nb hnb => ?_)
        · go_simp
        refine grow_nil (fun w4 hw4 hh => ?_)
        obtain ⟨_, hb3⟩ := hh
        have HZV := Lib.hid hz'
        clear hz'
        have HXu := Lib.hid (hX.trans hw4)
        have HRu := Lib.hid (hw4.block hR)
        have HBu := Lib.hid (hw4.block hB)
        have HOu := Lib.hid (ownsRow_ext hO hw4)
        clear hX hP hP' hR hB hO hw4 c0 c1 c2' c3 hca hcb
        have HU := Lib.hid HXu.out.size
        go_simp
        go_wp2_with (at_builtin; refine wpList_append_own _ rfl _ _ 22 rfl w1.heap.size 30 i0 (.float .f32 0) 1 4 Try.underlying22 hi hz0 hz1 hz2 rfl (by decide) (.slice a2 k c2) k (flts xs) rfl HOu.out ⟨nb, 0, none⟩ 1 1 [.float .f32 z] rfl rfl ?c1 ?c2 ?c3 ?c4 ?c5 ?_)
        case c1 => exact cell_one_at hb3
        case c2 => intro u hu; simp at hu; subst hu; rfl
        case c3 => unfold maxLen; omega
        case c4 => omega
        case c5 => exact HU.out
        intro v' w5 hown hg _
        obtain ⟨a3, c3', rfl⟩ := ownsRow_shape hown
        have HOWN := Lib.hid hown
        have HG := Lib.hid hg
        clear hown hg
        have hb4 := FillF.cellAt HXu.out HBu.out HOu.out HG.out
        obtain ⟨⟨_, _, _, c3⟩, _, _, _, f3⟩ := block4 hb4
        clear hb4
        go_wp2
        go_roundw
        case rel =>
          refine ⟨k + 1, xs ++ [z], by omega, by go_num, ?_, FillF.push HXu.out (by omega) (by omega) HRu.out HBu.out HOu.out HOWN.out HG.out⟩
          rw [HGN.out, fas_append, HXS.out]; exact congrArg (fun q => gridF Wn (bothG (fop .mul .f32) Wn Hn R (fas zs) (fas zs')) k ++ [q]) HZV.out
        case measure => simp [intOf]; omega
      · obtain rfl : k = n' := by omega
        obtain ⟨⟨e0, e1, e2, e3⟩, _⟩ := block4 hB
        obtain ⟨⟨d0, d1, d2, d3⟩, f0, f1, f2, f3⟩ := block4 hR
        obtain ⟨HE, HO⟩ := stored4 (T := 27) (u0 := .int .i64 Wn) (u1 := .int .i64 Hn) (u2 := .bool R) (u3 := .slice a2 k c2) (HX.out.trans hX) (by decide) (by omega) hR hO
        have HE' := Lib.hid HE
        have HO' := Lib.hid (ownsRow_mono HO hw)
        clear hX hP hP' hR hB hO HE HO
        go_wp2
        refine bodyPost_ret (v := .tuple #[.agg #[.int .i64 Wn, .int .i64 Hn, .bool R, .slice a2 k c2], .bool true]) ?_ rfl (keepF_yes HOK.out ⟨a2, _, c2, xs, rfl, HE'.out, HO'.out, ?_, by omega, ?_⟩)
        · simp only [results, Try.results33]
          go_simp
        · have h := congrArg List.length HXS.out
          simpa using h
        · simp only [Int.toNat_natCast]
          rw [← HNN.out]
          exact HXS.out
end Go.Proofs.Ytllpbkmdcaikoaa
