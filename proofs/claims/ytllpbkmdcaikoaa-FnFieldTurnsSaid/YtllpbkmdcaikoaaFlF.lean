/-
  LaplaceField by the reference: all cells.
-/
import Derived.Test.YtllpbkmdcaikoaaFlE
namespace Go.Proofs.Ytllpbkmdcaikoaa
open Go.RowKit
set_option linter.unusedVariables false
set_option linter.unusedSimpArgs false
set_option linter.unnecessarySimpa false

theorem FillF.of_ext {w : World} {r q : Nat} {W H : Int} {R : Bool} {xs : List Nat} {wr wr' : World} {k : Nat} (h : FillF w r q W H R xs wr k) (e : Ext wr wr') : FillF w r q W H R xs wr' k :=
  let ⟨a, c, h1, h2⟩ := h.own; ⟨h.ext.trans e, e.block h.res, a, c, e.block h1, ownsRow_ext h2 e⟩

set_option maxRecDepth 100000 in
set_option maxHeartbeats 2000000 in
theorem l02LaplaceAll_any (p : Nat) (W H : Int) (R : Bool) (b o n c : Nat) (zs : List Nat) (fs : List (Option Nat)) (hz : zs.length = n) (hfs : fas zs = fs) (hv : vldF W H n = true) (w : World) (hp : FldAt w p W H R (some ⟨b, o, none⟩) n c) (hA : VArr w (some ⟨b, o, none⟩) (flts zs)) :
    Calls Try.prog 85 #[.pointer (some ⟨p, 0, none⟩)] w (newF w W H R (gridF W.toNat (laplaceG W H R fs) (H.toNat * W.toNat))) := by
  obtain ⟨i0, hi, hz0, hz1, hz2⟩ := info_parts info32
  obtain ⟨Wn, Hn, rfl, rfl, k1, k2, k3, k4, hnn, hn256⟩ := vldF_facts hv
  have hM : (Wn : Int) * Hn = n := by rw [hnn, Int.natCast_mul, Int.mul_comm]
  have hX := (Ext.refl w).alloc (.cells #[.int .i64 0, .int .i64 0, .bool false, .slice none 0 0] 27)
  have b0 := heap_new w (.cells #[.int .i64 0, .int .i64 0, .bool false, .slice none 0 0] 27)
  have hsz : w.heap.size < (w.alloc (.cells #[.int .i64 0, .int .i64 0, .bool false, .slice none 0 0] 27)).heap.size := by simp
  have HP := Lib.hid (hp.ext hX)
  have HA := Lib.hid (hA.ext hX)
  have HNN := Lib.hid hnn
  have HV := Lib.hid hv
  have HZ := Lib.hid hz
  have HFS := Lib.hid hfs
  clear hp hA hnn hv hz hfs
  go_enter Try.func85, Try.ntmps85
  go_wp2_with fail
  generalize w.alloc (.cells #[.int .i64 0, .int .i64 0, .bool false, .slice none 0 0] 27) = w0 at *
  refine region_grow_tail 14 (C := Ext w0) (K := fun _ _ v wv => ∃ bb, v = .agg #[.int .i64 Wn, .int .i64 Hn, .bool R, .slice (some ⟨bb, 0, none⟩) 0 0] ∧ wv.ownsRow w0.heap.size 30 1 (.slice (some ⟨bb, 0, none⟩) 0 0) 0 []) ⟨fun _ _ h k => h.trans k, fun _ _ _ _ _ ⟨bb, h1, h2⟩ k => ⟨bb, h1, ownsRow_ext h2 k⟩⟩ (by kernel_rfl) (by kernel_rfl) ((Ext.refl w0).drew) ?_
  simp only [List.take_succ_cons, List.take_zero, List.drop_succ_cons, List.drop_zero]
  iterate 12 (refine grow_q rfl ?_; apply Exists.intro; refine ⟨fun u hu _ => ?_, ?_⟩; focus (obtain ⟨c0, c1, c2, c3⟩ := HP.out.ext hu; go_simp; rfl))
  refine grow_cg 71 (fun v => ∃ bb, v = .agg #[.int .i64 Wn, .int .i64 Hn, .bool R, .slice (some ⟨bb, 0, none⟩) 0 0]) (fun v wv => ∀ bb, v = .agg #[.int .i64 Wn, .int .i64 Hn, .bool R, .slice (some ⟨bb, 0, none⟩) 0 0] → wv.ownsRow w0.heap.size 30 1 (.slice (some ⟨bb, 0, none⟩) 0 0) 0 []) rfl ?_
  refine ⟨#[.int .i64 Wn, .int .i64 Hn, .bool R], fun u => ?_, fun u hu _ => ?_, fun v u h => ?_, fun v hv => ?_⟩
  · go_simp
  · refine (l02New_any Wn Hn R u).mono fun e u' h => ?_
    obtain ⟨bb, he, hx, hb, ho⟩ := h
    exact ⟨_, he, hx, bb, rfl, ownsRow_mono ho hu.size⟩
  · obtain ⟨bb, rfl, ho⟩ := h
    refine ⟨⟨bb, rfl⟩, fun b2 he => ?_⟩
    simp at he
    subst he
    exact ho
  obtain ⟨bb, rfl⟩ := hv
  refine grow_newB (mk := fun b => .pointer (some ⟨b, 0, none⟩)) (ob := .cells #[.int .i64 0, .int .i64 0, .bool false, .slice none 0 0] 27) w0.heap.size rfl (fun b b' h => by simpa using h) (fun u hu => hu.size) (fun u _ _ => ?_) (fun q hq => ?_)
  · go_simp
  refine grow_nil (fun w1 hX1 hh => ?_)
  obtain ⟨⟨_, hrow⟩, hbox⟩ := hh
  have hO := hrow bb rfl
  clear hrow
  refine store_box rfl 27 _ _ rfl q #[.int .i64 Wn, .int .i64 Hn, .bool R, .slice (some ⟨bb, 0, none⟩) 0 0] ?_ ?_ 27 _ hbox (by kernel_rfl) rfl (by simp [Value.oneCell']) ?_
  · go_simp
  · go_simp
  intro w3 hS D
  have F0 : FillF w0 w.heap.size q Wn Hn R [] w3 0 := ⟨hX1.row hS hq, by rw [hS.block w.heap.size (by have := hX1.size; omega) (by simp; omega)]; exact hX1.block b0, _, 0, D, ownsRow_box hO (by decide) hbox hS⟩
  have HXX := Lib.hid hX
  clear hX1 hO hbox hS D b0 hX
  go_wp2
  go_loopw [4] (fun i wr => ∃ (k : Nat) (xs : List Nat), k ≤ n ∧ i = .int .i64 k ∧ fas xs = gridF Wn (laplaceG Wn Hn R fs) k ∧ FillF w0 w.heap.size q Wn Hn R xs wr k) (fun i _ => n - (intOf i).toNat)
  case atStart => exact ⟨0, [], Nat.zero_le _, rfl, rfl, F0⟩
  case round =>
    obtain ⟨k, xs, hk, rfl, hxs, hF⟩ := hrel
    clear F0
    have HXS := Lib.hid hxs
    clear hxs
    have HF := Lib.hid hF
    obtain ⟨c0, c1, c2, c3⟩ := HP.out.ext hF.ext
    clear hF
    by_cases hlt : k < n
    · go_wp2
      go_quiet (fail)
      have hF2 := HF.out.of_ext ((Ext.refl wr).drewN nq)
      clear HF c0 c1 c2 c3
      go_wp2_with fail
      generalize wr.drewN nq = wr2 at *
      obtain ⟨hX, hR, a', c', hB, hO⟩ := hF2
      have HPP := Lib.hid (HP.out.ext hX)
      have hu2 : k % Wn < Wn := Nat.mod_lt _ (by omega)
      have hv2 : k / Wn < Hn := Nat.div_lt_of_lt_mul (by rw [Nat.mul_comm]; have := HNN.out; omega)
      have HGN := Lib.hid (gridF_next Wn (laplaceG Wn Hn R fs) k)
      have hu := tmodF_nat k Wn
      have hv := tdivF_nat k Wn
      have hne : ¬ Wn = 0 := by omega
      have HA2 := Lib.hid (HA.out.ext hX)
      generalize k % Wn = u at *
      generalize k / Wn = v at *
      refine region_grow_tail 17 (C := Ext wr2) (K := fun f args V _ => args = #[.pointer (some ⟨p, 0, none⟩), .int .i64 u, .int .i64 v] → ∃ r, V = .float .f32 r ∧ fa .f32 r = laplaceG Wn Hn R fs u v) ⟨fun _ _ h k => h.trans k, fun _ _ _ _ _ h _ => h⟩ (by kernel_rfl) (by kernel_rfl) ((Ext.refl wr2).drew) ?_
      simp only [List.take_succ_cons, List.take_zero, List.drop_succ_cons, List.drop_zero]
      iterate 15 (refine grow_q rfl ?_; apply Exists.intro; refine ⟨fun u' hu' _ => ?_, ?_⟩; focus (obtain ⟨c0, c1, c2, c3⟩ := HPP.out.ext hu'; obtain ⟨⟨e0, e1, e2, e3⟩, _⟩ := block4 (hu'.block hB); go_simp; rfl))
      refine grow_cf 115 .f32 rfl ⟨#[.pointer (some ⟨p, 0, none⟩), .int .i64 u, .int .i64 v], fun u' => ?_, _, fun u' hu' _ => l02Laplace_any _ Wn Hn u v R b o n c zs fs HZ.out HFS.out HV.out ⟨by omega, by omega⟩ ⟨by omega, by omega⟩ u' (HPP.out.ext hu') (HA2.out.ext hu'), fun V u' => ⟨fun h => h rfl, fun h0 => fun _ => h0⟩, fun z hz' => ?_⟩
      · go_simp
        all_goals (first | done | ((have hvw := wrapS (n := (v : Int)) (by omega) (by omega)); ((try simp only [hu, hv, hvw]) <;> ((repeat' apply And.intro) <;> first | rfl | exact wrapS (by omega) (by omega)))))
      refine grow_newB (mk := fun b => .slice (some ⟨b, 0, none⟩) 1 1) (ob := .cells #[.float .f32 z] 30) wr2.heap.size rfl (fun b b' h => by simpa using h) (fun u hu => hu.size) (fun u _ _ => ?_) (fun nb hnb => ?_)
      · go_simp
      refine grow_nil (fun w4 hw4 hh => ?_)
      obtain ⟨_, hb3⟩ := hh
      have HZV := Lib.hid hz'
      clear hz'
      have HXu := Lib.hid (hX.trans hw4)
      have HRu := Lib.hid (hw4.block hR)
      have HBu := Lib.hid (hw4.block hB)
      have HOu := Lib.hid (ownsRow_ext hO hw4)
      clear hX hR hB hO hw4
      have HU := Lib.hid HXu.out.size
      go_simp
      go_wp2_with (at_builtin; refine wpList_append_own _ rfl _ _ 22 rfl w0.heap.size 30 i0 (.float .f32 0) 1 4 Try.underlying22 hi hz0 hz1 hz2 rfl (by decide) (.slice a' k c') k (flts xs) rfl HOu.out ⟨nb, 0, none⟩ 1 1 [.float .f32 z] rfl rfl ?c1 ?c2 ?c3 ?c4 ?c5 ?_)
      case c1 => exact cell_one_at hb3
      case c2 => intro u hu; simp at hu; subst hu; rfl
      case c3 => unfold maxLen; omega
      case c4 => omega
      case c5 => exact HU.out
      intro v' w5 hown hg _
      obtain ⟨a2, c2', rfl⟩ := ownsRow_shape hown
      have HOWN := Lib.hid hown
      have HG := Lib.hid hg
      clear hown hg
      have hb4 := FillF.cellAt HXu.out HBu.out HOu.out HG.out
      obtain ⟨⟨_, _, _, c3⟩, _, _, _, f3⟩ := block4 hb4
      clear hb4
      go_wp2
      go_roundw
      case rel =>
        refine ⟨k + 1, xs ++ [z], by omega, by go_num, ?_, FillF.push HXu.out (by omega) (by omega) HRu.out HBu.out HOu.out HOWN.out HG.out⟩
        rw [HGN.out, fas_append, HXS.out]; exact congrArg (fun q => gridF Wn (laplaceG Wn Hn R fs) k ++ [q]) HZV.out
      case measure => simp [intOf]; omega
    · obtain rfl : k = n := by omega
      have e9 : decide ((k : Int) < (Wn : Int) * (Hn : Int)) = false := by rw [hM]; simp
      go_wp2
      go_quiet (fail)
      have hF2 := HF.out.of_ext ((Ext.refl wr).drewN nq)
      clear HF c0 c1 c2 c3
      generalize wr.drewN nq = wr2 at *
      obtain ⟨hX, hR, a', c', hB, hO⟩ := hF2
      obtain ⟨⟨e0, e1, e2, e3⟩, _⟩ := block4 hB
      obtain ⟨⟨d0, d1, d2, d3⟩, f0, f1, f2, f3⟩ := block4 hR
      obtain ⟨HE, HO⟩ := stored4 (T := 27) (u0 := .int .i64 Wn) (u1 := .int .i64 Hn) (u2 := .bool R) (u3 := .slice a' k c') (HXX.out.trans hX) (by decide) (by omega) hR hO
      have HE' := Lib.hid HE
      have HO' := Lib.hid (ownsRow_mono HO HXX.out.size)
      clear hX hR hB hO HE HO
      go_wp2
      refine bodyPost_ret (v := .agg #[.int .i64 Wn, .int .i64 Hn, .bool R, .slice a' k c']) ?_ rfl ⟨a', _, c', xs, rfl, HE'.out, HO'.out, ?_, by omega, ?_⟩
      · simp only [results, Try.results85]
        go_simp
      · have h := congrArg List.length HXS.out
        simpa using h
      · simp only [Int.toNat_natCast]
        rw [← HNN.out]
        exact HXS.out
end Go.Proofs.Ytllpbkmdcaikoaa
