/-
  DrawnGrains by the reference.
-/
import Derived.Test.YtaakkdcpkllgoaaDgC
namespace Go.Proofs.Ytaakkdcpkllgoaa
open Go.RowKit
set_option linter.unusedVariables false
set_option linter.unusedSimpArgs false
set_option linter.unnecessarySimpa false

set_option maxRecDepth 100000 in
set_option maxHeartbeats 4000000 in
theorem specDrawn_yes (W H c s : Int) (hs : szG W H = true) (hl : inB c 1 64 = true) (hq : inB s 0 2147483647 = true) (w : World) :
    Calls Try.prog 21 #[.int .i64 W, .int .i64 H, .int .i64 c, .int .i64 s] w (newDr w W H (drawnZ W H c s) (drawnS W H s) true) := by
  obtain ⟨i0, hi, hz0, hz1, hz2⟩ := info_parts info64
  obtain ⟨⟨s1, s2⟩, s3, s4⟩ := szG_iff.1 hs
  obtain ⟨hm1, hm2⟩ := mul_bd s1 s2 s3 s4
  obtain ⟨M, hM⟩ := Int.eq_ofNat_of_zero_le (show 0 ≤ W * H by omega)
  have hMM : H.toNat * W.toNat = M := by
    have := toNat_mul (show 0 ≤ W by omega) (show 0 ≤ H by omega)
    omega
  unfold drawnZ drawnS
  rw [hMM]
  clear hMM
  have hcc := inB_iff.1 hl
  have hss := inB_iff.1 hq
  have hX := (Ext.refl w).alloc (.cells #[.int .i64 0, .int .i64 0, .slice none 0 0] 24)
  have b0 := heap_new w (.cells #[.int .i64 0, .int .i64 0, .slice none 0 0] 24)
  go_enter Try.func21, Try.ntmps21
  go_wp2_with fail
  refine (l02Size_any _ _ _).mono ?_
  rw [hs]
  rintro e w' ⟨rfl, rfl⟩
  go_wp2_with fail
  refine (l00In_any _ _ _ _).mono ?_
  rw [hl]
  rintro e w' ⟨rfl, rfl⟩
  go_wp2_with fail
  refine (l02Seed_any _ _).mono ?_
  rw [hq]
  rintro e w' ⟨rfl, rfl⟩
  go_wp2_with fail
  refine (l04New_any W H _).mono ?_
  generalize w.alloc (.cells #[.int .i64 0, .int .i64 0, .slice none 0 0] 24) = w0 at *
  rintro e w1 ⟨b, rfl, hX1, hb, hO⟩
  have hXa := (Ext.refl w1).alloc (.cells #[.int .i64 W, .int .i64 H, .slice (some ⟨b, 0, none⟩) 0 0] 24)
  have bq := heap_new w1 (.cells #[.int .i64 W, .int .i64 H, .slice (some ⟨b, 0, none⟩) 0 0] 24)
  have hwq : w.heap.size < w1.heap.size := lt_of_block (hX1.block b0)
  have F0 : Filling w W H (drawZ s c 0) w1.heap.size (w1.alloc (.cells #[.int .i64 W, .int .i64 H, .slice (some ⟨b, 0, none⟩) 0 0] 24)) 0 :=
    ⟨(hX.trans hX1).trans hXa, hXa.block (hX1.block b0), _, 0, bq, ownsRow_ext (ownsRow_mono hO hX.size) hXa⟩
  clear hX hX1 hXa b0 bq hO hb hs hl hq
  go_wp2
  generalize w1.alloc (.cells #[.int .i64 W, .int .i64 H, .slice (some ⟨b, 0, none⟩) 0 0] 24) = w2 at *
  generalize w1.heap.size = q at *
  go_loopw [3, 12] (fun sv i wr => ∃ k : Nat, k ≤ M ∧ i = .int .i64 k ∧ sv = .int .i64 (seedN s k) ∧ Filling w W H (drawZ s c k) q wr k) (fun _ i _ => M - (intOf i).toNat)
  case atStart => exact ⟨0, Nat.zero_le _, rfl, rfl, F0⟩
  case round =>
    obtain ⟨k, hk, rfl, rfl, hS⟩ := hrel
    clear F0
    obtain ⟨hX, hR, a, cc, hB, hO⟩ := hS
    by_cases hlt : k < M
    · have hsb := seedN_bd hss k
      have HP := Lib.hid (drawZ_succ s c k)
      have HN : Hid (seedN s (k + 1) = nxtS (seedN s k)) := rfl
      generalize seedN s k = sk at *
      have hnb := nxtS_bd sk
      have hc0 : c ≠ 0 := by omega
      have HCALL := Lib.hid (l02Next_any sk hsb.1 hsb.2)
      generalize nxtS sk = sn at *
      have hzv : (IntKind.i64.wrap (sn.tdiv 65536)).tmod c = sn / 65536 % c := by
        rw [Int.tdiv_eq_ediv_of_nonneg (by omega), wrapS (by omega) (by omega), Int.tmod_eq_emod_of_nonneg (by omega)]
      go_wp2_with fail
      refine (HCALL.out _).mono ?_
      rintro e w' ⟨rfl, rfl⟩
      go_wp2_with fail
      refine region_grow_tail 7 (C := Ext wr) (K := fun _ _ _ _ => False) ⟨fun _ _ h k => h.trans k, fun _ _ _ _ _ h _ => h⟩ (by kernel_rfl) (by kernel_rfl) ((Ext.refl wr).drew) ?_
      simp only [List.take_succ_cons, List.take_zero, List.drop_succ_cons, List.drop_zero]
      repeat (refine grow_q rfl ?_; apply Exists.intro; refine ⟨fun u hu _ => ?_, ?_⟩; focus (obtain ⟨⟨c0, c1, c2⟩, _⟩ := block3 (hu.block hB); go_simp; rfl))
      generalize sn / 65536 % c = zv at *
      refine grow_newB (mk := fun b => .slice (some ⟨b, 0, none⟩) 1 1) (ob := .cells #[.int .i64 zv] 2) wr.heap.size rfl (fun b b' h => by simpa using h) (fun u hu => hu.size) (fun u _ _ => ?_) (fun b hb => ?_)
      · go_simp
      refine grow_nil (fun w3 hu hh => ?_)
      obtain ⟨_, hb3⟩ := hh
      have hXu := Lib.hid (hX.trans hu)
      have hRu := Lib.hid (hu.block hR)
      have hBu := Lib.hid (hu.block hB)
      have hOu := Lib.hid (ownsRow_ext hO hu)
      clear hX hR hB hO hu hzv hsb hnb
      have HU := Lib.hid hXu.out.size
      go_simp
      go_wp2_with (at_builtin; refine wpList_append_own _ rfl _ _ 22 rfl w.heap.size 2 i0 (.int .i64 0) 1 8 Try.underlying22 hi hz0 hz1 hz2 rfl (by decide) (.slice a k cc) k (ints (drawZ s c k)) rfl hOu.out ⟨b, 0, none⟩ 1 1 [.int .i64 zv] rfl rfl ?c1 ?c2 ?c3 ?c4 ?c5 ?_)
      case c1 => exact cell_one_at hb3
      case c2 => intro u hu; simp at hu; subst hu; rfl
      case c3 => unfold maxLen; omega
      case c4 => omega
      case c5 => exact HU.out
      intro v' w4 hown hg _
      obtain ⟨a', c', rfl⟩ := ownsRow_shape hown
      have HOWN := Lib.hid hown
      have HG := Lib.hid hg
      clear hown hg
      have hb4 := Filling.cellAt hXu.out hBu.out hOu.out HG.out
      obtain ⟨⟨_, _, c2⟩, _, _, f2⟩ := block3 hb4
      clear hb4
      go_wp2
      go_roundw
      case rel =>
        refine ⟨k + 1, by omega, by go_num, by rw [HN.out], ?_⟩
        rw [HP.out]
        exact Filling.push hXu.out hwq hRu.out hBu.out hOu.out HOWN.out HG.out
      case measure => simp [intOf]; omega
    · obtain rfl : k = M := by omega
      obtain ⟨⟨d0, d1, d2⟩, f0, f1, f2⟩ := block3 hR
      obtain ⟨⟨c0, c1, c2⟩, _⟩ := block3 hB
      obtain ⟨HE, HO⟩ := stored3 (T := 24) (u0 := .int .i64 W) (u1 := .int .i64 H) (u2 := .slice a k cc) hX (by decide) (Nat.le_refl _) hR hO
      have HE' := Lib.hid HE
      have HO' := Lib.hid HO
      clear hX hR hB hO HE HO
      go_wp2
      refine bodyPost_ret (v := .tuple #[.agg #[.int .i64 W, .int .i64 H, .slice a k cc], .int .i64 (seedN s k), .bool true]) ?_ rfl ⟨a, _, cc, rfl, HE'.out, HO'.out, drawZ_length _ _ _, by omega⟩
      simp only [results, Try.results21]
      go_simp

set_option maxRecDepth 100000 in
theorem specDrawn_any (W H c s : Int) (w : World) :
    Calls Try.prog 21 #[.int .i64 W, .int .i64 H, .int .i64 c, .int .i64 s] w (keepDr w (drawnOk W H c s) W H (drawnZ W H c s) (drawnS W H s)) := by
  have HX := Lib.hid ((Ext.refl w).alloc (.cells #[.int .i64 0, .int .i64 0, .slice none 0 0] 24))
  cases hs : szG W H with
  | false =>
    have HR : Hid (drawnOk W H c s = false) := by show _ = _; simp [drawnOk, hs]
    go_enter Try.func21, Try.ntmps21
    go_wp2_with (go_at_call 54; refine (l02Size_any _ _ _).mono ?_; rw [hs]; rintro e w' ⟨rfl, rfl⟩)
    refine bodyPost_ret (v := .tuple #[.agg #[.int .i64 0, .int .i64 0, .slice none 0 0], .int .i64 0, .bool false]) ?_ rfl (keepDr_no HR.out ⟨none, 0, 0, rfl, HX.out, World.ownsRow_nil _ _ _ _, rfl, by omega⟩)
    simp only [results, Try.results21]
    go_simp
  | true =>
    cases hl : inB c 1 64 with
    | false =>
      have HR : Hid (drawnOk W H c s = false) := by show _ = _; simp [drawnOk, hl]
      go_enter Try.func21, Try.ntmps21
      go_wp2_with (first | (go_at_call 54; refine (l02Size_any _ _ _).mono ?_; rw [hs]; rintro e w' ⟨rfl, rfl⟩) | (go_at_call 61; refine (l00In_any _ _ _ _).mono ?_; rw [hl]; rintro e w' ⟨rfl, rfl⟩))
      refine bodyPost_ret (v := .tuple #[.agg #[.int .i64 0, .int .i64 0, .slice none 0 0], .int .i64 0, .bool false]) ?_ rfl (keepDr_no HR.out ⟨none, 0, 0, rfl, HX.out, World.ownsRow_nil _ _ _ _, rfl, by omega⟩)
      simp only [results, Try.results21]
      go_simp
    | true =>
      cases hq : inB s 0 2147483647 with
      | false =>
        have HR : Hid (drawnOk W H c s = false) := by show _ = _; simp [drawnOk, hq]
        go_enter Try.func21, Try.ntmps21
        go_wp2_with (first | (go_at_call 54; refine (l02Size_any _ _ _).mono ?_; rw [hs]; rintro e w' ⟨rfl, rfl⟩) | (go_at_call 61; refine (l00In_any _ _ _ _).mono ?_; rw [hl]; rintro e w' ⟨rfl, rfl⟩) | (go_at_call 62; refine (l02Seed_any _ _).mono ?_; rw [hq]; rintro e w' ⟨rfl, rfl⟩))
        refine bodyPost_ret (v := .tuple #[.agg #[.int .i64 0, .int .i64 0, .slice none 0 0], .int .i64 0, .bool false]) ?_ rfl (keepDr_no HR.out ⟨none, 0, 0, rfl, HX.out, World.ownsRow_nil _ _ _ _, rfl, by omega⟩)
        simp only [results, Try.results21]
        go_simp
      | true => exact (specDrawn_yes W H c s hs hl hq w).mono fun e w' h => keepDr_yes (by simp [drawnOk, hl, hs, hq]) h
end Go.Proofs.Ytaakkdcpkllgoaa
