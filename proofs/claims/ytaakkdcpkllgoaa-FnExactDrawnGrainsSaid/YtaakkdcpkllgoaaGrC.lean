/-
  FlatGrains by the reference.
-/
import Derived.Test.YtaakkdcpkllgoaaGrB
namespace Go.Proofs.Ytaakkdcpkllgoaa
open Go.RowKit
set_option linter.unusedVariables false
set_option linter.unusedSimpArgs false
set_option linter.unnecessarySimpa false

theorem toNat_mul {W H : Int} (h1 : 0 ≤ W) (h2 : 0 ≤ H) : ((H.toNat * W.toNat : Nat) : Int) = W * H := by
  rw [Int.natCast_mul, Int.toNat_of_nonneg h1, Int.toNat_of_nonneg h2, Int.mul_comm]
theorem flatZ_succ (W : Nat) (top : Int) (k : Nat) : gridV W (fun _ _ => top) (k + 1) = gridV W (fun _ _ => top) k ++ [top] := by
  unfold gridV
  rw [List.range_succ, List.map_append]
  simp only [List.map_cons, List.map_nil]

theorem specFlat_no (W H l : Int) (hs : szG W H = false) (w : World) :
    Calls Try.prog 16 #[.int .i64 W, .int .i64 H, .int .i64 l] w (newH w 0 0 [] false) := by
  have HX := Lib.hid ((Ext.refl w).alloc (.cells #[.int .i64 0, .int .i64 0, .slice none 0 0] 24))
  go_enter Try.func16, Try.ntmps16
  go_wp2_with (go_at_call 54; refine (l02Size_any _ _ _).mono ?_; rw [hs]; rintro e w' ⟨rfl, rfl⟩)
  refine bodyPost_ret (v := .tuple #[.agg #[.int .i64 0, .int .i64 0, .slice none 0 0], .bool false]) ?_ rfl ⟨none, 0, 0, rfl, HX.out, World.ownsRow_nil _ _ _ _, rfl, by omega⟩
  simp only [results, Try.results16]
  go_simp
theorem specFlat_not (W H l : Int) (hs : szG W H = true) (hl : inB l 0 63 = false) (w : World) :
    Calls Try.prog 16 #[.int .i64 W, .int .i64 H, .int .i64 l] w (newH w 0 0 [] false) := by
  have HX := Lib.hid ((Ext.refl w).alloc (.cells #[.int .i64 0, .int .i64 0, .slice none 0 0] 24))
  go_enter Try.func16, Try.ntmps16
  go_wp2_with fail
  refine (l02Size_any _ _ _).mono ?_
  rw [hs]
  rintro e w' ⟨rfl, rfl⟩
  go_wp2_with (go_at_call 55; refine (l04Label_any _ _).mono ?_; rw [hl]; rintro e w' ⟨rfl, rfl⟩)
  refine bodyPost_ret (v := .tuple #[.agg #[.int .i64 0, .int .i64 0, .slice none 0 0], .bool false]) ?_ rfl ⟨none, 0, 0, rfl, HX.out, World.ownsRow_nil _ _ _ _, rfl, by omega⟩
  simp only [results, Try.results16]
  go_simp

set_option maxRecDepth 100000 in
set_option maxHeartbeats 400000 in
theorem specFlat_yes (W H l : Int) (hs : szG W H = true) (hl : inB l 0 63 = true) (w : World) :
    Calls Try.prog 16 #[.int .i64 W, .int .i64 H, .int .i64 l] w (newH w W H (flatZ W H l) true) := by
  obtain ⟨i0, hi, hz0, hz1, hz2⟩ := info_parts info64
  obtain ⟨⟨s1, s2⟩, s3, s4⟩ := szG_iff.1 hs
  obtain ⟨hm1, hm2⟩ := mul_bd s1 s2 s3 s4
  obtain ⟨M, hM⟩ := Int.eq_ofNat_of_zero_le (show 0 ≤ W * H by omega)
  have hZ : flatZ W H l = gridV W.toNat (fun _ _ => l) M := by
    unfold flatZ
    congr 1
    have := toNat_mul (show 0 ≤ W by omega) (show 0 ≤ H by omega)
    omega
  rw [hZ]
  generalize W.toNat = Wn at *
  clear hZ
  have hX := (Ext.refl w).alloc (.cells #[.int .i64 0, .int .i64 0, .slice none 0 0] 24)
  have b0 := heap_new w (.cells #[.int .i64 0, .int .i64 0, .slice none 0 0] 24)
  go_enter Try.func16, Try.ntmps16
  go_wp2_with fail
  refine (l02Size_any _ _ _).mono ?_
  rw [hs]
  rintro e w' ⟨rfl, rfl⟩
  go_wp2_with fail
  refine (l04Label_any _ _).mono ?_
  rw [hl]
  rintro e w' ⟨rfl, rfl⟩
  go_wp2_with fail
  refine (l04New_any W H _).mono ?_
  generalize w.alloc (.cells #[.int .i64 0, .int .i64 0, .slice none 0 0] 24) = w0 at *
  rintro e w1 ⟨b, rfl, hX1, hb, hO⟩
  have hXa := (Ext.refl w1).alloc (.cells #[.int .i64 W, .int .i64 H, .slice (some ⟨b, 0, none⟩) 0 0] 24)
  have bq := heap_new w1 (.cells #[.int .i64 W, .int .i64 H, .slice (some ⟨b, 0, none⟩) 0 0] 24)
  have hq : w.heap.size < w1.heap.size := lt_of_block (hX1.block b0)
  have F0 : Filling w W H (gridV Wn (fun _ _ => l) 0) w1.heap.size (w1.alloc (.cells #[.int .i64 W, .int .i64 H, .slice (some ⟨b, 0, none⟩) 0 0] 24)) 0 :=
    ⟨(hX.trans hX1).trans hXa, hXa.block (hX1.block b0), _, 0, bq, ownsRow_ext (ownsRow_mono hO hX.size) hXa⟩
  clear hX hX1 hXa b0 bq hO hb hs hl
  go_wp2
  generalize w1.alloc (.cells #[.int .i64 W, .int .i64 H, .slice (some ⟨b, 0, none⟩) 0 0] 24) = w2 at *
  generalize w1.heap.size = q at *
  go_loopw [9] (fun i wr => ∃ k : Nat, k ≤ M ∧ i = .int .i64 k ∧ Filling w W H (gridV Wn (fun _ _ => l) k) q wr k) (fun i _ => M - (intOf i).toNat)
  case atStart => exact ⟨0, Nat.zero_le _, rfl, F0⟩
  case round =>
    obtain ⟨k, hk, rfl, hS⟩ := hrel
    clear F0
    obtain ⟨hX, hR, a, c, hB, hO⟩ := hS
    obtain ⟨⟨c0, c1, c2⟩, _⟩ := block3 hB
    by_cases hlt : k < M
    · have HXu := Lib.hid (hX.alloc (.cells #[.int .i64 l] 2))
      have HRu := Lib.hid (((Ext.refl wr).alloc (.cells #[.int .i64 l] 2)).block hR)
      have HBu := Lib.hid (((Ext.refl wr).alloc (.cells #[.int .i64 l] 2)).block hB)
      have HOu := Lib.hid (ownsRow_alloc' hO (.cells #[.int .i64 l] 2))
      clear hX hR hB hO
      go_wp2_with (first | (at_builtin; refine wpList_append_own _ rfl _ _ 22 rfl w.heap.size 2 i0 (.int .i64 0) 1 8 Try.underlying22 hi hz0 hz1 hz2 rfl (by decide) (.slice a k c) k (ints (gridV Wn (fun _ _ => l) k)) rfl HOu.out ⟨wr.heap.size, 0, none⟩ 1 1 [.int .i64 l] rfl rfl ?c1 ?c2 ?c3 ?c4 ?c5 ?_) | go_in)
      case c1 => exact cell_one_new _ _ _
      case c2 => intro u hu; simp at hu; subst hu; rfl
      case c3 => unfold maxLen; omega
      case c4 => omega
      case c5 => exact HXu.out.size
      intro v' w4 hown hg _
      obtain ⟨a', c', rfl⟩ := ownsRow_shape hown
      have HOWN := Lib.hid hown
      have HG := Lib.hid hg
      clear hown hg c0 c1 c2
      have hb4 := Filling.cellAt HXu.out HBu.out HOu.out HG.out
      obtain ⟨⟨_, _, c2⟩, _, _, f2⟩ := block3 hb4
      clear hb4
      go_wp2
      go_roundw
      case rel =>
        refine ⟨k + 1, by omega, by go_num, ?_⟩
        rw [flatZ_succ]
        exact Filling.push HXu.out hq HRu.out HBu.out HOu.out HOWN.out HG.out
      case measure => simp [intOf]; omega
    · obtain rfl : k = M := by omega
      obtain ⟨⟨d0, d1, d2⟩, f0, f1, f2⟩ := block3 hR
      obtain ⟨HE, HO⟩ := stored3 (T := 24) (u0 := .int .i64 W) (u1 := .int .i64 H) (u2 := .slice a k c) hX (by decide) (Nat.le_refl _) hR hO
      have HE' := Lib.hid HE
      have HO' := Lib.hid HO
      clear hX hR hB hO HE HO
      go_wp2
      refine bodyPost_ret (v := .tuple #[.agg #[.int .i64 W, .int .i64 H, .slice a k c], .bool true]) ?_ rfl ⟨a, _, c, rfl, HE'.out, HO'.out, gridV_length _ _ _, by omega⟩
      simp only [results, Try.results16]
      go_simp

theorem specFlat_any (W H l : Int) (w : World) :
    Calls Try.prog 16 #[.int .i64 W, .int .i64 H, .int .i64 l] w (keepH w (flatOk W H l) W H (flatZ W H l)) := by
  cases hs : szG W H with
  | false => exact (specFlat_no W H l hs w).mono fun e w' h => keepH_no (by simp [flatOk, hs]) h
  | true =>
    cases hl : inB l 0 63 with
    | false => exact (specFlat_not W H l hs hl w).mono fun e w' h => keepH_no (by simp [flatOk, hl]) h
    | true => exact (specFlat_yes W H l hs hl w).mono fun e w' h => keepH_yes (by simp [flatOk, hl, hs]) h
end Go.Proofs.Ytaakkdcpkllgoaa
