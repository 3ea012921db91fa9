/-
  RollGrains by the reference.
-/
import Derived.Test.YtaakkdcpkllgoaaGrI
namespace Go.Proofs.Ytaakkdcpkllgoaa
open Go.RowKit
set_option linter.unusedVariables false
set_option linter.unusedSimpArgs false
set_option linter.unnecessarySimpa false

set_option maxRecDepth 100000 in
set_option maxHeartbeats 1000000 in
theorem specRoll_any (W H x y : Int) (a : Option Addr) (n c : Nat) (zs : List Int) (hz : zs.length = n) (hn : n ≤ 1048576) (w : World) (hA : VArr w a (ints zs)) :
    Calls Try.prog 42 #[.agg #[.int .i64 W, .int .i64 H, .slice a n c], .int .i64 x, .int .i64 y] w (keepH w (rollOk W H zs x y) W H (rollZ W H zs x y)) := by
  obtain ⟨i0, hi, hz0, hz1, hz2⟩ := info_parts info64
  have hX := ((Ext.refl w).alloc (.cells #[.int .i64 W, .int .i64 H, .slice a n c] 24)).alloc (.cells #[.int .i64 0, .int .i64 0, .slice none 0 0] 24)
  have b0 := heap_mid1 w (.cells #[.int .i64 W, .int .i64 H, .slice a n c] 24) (.cells #[.int .i64 0, .int .i64 0, .slice none 0 0] 24)
  have b3 := heap_new1 w (.cells #[.int .i64 W, .int .i64 H, .slice a n c] 24) (.cells #[.int .i64 0, .int .i64 0, .slice none 0 0] 24)
  have hA1 := hA.ext hX
  go_enter Try.func42, Try.ntmps42
  go_wp2_with fail
  refine (l04Is_any _ W H a n c zs hz (by omega) _ (block3 b0).1 hA1).mono ?_
  generalize (w.alloc (.cells #[.int .i64 W, .int .i64 H, .slice a n c] 24)).alloc (.cells #[.int .i64 0, .int .i64 0, .slice none 0 0] 24) = w0 at *
  rintro e w1 ⟨rfl, hX1⟩
  cases hv : vldG W H zs with
  | false =>
    have HR : Hid (rollOk W H zs x y = false) := by show _ = _; simp [rollOk, hv]
    obtain ⟨⟨d0, d1, d2⟩, f0, f1, f2⟩ := block3 (hX1.block b3)
    have HE := Lib.hid ((hX.trans hX1).fin3 (q := w.heap.size + 1) (by omega) (.int .i64 0) (.int .i64 0) (.slice none 0 0))
    clear hX hX1 b0 b3 hA hA1 hv
    go_wp2
    refine bodyPost_ret (v := .tuple #[.agg #[.int .i64 0, .int .i64 0, .slice none 0 0], .bool false]) ?_ rfl (keepH_no HR.out ⟨none, 0, 0, rfl, HE.out, World.ownsRow_nil _ _ _ _, rfl, by omega⟩)
    simp only [results, Try.results42]
    go_simp
  | true =>
   cases hx : inB x (-16) 16 with
   | false =>
    have HR : Hid (rollOk W H zs x y = false) := by show _ = _; simp [rollOk, hx]
    have HXX := Lib.hid hx
    obtain ⟨⟨d0, d1, d2⟩, f0, f1, f2⟩ := block3 (hX1.block b3)
    have HE := Lib.hid ((hX.trans hX1).fin3 (q := w.heap.size + 1) (by omega) (.int .i64 0) (.int .i64 0) (.slice none 0 0))
    clear hX hX1 b0 b3 hA hA1 hv hx
    go_wp2_with (go_at_call 61; refine (l00In_any _ _ _ _).mono ?_; rw [HXX.out]; rintro e w' ⟨rfl, rfl⟩)
    refine bodyPost_ret (v := .tuple #[.agg #[.int .i64 0, .int .i64 0, .slice none 0 0], .bool false]) ?_ rfl (keepH_no HR.out ⟨none, 0, 0, rfl, HE.out, World.ownsRow_nil _ _ _ _, rfl, by omega⟩)
    simp only [results, Try.results42]
    go_simp
   | true =>
    have HXX := Lib.hid hx
    cases hy : inB y (-16) 16 with
    | false =>
      have HR : Hid (rollOk W H zs x y = false) := by show _ = _; simp [rollOk, hy]
      have HYY := Lib.hid hy
      obtain ⟨⟨d0, d1, d2⟩, f0, f1, f2⟩ := block3 (hX1.block b3)
      have HE := Lib.hid ((hX.trans hX1).fin3 (q := w.heap.size + 1) (by omega) (.int .i64 0) (.int .i64 0) (.slice none 0 0))
      clear hX hX1 b0 b3 hA hA1 hv hx hy
      go_wp2_with fail
      refine (l00In_any _ _ _ _).mono ?_
      rw [HXX.out]
      rintro e w' ⟨rfl, rfl⟩
      go_wp2_with (go_at_call 61; refine (l00In_any _ _ _ _).mono ?_; rw [HYY.out]; rintro e w' ⟨rfl, rfl⟩)
      refine bodyPost_ret (v := .tuple #[.agg #[.int .i64 0, .int .i64 0, .slice none 0 0], .bool false]) ?_ rfl (keepH_no HR.out ⟨none, 0, 0, rfl, HE.out, World.ownsRow_nil _ _ _ _, rfl, by omega⟩)
      simp only [results, Try.results42]
      go_simp
    | true =>
     have HR : Hid (rollOk W H zs x y = true) := by show _ = _; simp [rollOk, hy, hx, hv]
     have HYY := Lib.hid hy
     obtain ⟨x0, x1⟩ := inB_iff.1 hx
     obtain ⟨y0, y1⟩ := inB_iff.1 hy
     clear hx hy
     obtain ⟨⟨c0, c1, c2⟩, _⟩ := block3 (hX1.block b0)
     obtain ⟨hW, hH, hnn, ⟨hn1, hn2⟩, _⟩ := vld_facts hv hz
     obtain ⟨Wn, rfl⟩ := Int.eq_ofNat_of_zero_le (show 0 ≤ W by omega)
     obtain ⟨Hn, rfl⟩ := Int.eq_ofNat_of_zero_le (show 0 ≤ H by omega)
     have hM : (Wn : Int) * Hn = n := hnn.symm
     have hnn' : n = Hn * Wn := by
       have : ((Hn * Wn : Nat) : Int) = Wn * Hn := by rw [Int.natCast_mul, Int.mul_comm]
       omega
     have HNN := Lib.hid hnn'
     have HV := Lib.hid hv
     clear hv hnn hnn'
     go_wp2_with fail
     refine (l00In_any _ _ _ _).mono ?_
     rw [HXX.out]
     rintro e w' ⟨rfl, rfl⟩
     go_wp2_with fail
     refine (l00In_any _ _ _ _).mono ?_
     rw [HYY.out]
     rintro e w' ⟨rfl, rfl⟩
     go_wp2_with fail
     refine (l04New_any Wn Hn _).mono ?_
     rintro e w2 ⟨bb, rfl, hX2, hbb, hO⟩
     have hXa := (Ext.refl w2).alloc (.cells #[.int .i64 Wn, .int .i64 Hn, .slice (some ⟨bb, 0, none⟩) 0 0] 24)
     have bq := heap_new w2 (.cells #[.int .i64 Wn, .int .i64 Hn, .slice (some ⟨bb, 0, none⟩) 0 0] 24)
     have hq : w.heap.size + 1 < w2.heap.size := lt_of_block (hX2.block (hX1.block b3))
     have F0 : Filling2 w w.heap.size (w.heap.size + 1) w2.heap.size Wn Hn a n c (gridV Wn (rollG Wn Hn zs x y) 0) (w2.alloc (.cells #[.int .i64 Wn, .int .i64 Hn, .slice (some ⟨bb, 0, none⟩) 0 0] 24)) 0 :=
       ⟨((hX.trans hX1).trans hX2).trans hXa, hXa.block (hX2.block (hX1.block b0)), hXa.block (hX2.block (hX1.block b3)), _, 0, bq, ownsRow_ext (ownsRow_mono hO (hX.trans hX1).size) hXa⟩
     clear hX hX1 hX2 hXa b0 b3 bq hO hbb hA1 c0 c1 c2
     go_wp2
     generalize w2.alloc (.cells #[.int .i64 Wn, .int .i64 Hn, .slice (some ⟨bb, 0, none⟩) 0 0] 24) = w3 at *
     generalize w2.heap.size = q at *
     go_loopw [9] (fun i wr => ∃ k : Nat, k ≤ n ∧ i = .int .i64 k ∧ Filling2 w w.heap.size (w.heap.size + 1) q Wn Hn a n c (gridV Wn (rollG Wn Hn zs x y) k) wr k) (fun i _ => n - (intOf i).toNat)
     case atStart => exact ⟨0, Nat.zero_le _, rfl, F0⟩
     case round =>
       obtain ⟨k, hk, rfl, hF⟩ := hrel
       clear F0
       obtain ⟨hX, hP, hR, a', c', hB, hO⟩ := hF
       obtain ⟨⟨c0, c1, c2⟩, _⟩ := block3 hP
       by_cases hlt : k < n
       · have hu2 : k % Wn < Wn := Nat.mod_lt _ (by omega)
         have hv2 : k / Wn < Hn := Nat.div_lt_of_lt_mul (by rw [Nat.mul_comm]; have := HNN.out; omega)
         have HGN := Lib.hid (gridV_next Wn (rollG Wn Hn zs x y) k)
         have hu := tmod_nat k Wn
         have hv := tdiv_nat k Wn
         have hne : ¬ Wn = 0 := by omega
         obtain ⟨b, o, rfl⟩ := hA.starts (i := k) (by simp; omega)
         have HA := Lib.hid (hA.ext hX)
         generalize k % Wn = u at *
         generalize k / Wn = v at *
         obtain ⟨z, hzv⟩ : ∃ z, rollG Wn Hn zs x y u v = z := ⟨_, rfl⟩
         have HZV := Lib.hid hzv
         rw [hzv] at HGN
         clear hzv
         go_wp2_with fail
         refine region_grow_tail 16 (C := Ext wr) (K := fun _ _ V _ => V = .int .i64 z) ⟨fun _ _ h k => h.trans k, fun _ _ _ _ _ h _ => h⟩ (by kernel_rfl) (by kernel_rfl) ((Ext.refl wr).drew) ?_
         simp only [List.take_succ_cons, List.take_zero, List.drop_succ_cons, List.drop_zero]
         iterate 14 (refine grow_q rfl ?_; apply Exists.intro; refine ⟨fun u' hu' _ => ?_, ?_⟩; focus (obtain ⟨⟨c0, c1, c2⟩, _⟩ := block3 (hu'.block hP); obtain ⟨⟨e0, e1, e2⟩, _⟩ := block3 (hu'.block hB); go_simp; rfl))
         refine grow_c1 72 rfl ?_
         refine ⟨#[.pointer (some ⟨w.heap.size, 0, none⟩), .int .i64 (u - x), .int .i64 (v - y)], fun u' => ?_, .int .i64 z, fun u' hu' _ => ?_, fun V u h => h, fun u => rfl, ?_⟩
         · go_simp
           rw [wrapS (n := (v : Int)) (by omega) (by omega)]
           exact ⟨wrapS (by omega) (by omega), wrapS (by omega) (by omega)⟩
         · rw [← HZV.out]
           exact l04About_any _ Wn Hn (u - x) (v - y) b o n c zs hz HV.out u' (block3 (hu'.block hP)).1 (HA.out.ext hu')
         refine grow_newB (mk := fun b => .slice (some ⟨b, 0, none⟩) 1 1) (ob := .cells #[.int .i64 z] 2) wr.heap.size rfl (fun b b' h => by simpa using h) (fun u hu => hu.size) (fun u _ _ => ?_) (fun nb hnb => ?_)
         · go_simp
         refine grow_nil (fun w4 hw4 hh => ?_)
         obtain ⟨_, hb3⟩ := hh
         have HXu := Lib.hid (hX.trans hw4)
         have HPu := Lib.hid (hw4.block hP)
         have HRu := Lib.hid (hw4.block hR)
         have HBu := Lib.hid (hw4.block hB)
         have HOu := Lib.hid (ownsRow_ext hO hw4)
         clear hX hP hR hB hO hw4 c0 c1 c2
         have HU := Lib.hid HXu.out.size
         go_simp
         go_wp2_with (at_builtin; refine wpList_append_own _ rfl _ _ 22 rfl w.heap.size 2 i0 (.int .i64 0) 1 8 Try.underlying22 hi hz0 hz1 hz2 rfl (by decide) (.slice a' k c') k (ints (gridV Wn (rollG Wn Hn zs x y) k)) rfl HOu.out ⟨nb, 0, none⟩ 1 1 [.int .i64 z] rfl rfl ?c1 ?c2 ?c3 ?c4 ?c5 ?_)
         case c1 => exact cell_one_at hb3
         case c2 => intro u hu; simp at hu; subst hu; rfl
         case c3 => unfold maxLen; omega
         case c4 => omega
         case c5 => exact HU.out
         intro v' w5 hown hg _
         obtain ⟨a2, c2', rfl⟩ := ownsRow_shape hown
         have HOWN := Lib.hid hown
         have HG := Lib.hid hg
         clear hown hg
         have hb4 := Filling.cellAt HXu.out HBu.out HOu.out HG.out
         obtain ⟨⟨_, _, c2⟩, _, _, f2⟩ := block3 hb4
         clear hb4
         go_wp2
         go_roundw
         case rel =>
           refine ⟨k + 1, by omega, by go_num, ?_⟩
           rw [HGN.out]
           exact Filling2.push HXu.out (by omega) (by omega) hq HPu.out HRu.out HBu.out HOu.out HOWN.out HG.out
         case measure => simp [intOf]; omega
       · obtain rfl : k = n := by omega
         obtain ⟨⟨e0, e1, e2⟩, _⟩ := block3 hB
         obtain ⟨⟨d0, d1, d2⟩, f0, f1, f2⟩ := block3 hR
         obtain ⟨HE, HO⟩ := stored3 (T := 24) (u0 := .int .i64 Wn) (u1 := .int .i64 Hn) (u2 := .slice a' k c') hX (by decide) (by omega) hR hO
         have HE' := Lib.hid HE
         have HO' := Lib.hid HO
         clear hX hP hR hB hO HE HO
         go_wp2
         refine bodyPost_ret (v := .tuple #[.agg #[.int .i64 Wn, .int .i64 Hn, .slice a' k c'], .bool true]) ?_ rfl (keepH_yes HR.out ⟨a', _, c', rfl, HE'.out, ?_, ?_, by omega⟩)
         · simp only [results, Try.results42]
           go_simp
         · have h := HO'.out
           unfold rollZ
           simp only [Int.toNat_natCast]
           rw [← HNN.out]
           exact h
         · unfold rollZ; rw [gridV_length]; simp only [Int.toNat_natCast]; exact HNN.out.symm
end Go.Proofs.Ytaakkdcpkllgoaa
