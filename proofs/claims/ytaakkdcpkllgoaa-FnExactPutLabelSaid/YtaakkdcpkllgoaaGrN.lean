/-
  PutLabel by the program.
-/
import Derived.Test.YtaakkdcpkllgoaaGrM
namespace Go.Proofs.Ytaakkdcpkllgoaa
open Go.RowKit
set_option linter.unusedVariables false
set_option linter.unusedSimpArgs false
set_option linter.unnecessarySimpa false

set_option maxRecDepth 100000 in
theorem implPut_any (W H x y l : Int) (a : Option Addr) (n c : Nat) (zs : List Int) (hz : zs.length = n) (hn : n ≤ 1048576) (w : World) (hA : VArr w a (ints zs)) :
    Calls Try.prog 35 #[.agg #[.int .i64 W, .int .i64 H, .slice a n c], .int .i64 x, .int .i64 y, .int .i64 l] w (keepH w (putOk W H zs x y l) W H (putZ W zs x y l)) := by
  have hX := ((Ext.refl w).alloc (.cells #[.int .i64 W, .int .i64 H, .slice a n c] 24)).alloc (.cells #[.int .i64 0, .int .i64 0, .slice none 0 0] 24)
  have b0 := heap_mid1 w (.cells #[.int .i64 W, .int .i64 H, .slice a n c] 24) (.cells #[.int .i64 0, .int .i64 0, .slice none 0 0] 24)
  have b3 := heap_new1 w (.cells #[.int .i64 W, .int .i64 H, .slice a n c] 24) (.cells #[.int .i64 0, .int .i64 0, .slice none 0 0] 24)
  have hA1 := hA.ext hX
  go_enter Try.func35, Try.ntmps35
  go_wp2_with fail
  refine (has_any W H x y a n c zs hz hn _ hA1).mono ?_
  generalize (w.alloc (.cells #[.int .i64 W, .int .i64 H, .slice a n c] 24)).alloc (.cells #[.int .i64 0, .int .i64 0, .slice none 0 0] 24) = w0 at *
  rintro e w1 ⟨rfl, hX1⟩
  cases hv : hasF W H zs x y with
  | false =>
    have HR : Hid (putOk W H zs x y l = false) := by show _ = _; simp [putOk, hv]
    obtain ⟨⟨d0, d1, d2⟩, f0, f1, f2⟩ := block3 (hX1.block b3)
    have HE := Lib.hid ((hX.trans hX1).fin3 (q := w.heap.size + 1) (by omega) (.int .i64 0) (.int .i64 0) (.slice none 0 0))
    clear hX hX1 b0 b3 hA hA1 hv
    go_wp2
    refine bodyPost_ret (v := .tuple #[.agg #[.int .i64 0, .int .i64 0, .slice none 0 0], .bool false]) ?_ rfl (keepH_no HR.out ⟨none, 0, 0, rfl, HE.out, World.ownsRow_nil _ _ _ _, rfl, by omega⟩)
    simp only [results, Try.results35]
    go_simp
  | true =>
    cases hl : inB l 0 63 with
    | false =>
      have HR : Hid (putOk W H zs x y l = false) := by show _ = _; simp [putOk, hl]
      have HL := Lib.hid hl
      obtain ⟨⟨d0, d1, d2⟩, f0, f1, f2⟩ := block3 (hX1.block b3)
      have HE := Lib.hid ((hX.trans hX1).fin3 (q := w.heap.size + 1) (by omega) (.int .i64 0) (.int .i64 0) (.slice none 0 0))
      clear hX hX1 b0 b3 hA hA1 hv hl
      go_wp2_with (go_at_call 58; refine (isLabel_any _ _).mono ?_; rw [HL.out]; rintro e w' ⟨rfl, rfl⟩)
      refine bodyPost_ret (v := .tuple #[.agg #[.int .i64 0, .int .i64 0, .slice none 0 0], .bool false]) ?_ rfl (keepH_no HR.out ⟨none, 0, 0, rfl, HE.out, World.ownsRow_nil _ _ _ _, rfl, by omega⟩)
      simp only [results, Try.results35]
      go_simp
    | true =>
      have HR : Hid (putOk W H zs x y l = true) := by show _ = _; simp [putOk, hl, hv]
      have HL := Lib.hid hl
      obtain ⟨hvl, hx, hy⟩ := hasF_iff.1 hv
      obtain ⟨x0, x1⟩ := inB_iff.1 hx
      obtain ⟨y0, y1⟩ := inB_iff.1 hy
      obtain ⟨hW, hH, hnn, ⟨hn1, hn2⟩, _⟩ := vld_facts hvl hz
      have hcf := cellF_bd x y (show 1 ≤ W by omega) (show 1 ≤ H by omega)
      rw [cellF_id x0 (by omega) y0 (by omega)] at hcf
      obtain ⟨m, hm⟩ := Int.eq_ofNat_of_zero_le hcf.1
      have hmn : m < n := by omega
      have m1 := Int.mul_nonneg (a := W) (b := y) (by omega) y0
      have HM : Hid ((x + W * y).toNat = m) := by show _ = _; omega
      have HCF : Hid (cellF W H x y = m) := by show _ = _; rw [cellF_id x0 (by omega) y0 (by omega)]; exact hm
      obtain ⟨b, o, rfl⟩ := hA.starts (i := 0) (by simp; omega)
      obtain ⟨⟨c0, c1, c2⟩, _, _, g2⟩ := block3 (hX1.block b0)
      clear hl hv hvl hx hy hnn
      go_wp2_with fail
      refine (isLabel_any _ _).mono ?_
      rw [HL.out]
      rintro e w' ⟨rfl, rfl⟩
      go_wp2_with fail
      refine (clone_any b o n c zs hz hn _ (hA1.ext hX1)).mono ?_
      rintro e w2 ⟨a', c', rfl, hX2, hO⟩
      obtain ⟨g, rfl, hg, _⟩ := own_int hO (k := 0) (by omega)
      clear c0 c1 c2 g2
      have hB2 := hX2.block (hX1.block b0)
      have hR2 := hX2.block (hX1.block b3)
      have hO2 := ownsRow_mono hO (hX.trans hX1).size
      have hg' : w.heap.size ≤ g := Nat.le_trans (hX.trans hX1).size hg
      obtain ⟨E5, B5, O5⟩ := stored (i := 2) (u := .slice (some ⟨g, 0, none⟩) n c') ((hX.trans hX1).trans hX2) (by decide) (Nat.le_refl _) hB2 hO2
      have R5 := hR2
      rw [← cells_setOther (q := w.heap.size) (i := 2) (by omega) (.slice (some ⟨g, 0, none⟩) n c')] at R5
      obtain ⟨⟨c0, c1, c2⟩, _, _, g2⟩ := block3 hB2
      clear hX hX1 hX2 hA1 hO hO2 hR2 b0 b3
      go_wp2_with fail
      clear c0 c1 c2 g2 hB2
      generalize w2.setCell ⟨w.heap.size, 2, none⟩ (.slice (some ⟨g, 0, none⟩) n c') = w5 at *
      refine region_grow_tail 8 (C := Ext w5) (K := fun _ _ V _ => V = .int .i64 m) ⟨fun _ _ h k => h.trans k, fun _ _ _ _ _ h _ => h⟩ (by kernel_rfl) (by kernel_rfl) ((Ext.refl w5).drew) ?_
      have B6 : w5.heap[w.heap.size]? = some (.cells #[.int .i64 W, .int .i64 H, .slice (some ⟨g, 0, none⟩) n c'] 24 (0, 0)) := by simpa using B5
      clear B5
      simp only [List.take_succ_cons, List.take_zero, List.drop_succ_cons, List.drop_zero]
      iterate 5 (refine grow_q rfl ?_; apply Exists.intro; refine ⟨fun u' hu _ => ?_, ?_⟩; focus (obtain ⟨⟨c0, c1, c2⟩, _⟩ := block3 (hu.block B6); go_simp; rfl))
      refine grow_c1 79 rfl ?_
      refine ⟨#[.agg #[.int .i64 W, .int .i64 H, .slice (some ⟨g, 0, none⟩) n c'], .int .i64 x, .int .i64 y], fun u' => ?_, .int .i64 m, fun u' hu _ => ?_, fun V u h => h, fun u => rfl, ?_⟩
      · go_simp
      · refine (cell_any W H x y _ n c' (by omega) (by omega) u').mono fun e w' h => ?_
        rw [HCF.out] at h; exact h
      iterate 2 (refine grow_q rfl ?_; apply Exists.intro; refine ⟨fun u' hu _ => ?_, ?_⟩; focus (go_simp; rfl))
      refine grow_nil (fun w6 hu _ => ?_)
      have O6 := ownsRow_ext O5 hu
      obtain ⟨hd, hf⟩ := own_int_at O6 (k := m) (by omega)
      have W4 := oneCell_setCell O6 (i := m) (.int .i64 l)
      rw [ints_set] at W4
      have Q4 := hu.block B6
      rw [← cells_setOther (i := m) (ne_of_row O6 (by decide) (hu.block B6)) (.int .i64 l)] at Q4
      have R4 := hu.block R5
      rw [← cells_setOther (i := m) (ne_of_row O6 (by decide) (hu.block R5)) (.int .i64 l)] at R4
      have E4 := Below.setCell (p := ⟨g, m, none⟩) (E5.trans hu) hg' (.int .i64 l)
      obtain ⟨⟨d0, d1, d2⟩, f0, f1, f2⟩ := block3 R4
      obtain ⟨⟨q0, q1, q2⟩, _⟩ := block3 Q4
      obtain ⟨HE, HO⟩ := stored3 (T := 24) (u0 := .int .i64 W) (u1 := .int .i64 H) (u2 := .slice (some ⟨g, 0, none⟩) n c') E4 (by decide) (by omega) R4 W4
      have HE' := Lib.hid HE
      have HO' := Lib.hid HO
      clear HE HO W4 Q4 R4 E4 O6 hu O5 E5 R5 B6
      go_simp
      go_wp2
      refine bodyPost_ret (v := .tuple #[.agg #[.int .i64 W, .int .i64 H, .slice (some ⟨g, 0, none⟩) n c'], .bool true]) ?_ rfl (keepH_yes HR.out ⟨_, n, c', rfl, HE'.out, by unfold putZ; rw [HM.out]; exact HO'.out, by unfold putZ; simp [hz], hn⟩)
      simp only [results, Try.results35]
      go_simp
end Go.Proofs.Ytaakkdcpkllgoaa
