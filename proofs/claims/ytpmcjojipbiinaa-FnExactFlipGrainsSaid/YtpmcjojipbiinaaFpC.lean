/-
  FlipGrains by the program. (Printed by gen_flip.py.)
-/
import Derived.Test.YtpmcjojipbiinaaFpB
namespace Go.Proofs.Ytpmcjojipbiinaa
open Go.RowKit
set_option linter.unusedVariables false
set_option linter.unusedSimpArgs false
set_option linter.unnecessarySimpa false

section
variable {P : Program} {ops : Array Oper} {C : World → Prop} {K : FuncId → Array Value → Value → World → Prop} {QW : Act → World → Prop} {a : Act} {G : Facts} {H : World → Prop} {o : Oper} {rest : List Oper}
/-- An operation whose value is known, and a fact of memory that it carries on. -/
theorem grow_detF {c : Value} (F : World → Prop) (hw : Region.wanted o (yielded ops a.tmps) = true) (hF : ∀ w w', Ext w w' → F w → F w')
    (h1 : ∀ w, C w → known ops G o w → (execOp a.eval o).run P w = .ok (.value c) w ∧ F w)
    (h2 : wpGrow P ops C K (fin C QW) rest (a.put o.dst c) (upd G o.dst F) (fun w => H w ∧ F w)) : wpGrow P ops C K (fin C QW) (o :: rest) a G H := by
  refine grow_gen (fun v => v = c) (fun _ => F) hw (fun w hc hk => ?_) (fun v hv => ?_)
  · rw [(h1 w hc hk).1]
    exact ⟨Ext.refl _, fun v w' hg => ⟨hg.1.symm, hF _ _ hg.2 (h1 w hc hk).2⟩⟩
  · subst hv
    exact h2
end

set_option maxRecDepth 100000 in
set_option maxHeartbeats 8000000 in
theorem implFlip_any (W H s : Int) (ch : Nat) (m : Int) (a : Option Addr) (n c : Nat) (zs : List Int) (hz : zs.length = n) (hn : n ≤ 1048576) (w : World) (hA : VArr w a (ints zs)) :
    Calls Try.prog 18 #[.agg #[.int .i64 W, .int .i64 H, .slice a n c], .int .i64 s, .float .f32 ch, .int .i64 m] w (keepFp w (flipOk W H zs s m) W H (flipF W H zs s ch m).zs (flipF W H zs s ch m).sd (flipF W H zs s ch m).tk) := by
  have hX := ((Ext.refl w).alloc (.cells #[.int .i64 W, .int .i64 H, .slice a n c] 25)).alloc (.cells #[.int .i64 0, .int .i64 0, .slice none 0 0] 25)
  have b0 := heap_mid1 w (.cells #[.int .i64 W, .int .i64 H, .slice a n c] 25) (.cells #[.int .i64 0, .int .i64 0, .slice none 0 0] 25)
  have b3 := heap_new1 w (.cells #[.int .i64 W, .int .i64 H, .slice a n c] 25) (.cells #[.int .i64 0, .int .i64 0, .slice none 0 0] 25)
  have hA1 := hA.ext hX
  go_enter Try.func18, Try.ntmps18
  go_wp2_with fail
  refine (implValid_any W H a n c zs hz (by omega) _ hA1).mono ?_
  generalize (w.alloc (.cells #[.int .i64 W, .int .i64 H, .slice a n c] 25)).alloc (.cells #[.int .i64 0, .int .i64 0, .slice none 0 0] 25) = w0 at *
  rintro e w1 ⟨rfl, hX1⟩
  cases hv : vldG W H zs with
  | false =>
    have HR : Hid (flipOk W H zs s m = false) := by show _ = _; simp [flipOk, hv]
    obtain ⟨⟨d0, d1, d2⟩, f0, f1, f2⟩ := block3 (hX1.block b3)
    have HE := Lib.hid ((hX.trans hX1).fin3 (q := w.heap.size + 1) (by omega) (.int .i64 0) (.int .i64 0) (.slice none 0 0))
    clear hX hX1 b0 b3 hA hA1 hv
    go_wp2
    refine bodyPost_ret (v := .tuple #[.agg #[.int .i64 0, .int .i64 0, .slice none 0 0], .int .i64 0, .int .i64 0, .bool false]) ?_ rfl (keepFp_no HR.out ⟨none, 0, 0, rfl, HE.out, World.ownsRow_nil _ _ _ _, rfl, by omega⟩)
    simp only [results, Try.results18]
    go_simp
  | true =>
    cases hs : inB s 0 2147483647 with
    | false =>
      have HR : Hid (flipOk W H zs s m = false) := by show _ = _; simp [flipOk, hs]
      have HS := Lib.hid hs
      obtain ⟨⟨d0, d1, d2⟩, f0, f1, f2⟩ := block3 (hX1.block b3)
      have HE := Lib.hid ((hX.trans hX1).fin3 (q := w.heap.size + 1) (by omega) (.int .i64 0) (.int .i64 0) (.slice none 0 0))
      clear hX hX1 b0 b3 hA hA1 hv hs
      go_wp2_with (go_at_call 48; refine (isSeed_any _ _).mono ?_; rw [HS.out]; rintro e w' ⟨rfl, rfl⟩)
      refine bodyPost_ret (v := .tuple #[.agg #[.int .i64 0, .int .i64 0, .slice none 0 0], .int .i64 0, .int .i64 0, .bool false]) ?_ rfl (keepFp_no HR.out ⟨none, 0, 0, rfl, HE.out, World.ownsRow_nil _ _ _ _, rfl, by omega⟩)
      simp only [results, Try.results18]
      go_simp
    | true =>
      have HS := Lib.hid hs
      cases hm : inB m 0 1000 with
      | false =>
        have HR : Hid (flipOk W H zs s m = false) := by show _ = _; simp [flipOk, hm]
        have HM := Lib.hid hm
        obtain ⟨⟨d0, d1, d2⟩, f0, f1, f2⟩ := block3 (hX1.block b3)
        have HE := Lib.hid ((hX.trans hX1).fin3 (q := w.heap.size + 1) (by omega) (.int .i64 0) (.int .i64 0) (.slice none 0 0))
        clear hX hX1 b0 b3 hA hA1 hv hs hm
        go_wp2_with (first | (go_at_call 48; refine (isSeed_any _ _).mono ?_; rw [HS.out]; rintro e w' ⟨rfl, rfl⟩) | (go_at_call 30; refine (within_any _ _ _ _).mono ?_; rw [HM.out]; rintro e w' ⟨rfl, rfl⟩))
        refine bodyPost_ret (v := .tuple #[.agg #[.int .i64 0, .int .i64 0, .slice none 0 0], .int .i64 0, .int .i64 0, .bool false]) ?_ rfl (keepFp_no HR.out ⟨none, 0, 0, rfl, HE.out, World.ownsRow_nil _ _ _ _, rfl, by omega⟩)
        simp only [results, Try.results18]
        go_simp
      | true =>
        have HR : Hid (flipOk W H zs s m = true) := by show _ = _; simp [flipOk, hm, hv, hs]
        have HM := Lib.hid hm
        obtain ⟨hss1, hss2⟩ := inB_iff.1 hs
        obtain ⟨hmm1, hmm2⟩ := inB_iff.1 hm
        obtain ⟨M, rfl⟩ := Int.eq_ofNat_of_zero_le hmm1
        obtain ⟨hW, hH, hnn, ⟨hn1, hn2⟩, _⟩ := vld_facts hv hz
        obtain ⟨hW1, hW2⟩ := hW
        obtain ⟨hH1, hH2⟩ := hH
        have OK := Lib.hid (flN_ok (c := fa .f32 ch) (f := ⟨zs, s, 0⟩) (⟨hv, hz, hss1, hss2, Int.le_refl _, Int.le_refl _⟩ : FlOk W H n 0 ⟨zs, s, 0⟩))
        clear hv hs hm hnn
        obtain ⟨b, o, rfl⟩ := hA.starts (i := 0) (by simp; omega)
        obtain ⟨⟨c0, c1, c2⟩, _, _, g2⟩ := block3 (hX1.block b0)
        go_wp2_with (first | (go_at_call 48; refine (isSeed_any _ _).mono ?_; rw [HS.out]; rintro e w' ⟨rfl, rfl⟩) | (go_at_call 30; refine (within_any _ _ _ _).mono ?_; rw [HM.out]; rintro e w' ⟨rfl, rfl⟩) | fail)
        refine (clone_any b o n c zs hz hn _ (hA1.ext hX1)).mono ?_
        rintro e w2 ⟨a', c', rfl, hX2, hO⟩
        obtain ⟨g, rfl, hg, _⟩ := own_int hO (k := 0) (by omega)
        clear c0 c1 c2 g2
        have hB2 := hX2.block (hX1.block b0)
        have hR2 := hX2.block (hX1.block b3)
        have hO2 := ownsRow_mono hO (hX.trans hX1).size
        obtain ⟨E5, B5, O5⟩ := stored (i := 2) (u := .slice (some ⟨g, 0, none⟩) n c') ((hX.trans hX1).trans hX2) (by decide) (Nat.le_refl _) hB2 hO2
        have R5 := hR2
        rw [← cells_setOther (q := w.heap.size) (i := 2) (by omega) (.slice (some ⟨g, 0, none⟩) n c')] at R5
        have B6 : (w2.setCell ⟨w.heap.size, 2, none⟩ (.slice (some ⟨g, 0, none⟩) n c')).heap[w.heap.size]? = some (.cells #[.int .i64 W, .int .i64 H, .slice (some ⟨g, 0, none⟩) n c'] 25 (0, 0)) := by simpa using B5
        have F0 : FlW w #[.int .i64 W, .int .i64 H, .slice (some ⟨g, 0, none⟩) n c'] W H g w.heap.size n c' zs (w2.setCell ⟨w.heap.size, 2, none⟩ (.slice (some ⟨g, 0, none⟩) n c')) := ⟨E5, B6, R5, B6, O5⟩
        obtain ⟨⟨c0, c1, c2⟩, _, _, g2⟩ := block3 hB2
        clear hX hX1 hX2 hA1 hO hO2 hR2 b0 b3 E5 B5 O5 R5 B6 hB2 hg
        go_wp2
        clear c0 c1 c2 g2
        generalize w2.setCell ⟨w.heap.size, 2, none⟩ (.slice (some ⟨g, 0, none⟩) n c') = w3 at *
        generalize hC : fa .f32 ch = C at *
        have HC := Lib.hid hC
        clear hC
        go_loopw [1, 13, 40] (fun sv tv i wr => ∃ k : Nat, k ≤ M ∧ i = .int .i64 k ∧ sv = .int .i64 (flN W H C ⟨zs, s, 0⟩ k).sd ∧ tv = .int .i64 (flN W H C ⟨zs, s, 0⟩ k).tk ∧ FlW w #[.int .i64 W, .int .i64 H, .slice (some ⟨g, 0, none⟩) n c'] W H g w.heap.size n c' (flN W H C ⟨zs, s, 0⟩ k).zs wr) (fun _ _ i _ => M - (intOf i).toNat)
        case atStart => exact ⟨0, Nat.zero_le _, rfl, rfl, rfl, F0⟩
        case round =>
          obtain ⟨k, hk, rfl, rfl, rfl, hF⟩ := hrel
          clear F0
          by_cases hlt : k < M
          · have hok := OK.out k
            have HN : Hid (flN W H C ⟨zs, s, 0⟩ (k + 1) = flStep W H C (flN W H C ⟨zs, s, 0⟩ k)) := rfl
            generalize flN W H C ⟨zs, s, 0⟩ k = f at *
            obtain ⟨zs1, sd, tk⟩ := f
            obtain ⟨hv1, hz1, sd0, sd1, tk0, tk1⟩ := hok
            dsimp only at hv1 hz1 sd0 sd1 tk0 tk1 hF ⊢
            have N1 := Lib.hid (draw_any sd (by omega) (by omega))
            have b1 := nxtS_bd sd
            obtain ⟨s1, hs1⟩ : ∃ z, nxtS sd = z := ⟨_, rfl⟩
            rw [hs1] at N1 b1
            have H1 := Lib.hid hs1
            clear hs1
            have N2 := Lib.hid (draw_any s1 (by omega) (by omega))
            have b2 := nxtS_bd s1
            obtain ⟨s2, hs2⟩ : ∃ z, nxtS s1 = z := ⟨_, rfl⟩
            rw [hs2] at N2 b2
            have H2 := Lib.hid hs2
            clear hs2
            have N3 := Lib.hid (draw_any s2 (by omega) (by omega))
            have b3 := nxtS_bd s2
            obtain ⟨s3, hs3⟩ : ∃ z, nxtS s2 = z := ⟨_, rfl⟩
            rw [hs3] at N3 b3
            have H3 := Lib.hid hs3
            clear hs3
            have N4 := Lib.hid (draw_any s3 (by omega) (by omega))
            have b4 := nxtS_bd s3
            obtain ⟨s4, hs4⟩ : ∃ z, nxtS s3 = z := ⟨_, rfl⟩
            rw [hs4] at N4 b4
            have H4 := Lib.hid hs4
            clear hs4
            obtain ⟨x, hx⟩ : ∃ z, s1 / 65536 % W = z := ⟨_, rfl⟩
            obtain ⟨y, hy⟩ : ∃ z, s2 / 65536 % H = z := ⟨_, rfl⟩
            obtain ⟨d, hd⟩ : ∃ z, s3 / 65536 % 8 = z := ⟨_, rfl⟩
            have x0 : 0 ≤ x := by rw [← hx]; exact Int.emod_nonneg _ (by omega)
            have x1 : x < W := by rw [← hx]; exact Int.emod_lt_of_pos _ (by omega)
            have y0 : 0 ≤ y := by rw [← hy]; exact Int.emod_nonneg _ (by omega)
            have y1 : y < H := by rw [← hy]; exact Int.emod_lt_of_pos _ (by omega)
            have d0 : 0 ≤ d := by rw [← hd]; exact Int.emod_nonneg _ (by omega)
            have d1 : d < 8 := by rw [← hd]; exact Int.emod_lt_of_pos _ (by omega)
            obtain ⟨d, rfl⟩ := Int.eq_ofNat_of_zero_le d0
            have hW0 : ¬ W = 0 := by omega
            have hH0 : ¬ H = 0 := by omega
            have m1 := Int.mul_nonneg (a := W) (b := y) (by omega) y0
            have hcf := cellF_bd x y (show 1 ≤ W by omega) (show 1 ≤ H by omega)
            have hnn := (vld_facts hv1 hz1).2.2.1
            have hid := cellF_id x0 x1 y0 y1
            rw [hid] at hcf
            obtain ⟨mm, hmm⟩ := Int.eq_ofNat_of_zero_le hcf.1
            have hmn : mm < n := by omega
            have hWy : W * y ≤ 256 := by omega
            -- what one turn is, in these words
            have EX : Hid (flX W ⟨zs1, sd, tk⟩ = x) := by show nxtS sd / 65536 % W = x; rw [H1.out, hx]
            have EY : Hid (flY H ⟨zs1, sd, tk⟩ = y) := by show nxtS (nxtS sd) / 65536 % H = y; rw [H1.out, H2.out, hy]
            obtain ⟨l, hl⟩ : ∃ z, (arL W H zs1 x y)[d]?.getD 0 = z := ⟨_, rfl⟩
            obtain ⟨ow, how⟩ : ∃ z, zs1[mm]?.getD 0 = z := ⟨_, rfl⟩
            have EL : Hid (flL W H ⟨zs1, sd, tk⟩ = l) := by show flLab W H zs1 (nxtS (nxtS (nxtS sd))) _ _ = l; rw [EX.out, EY.out, H1.out, H2.out, H3.out]; unfold flLab; rw [hd]; exact hl
            have EO : Hid (flO W H ⟨zs1, sd, tk⟩ = ow) := by show abG W H zs1 _ _ = ow; rw [EX.out, EY.out]; unfold abG; rw [hid, hmm]; exact how
            have l01 := arL_bd hv1 hz1 x y d
            rw [hl] at l01
            have HL := Lib.hid hl
            have HOW := Lib.hid how
            have HMM : Hid ((x + W * y).toNat = mm) := by show _ = _; omega
            obtain ⟨u1, hu1⟩ : ∃ z, unlN W H zs1 x y l = z := ⟨_, rfl⟩
            obtain ⟨u2, hu2⟩ : ∃ z, unlN W H zs1 x y ow = z := ⟨_, rfl⟩
            have u1b := unlN_bd W H zs1 x y l
            have u2b := unlN_bd W H zs1 x y ow
            rw [hu1] at u1b
            rw [hu2] at u2b
            have EE : Hid (flE W H ⟨zs1, sd, tk⟩ = u1 - u2) := by show unlN W H zs1 _ _ _ - unlN W H zs1 _ _ _ = _; rw [EX.out, EY.out, EL.out, EO.out, hu1, hu2]
            have U1 := Lib.hid hu1
            have U2 := Lib.hid hu2
            have HV := Lib.hid hv1
            have HZ1 := Lib.hid hz1
            have HF := Lib.hid hF
            have HCF : Hid (cellF W H x y = mm) := by show _ = _; rw [hid]; exact hmm
            clear hu1 hu2 hl how hcf hnn hid hv1 hz1 hF l01
            obtain ⟨⟨p0, p1, p2⟩, _⟩ := block3 HF.out.arg
            go_wp2_with fail
            refine (N1.out _).mono ?_
            rintro e w' ⟨rfl, rfl⟩
            go_wp2_with fail
            refine (N2.out _).mono ?_
            rintro e w' ⟨rfl, rfl⟩
            go_wp2_with fail
            refine (N3.out _).mono ?_
            rintro e w' ⟨rfl, rfl⟩
            go_wp2_with fail
            clear p0 p1 p2
            have hd8 : ¬ ((8 : Int) = 0) := by omega
            have htm : (s3 / 65536).tmod 8 = (d : Int) := by rw [Int.tmod_eq_emod_of_nonneg (by omega)]; exact hd
            refine region_grow (C := Ext wr) (K := fun f args V wv => (f = 51 → ∃ g8 c8, V = .slice (some ⟨g8, 0, none⟩) 8 c8 ∧ wv.cell? ⟨g8, d, none⟩ = some (.int .i64 l)) ∧ (f = 52 → V = .int .i64 ow)) ⟨fun _ _ h k => h.trans k, fun f args v u u' h ex => ⟨fun hf => (by obtain ⟨g8, c8, h1, h2⟩ := h.1 hf; exact ⟨g8, c8, h1, ex.cell h2⟩), h.2⟩⟩ (by kernel_rfl) (by kernel_rfl) ((Ext.refl wr).drew) ?_
            refine grow_det (c := .agg #[.int .i64 W, .int .i64 H, .slice (some ⟨g, 0, none⟩) n c']) rfl (fun u hu _ => ?_) ?_
            · obtain ⟨⟨c0, c1, c2⟩, _⟩ := block3 (hu.block HF.out.arg)
              go_simp
            iterate 2 (refine grow_q rfl ?_; apply Exists.intro; refine ⟨fun u hu _ => ?_, ?_⟩; focus (go_simp; try rfl))
            refine grow_cg 51 (fun v => ∃ g8 c8, v = .slice (some ⟨g8, 0, none⟩) 8 c8) (fun v wv => ∀ g8 c8, v = .slice (some ⟨g8, 0, none⟩) 8 c8 → wv.cell? ⟨g8, d, none⟩ = some (.int .i64 l)) rfl ?_
            refine ⟨#[.agg #[.int .i64 W, .int .i64 H, .slice (some ⟨g, 0, none⟩) n c'], .int .i64 x, .int .i64 y], fun u => ?_, fun u hu _ => ?_, fun v u h => ?_, fun v hv => ?_⟩
            · go_simp
            · refine (around_any W H x y g 0 n c' zs1 HZ1.out HV.out ⟨by omega, by omega⟩ ⟨by omega, by omega⟩ u (ownsRow_varr (ownsRow_ext HF.out.row hu))).mono fun e u' h => ?_
              obtain ⟨a8, c8, he, hx8, ho⟩ := h
              obtain ⟨g8, rfl, _, _⟩ := own_int ho (k := 0) (by simp [arL])
              have hc8 := (own_int_at ho (k := d) (by simp [arL]; omega)).1
              rw [HL.out] at hc8
              exact ⟨_, he, hx8, fun _ => ⟨g8, c8, rfl, hc8⟩, fun hf => absurd hf (by decide)⟩
            · obtain ⟨g8, c8, h1, h2⟩ := h.1 rfl
              refine ⟨⟨g8, c8, h1⟩, fun g9 c9 he => ?_⟩
              rw [h1] at he; simp at he; obtain ⟨rfl, rfl⟩ := he; exact h2
            obtain ⟨g8, c8, rfl⟩ := hv
            iterate 2 (refine grow_q rfl ?_; apply Exists.intro; refine ⟨fun u hu _ => ?_, ?_⟩; focus (go_simp; try rfl))
            refine grow_detF (c := .pointer (some ⟨g8, d, none⟩)) (fun wv => wv.cell? ⟨g8, d, none⟩ = some (.int .i64 l)) rfl (fun w w' h k => h.cell k) (fun u hu hk => ⟨?_, hk 68 (by simp [Oper.looksAt, Op.operands, Call.operands]) g8 c8 rfl⟩) ?_
            · go_simp
            refine grow_det (c := .int .i64 l) rfl (fun u hu hk => ?_) ?_
            · have hc8 : u.cell? ⟨g8, d, none⟩ = some (.int .i64 l) := hk 71 (by simp [Oper.looksAt, Op.operands, Call.operands])
              go_simp
            refine grow_det (c := .agg #[.int .i64 W, .int .i64 H, .slice (some ⟨g, 0, none⟩) n c']) rfl (fun u hu _ => ?_) ?_
            · obtain ⟨⟨c0, c1, c2⟩, _⟩ := block3 (hu.block HF.out.arg)
              go_simp
            iterate 2 (refine grow_q rfl ?_; apply Exists.intro; refine ⟨fun u hu _ => ?_, ?_⟩; focus (go_simp; try rfl))
            refine grow_c1 52 rfl ?_
            refine ⟨#[.agg #[.int .i64 W, .int .i64 H, .slice (some ⟨g, 0, none⟩) n c'], .int .i64 x, .int .i64 y], fun u' => ?_, .int .i64 ow, fun u' hu _ => ?_, fun V u h => h.2 rfl, fun u => ⟨fun hf => absurd hf (by decide), fun _ => rfl⟩, ?_⟩
            · go_simp
            · refine (about_any W H x y g 0 n c' zs1 HZ1.out HV.out u' (ownsRow_varr (ownsRow_ext HF.out.row hu))).mono fun e w' h => ?_
              rw [HCF.out] at h
              exact ⟨h.1.trans (by rw [Int.toNat_natCast, HOW.out]), h.2⟩
            iterate 2 (refine grow_q rfl ?_; apply Exists.intro; refine ⟨fun u hu _ => ?_, ?_⟩; focus (go_simp; try rfl))
            refine grow_nil (fun w4 hX4 _ => ?_)
            have HF4 := Lib.hid (HF.out.of_ext hX4)
            clear hX4 HF
            go_simp
            go_wp2_with fail
            refine region_grow (C := Ext w4) (K := fun f args V _ => ∀ z, args = #[.agg #[.int .i64 W, .int .i64 H, .slice (some ⟨g, 0, none⟩) n c'], .int .i64 x, .int .i64 y, .int .i64 z] → V = .int .i64 (unlN W H zs1 x y z)) ⟨fun _ _ h k => h.trans k, fun _ _ _ _ _ h _ => h⟩ (by kernel_rfl) (by kernel_rfl) ((Ext.refl w4).drew) ?_
            refine grow_det (c := .agg #[.int .i64 W, .int .i64 H, .slice (some ⟨g, 0, none⟩) n c']) rfl (fun u hu _ => ?_) ?_
            · obtain ⟨⟨c0, c1, c2⟩, _⟩ := block3 (hu.block HF4.out.arg)
              go_simp
            iterate 3 (refine grow_q rfl ?_; apply Exists.intro; refine ⟨fun u hu _ => ?_, ?_⟩; focus (go_simp; try rfl))
            refine grow_c1 53 rfl ?_
            refine ⟨#[.agg #[.int .i64 W, .int .i64 H, .slice (some ⟨g, 0, none⟩) n c'], .int .i64 x, .int .i64 y, .int .i64 l], fun u' => ?_, .int .i64 u1, fun u' hu _ => ?_, fun V u h => (h l rfl).trans (by rw [U1.out]), fun u z hz => (by simp at hz; rw [← hz, U1.out]), ?_⟩
            · go_simp
            · refine (unlike_any W H x y l g 0 n c' zs1 HZ1.out HV.out ⟨by omega, by omega⟩ ⟨by omega, by omega⟩ u' (ownsRow_varr (ownsRow_ext HF4.out.row hu))).mono fun e w' h => ?_
              rw [U1.out] at h; exact h
            refine grow_det (c := .agg #[.int .i64 W, .int .i64 H, .slice (some ⟨g, 0, none⟩) n c']) rfl (fun u hu _ => ?_) ?_
            · obtain ⟨⟨c0, c1, c2⟩, _⟩ := block3 (hu.block HF4.out.arg)
              go_simp
            iterate 3 (refine grow_q rfl ?_; apply Exists.intro; refine ⟨fun u hu _ => ?_, ?_⟩; focus (go_simp; try rfl))
            refine grow_c1 53 rfl ?_
            refine ⟨#[.agg #[.int .i64 W, .int .i64 H, .slice (some ⟨g, 0, none⟩) n c'], .int .i64 x, .int .i64 y, .int .i64 ow], fun u' => ?_, .int .i64 u2, fun u' hu _ => ?_, fun V u h => (h ow rfl).trans (by rw [U2.out]), fun u z hz => (by simp at hz; rw [← hz, U2.out]), ?_⟩
            · go_simp
            · refine (unlike_any W H x y ow g 0 n c' zs1 HZ1.out HV.out ⟨by omega, by omega⟩ ⟨by omega, by omega⟩ u' (ownsRow_varr (ownsRow_ext HF4.out.row hu))).mono fun e w' h => ?_
              rw [U2.out] at h; exact h
            iterate 2 (refine grow_q rfl ?_; apply Exists.intro; refine ⟨fun u hu _ => ?_, ?_⟩; focus (go_simp; try rfl))
            refine grow_nil (fun w6 hX6 _ => ?_)
            have HF6 := Lib.hid (HF4.out.of_ext hX6)
            clear hX6 HF4
            go_simp
            obtain ⟨ee, hee⟩ : ∃ z, u1 - u2 = z := ⟨_, rfl⟩
            have ee8 : -8 ≤ ee ∧ ee ≤ 8 := by omega
            have hew : IntKind.i64.wrap (u1 - u2) = ee := by rw [wrapS (by omega) (by omega)]; exact hee
            have HEE := Lib.hid hee
            by_cases he : ee ≤ 0
            · -- no worse
              by_cases hlo : l = ow
              · subst hlo
                go_wp2
                go_roundw
                case rel =>
                  refine ⟨k + 1, by omega, by go_num, ?_⟩
                  have hst : flStep W H C ⟨zs1, sd, tk⟩ = ⟨zs1, s3, tk⟩ := by
                    unfold flStep
                    rw [EX.out, EY.out, EL.out, EO.out, EE.out, HEE.out, if_pos he]
                    rw [H1.out, H2.out, H3.out]
                    exact flPut_no (Or.inr rfl)
                  rw [HN.out, hst]
                  exact ⟨rfl, rfl, HF6.out⟩
                case measure => simp [intOf]; omega
              · have HQ := Lib.hid HF6.out
                go_wp2_with fail
                refine region_grow_tail 8 (C := Ext _) (K := fun _ _ V _ => V = .int .i64 mm) ⟨fun _ _ h k => h.trans k, fun _ _ _ _ _ h _ => h⟩ (by kernel_rfl) (by kernel_rfl) ((Ext.refl _).drew) ?_
                simp only [List.take_succ_cons, List.take_zero, List.drop_succ_cons, List.drop_zero]
                iterate 5 (refine grow_q rfl ?_; apply Exists.intro; refine ⟨fun u' hu _ => ?_, ?_⟩; focus (obtain ⟨⟨c0, c1, c2⟩, _⟩ := block3 (hu.block HQ.out.arg); go_simp; rfl))
                refine grow_c1 54 rfl ?_
                refine ⟨#[.agg #[.int .i64 W, .int .i64 H, .slice (some ⟨g, 0, none⟩) n c'], .int .i64 x, .int .i64 y], fun u' => ?_, .int .i64 mm, fun u' hu _ => ?_, fun V u h => h, fun u => rfl, ?_⟩
                · go_simp
                · refine (cell_any W H x y _ n c' (by omega) (by omega) u').mono fun e w' h => ?_
                  rw [HCF.out] at h; exact h
                iterate 2 (refine grow_q rfl ?_; apply Exists.intro; refine ⟨fun u' hu _ => ?_, ?_⟩; focus (go_simp; rfl))
                refine grow_nil (fun w7 hX7 _ => ?_)
                have HF7 := Lib.hid (HQ.out.of_ext hX7)
                clear hX7 HQ
                obtain ⟨hcm1, hcm2⟩ := own_int_at HF7.out.row (k := mm) (by rw [HZ1.out]; exact hmn)
                go_simp
                go_wp2
                go_roundw
                case rel =>
                  refine ⟨k + 1, by omega, by go_num, ?_⟩
                  have hst : flStep W H C ⟨zs1, sd, tk⟩ = ⟨zs1.set mm l, s3, tk + 1⟩ := by
                    unfold flStep
                    rw [EX.out, EY.out, EL.out, EO.out, EE.out, HEE.out, if_pos he]
                    rw [H1.out, H2.out, H3.out]
                    refine (flPut_yes rfl hlo).trans ?_
                    rw [HMM.out]
                  rw [HN.out, hst]
                  exact ⟨rfl, rfl, FlW.set HF7.out mm l⟩
                case measure => simp [intOf]; omega
            · -- a chance
              obtain ⟨E, rfl⟩ := Int.eq_ofNat_of_zero_le (show 0 ≤ ee by omega)
              have hE0 : ¬ E = 0 := by omega
              have hE1 : 1 ≤ E := by omega
              go_wp2_with fail
              refine (N4.out _).mono ?_
              rintro e w' ⟨rfl, rfl⟩
              go_wp2
              go_loopw [20, 98] (fun sv i wr => ∃ (j r : Nat), j ≤ E ∧ i = .int .i64 j ∧ sv = .float .f32 r ∧ fa .f32 r = powO C j ∧ Ext w6 wr) (fun _ i _ => E - (intOf i).toNat)
              case atStart => exact ⟨0, _, Nat.zero_le _, rfl, rfl, rfl, Ext.refl _⟩
              case round =>
                obtain ⟨j, r, hj, rfl, rfl, hr, hE⟩ := hrel
                have HRj := Lib.hid hr
                have HEj := Lib.hid hE
                clear hr hE
                by_cases hjl : j < E
                · go_wp2
                  go_roundw
                  case rel => exact ⟨j + 1, _, by omega, by go_num, rfl, by rw [fa_frr, HRj.out, HC.out]; rfl, HEj.out.drewN _⟩
                  case measure => simp [intOf]; omega
                · obtain rfl : j = E := by omega
                  have HT : ∀ u, (FloatKind.f32.format.order (frr .quo .f32 (floatOfInt .f32 (s4 / 65536)) 1191182336 u) r = some .lt) = (lssO (drwO s4) (powO C j) = true) := fun u => by
                    unfold lssO drwO
                    rw [order_fa, fa_frr, HRj.out, decide_eq_true_eq]
                  have hz := HT wr
                  have HFr := Lib.hid (HF6.out.of_ext HEj.out)
                  clear HT
                  cases htb : lssO (drwO s4) (powO C j) with
                  | false =>
                    have hn2 : ¬ FloatKind.f32.format.order (frr .quo .f32 (floatOfInt .f32 (s4 / 65536)) 1191182336 wr) r = some .lt := by rw [hz, htb]; simp
                    have HTB := Lib.hid htb
                    clear hz htb
                    go_wp2
                    go_roundw
                    case rel =>
                      refine ⟨k + 1, by omega, by go_num, ?_⟩
                      have hst : flStep W H C ⟨zs1, sd, tk⟩ = ⟨zs1, s4, tk⟩ := by
                        unfold flStep
                        rw [EX.out, EY.out, EL.out, EO.out, EE.out, HEE.out, if_neg (by omega), H1.out, H2.out, H3.out, H4.out]
                        exact flPut_no (Or.inl HTB.out)
                      rw [HN.out, hst]
                      exact ⟨rfl, rfl, HFr.out.of_ext ((Ext.refl _).drewN _)⟩
                    case measure => simp [intOf]; omega
                  | true =>
                    have hy2 : FloatKind.f32.format.order (frr .quo .f32 (floatOfInt .f32 (s4 / 65536)) 1191182336 wr) r = some .lt := by rw [hz, htb]
                    have HTB := Lib.hid htb
                    clear hz htb
                    by_cases hlo : l = ow
                    · subst hlo
                      go_wp2
                      go_roundw
                      case rel =>
                        refine ⟨k + 1, by omega, by go_num, ?_⟩
                        have hst : flStep W H C ⟨zs1, sd, tk⟩ = ⟨zs1, s4, tk⟩ := by
                          unfold flStep
                          rw [EX.out, EY.out, EL.out, EO.out, EE.out, HEE.out, if_neg (by omega)]
                          rw [H1.out, H2.out, H3.out, H4.out]
                          exact flPut_no (Or.inr rfl)
                        rw [HN.out, hst]
                        exact ⟨rfl, rfl, (HFr.out.of_ext ((Ext.refl wr).drewN (frn .quo .f32 (floatOfInt .f32 (s4 / 65536)) 1191182336)))⟩
                      case measure => simp [intOf]; omega
                    · have HQ := Lib.hid (HFr.out.of_ext ((Ext.refl wr).drewN (frn .quo .f32 (floatOfInt .f32 (s4 / 65536)) 1191182336)))
                      go_wp2_with fail
                      refine region_grow_tail 8 (C := Ext _) (K := fun _ _ V _ => V = .int .i64 mm) ⟨fun _ _ h k => h.trans k, fun _ _ _ _ _ h _ => h⟩ (by kernel_rfl) (by kernel_rfl) ((Ext.refl _).drew) ?_
                      simp only [List.take_succ_cons, List.take_zero, List.drop_succ_cons, List.drop_zero]
                      iterate 5 (refine grow_q rfl ?_; apply Exists.intro; refine ⟨fun u' hu _ => ?_, ?_⟩; focus (obtain ⟨⟨c0, c1, c2⟩, _⟩ := block3 (hu.block HQ.out.arg); go_simp; rfl))
                      refine grow_c1 54 rfl ?_
                      refine ⟨#[.agg #[.int .i64 W, .int .i64 H, .slice (some ⟨g, 0, none⟩) n c'], .int .i64 x, .int .i64 y], fun u' => ?_, .int .i64 mm, fun u' hu _ => ?_, fun V u h => h, fun u => rfl, ?_⟩
                      · go_simp
                      · refine (cell_any W H x y _ n c' (by omega) (by omega) u').mono fun e w' h => ?_
                        rw [HCF.out] at h; exact h
                      iterate 2 (refine grow_q rfl ?_; apply Exists.intro; refine ⟨fun u' hu _ => ?_, ?_⟩; focus (go_simp; rfl))
                      refine grow_nil (fun w7 hX7 _ => ?_)
                      have HF7 := Lib.hid (HQ.out.of_ext hX7)
                      clear hX7 HQ
                      obtain ⟨hcm1, hcm2⟩ := own_int_at HF7.out.row (k := mm) (by rw [HZ1.out]; exact hmn)
                      go_simp
                      go_wp2
                      go_roundw
                      case rel =>
                        refine ⟨k + 1, by omega, by go_num, ?_⟩
                        have hst : flStep W H C ⟨zs1, sd, tk⟩ = ⟨zs1.set mm l, s4, tk + 1⟩ := by
                          unfold flStep
                          rw [EX.out, EY.out, EL.out, EO.out, EE.out, HEE.out, if_neg (by omega)]
                          rw [H1.out, H2.out, H3.out, H4.out]
                          refine (flPut_yes HTB.out hlo).trans ?_
                          rw [HMM.out]
                        rw [HN.out, hst]
                        exact ⟨rfl, rfl, FlW.set HF7.out mm l⟩
                      case measure => simp [intOf]; omega
          · obtain rfl : k = M := by omega
            obtain ⟨⟨q0, q1, q2⟩, _⟩ := block3 hF.arg
            obtain ⟨⟨d0, d1, d2⟩, f0, f1, f2⟩ := block3 hF.res
            have hok := OK.out k
            have HFIN : Hid (flipF W H zs s ch (k : Int) = flN W H C ⟨zs, s, 0⟩ k) := by show _ = _; unfold flipF; rw [HC.out]; rfl
            generalize flN W H C ⟨zs, s, 0⟩ k = f at *
            obtain ⟨zs1, sd, tk⟩ := f
            obtain ⟨HE, HO⟩ := stored3 (T := 25) (u0 := .int .i64 W) (u1 := .int .i64 H) (u2 := .slice (some ⟨g, 0, none⟩) n c') hF.ext (by decide) (by omega) hF.res hF.row
            have HE' := Lib.hid HE
            have HO' := Lib.hid HO
            have HLEN := Lib.hid hok.len
            clear HE HO hF hok
            go_wp2
            refine bodyPost_ret (v := .tuple #[.agg #[.int .i64 W, .int .i64 H, .slice (some ⟨g, 0, none⟩) n c'], .int .i64 sd, .int .i64 tk, .bool true]) ?_ rfl (keepFp_yes HR.out ⟨_, n, c', by rw [HFIN.out], HE'.out, by rw [HFIN.out]; exact HO'.out, by rw [HFIN.out]; exact HLEN.out, hn⟩)
            simp only [results, Try.results18]
            go_simp
end Go.Proofs.Ytpmcjojipbiinaa
