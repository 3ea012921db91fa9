/-
  SpreadField, by the program and by the reference. (Printed by gen_spread.py.)
-/
import Derived.Test.YtllpbkmdcaikoaaFlM
namespace Go.Proofs.Ytllpbkmdcaikoaa
open Go.RowKit
set_option linter.unusedVariables false
set_option linter.unusedSimpArgs false
set_option linter.unnecessarySimpa false

def stepG (W H : Int) (R : Bool) (rate : Option Nat) (fs : List (Option Nat)) (u v : Int) : Option Nat := fop .add .f32 (aboutV W H R fs u v) (fop .mul .f32 rate (laplaceG W H R fs u v))
def stepZ (W H : Int) (R : Bool) (rate : Option Nat) (fs : List (Option Nat)) : List (Option Nat) := gridF W.toNat (stepG W H R rate fs) (H.toNat * W.toNat)
def stepsZ (W H : Int) (R : Bool) (rate : Option Nat) (fs : List (Option Nat)) : Nat → List (Option Nat)
  | 0 => fs
  | k + 1 => stepZ W H R rate (stepsZ W H R rate fs k)
def spreadOk (W H : Int) (n : Nat) (s : Int) : Bool := vldF W H n && inB s 0 64

set_option maxRecDepth 100000 in
set_option maxHeartbeats 1000000 in
theorem spread1_any (W H x y : Int) (R : Bool) (b o n c : Nat) (rate : Nat) (xs : List Nat) (fs : List (Option Nat)) (hz : xs.length = n) (hfs : fas xs = fs) (hv : vldF W H n = true) (p q : Nat) (w : World) (hA : VArr w (some ⟨b, o, none⟩) (flts xs))
    (hp : w.heap[p]? = some (.cells #[.int .i64 W, .int .i64 H, .bool R, .slice (some ⟨b, o, none⟩) n c] 27 (0, 0))) (hq : w.heap[q]? = some (.cells #[.float .f32 rate] 30 (0, 0))) (hx : -10000 ≤ x ∧ x ≤ 10000) (hy : -10000 ≤ y ∧ y ≤ 10000) (x0 : 0 ≤ x ∧ x < W ∧ 0 ≤ y ∧ y < H) :
    Calls Try.prog 92 #[.int .i64 x, .int .i64 y, .pointer (some ⟨p, 0, none⟩), .pointer (some ⟨q, 0, none⟩)] w fun e w' => ∃ r, e = .returned (.float .f32 r) ∧ fa .f32 r = stepG W H R (fa .f32 rate) fs x y ∧ Ext w w' := by
  have HF : Hid (fa .f32 (aboutB W H R xs x y) = aboutV W H R fs x y) := fa_about hfs (by rw [hz]; exact hv) x y
  have HS : Hid (∀ w', Ext w w' → Calls Try.prog 86 #[.agg #[.int .i64 W, .int .i64 H, .bool R, .slice (some ⟨b, o, none⟩) n c], .int .i64 x, .int .i64 y] w' fun e w'' => ∃ r, e = .returned (.float .f32 r) ∧ fa .f32 r = laplaceG W H R fs x y ∧ Ext w' w'') := fun w' h => laplace_any W H x y R b o n c xs fs hz hfs hv hx hy w' (hA.ext h) x0
  have HT : Hid (∀ w', Ext w w' → Calls Try.prog 93 #[.agg #[.int .i64 W, .int .i64 H, .bool R, .slice (some ⟨b, o, none⟩) n c], .int .i64 x, .int .i64 y] w' fun e w'' => e = .returned (.float .f32 (aboutB W H R xs x y)) ∧ Ext w' w'') := fun w' h => atF_any W H x y R b o n c xs hz hv w' (hA.ext h) x0.1 x0.2.1 x0.2.2.1 x0.2.2.2
  clear hz hfs hv hA
  go_enter Try.func92, Try.ntmps92
  obtain ⟨⟨c0, c1, c2, c3⟩, _⟩ := block4 hp
  obtain ⟨k0, _⟩ := block1 hq
  go_wp2_with fail
  clear c0 c1 c2 c3 k0
  refine region_grow (C := Ext _) (K := fun f args v _ => (f = 93 → args = #[.agg #[.int .i64 W, .int .i64 H, .bool R, .slice (some ⟨b, o, none⟩) n c], .int .i64 x, .int .i64 y] → v = .float .f32 (aboutB W H R xs x y)) ∧ (f = 86 → args = #[.agg #[.int .i64 W, .int .i64 H, .bool R, .slice (some ⟨b, o, none⟩) n c], .int .i64 x, .int .i64 y] → ∃ r, v = .float .f32 r ∧ fa .f32 r = laplaceG W H R fs x y)) ⟨fun _ _ h k => h.trans k, fun _ _ _ _ _ h _ => h⟩ (by kernel_rfl) (by kernel_rfl) ((Ext.refl _).drew) ?_
  iterate 3 (refine grow_q rfl ?_; apply Exists.intro; refine ⟨fun u hu _ => ?_, ?_⟩; focus (obtain ⟨⟨c0, c1, c2, c3⟩, _⟩ := block4 ((hu).block hp); obtain ⟨k0, _⟩ := block1 ((hu).block hq); go_simp; rfl))
  refine grow_c1 93 rfl ⟨#[.agg #[.int .i64 W, .int .i64 H, .bool R, .slice (some ⟨b, o, none⟩) n c], .int .i64 x, .int .i64 y], fun u => ?_, _, fun u hu _ => HT.out _ hu, fun v u h => (h.1) rfl  rfl, fun u => ⟨(fun _  h => (by simp at h; rfl)), (fun h => by cases h)⟩, ?_⟩
  · go_simp
    all_goals (first | done | ((repeat' apply And.intro) <;> first | rfl | exact wrapS (by omega) (by omega)))
  iterate 4 (refine grow_q rfl ?_; apply Exists.intro; refine ⟨fun u hu _ => ?_, ?_⟩; focus (obtain ⟨⟨c0, c1, c2, c3⟩, _⟩ := block4 ((hu).block hp); obtain ⟨k0, _⟩ := block1 ((hu).block hq); go_simp; rfl))
  refine grow_cf 86 .f32 rfl ⟨#[.agg #[.int .i64 W, .int .i64 H, .bool R, .slice (some ⟨b, o, none⟩) n c], .int .i64 x, .int .i64 y], fun u => ?_, _, fun u hu _ => HS.out _ hu, fun v u => ⟨fun h => (h.2) rfl  rfl, fun h0 => ⟨(fun h => by cases h), (fun _  h => (by simp at h; exact h0))⟩⟩, fun q1_1 hq1_1 => ?_⟩
  · go_simp
    all_goals (first | done | ((repeat' apply And.intro) <;> first | rfl | exact wrapS (by omega) (by omega)))
  refine grow_f .f32 rfl ⟨_, _, fun u hu _ => (by go_simp; exact ⟨rfl, rfl⟩), _, fun u => fa_frr _ _ _ _ u, fun q1_2 hq1_2 => ?_⟩
  refine grow_f .f32 rfl ⟨_, _, fun u hu _ => (by go_simp; exact ⟨rfl, rfl⟩), _, fun u => fa_frr _ _ _ _ u, fun q1_3 hq1_3 => ?_⟩
  iterate 1 (refine grow_q rfl ?_; apply Exists.intro; refine ⟨fun u hu _ => ?_, ?_⟩; focus (obtain ⟨⟨c0, c1, c2, c3⟩, _⟩ := block4 ((hu).block hp); obtain ⟨k0, _⟩ := block1 ((hu).block hq); go_simp; rfl))
  refine grow_nil (fun w1 hw _ => ?_)
  have HRq1_1 := Lib.hid hq1_1
  clear hq1_1
  have HRq1_2 := Lib.hid hq1_2
  clear hq1_2
  have HRq1_3 := Lib.hid hq1_3
  clear hq1_3
  have H1 := Lib.hid hw
  clear hw
  go_simp
  obtain ⟨⟨c0, c1, c2, c3⟩, _⟩ := block4 (H1.out.block hp)
  obtain ⟨k0, _⟩ := block1 (H1.out.block hq)
  go_wp2
  go_ret
  exact ⟨_, rfl, by simp only [fa_frr, HRq1_1.out, HRq1_2.out, HRq1_3.out, HF.out]; rfl, H1.out⟩

/-- What stands between two steps of the program: the field's box, the rate's, the result's. -/
structure SprF (w : World) (W H : Int) (R : Bool) (rate n : Nat) (wr : World) (xs : List Nat) : Prop where
  ext : Ext w wr
  rt : wr.heap[w.heap.size + 1]? = some (.cells #[.float .f32 rate] 30 (0, 0))
  res : wr.heap[w.heap.size + 1 + 1]? = some (.cells #[.int .i64 0, .int .i64 0, .bool false, .slice none 0 0] 27 (0, 0))
  own : ∃ a c, wr.heap[w.heap.size]? = some (.cells #[.int .i64 W, .int .i64 H, .bool R, .slice a n c] 27 (0, 0)) ∧ wr.ownsRow w.heap.size 30 1 (.slice a n c) n (flts xs) ∧ xs.length = n
/-- .. of the reference. -/
structure NowF (w : World) (q : Nat) (W H : Int) (R : Bool) (g n c : Nat) (wr : World) (xs : List Nat) : Prop where
  ext : Ext w wr
  box : wr.heap[q]? = some (.cells #[.int .i64 W, .int .i64 H, .bool R, .slice (some ⟨g, 0, none⟩) n c] 27 (0, 0))
  own : wr.ownsRow w.heap.size 30 1 (.slice (some ⟨g, 0, none⟩) n c) n (flts xs)
  len : xs.length = n
/-- .. and within a step. -/
structure InnF (w : World) (q q2 : Nat) (W H : Int) (R : Bool) (g g2 n c c2 : Nat) (wr : World) (ys ls : List Nat) : Prop where
  ext : Ext w wr
  box : wr.heap[q]? = some (.cells #[.int .i64 W, .int .i64 H, .bool R, .slice (some ⟨g, 0, none⟩) n c] 27 (0, 0))
  dbox : wr.heap[q2]? = some (.cells #[.int .i64 W, .int .i64 H, .bool R, .slice (some ⟨g2, 0, none⟩) n c2] 27 (0, 0))
  own : wr.ownsRow w.heap.size 30 1 (.slice (some ⟨g, 0, none⟩) n c) n (flts ys)
  down : wr.ownsRow w.heap.size 30 1 (.slice (some ⟨g2, 0, none⟩) n c2) n (flts ls)
  len : ys.length = n
  dlen : ls.length = n
theorem aboutV_cellN {Wn Hn : Nat} (R : Bool) (fs : List (Option Nat)) {i : Nat} (hW : 1 ≤ Wn) (h : i < Hn * Wn) : aboutV Wn Hn R fs ((i % Wn : Nat) : Int) ((i / Wn : Nat) : Int) = fat fs i := by
  have h1 : i % Wn < Wn := Nat.mod_lt _ (by omega)
  have h2 : i / Wn < Hn := Nat.div_lt_of_lt_mul (by rw [Nat.mul_comm]; omega)
  unfold aboutV
  rw [cellR_id R (Int.natCast_nonneg _) (by exact_mod_cast h1) (Int.natCast_nonneg _) (by exact_mod_cast h2)]
  congr 1
  have h3 := Nat.mod_add_div i Wn
  have : ((i % Wn : Nat) : Int) + (Wn : Int) * ((i / Wn : Nat) : Int) = (i : Int) := by exact_mod_cast h3
  omega

set_option maxRecDepth 100000 in
set_option maxHeartbeats 2000000 in
theorem implSpread_any (W H : Int) (R : Bool) (rate : Nat) (s : Int) (a : Option Addr) (n c : Nat) (zs : List Nat) (hz : zs.length = n) (hn : n ≤ 1048576) (w : World) (hA : VArr w a (flts zs)) :
    Calls Try.prog 44 #[.agg #[.int .i64 W, .int .i64 H, .bool R, .slice a n c], .float .f32 rate, .int .i64 s] w (keepF w (spreadOk W H n s) W H R (stepsZ W H R (fa .f32 rate) (fas zs) s.toNat)) := by
  have hX : Ext w (((w.alloc (.cells #[.int .i64 W, .int .i64 H, .bool R, .slice a n c] 27)).alloc (.cells #[.float .f32 rate] 30)).alloc (.cells #[.int .i64 0, .int .i64 0, .bool false, .slice none 0 0] 27)) := (((Ext.refl w).alloc _).alloc _).alloc _
  have b0 := heap_mid3 w (.cells #[.int .i64 W, .int .i64 H, .bool R, .slice a n c] 27) (.cells #[.float .f32 rate] 30) (.cells #[.int .i64 0, .int .i64 0, .bool false, .slice none 0 0] 27)
  have b1 := heap_mid2 w (.cells #[.int .i64 W, .int .i64 H, .bool R, .slice a n c] 27) (.cells #[.float .f32 rate] 30) (.cells #[.int .i64 0, .int .i64 0, .bool false, .slice none 0 0] 27)
  have b2 := heap_new2 w (.cells #[.int .i64 W, .int .i64 H, .bool R, .slice a n c] 27) (.cells #[.float .f32 rate] 30) (.cells #[.int .i64 0, .int .i64 0, .bool false, .slice none 0 0] 27)
  have hA1 := hA.ext hX
  go_enter Try.func44, Try.ntmps44
  go_wp2_with fail
  refine (implValidF_any W H R a n c (by omega) _).mono ?_
  generalize ((w.alloc (.cells #[.int .i64 W, .int .i64 H, .bool R, .slice a n c] 27)).alloc (.cells #[.float .f32 rate] 30)).alloc (.cells #[.int .i64 0, .int .i64 0, .bool false, .slice none 0 0] 27) = w0 at *
  rintro e w1 ⟨rfl, hX1⟩
  cases hv : vldF W H n with
  | false =>
    have HOK : Hid (spreadOk W H n s = false) := by show _ = _; simp [spreadOk, hv]
    obtain ⟨⟨d0, d1, d2, d3⟩, f0, f1, f2, f3⟩ := block4 (hX1.block b2)
    have HE := Lib.hid ((hX.trans hX1).fin4 (q := w.heap.size + 1 + 1) (by omega) (.int .i64 0) (.int .i64 0) (.bool false) (.slice none 0 0))
    clear hX hX1 b0 b1 b2 hA hA1 hv hz
    go_wp2
    refine bodyPost_ret (v := .tuple #[.agg #[.int .i64 0, .int .i64 0, .bool false, .slice none 0 0], .bool false]) ?_ rfl (keepF_no HOK.out (twoF_none HE.out))
    simp only [results, Try.results44]
    go_simp
  | true =>
    cases hs : inB s 0 64 with
    | false =>
      have HOK : Hid (spreadOk W H n s = false) := by show _ = _; simp [spreadOk, hs]
      have HI := Lib.hid hs
      obtain ⟨⟨d0, d1, d2, d3⟩, f0, f1, f2, f3⟩ := block4 (hX1.block b2)
      have HE := Lib.hid ((hX.trans hX1).fin4 (q := w.heap.size + 1 + 1) (by omega) (.int .i64 0) (.int .i64 0) (.bool false) (.slice none 0 0))
      clear hX hX1 b0 b1 b2 hA hA1 hv hz hs
      go_wp2_with (go_at_call 90; refine (within_any _ _ _ _).mono ?_; rw [HI.out]; rintro e w' ⟨rfl, rfl⟩)
      refine bodyPost_ret (v := .tuple #[.agg #[.int .i64 0, .int .i64 0, .bool false, .slice none 0 0], .bool false]) ?_ rfl (keepF_no HOK.out (twoF_none HE.out))
      simp only [results, Try.results44]
      go_simp
    | true =>
      have HOK : Hid (spreadOk W H n s = true) := by show _ = _; simp [spreadOk, hv, hs]
      obtain ⟨s0, s1⟩ := inB_iff.1 hs
      obtain ⟨S, rfl⟩ := Int.eq_ofNat_of_zero_le s0
      obtain ⟨Wn, Hn, hWn, hHn, k1, k2, k3, k4, hnn, hn256⟩ := vldF_facts hv
      have hn1 : 0 < n := by rw [hnn]; exact Nat.mul_pos (by omega) (by omega)
      obtain ⟨b, o, rfl⟩ := hA.starts (i := 0) (by simp; omega)
      obtain ⟨⟨c0, c1, c2, c3⟩, g0, g1, g2, g3⟩ := block4 (hX1.block b0)
      have HV := Lib.hid hv
      have HZ := Lib.hid hz
      have HI := Lib.hid hs
      have HG : Hid (∀ g, (gridF W.toNat g (H.toNat * W.toNat)).length = n) := fun g => by rw [gridF_length, hnn, hWn, hHn]; rfl
      have HB : Hid (W ≤ 16 ∧ H ≤ 16) := ⟨by omega, by omega⟩
      clear hv hz hs hnn hWn hHn
      go_wp2_with fail
      refine (within_any _ _ _ _).mono ?_
      rw [HI.out]
      rintro e w' ⟨rfl, rfl⟩
      go_wp2_with fail
      refine (cloneF_any b o n c zs HZ.out hn _ (hA1.ext hX1)).mono ?_
      rintro e w2 ⟨a', c', rfl, hX2, hO⟩
      clear c0 c1 c2 c3 g0 g1 g2 g3
      have D2 := hX2.block (hX1.block b0)
      have Q2 := hX2.block (hX1.block b1)
      have R2 := hX2.block (hX1.block b2)
      obtain ⟨⟨c0, c1, c2, c3⟩, g0, g1, g2, g3⟩ := block4 D2
      obtain ⟨E5, B5, O5⟩ := stored (i := 3) (u := .slice a' n c') ((hX.trans hX1).trans hX2) (by decide) (Nat.le_refl _) D2 (ownsRow_mono hO (hX.trans hX1).size)
      rw [← cells_setOther (q := w.heap.size) (i := 3) (by omega) (.slice a' n c')] at Q2 R2
      have F0 : SprF w W H R rate n (w2.setCell ⟨w.heap.size, 3, none⟩ (.slice a' n c')) zs := ⟨E5, Q2, R2, _, _, by simpa using B5, O5, HZ.out⟩
      clear hX hX1 hX2 hO b0 b1 b2 hA1 hA D2 Q2 R2 E5 B5 O5
      go_wp2
      clear c0 c1 c2 c3 g0 g1 g2 g3
      generalize w2.setCell ⟨w.heap.size, 3, none⟩ (.slice a' n c') = w3 at *
      go_loopw [23] (fun i wr => ∃ (k : Nat) (xs : List Nat), k ≤ S ∧ i = .int .i64 k ∧ fas xs = stepsZ W H R (fa .f32 rate) (fas zs) k ∧ SprF w W H R rate n wr xs) (fun i _ => S - (intOf i).toNat)
      case atStart => exact ⟨0, zs, Nat.zero_le _, rfl, rfl, F0⟩
      case round =>
        obtain ⟨k, xs, hk, rfl, hxs, hF⟩ := hrel
        clear F0
        have HXS := Lib.hid hxs
        clear hxs
        obtain ⟨hX, hQ, hR, a2, c2, hB, hO, hl⟩ := hF
        obtain ⟨g, rfl, hg, _⟩ := own_flt hO (k := 0) (by omega)
        by_cases hlt : k < S
        · obtain ⟨⟨d0, d1, d2, d3⟩, f0, f1, f2, f3⟩ := block4 hB
          have hXa := (Ext.refl wr).alloc (.cells #[.int .i64 W, .int .i64 H, .bool R, .slice (some ⟨g, 0, none⟩) n c2] 27)
          have b8 := heap_new wr (.cells #[.int .i64 W, .int .i64 H, .bool R, .slice (some ⟨g, 0, none⟩) n c2] 27)
          have HL := Lib.hid hl
          clear hl
          go_wp2_with fail
          clear d0 d1 d2 d3 f0 f1 f2 f3
          generalize wr.alloc (.cells #[.int .i64 W, .int .i64 H, .bool R, .slice (some ⟨g, 0, none⟩) n c2] 27) = wa at *
          refine (each_any W H R _ n c2 92 #[] #[.pointer (some ⟨wr.heap.size, 0, none⟩), .pointer (some ⟨w.heap.size + 1, 0, none⟩)] (stepG W H R (fa .f32 rate) (fas xs)) (vldF_iff.1 HV.out).1 _ (fun args u => by go_simp) (fun u v w' hw u0 u1 v0 v1 => ?_)).mono ?_
          · have hbb := HB.out
            simpa using spread1_any W H u v R g 0 n c2 rate xs (fas xs) HL.out rfl HV.out wr.heap.size (w.heap.size + 1) w' ((ownsRow_varr hO).ext (hXa.trans hw)) (hw.block b8) (hw.block (hXa.block hQ)) ⟨by omega, by omega⟩ ⟨by omega, by omega⟩ ⟨u0, u1, v0, v1⟩
          rintro e w4 ⟨a3, n3, c3, ys, rfl, hX4, hO4, hl4, hle4, hf4⟩
          have hn3 : n3 = n := by
            have h1 := congrArg List.length hf4
            rw [HG.out] at h1
            simp at h1; omega
          subst hn3
          have hXX := hXa.trans hX4
          have D4 := hXX.block hB
          have Q4 := hXX.block hQ
          have R4 := hXX.block hR
          obtain ⟨⟨d0, d1, d2, d3⟩, f0, f1, f2, f3⟩ := block4 D4
          obtain ⟨E5, O5, B5, N5⟩ := stored4b (u0 := .int .i64 W) (u1 := .int .i64 H) (u2 := .bool R) (u3 := .slice a3 n3 c3) (hX.trans hXX) (by decide) (Nat.le_refl _) D4 (ownsRow_mono hO4 ((hX.trans hXa).size))
          have Q5 := (N5 (w.heap.size + 1) (by omega)).trans Q4
          have R5 := (N5 (w.heap.size + 1 + 1) (by omega)).trans R4
          have F1 := Lib.hid (show SprF w W H R rate n3 _ ys from ⟨E5, Q5, R5, a3, c3, B5, O5, hl4⟩)
          have HF4 := Lib.hid hf4
          clear E5 Q5 R5 B5 O5 N5 hXX D4 Q4 R4 hX4 hO4 hl4 hf4 hX hQ hR hB hO hXa b8
          go_wp2
          go_roundw
          case rel => exact ⟨k + 1, ys, by omega, by go_num, by rw [HF4.out, HXS.out]; rfl, F1.out⟩
          case measure => simp [intOf]; omega
        · obtain rfl : k = S := by omega
          obtain ⟨⟨d0, d1, d2, d3⟩, f0, f1, f2, f3⟩ := block4 hB
          obtain ⟨⟨e0, e1, e2, e3⟩, h0, h1, h2, h3⟩ := block4 hR
          obtain ⟨HE, HO⟩ := stored4 (T := 27) (u0 := .int .i64 W) (u1 := .int .i64 H) (u2 := .bool R) (u3 := .slice (some ⟨g, 0, none⟩) n c2) hX (by decide) (by omega) hR hO
          have HE' := Lib.hid HE
          have HO' := Lib.hid HO
          have HL := Lib.hid hl
          clear HE HO hX hQ hR hB hO hl
          go_wp2
          refine bodyPost_ret (v := .tuple #[.agg #[.int .i64 W, .int .i64 H, .bool R, .slice (some ⟨g, 0, none⟩) n c2], .bool true]) ?_ rfl (keepF_yes HOK.out ⟨_, n, c2, xs, rfl, HE'.out, HO'.out, HL.out, hn, by rw [HXS.out]; rfl⟩)
          simp only [results, Try.results44]
          go_simp

set_option maxRecDepth 100000 in
set_option maxHeartbeats 4000000 in
theorem specSpread_any (W H : Int) (R : Bool) (rate : Nat) (s : Int) (a : Option Addr) (n c : Nat) (zs : List Nat) (hz : zs.length = n) (hn : n ≤ 1048576) (w : World) (hA : VArr w a (flts zs)) :
    Calls Try.prog 43 #[.agg #[.int .i64 W, .int .i64 H, .bool R, .slice a n c], .float .f32 rate, .int .i64 s] w (keepF w (spreadOk W H n s) W H R (stepsZ W H R (fa .f32 rate) (fas zs) s.toNat)) := by
  have hX : Ext w ((w.alloc (.cells #[.int .i64 W, .int .i64 H, .bool R, .slice a n c] 27)).alloc (.cells #[.int .i64 0, .int .i64 0, .bool false, .slice none 0 0] 27)) := ((Ext.refl w).alloc _).alloc _
  have b0 := heap_mid1 w (.cells #[.int .i64 W, .int .i64 H, .bool R, .slice a n c] 27) (.cells #[.int .i64 0, .int .i64 0, .bool false, .slice none 0 0] 27)
  have b1 := heap_new1 w (.cells #[.int .i64 W, .int .i64 H, .bool R, .slice a n c] 27) (.cells #[.int .i64 0, .int .i64 0, .bool false, .slice none 0 0] 27)
  have hA1 := hA.ext hX
  go_enter Try.func43, Try.ntmps43
  go_wp2_with fail
  refine (l02Is_any _ W H R a n c (by omega) _ (FldAt.box b0)).mono ?_
  generalize (w.alloc (.cells #[.int .i64 W, .int .i64 H, .bool R, .slice a n c] 27)).alloc (.cells #[.int .i64 0, .int .i64 0, .bool false, .slice none 0 0] 27) = w0 at *
  rintro e w1 ⟨rfl, hX1⟩
  cases hv : vldF W H n with
  | false =>
    have HOK : Hid (spreadOk W H n s = false) := by show _ = _; simp [spreadOk, hv]
    obtain ⟨⟨d0, d1, d2, d3⟩, f0, f1, f2, f3⟩ := block4 (hX1.block b1)
    have HE := Lib.hid ((hX.trans hX1).fin4 (q := w.heap.size + 1) (by omega) (.int .i64 0) (.int .i64 0) (.bool false) (.slice none 0 0))
    clear hX hX1 b0 b1 hA hA1 hv hz
    go_wp2
    refine bodyPost_ret (v := .tuple #[.agg #[.int .i64 0, .int .i64 0, .bool false, .slice none 0 0], .bool false]) ?_ rfl (keepF_no HOK.out (twoF_none HE.out))
    simp only [results, Try.results43]
    go_simp
  | true =>
    cases hs : inB s 0 64 with
    | false =>
      have HOK : Hid (spreadOk W H n s = false) := by show _ = _; simp [spreadOk, hs]
      have HI := Lib.hid hs
      obtain ⟨⟨d0, d1, d2, d3⟩, f0, f1, f2, f3⟩ := block4 (hX1.block b1)
      have HE := Lib.hid ((hX.trans hX1).fin4 (q := w.heap.size + 1) (by omega) (.int .i64 0) (.int .i64 0) (.bool false) (.slice none 0 0))
      clear hX hX1 b0 b1 hA hA1 hv hz hs
      go_wp2_with (go_at_call 67; refine (l00In_any _ _ _ _).mono ?_; rw [HI.out]; rintro e w' ⟨rfl, rfl⟩)
      refine bodyPost_ret (v := .tuple #[.agg #[.int .i64 0, .int .i64 0, .bool false, .slice none 0 0], .bool false]) ?_ rfl (keepF_no HOK.out (twoF_none HE.out))
      simp only [results, Try.results43]
      go_simp
    | true =>
      have HOK : Hid (spreadOk W H n s = true) := by show _ = _; simp [spreadOk, hv, hs]
      obtain ⟨s0, s1⟩ := inB_iff.1 hs
      obtain ⟨S, rfl⟩ := Int.eq_ofNat_of_zero_le s0
      obtain ⟨Wn, Hn, rfl, rfl, k1, k2, k3, k4, hnn, hn256⟩ := vldF_facts hv
      have hn1 : 0 < n := by rw [hnn]; exact Nat.mul_pos (by omega) (by omega)
      have HV := Lib.hid hv
      have HZ := Lib.hid hz
      have HI := Lib.hid hs
      have HNN := Lib.hid hnn
      clear hv hz hs hnn
      go_wp2_with fail
      refine (l00In_any _ _ _ _).mono ?_
      rw [HI.out]
      rintro e w' ⟨rfl, rfl⟩
      go_wp2_with fail
      refine (l02Own_any _ Wn Hn R a n c zs HZ.out hn _ (FldAt.box (hX1.block b0)) (hA1.ext hX1)).mono ?_
      rintro e w2 ⟨a', c', rfl, hX2, hO⟩
      obtain ⟨g, rfl, hg, _⟩ := own_flt hO (k := 0) (by have := HZ.out; omega)
      have hXa := (Ext.refl w2).alloc (.cells #[.int .i64 Wn, .int .i64 Hn, .bool R, .slice (some ⟨g, 0, none⟩) n c'] 27)
      have b8 := heap_new w2 (.cells #[.int .i64 Wn, .int .i64 Hn, .bool R, .slice (some ⟨g, 0, none⟩) n c'] 27)
      have hq : w1.heap.size ≤ w2.heap.size := hX2.size
      have hR1 := Lib.hid (hX1.block b1)
      have HX := Lib.hid (hX.trans hX1)
      have F0 : NowF w1 w2.heap.size Wn Hn R g n c' (w2.alloc (.cells #[.int .i64 Wn, .int .i64 Hn, .bool R, .slice (some ⟨g, 0, none⟩) n c'] 27)) zs := ⟨hX2.trans hXa, b8, ownsRow_ext hO hXa, HZ.out⟩
      clear hX hX1 hX2 hXa b0 b1 b8 hO hA hA1
      go_wp2
      generalize w2.alloc (.cells #[.int .i64 Wn, .int .i64 Hn, .bool R, .slice (some ⟨g, 0, none⟩) n c'] 27) = w3 at *
      generalize w2.heap.size = q at *
      go_loopw [9] (fun i wr => ∃ (k : Nat) (xs : List Nat), k ≤ S ∧ i = .int .i64 k ∧ fas xs = stepsZ Wn Hn R (fa .f32 rate) (fas zs) k ∧ NowF w1 q Wn Hn R g n c' wr xs) (fun i _ => S - (intOf i).toNat)
      case atStart => exact ⟨0, zs, Nat.zero_le _, rfl, rfl, F0⟩
      case round =>
        obtain ⟨k, xs, hk, rfl, hxs, hF⟩ := hrel
        clear F0
        have HXS := Lib.hid hxs
        clear hxs
        obtain ⟨hX, hB, hO, hl⟩ := hF
        by_cases hlt : k < S
        · have HL := Lib.hid hl
          clear hl
          go_wp2_with fail
          refine (l02LaplaceAll_any _ Wn Hn R g 0 n c' xs (fas xs) HL.out rfl HV.out _ (FldAt.box hB) (ownsRow_varr hO)).mono ?_
          rintro e w4 ⟨a2, n2, c2, ls, rfl, hX4, hO4, hl4, hle4, hf4⟩
          have hn2 : n2 = n := by
            have h1 := congrArg List.length hf4
            simp only [gridF_length, Int.toNat_natCast] at h1
            have := HNN.out
            simp at h1; omega
          subst hn2
          obtain ⟨g2, rfl, hg2, _⟩ := own_flt hO4 (k := 0) (by omega)
          have hgg : g < g2 := by have := (hO.lt g rfl).2; omega
          have hXa := (Ext.refl w4).alloc (.cells #[.int .i64 Wn, .int .i64 Hn, .bool R, .slice (some ⟨g2, 0, none⟩) n2 c2] 27)
          have b10 := heap_new w4 (.cells #[.int .i64 Wn, .int .i64 Hn, .bool R, .slice (some ⟨g2, 0, none⟩) n2 c2] 27)
          have hXX := hX4.trans hXa
          have HFL : Hid (∀ i, i < n2 → fa .f32 (ls[i]?.getD 0) = laplaceG Wn Hn R (fas xs) ((i % Wn : Nat) : Int) ((i / Wn : Nat) : Int)) := fun i hi => by
            rw [fas_at hf4 (by omega)]
            simp only [Int.toNat_natCast]
            exact gridF_get _ (by rw [← HNN.out]; exact hi)
          have I0 : InnF w1 q w4.heap.size Wn Hn R g g2 n2 c' c2 (w4.alloc (.cells #[.int .i64 Wn, .int .i64 Hn, .bool R, .slice (some ⟨g2, 0, none⟩) n2 c2] 27)) xs ls :=
            ⟨hX.trans hXX, hXX.block hB, b10, ownsRow_ext hO hXX, ownsRow_ext (ownsRow_mono hO4 hX.size) hXa, HL.out, hl4⟩
          clear hX hB hO hX4 hO4 hl4 hf4 hXa b10 hXX
          go_wp2
          generalize w4.alloc (.cells #[.int .i64 Wn, .int .i64 Hn, .bool R, .slice (some ⟨g2, 0, none⟩) n2 c2] 27) = w5 at *
          generalize w4.heap.size = q2 at *
          go_loopw [11] (fun i wr => ∃ (j : Nat) (ys : List Nat), j ≤ n2 ∧ i = .int .i64 j ∧ (∀ m, m < j → fa .f32 (ys[m]?.getD 0) = stepG Wn Hn R (fa .f32 rate) (fas xs) ((m % Wn : Nat) : Int) ((m / Wn : Nat) : Int)) ∧ (∀ m, j ≤ m → ys[m]?.getD 0 = xs[m]?.getD 0) ∧ InnF w1 q q2 Wn Hn R g g2 n2 c' c2 wr ys ls) (fun i _ => n2 - (intOf i).toNat)
          case atStart => exact ⟨0, xs, Nat.zero_le _, rfl, fun m h => by omega, fun m _ => rfl, I0⟩
          case round =>
            obtain ⟨j, ys, hj, rfl, hys, hyr, hI⟩ := hrel
            clear I0
            have HYS := Lib.hid hys
            have HYR := Lib.hid hyr
            clear hys hyr
            obtain ⟨hX, hB, hD, hO, hO2, hly, hll⟩ := hI
            by_cases hlt2 : j < n2
            · obtain ⟨y0, hyf⟩ := own_flt_at hO (k := j) (by omega)
              obtain ⟨l0, _⟩ := own_flt_at hO2 (k := j) (by omega)
              obtain ⟨⟨d0, d1, d2, d3⟩, _⟩ := block4 hB
              have hyj := HYR.out j (Nat.le_refl _)
              have hlj := HFL.out j hlt2
              have HXJ : Hid (fa .f32 (xs[j]?.getD 0) = aboutV Wn Hn R (fas xs) ((j % Wn : Nat) : Int) ((j / Wn : Nat) : Int)) := by
                show _ = _
                rw [aboutV_cellN R _ k1 (by rw [← HNN.out]; exact hlt2)]
                exact fas_at rfl (by have := HL.out; omega)
              rw [hyj] at y0
              have HYF := Lib.hid hyf
              generalize xs[j]?.getD 0 = xj at *
              generalize ls[j]?.getD 0 = lj at *
              have HLJ := Lib.hid hlj
              clear hlj hyj
              have HLY := Lib.hid hly
              have HLL := Lib.hid hll
              clear hly hll hyf
              go_wp2_with fail
              refine region_grow_tail 17 (C := Ext wr) (K := fun _ _ _ _ => True) ⟨fun _ _ h k => h.trans k, fun _ _ _ _ _ h _ => h⟩ (by kernel_rfl) (by kernel_rfl) ((Ext.refl wr).drew) ?_
              simp only [List.take_succ_cons, List.take_zero, List.drop_succ_cons, List.drop_zero]
              iterate 14 (refine grow_q rfl ?_; apply Exists.intro; refine ⟨fun u hu _ => ?_, ?_⟩; focus (obtain ⟨⟨d0, d1, d2, d3⟩, _⟩ := block4 (hu.block hB); obtain ⟨⟨e0, e1, e2, e3⟩, _⟩ := block4 (hu.block hD); have z0 := hu.cell y0; have z1 := hu.cell l0; go_simp; rfl))
              refine grow_f .f32 rfl ⟨_, _, fun u hu _ => (by go_simp; exact ⟨rfl, rfl⟩), _, fun u => fa_frr _ _ _ _ u, fun r1 hr1 => ?_⟩
              refine grow_f .f32 rfl ⟨_, _, fun u hu _ => (by go_simp; exact ⟨rfl, rfl⟩), _, fun u => fa_frr _ _ _ _ u, fun r2 hr2 => ?_⟩
              refine grow_q rfl ?_; apply Exists.intro; refine ⟨fun u hu _ => ?_, ?_⟩; focus (go_simp; rfl)
              refine grow_nil (fun w6 hu _ => ?_)
              have HR2 := Lib.hid (hr2.trans (by rw [hr1]))
              clear hr1 hr2
              have O6 := ownsRow_ext hO hu
              have f6 := (own_flt_at O6 (k := j) (by have := HLY.out; omega)).2
              have z6 := hu.cell y0
              have O7 := oneCell_setCell O6 (i := j) (.float .f32 r2)
              rw [flts_set] at O7
              have B7 := hu.block hB
              rw [← cells_setOther (i := j) (ne_of_rowF O6 (by decide) B7) (.float .f32 r2)] at B7
              have D7 := hu.block hD
              rw [← cells_setOther (i := j) (ne_of_rowF O6 (by decide) D7) (.float .f32 r2)] at D7
              have P7 := ownsRow_setCell_other (a := ⟨g, j, none⟩) (ownsRow_ext hO2 hu) (by simp [Value.ownBlock]; omega) (.float .f32 r2)
              have E7 := Below.setCell (p := ⟨g, j, none⟩) (hX.trans hu) hg (.float .f32 r2)
              have I7 := Lib.hid (show InnF w1 q q2 Wn Hn R g g2 n2 c' c2 _ (ys.set j r2) ls from ⟨E7, B7, D7, O7, P7, by simp [HLY.out], HLL.out⟩)
              clear O6 O7 B7 D7 P7 E7 hX hB hD hO hO2 hu y0 l0 d0 d1 d2 d3
              go_simp
              go_wp2
              go_roundw
              case rel =>
                refine ⟨j + 1, ys.set j r2, by omega, by go_num, fun m hm => ?_, fun m hm => ?_, I7.out⟩
                · by_cases hmj : m = j
                  · subst hmj
                    have : m < ys.length := by have := HLY.out; omega
                    simp only [List.getElem?_set_self this, Option.getD_some]
                    rw [HR2.out, HXJ.out, HLJ.out]; rfl
                  · rw [List.getElem?_set_ne (by omega)]
                    exact HYS.out m (by omega)
                · rw [List.getElem?_set_ne (by omega)]
                  exact HYR.out m (by omega)
              case measure => simp [intOf]; omega
            · obtain rfl : j = n2 := by omega
              have N1 : NowF w1 q Wn Hn R g j c' wr ys := ⟨hX, hB, hO, hly⟩
              have HYZ : Hid (fas ys = stepZ Wn Hn R (fa .f32 rate) (fas xs)) := by
                show _ = _
                unfold stepZ
                simp only [Int.toNat_natCast]
                rw [← HNN.out]
                refine List.ext_getElem? fun m => ?_
                by_cases hm : m < j
                · have := HYS.out m hm
                  simp only [fas, gridF, List.getElem?_map, List.getElem?_range hm, Option.map_some]
                  have hmy : m < ys.length := by omega
                  rw [List.getElem?_eq_getElem hmy] at this ⊢
                  exact congrArg some this
                · rw [List.getElem?_eq_none (by simp; omega), List.getElem?_eq_none (by simp; omega)]
              obtain ⟨⟨d0, d1, d2, d3⟩, _⟩ := block4 hB
              have HN1 := Lib.hid N1
              clear N1 hX hB hD hO hO2 hly hll
              go_wp2
              go_roundw
              case rel => exact ⟨k + 1, ys, by omega, by go_num, by rw [HYZ.out, HXS.out]; rfl, HN1.out⟩
              case measure => simp [intOf]; omega
        · obtain rfl : k = S := by omega
          obtain ⟨⟨d0, d1, d2, d3⟩, f0, f1, f2, f3⟩ := block4 hB
          have hR := hX.block hR1.out
          obtain ⟨⟨e0, e1, e2, e3⟩, h0, h1, h2, h3⟩ := block4 hR
          obtain ⟨HE, HO⟩ := stored4 (T := 27) (u0 := .int .i64 Wn) (u1 := .int .i64 Hn) (u2 := .bool R) (u3 := .slice (some ⟨g, 0, none⟩) n c') (HX.out.trans hX) (by decide) (by omega) hR hO
          have HE' := Lib.hid HE
          have HO' := Lib.hid (ownsRow_mono HO HX.out.size)
          have HL := Lib.hid hl
          clear HE HO hX hR hB hO hl
          go_wp2
          refine bodyPost_ret (v := .tuple #[.agg #[.int .i64 Wn, .int .i64 Hn, .bool R, .slice (some ⟨g, 0, none⟩) n c'], .bool true]) ?_ rfl (keepF_yes HOK.out ⟨_, n, c', xs, rfl, HE'.out, HO'.out, HL.out, hn, by rw [HXS.out]; rfl⟩)
          simp only [results, Try.results43]
          go_simp
end Go.Proofs.Ytllpbkmdcaikoaa
