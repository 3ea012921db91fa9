/-
  SlopesOf by the program. (Printed by gen_slopes.py.)
-/
import Derived.Test.YtllpbkmdcaikoaaFlE
import Derived.Test.YtllpbkmdcaikoaaFlH
import Derived.Test.YtllpbkmdcaikoaaApB
namespace Go.Proofs.Ytllpbkmdcaikoaa
open Go.RowKit
set_option linter.unusedVariables false
set_option linter.unusedSimpArgs false
set_option linter.unnecessarySimpa false

/-- Two fields of one's own, apart, and whether there are such. -/
def newFF (w : World) (W H : Int) (R : Bool) (fs gs : List (Option Nat)) (ok : Bool) (e : Ending) (w' : World) : Prop :=
  ∃ a n c xs b m d ys, e = .returned (.tuple #[.agg #[.int .i64 W, .int .i64 H, .bool R, .slice a n c], .agg #[.int .i64 W, .int .i64 H, .bool R, .slice b m d], .bool ok]) ∧ Ext w w' ∧ w'.ownsRow w.heap.size 30 1 (.slice a n c) n (flts xs) ∧ xs.length = n ∧ n ≤ 1048576 ∧ fas xs = fs ∧ w'.ownsRow w.heap.size 30 1 (.slice b m d) m (flts ys) ∧ ys.length = m ∧ m ≤ 1048576 ∧ fas ys = gs ∧ ∀ g, (Value.slice a n c).ownBlock = some g → (Value.slice b m d).ownBlock ≠ some g
def keepFF (w : World) (ok : Bool) (W H : Int) (R : Bool) (fs gs : List (Option Nat)) (e : Ending) (w' : World) : Prop := newFF w (kI ok W) (kI ok H) (kB ok R) (kL ok fs) (kL ok gs) ok e w'
theorem keepFF_no {w : World} {ok : Bool} {W H : Int} {R : Bool} {fs gs : List (Option Nat)} {e : Ending} {w' : World} (h : ok = false) (k : newFF w 0 0 false [] [] false e w') : keepFF w ok W H R fs gs e w' := by
  unfold keepFF; rw [h]; exact k
theorem keepFF_yes {w : World} {ok : Bool} {W H : Int} {R : Bool} {fs gs : List (Option Nat)} {e : Ending} {w' : World} (h : ok = true) (k : newFF w W H R fs gs true e w') : keepFF w ok W H R fs gs e w' := by
  unfold keepFF; rw [h]; exact k
/-- A box stays when another one is filled. -/
theorem keepBlock4 {w : World} {k : Nat} {o : Obj} (h : w.heap[k]? = some o) {q : Nat} (hne : k ≠ q) (v0 v1 v2 v3 : Value) : ((((w.setCell ⟨q, 0, none⟩ v0).setCell ⟨q, 1, none⟩ v1).setCell ⟨q, 2, none⟩ v2).setCell ⟨q, 3, none⟩ v3).heap[k]? = some o := by
  rw [cells_setOther hne, cells_setOther hne, cells_setOther hne, cells_setOther hne]; exact h
theorem newFF_none {w w' : World} (h : Ext w w') : newFF w 0 0 false [] [] false (.returned (.tuple #[.agg #[.int .i64 0, .int .i64 0, .bool false, .slice none 0 0], .agg #[.int .i64 0, .int .i64 0, .bool false, .slice none 0 0], .bool false])) w' :=
  ⟨none, 0, 0, [], none, 0, 0, [], rfl, h, World.ownsRow_nil _ _ _ _, rfl, by omega, rfl, World.ownsRow_nil _ _ _ _, rfl, by omega, rfl, fun g hg => by simp [Value.ownBlock] at hg⟩

theorem sl1_any (W H x y : Int) (R : Bool) (b o n c : Nat) (zs : List Nat) (hz : zs.length = n) (hv : vldF W H n = true) (hx : -10000 ≤ x ∧ x ≤ 10000) (hy : -10000 ≤ y ∧ y ≤ 10000) (p : Nat) (w : World) (hA : VArr w (some ⟨b, o, none⟩) (flts zs))
    (hp : w.heap[p]? = some (.cells #[.int .i64 W, .int .i64 H, .bool R, .slice (some ⟨b, o, none⟩) n c] 27 (0, 0))) :
    Calls Try.prog 82 #[.int .i64 x, .int .i64 y, .pointer (some ⟨p, 0, none⟩)] w fun e w' => ∃ r, e = .returned (.float .f32 r) ∧ fa .f32 r = slopeXG W H R (fas zs) x y ∧ Ext w w' := by
  obtain ⟨⟨c0, c1, c2, c3⟩, _⟩ := block4 hp
  have HS := Lib.hid (slopes_any W H x y R b o n c zs (fas zs) hz rfl hv hx hy w hA)
  clear hv hA hp hz
  go_enter Try.func82, Try.ntmps82
  go_wp2_with fail
  refine HS.out.mono ?_
  rintro e w1 ⟨r, r', rfl, h1, h2, hX1⟩
  go_wp2
  go_ret
  exact ⟨_, rfl, h1, hX1⟩

theorem sl2_any (W H x y : Int) (R : Bool) (b o n c : Nat) (zs : List Nat) (hz : zs.length = n) (hv : vldF W H n = true) (hx : -10000 ≤ x ∧ x ≤ 10000) (hy : -10000 ≤ y ∧ y ≤ 10000) (p : Nat) (w : World) (hA : VArr w (some ⟨b, o, none⟩) (flts zs))
    (hp : w.heap[p]? = some (.cells #[.int .i64 W, .int .i64 H, .bool R, .slice (some ⟨b, o, none⟩) n c] 27 (0, 0))) :
    Calls Try.prog 84 #[.int .i64 x, .int .i64 y, .pointer (some ⟨p, 0, none⟩)] w fun e w' => ∃ r, e = .returned (.float .f32 r) ∧ fa .f32 r = slopeYG W H R (fas zs) x y ∧ Ext w w' := by
  obtain ⟨⟨c0, c1, c2, c3⟩, _⟩ := block4 hp
  have HS := Lib.hid (slopes_any W H x y R b o n c zs (fas zs) hz rfl hv hx hy w hA)
  clear hv hA hp hz
  go_enter Try.func84, Try.ntmps84
  go_wp2_with fail
  refine HS.out.mono ?_
  rintro e w1 ⟨r, r', rfl, h1, h2, hX1⟩
  go_wp2
  go_ret
  exact ⟨_, rfl, h2, hX1⟩

set_option maxRecDepth 100000 in
set_option maxHeartbeats 4000000 in
theorem implSlopes_any (W H : Int) (R : Bool) (a : Option Addr) (n c : Nat) (zs : List Nat) (hz : zs.length = n) (hn : n ≤ 1048576) (w : World) (hA : VArr w a (flts zs)) :
    Calls Try.prog 38 #[.agg #[.int .i64 W, .int .i64 H, .bool R, .slice a n c]] w (keepFF w (vldF W H n) W H R (gridF W.toNat (slopeXG W H R (fas zs)) (H.toNat * W.toNat)) (gridF W.toNat (slopeYG W H R (fas zs)) (H.toNat * W.toNat))) := by
  obtain ⟨i0, hi, hz0, hz1, hz2⟩ := info_parts info32
  have hX : Ext w (((w.alloc (.cells #[.int .i64 W, .int .i64 H, .bool R, .slice a n c] 27)).alloc (.cells #[.int .i64 0, .int .i64 0, .bool false, .slice none 0 0] 27)).alloc (.cells #[.int .i64 0, .int .i64 0, .bool false, .slice none 0 0] 27)) := (((Ext.refl w).alloc _).alloc _).alloc _
  have b0 := heap_mid3 w (.cells #[.int .i64 W, .int .i64 H, .bool R, .slice a n c] 27) (.cells #[.int .i64 0, .int .i64 0, .bool false, .slice none 0 0] 27) (.cells #[.int .i64 0, .int .i64 0, .bool false, .slice none 0 0] 27)
  have b1 := heap_mid2 w (.cells #[.int .i64 W, .int .i64 H, .bool R, .slice a n c] 27) (.cells #[.int .i64 0, .int .i64 0, .bool false, .slice none 0 0] 27) (.cells #[.int .i64 0, .int .i64 0, .bool false, .slice none 0 0] 27)
  have b2 := heap_new2 w (.cells #[.int .i64 W, .int .i64 H, .bool R, .slice a n c] 27) (.cells #[.int .i64 0, .int .i64 0, .bool false, .slice none 0 0] 27) (.cells #[.int .i64 0, .int .i64 0, .bool false, .slice none 0 0] 27)
  have hA1 := hA.ext hX
  go_enter Try.func38, Try.ntmps38
  go_wp2_with fail
  refine (implValidF_any W H R a n c (by omega) _).mono ?_
  generalize ((w.alloc (.cells #[.int .i64 W, .int .i64 H, .bool R, .slice a n c] 27)).alloc (.cells #[.int .i64 0, .int .i64 0, .bool false, .slice none 0 0] 27)).alloc (.cells #[.int .i64 0, .int .i64 0, .bool false, .slice none 0 0] 27) = w0 at *
  rintro e w1 ⟨rfl, hX1⟩
  cases hv : vldF W H n with
  | false =>
    have HOK := Lib.hid hv
    obtain ⟨⟨d0, d1, d2, d3⟩, f0, f1, f2, f3⟩ := block4 (hX1.block b1)
    obtain ⟨⟨e0, e1, e2, e3⟩, g0, g1, g2, g3⟩ := block4 (hX1.block b2)
    have HE := Lib.hid (((hX.trans hX1).fin4 (q := w.heap.size + 1) (by omega) (.int .i64 0) (.int .i64 0) (.bool false) (.slice none 0 0)).fin4 (q := w.heap.size + 2) (by omega) (.int .i64 0) (.int .i64 0) (.bool false) (.slice none 0 0))
    clear hX hX1 b0 b1 b2 hA hA1 hv hz
    go_wp2
    refine bodyPost_ret (v := .tuple #[.agg #[.int .i64 0, .int .i64 0, .bool false, .slice none 0 0], .agg #[.int .i64 0, .int .i64 0, .bool false, .slice none 0 0], .bool false]) ?_ rfl (keepFF_no HOK.out (newFF_none HE.out))
    simp only [results, Try.results38]
    go_simp
  | true =>
    have HOK := Lib.hid hv
    obtain ⟨⟨c0, c1, c2, c3⟩, _⟩ := block4 (hX1.block b0)
    obtain ⟨Wn, Hn, hWn, hHn, k1, k2, k3, k4, hnn, _⟩ := vldF_facts hv
    have hn1 : 0 < n := by rw [hnn]; exact Nat.mul_pos (by omega) (by omega)
    obtain ⟨b, o, rfl⟩ := hA.starts (i := 0) (by simp; omega)
    have hA2 := hA1.ext hX1
    have HV := Lib.hid hv
    have HZ := Lib.hid hz
    have HB := Lib.hid (And.intro k1 (And.intro k2 (And.intro k3 k4)))
    have HW := Lib.hid (And.intro hWn hHn)
    have B0 := Lib.hid (hX1.block b0)
    have B1 := Lib.hid (hX1.block b1)
    have B2 := Lib.hid (hX1.block b2)
    have HX := Lib.hid (hX.trans hX1)
    have HA2 := Lib.hid hA2
    have hw3 := lt_of_block (hX1.block b2)
    clear hv hz hnn k1 k2 k3 k4 hWn hHn hA hA1 hA2 hX hX1 b0 b1 b2
    go_wp2_with fail
    refine (each_any W H R _ n c 82 #[] #[.pointer (some ⟨w.heap.size, 0, none⟩)] (slopeXG W H R (fas zs)) (vldF_iff.1 HV.out).1 _ (fun args u => by go_simp) (fun u v w' hw u0 u1 v0 v1 => ?_)).mono ?_
    · simpa using sl1_any W H u v R b o n c zs HZ.out HV.out ⟨by omega, by have := HB.out; have := HW.out; omega⟩ ⟨by omega, by have := HB.out; have := HW.out; omega⟩ _ w' (HA2.out.ext hw) (hw.block B0.out)
    rintro e w4 ⟨a', n', c', xs, rfl, hX4, hO, hl, hle, hf⟩
    have hXa := (Ext.refl w4).alloc (.cells #[.int .i64 W, .int .i64 H, .bool R, .slice a' n' c'] 27)
    have b5 := heap_new w4 (.cells #[.int .i64 W, .int .i64 H, .bool R, .slice a' n' c'] 27)
    have HO1 := Lib.hid (ownsRow_ext hO hXa)
    have HX5 := Lib.hid (HX.out.trans (hX4.trans hXa))
    have B0' := (hX4.trans hXa).block B0.out
    have B1' := (hX4.trans hXa).block B1.out
    have B2' := (hX4.trans hXa).block B2.out
    have HA3 := Lib.hid (HA2.out.ext (hX4.trans hXa))
    have HL := Lib.hid hl
    have HFF := Lib.hid hf
    have hw13 : w1.heap.size ≤ w4.heap.size := hX4.size
    clear hX4 hXa hO hl hf c0 c1 c2 c3 B0 B1 B2 HA2
    go_wp2_with fail
    generalize w4.alloc (.cells #[.int .i64 W, .int .i64 H, .bool R, .slice a' n' c'] 27) = w5 at *
    generalize w4.heap.size = q at *
    refine region_grow_tail 4 (C := Ext w5) (K := fun f args v wv => f = 78 → args = #[.agg #[.int .i64 W, .int .i64 H, .bool R, .slice (some ⟨b, o, none⟩) n c], .func (.func 84) #[] #[.pointer (some ⟨w.heap.size, 0, none⟩)]] → ∃ a2 m2 d2, v = .agg #[.int .i64 W, .int .i64 H, .bool R, .slice a2 m2 d2] ∧ m2 ≤ 1048576 ∧ ∃ ys, wv.ownsRow w5.heap.size 30 1 (.slice a2 m2 d2) m2 (flts ys) ∧ ys.length = m2 ∧ fas ys = gridF W.toNat (slopeYG W H R (fas zs)) (H.toNat * W.toNat)) ⟨fun _ _ h k => h.trans k, fun f args v u u' h ex hf ha => (by obtain ⟨a2, m2, d2, h1, h2, ys, h3, h4, h5⟩ := h hf ha; exact ⟨a2, m2, d2, h1, h2, ys, ownsRow_ext h3 ex, h4, h5⟩)⟩ (by kernel_rfl) (by kernel_rfl) ((Ext.refl w5).drew) ?_
    simp only [List.take_succ_cons, List.take_zero, List.drop_succ_cons, List.drop_zero]
    refine grow_det (c := .agg #[.int .i64 W, .int .i64 H, .bool R, .slice a' n' c']) rfl (fun u hu _ => ?_) ?_
    · obtain ⟨⟨c0, c1, c2, c3⟩, _⟩ := block4 (hu.block b5)
      go_simp
    refine grow_det (c := .agg #[.int .i64 W, .int .i64 H, .bool R, .slice (some ⟨b, o, none⟩) n c]) rfl (fun u hu _ => ?_) ?_
    · obtain ⟨⟨c0, c1, c2, c3⟩, _⟩ := block4 (hu.block B0')
      go_simp
    refine grow_q rfl ?_
    apply Exists.intro
    refine ⟨fun u hu _ => ?_, ?_⟩
    · go_simp
      rfl
    refine grow_cg 78 (fun v => ∃ a2 m2 d2, v = .agg #[.int .i64 W, .int .i64 H, .bool R, .slice a2 m2 d2] ∧ m2 ≤ 1048576) (fun v wv => ∀ a2 m2 d2, v = .agg #[.int .i64 W, .int .i64 H, .bool R, .slice a2 m2 d2] → ∃ ys, wv.ownsRow w5.heap.size 30 1 (.slice a2 m2 d2) m2 (flts ys) ∧ ys.length = m2 ∧ fas ys = gridF W.toNat (slopeYG W H R (fas zs)) (H.toNat * W.toNat)) rfl ?_
    refine ⟨#[.agg #[.int .i64 W, .int .i64 H, .bool R, .slice (some ⟨b, o, none⟩) n c], .func (.func 84) #[] #[.pointer (some ⟨w.heap.size, 0, none⟩)]], fun u => ?_, fun u hu _ => ?_, fun v u h => ?_, fun v hv => ?_⟩
    · go_simp
    · refine (each_any W H R _ n c 84 #[] #[.pointer (some ⟨w.heap.size, 0, none⟩)] (slopeYG W H R (fas zs)) (vldF_iff.1 HV.out).1 _ (fun args u => by go_simp) (fun x y w' hw u0 u1 v0 v1 => ?_)).mono fun e u' h => ?_
      · simpa using sl2_any W H x y R b o n c zs HZ.out HV.out ⟨by omega, by have := HB.out; have := HW.out; omega⟩ ⟨by omega, by have := HB.out; have := HW.out; omega⟩ _ w' (HA3.out.ext (hu.trans hw)) ((hu.trans hw).block B0')
      obtain ⟨a2, m2, d2, ys, he, hx, ho, hl, hle2, hf⟩ := h
      exact ⟨_, he, hx, fun _ _ => ⟨a2, m2, d2, rfl, hle2, ys, ownsRow_mono ho hu.size, hl, hf⟩⟩
    · obtain ⟨a2, m2, d2, h1, h2, ys, h3, h4, h5⟩ := h rfl rfl
      refine ⟨⟨a2, m2, d2, h1, h2⟩, fun a3 m3 d3 he => ?_⟩
      rw [h1] at he; simp at he; obtain ⟨rfl, rfl, rfl⟩ := he; exact ⟨ys, h3, h4, h5⟩
    obtain ⟨a2, m2, d2, rfl, hle2⟩ := hv
    refine grow_nil (fun w6 hX6 hh => ?_)
    obtain ⟨_, hF⟩ := hh
    obtain ⟨ys, hO2, hl2, hf2⟩ := hF a2 m2 d2 rfl
    clear hF
    have HX6 := Lib.hid (HX5.out.trans hX6)
    have HO6 := Lib.hid (ownsRow_ext HO1.out hX6)
    have HAP : Hid (∀ g, (Value.slice a' n' c').ownBlock = some g → (Value.slice a2 m2 d2).ownBlock ≠ some g) := fun g h1 h2 => by
      have := (HO1.out.lt g h1).2
      have := (hO2.lt g h2).1
      omega
    have b1' := hX6.block B1'
    have b2' := hX6.block B2'
    obtain ⟨⟨d0, d1, d2', d3⟩, f0, f1, f2, f3⟩ := block4 b1'
    obtain ⟨⟨e0, e1, e2, e3⟩, g0, g1, g2, g3⟩ := block4 b2'
    obtain ⟨HE1, HP1⟩ := stored4 (T := 27) (u0 := .int .i64 W) (u1 := .int .i64 H) (u2 := .bool R) (u3 := .slice a' n' c') HX6.out (by decide) (by omega) b1' HO6.out
    obtain ⟨_, HP2⟩ := stored4 (T := 27) (u0 := .int .i64 W) (u1 := .int .i64 H) (u2 := .bool R) (u3 := .slice a' n' c') HX6.out (by decide) (by omega) b1' hO2
    have b2'' := keepBlock4 b2' (show w.heap.size + 2 ≠ w.heap.size + 1 by omega) (.int .i64 W) (.int .i64 H) (.bool R) (.slice a' n' c')
    obtain ⟨HE2, HQ1⟩ := stored4 (T := 27) (u0 := .int .i64 W) (u1 := .int .i64 H) (u2 := .bool R) (u3 := .slice a2 m2 d2) HE1 (by decide) (by omega) b2'' HP1
    obtain ⟨_, HQ2⟩ := stored4 (T := 27) (u0 := .int .i64 W) (u1 := .int .i64 H) (u2 := .bool R) (u3 := .slice a2 m2 d2) HE1 (by decide) (by omega) b2'' HP2
    have HE' := Lib.hid HE2
    have hws : w.heap.size ≤ w1.heap.size := HX.out.size
    have HQ1' := Lib.hid (ownsRow_mono HQ1 hws)
    have HQ2' := Lib.hid (ownsRow_mono HQ2 (Nat.le_trans HX5.out.size (Nat.le_refl _)))
    have HL2 := Lib.hid hl2
    have HF2 := Lib.hid hf2
    clear HE1 HP1 HP2 HE2 HQ1 HQ2 b2'' b1' b2' hX6 hO2 hl2 hf2 B0' B1' B2' b5
    go_simp
    go_wp2
    refine bodyPost_ret (v := .tuple #[.agg #[.int .i64 W, .int .i64 H, .bool R, .slice a' n' c'], .agg #[.int .i64 W, .int .i64 H, .bool R, .slice a2 m2 d2], .bool true]) ?_ rfl (keepFF_yes HOK.out ⟨a', n', c', xs, a2, m2, d2, ys, rfl, HE'.out, HQ1'.out, HL.out, hle, HFF.out, HQ2'.out, HL2.out, hle2, HF2.out, HAP.out⟩)
    simp only [results, Try.results38]
    go_simp
end Go.Proofs.Ytllpbkmdcaikoaa
