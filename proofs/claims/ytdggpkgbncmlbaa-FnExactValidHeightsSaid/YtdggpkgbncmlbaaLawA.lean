/-
  The walks of the statements on heights that answer plain numbers.
-/
import Derived.Test.YtdggpkgbncmlbaaHtsI
namespace Go.Proofs.Ytdggpkgbncmlbaa
open Go.RowKit
set_option linter.unusedVariables false
set_option linter.unusedSimpArgs false
set_option linter.unnecessarySimpa false

def KTo (fTo fEq : FuncId) (W H : Int) (n : Nat) (zs : List Int) : FuncId → Array Value → Value → World → Prop := fun f _ v w =>
  (f = fTo → ∃ b, v = .agg #[.int .i64 W, .int .i64 H, .slice (some ⟨b, 0, none⟩) n n] ∧ VArr w (some ⟨b, 0, none⟩) (ints zs)) ∧ (f = fEq → v = .bool true)
theorem KTo_closed (w : World) (fTo fEq : FuncId) (W H : Int) (n : Nat) (zs : List Int) : Closed (Ext w) (KTo fTo fEq W H n zs) :=
  ⟨fun _ _ h k => h.trans k, fun f args v w w' h e => ⟨fun hf => let ⟨b, hb, hv⟩ := h.1 hf; ⟨b, hb, hv.ext e⟩, h.2⟩⟩

theorem walk_FnExactValidHeights (W H : Int) (a : Option Addr) (n c : Nat) (zs : List Int) (hz : zs.length = n) (hn : n ≤ 9223372036854775807) (wW : (Lit.int .i64 W).wf = true) (wH : (Lit.int .i64 H).wf = true) (w : World) (hA : VArr w a (ints zs)) :
    Calls Try.prog 6 #[.agg #[.int .i64 W, .int .i64 H, .slice a n c]] w fun e w' => e = .returned (.bool true) ∧ Ext w w' := by
  have B0 := heap_new w (.cells #[.int .i64 W, .int .i64 H, .slice a n c] 30)
  have hX0 : Ext w (w.alloc (.cells #[.int .i64 W, .int .i64 H, .slice a n c] 30)) := (Ext.refl w).alloc _
  by_cases hbig : (1048576 : Int) - n < 0
  · go_enter Try.func6, Try.ntmps6
    go_wp2_with fail
    refine (szHeights_any W H a n c 1048576 hn (by omega) (by omega) _).mono ?_
    rw [if_pos (by omega)]
    rintro e w1 ⟨rfl, hX1⟩
    go_wp2
    go_ret
    exact ⟨rfl, hX0.trans hX1⟩
  · have hn' : n ≤ 1048576 := by omega
    go_enter Try.func6, Try.ntmps6
    go_wp2_with fail
    refine (szHeights_any W H a n c 1048576 hn (by omega) (by omega) _).mono ?_
    rw [if_neg (by omega)]
    generalize hp : w.heap.size = p at *
    generalize w.alloc (.cells #[.int .i64 W, .int .i64 H, .slice a n c] 30) = w0 at *
    rintro e w1 ⟨rfl, hX1⟩
    have HP := Lib.hid hp
    clear hp
    have B1 := hX1.block B0
    have hX := hX0.trans hX1
    clear B0 hX0 hX1
    have hA1 := hA.ext hX
    obtain ⟨⟨c0, c1, c2⟩, _⟩ := block3 B1
    have HX := Lib.hid hX
    clear hX hA
    -- x := toHeights(aH); spec(x)
    go_wp2_with fail
    refine (toHeights_any W H a n c zs hz hn' _ hA1).mono ?_
    rintro e w2 ⟨b1, rfl, hX2, hO1⟩
    have B2 := hX2.block B1
    have hA2 := hA1.ext hX2
    have HX2 := Lib.hid (HX.out.trans hX2)
    have hV1 := ownsRow_varr hO1
    clear B1 hA1 hX2 hO1 HX c0 c1 c2
    obtain ⟨⟨c0, c1, c2⟩, _⟩ := block3 B2
    go_wp2_with fail
    refine (specValid_any W H _ n n zs hz (by omega) _ hV1).mono ?_
    rintro e w3 ⟨rfl, hX3⟩
    have B3 := hX3.block B2
    have hA3 := hA2.ext hX3
    have HX3 := Lib.hid (HX2.out.trans hX3)
    clear B2 hA2 hX3 HX2 c0 c1 c2 hV1
    obtain ⟨⟨c0, c1, c2⟩, _⟩ := block3 B3
    go_wp2_with fail
    refine (toHeights_any W H a n c zs hz hn' _ hA3).mono ?_
    rintro e w4 ⟨b2, rfl, hX4, hO2⟩
    have B4 := hX4.block B3
    have hA4 := hA3.ext hX4
    have hV2 := ownsRow_varr hO2
    have HX4 := Lib.hid (HX3.out.trans hX4)
    clear B3 hA3 hX4 HX3 c0 c1 c2 hO2
    go_wp2_with fail
    have hXn : Ext w4 (w4.alloc (.cells #[.int .i64 W, .int .i64 H, .slice (some ⟨b2, 0, none⟩) n n] 33)) := (Ext.refl w4).alloc _
    have D0 := heap_new w4 (.cells #[.int .i64 W, .int .i64 H, .slice (some ⟨b2, 0, none⟩) n n] 33)
    refine (implValid_any W H _ n n zs hz (by omega) _ (hV2.ext hXn)).mono ?_
    generalize hq : w4.heap.size = q at *
    generalize w4.alloc (.cells #[.int .i64 W, .int .i64 H, .slice (some ⟨b2, 0, none⟩) n n] 33) = w5 at *
    rintro e w6 ⟨rfl, hX6⟩
    have hX46 := hXn.trans hX6
    have B6 := hX46.block B4
    have D6 := hX6.block D0
    have hA6 := hA4.ext hX46
    have hV6 := hV2.ext hX46
    have HX6 := Lib.hid (HX4.out.trans hX46)
    have HQ := Lib.hid hq
    clear B4 hA4 hV2 HX4 hX46 hXn hX6 D0 hq
    obtain ⟨⟨c0, c1, c2⟩, _⟩ := block3 B6
    obtain ⟨⟨d0, d1, d2⟩, _⟩ := block3 D6
    go_wp2
    refine region_grow (C := Ext w6) (K := KTo 25 27 W H n zs) (KTo_closed w6 25 27 W H n zs) (by kernel_rfl) (by kernel_rfl) ((Ext.refl w6).drew) ?_
    refine grow_det (c := .agg #[.int .i64 W, .int .i64 H, .slice (some ⟨b2, 0, none⟩) n n]) rfl (fun w hw _ => ?_) ?_
    · obtain ⟨⟨d0, d1, d2⟩, _⟩ := block3 (hw.block D6)
      go_simp
    refine grow_det (c := .agg #[.int .i64 W, .int .i64 H, .slice a n c]) rfl (fun w hw _ => ?_) ?_
    · obtain ⟨⟨c0, c1, c2⟩, _⟩ := block3 (hw.block B6)
      go_simp
    refine grow_call (f := 25) (args := #[.agg #[.int .i64 W, .int .i64 H, .slice a n c]]) (fun v => ∃ b, v = .agg #[.int .i64 W, .int .i64 H, .slice (some ⟨b, 0, none⟩) n n]) (fun v w => ∃ b, v = .agg #[.int .i64 W, .int .i64 H, .slice (some ⟨b, 0, none⟩) n n] ∧ VArr w (some ⟨b, 0, none⟩) (ints zs)) rfl (fun w => ?_) (fun v w h => ?_) (fun w hw _ => ?_) (fun v hv => ?_)
    · go_simp
    · obtain ⟨b, h1, h2⟩ := h.1 rfl
      exact ⟨⟨b, h1⟩, b, h1, h2⟩
    · refine (toHeights_any W H a n c zs hz hn' _ (hA6.ext hw)).mono fun e w' h => ?_
      obtain ⟨b, he, hx, ho⟩ := h
      exact ⟨_, he, hx, fun _ => ⟨b, rfl, ownsRow_varr ho⟩, (fun h => by cases h)⟩
    obtain ⟨b3, rfl⟩ := hv
    refine grow_call1 (f := 27) (args := #[.agg #[.int .i64 W, .int .i64 H, .slice (some ⟨b2, 0, none⟩) n n], .agg #[.int .i64 W, .int .i64 H, .slice (some ⟨b3, 0, none⟩) n n]]) (c := .bool true) rfl (fun w => ?_) (fun v w h => h.2 rfl) (fun w => ⟨(fun h => by cases h), fun _ => rfl⟩) (fun w hw hk => ?_) ?_
    · go_simp
    · obtain ⟨b, hb, hv⟩ := hk 24 (by simp [Oper.looksAt, Op.operands, Call.operands])
      simp only [Value.agg.injEq] at hb
      simp at hb
      subst hb
      exact eqHeights_any W H W H _ _ n n n n zs zs hz hz (by omega) (by omega) rfl rfl rfl _ (hV6.ext hw) hv
    refine grow_det (c := .bool false) rfl (fun w hw _ => ?_) ?_
    · go_simp
    refine grow_nil (fun w7 hw7 _ => ?_)
    go_simp
    go_wp2
    go_ret
    exact ⟨rfl, HX6.out.trans (by assumption)⟩
end Go.Proofs.Ytdggpkgbncmlbaa
