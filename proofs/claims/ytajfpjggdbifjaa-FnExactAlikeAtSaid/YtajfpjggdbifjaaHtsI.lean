/-
  Contracts on heights, the program's side: which are valid; cells and tops.
-/
import Derived.Test.YtajfpjggdbifjaaHts
namespace Go.Proofs.Ytajfpjggdbifjaa
open Go.RowKit
set_option linter.unusedVariables false
set_option linter.unusedSimpArgs false
set_option linter.unnecessarySimpa false

theorem implValid_any (W H : Int) (a : Option Addr) (n c : Nat) (zs : List Int) (hz : zs.length = n) (hn : n ≤ 1152921504606846976) (w : World) (hA : VArr w a (ints zs)) :
    Calls Try.prog 128 #[.agg #[.int .i64 W, .int .i64 H, .slice a n c]] w fun e w' => e = .returned (.bool (vldH W H zs)) ∧ Ext w w' := by
  have hX0 : Ext w ((w.alloc (.cells #[.int .i64 W, .int .i64 H, .slice a n c] 81)).alloc (.cells #[.int .i64 W, .int .i64 H] 2)) := ((Ext.refl w).alloc _).alloc _
  have b0 := heap_mid1 w (.cells #[.int .i64 W, .int .i64 H, .slice a n c] 81) (.cells #[.int .i64 W, .int .i64 H] 2)
  have b1 := heap_new1 w (.cells #[.int .i64 W, .int .i64 H, .slice a n c] 81) (.cells #[.int .i64 W, .int .i64 H] 2)
  have e2 : allIn 2 16 [W, H] = szH W H := allIn_two
  cases hs : szH W H with
  | false =>
    have HR : Hid (vldH W H zs = false) := by show vldH W H zs = false; simp [vldH, hs]
    rw [hs] at e2
    go_enter Try.func128, Try.ntmps128
    go_wp2_with fail
    refine (areWithin_any _ 2 2 [W, H] rfl (by omega) 2 16 _ (VArr.two b1)).mono ?_
    rw [e2]
    rintro e w1 ⟨rfl, hX1⟩
    clear b0 b1 hA
    have HX := Lib.hid (hX0.trans hX1)
    clear hX0 hX1
    go_wp2
    go_ret
    exact ⟨by rw [HR.out]; rfl, HX.out⟩
  | true =>
    obtain ⟨⟨h1, h2⟩, h3, h4⟩ := szH_iff.1 hs
    obtain ⟨hm1, hm2⟩ := mul_bd (by omega) h2 (by omega) h4
    rw [hs] at e2
    have HS := Lib.hid hs
    clear hs
    cases hl : lenH n W H with
    | false =>
      have HR : Hid (vldH W H zs = false) := by show vldH W H zs = false; simp [vldH, hz, hl]
      have e3 : ((n : Int) == W * H) = false := hl
      go_enter Try.func128, Try.ntmps128
      go_wp2_with fail
      refine (areWithin_any _ 2 2 [W, H] rfl (by omega) 2 16 _ (VArr.two b1)).mono ?_
      rw [e2]
      rintro e w1 ⟨rfl, hX1⟩
      obtain ⟨⟨c0, c1, c2⟩, _⟩ := block3 (hX1.block b0)
      clear b0 b1 hA
      have HX := Lib.hid (hX0.trans hX1)
      clear hX0 hX1
      go_wp2
      go_ret
      exact ⟨by rw [HR.out]; rfl, HX.out⟩
    | true =>
      have HR : Hid (vldH W H zs = allIn 0 1000 zs) := by show vldH W H zs = _; simp [vldH, hz, hl, HS.out]
      have e3 : ((n : Int) == W * H) = true := hl
      go_enter Try.func128, Try.ntmps128
      go_wp2_with fail
      refine (areWithin_any _ 2 2 [W, H] rfl (by omega) 2 16 _ (VArr.two b1)).mono ?_
      rw [e2]
      rintro e w1 ⟨rfl, hX1⟩
      obtain ⟨⟨c0, c1, c2⟩, _⟩ := block3 (hX1.block b0)
      have hA1 := (hA.ext hX0).ext hX1
      clear b0 b1 hA
      have HX := Lib.hid (hX0.trans hX1)
      clear hX0 hX1
      go_wp2_with (go_at_call 75; refine (areWithin_any a n c zs hz hn 0 1000 _ hA1).mono ?_; rintro e w2 ⟨rfl, hX2⟩)
      go_ret
      exact ⟨by rw [HR.out]; rfl, HX.out.trans (by assumption)⟩
end Go.Proofs.Ytajfpjggdbifjaa
