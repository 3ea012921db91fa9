/-
  Contracts of the functions that hand on heights: told, l05Give; and of 'built', which fills heights by a closure.
-/
import Derived.Test.YtdggpkgbncmlbaaAtC
import Derived.Test.YtdggpkgbncmlbaaLib3
namespace Go.Proofs.Ytdggpkgbncmlbaa
open Go.RowKit
set_option linter.unusedVariables false
set_option linter.unusedSimpArgs false
set_option linter.unnecessarySimpa false

theorem Ext.fin3 {w w5 : World} {q : Nat} (hX : Ext w w5) (hq : w.heap.size ≤ q) (v0 v1 v2 : Value) : Ext w (((w5.setCell ⟨q, 0, none⟩ v0).setCell ⟨q, 1, none⟩ v1).setCell ⟨q, 2, none⟩ v2) :=
  Below.setCell (Below.setCell (Below.setCell hX hq _) hq _) hq _

/-- Heights that are valid are handed on. -/
theorem told_yes (W H : Int) (a : Option Addr) (n c : Nat) (zs : List Int) (hz : zs.length = n) (hn : n ≤ 1048576) (w : World) (hA : VArr w a (ints zs)) (hv : vldH W H zs = true) :
    Calls Try.prog 107 #[.agg #[.int .i64 W, .int .i64 H, .slice a n c]] w fun e w' => e = .returned (.tuple #[.agg #[.int .i64 W, .int .i64 H, .slice a n c], .bool true]) ∧ Ext w w' := by
  have hX := ((Ext.refl w).alloc (.cells #[.int .i64 W, .int .i64 H, .slice a n c] 33)).alloc (.cells #[.int .i64 0, .int .i64 0, .slice none 0 0] 33)
  have hA1 := hA.ext hX
  have B0 := heap_mid1 w (.cells #[.int .i64 W, .int .i64 H, .slice a n c] 33) (.cells #[.int .i64 0, .int .i64 0, .slice none 0 0] 33)
  have B1 := heap_new1 w (.cells #[.int .i64 W, .int .i64 H, .slice a n c] 33) (.cells #[.int .i64 0, .int .i64 0, .slice none 0 0] 33)
  go_enter Try.func107, Try.ntmps107
  go_wp2_with fail
  refine (implValid_any W H a n c zs hz (by omega) _ hA1).mono ?_
  rw [hv]
  generalize (w.alloc (.cells #[.int .i64 W, .int .i64 H, .slice a n c] 33)).alloc (.cells #[.int .i64 0, .int .i64 0, .slice none 0 0] 33) = w0 at *
  rintro e w1 ⟨rfl, hX1⟩
  obtain ⟨⟨c0, c1, c2⟩, _⟩ := block3 (hX1.block B0)
  obtain ⟨⟨d0, d1, d2⟩, f0, f1, f2⟩ := block3 (hX1.block B1)
  have HX := Lib.hid (hX.trans hX1)
  clear hX hX1 B0 B1 hA hA1 hv
  go_wp2
  refine bodyPost_ret (v := .tuple #[.agg #[.int .i64 W, .int .i64 H, .slice a n c], .bool true]) ?_ rfl ⟨rfl, HX.out.fin3 (by omega) _ _ _⟩
  simp only [results, Try.results107]
  go_simp
theorem told_no (W H : Int) (a : Option Addr) (n c : Nat) (zs : List Int) (hz : zs.length = n) (hn : n ≤ 1048576) (w : World) (hA : VArr w a (ints zs)) (hv : vldH W H zs = false) :
    Calls Try.prog 107 #[.agg #[.int .i64 W, .int .i64 H, .slice a n c]] w fun e w' => e = .returned (.tuple #[.agg #[.int .i64 0, .int .i64 0, .slice none 0 0], .bool false]) ∧ Ext w w' := by
  have hX := ((Ext.refl w).alloc (.cells #[.int .i64 W, .int .i64 H, .slice a n c] 33)).alloc (.cells #[.int .i64 0, .int .i64 0, .slice none 0 0] 33)
  have hA1 := hA.ext hX
  have B0 := heap_mid1 w (.cells #[.int .i64 W, .int .i64 H, .slice a n c] 33) (.cells #[.int .i64 0, .int .i64 0, .slice none 0 0] 33)
  have B1 := heap_new1 w (.cells #[.int .i64 W, .int .i64 H, .slice a n c] 33) (.cells #[.int .i64 0, .int .i64 0, .slice none 0 0] 33)
  go_enter Try.func107, Try.ntmps107
  go_wp2_with fail
  refine (implValid_any W H a n c zs hz (by omega) _ hA1).mono ?_
  rw [hv]
  generalize (w.alloc (.cells #[.int .i64 W, .int .i64 H, .slice a n c] 33)).alloc (.cells #[.int .i64 0, .int .i64 0, .slice none 0 0] 33) = w0 at *
  rintro e w1 ⟨rfl, hX1⟩
  obtain ⟨⟨c0, c1, c2⟩, _⟩ := block3 (hX1.block B0)
  obtain ⟨⟨d0, d1, d2⟩, f0, f1, f2⟩ := block3 (hX1.block B1)
  have HX := Lib.hid (hX.trans hX1)
  clear hX hX1 B0 B1 hA hA1 hv
  go_wp2
  refine bodyPost_ret (v := .tuple #[.agg #[.int .i64 0, .int .i64 0, .slice none 0 0], .bool false]) ?_ rfl ⟨rfl, HX.out.fin3 (by omega) _ _ _⟩
  simp only [results, Try.results107]
  go_simp

theorem give_yes (W H : Int) (a : Option Addr) (n c : Nat) (zs : List Int) (hz : zs.length = n) (hn : n ≤ 1048576) (w : World) (hA : VArr w a (ints zs)) (hv : vldH W H zs = true) :
    Calls Try.prog 79 #[.agg #[.int .i64 W, .int .i64 H, .slice a n c]] w fun e w' => e = .returned (.tuple #[.agg #[.int .i64 W, .int .i64 H, .slice a n c], .bool true]) ∧ Ext w w' := by
  have hX := ((Ext.refl w).alloc (.cells #[.int .i64 W, .int .i64 H, .slice a n c] 33)).alloc (.cells #[.int .i64 0, .int .i64 0, .slice none 0 0] 33)
  have hA1 := hA.ext hX
  have B0 := heap_mid1 w (.cells #[.int .i64 W, .int .i64 H, .slice a n c] 33) (.cells #[.int .i64 0, .int .i64 0, .slice none 0 0] 33)
  have B1 := heap_new1 w (.cells #[.int .i64 W, .int .i64 H, .slice a n c] 33) (.cells #[.int .i64 0, .int .i64 0, .slice none 0 0] 33)
  go_enter Try.func79, Try.ntmps79
  go_wp2_with fail
  refine (l05Is_any _ W H a n c zs hz (by omega) _ (block3 B0).1 hA1).mono ?_
  rw [hv]
  generalize (w.alloc (.cells #[.int .i64 W, .int .i64 H, .slice a n c] 33)).alloc (.cells #[.int .i64 0, .int .i64 0, .slice none 0 0] 33) = w0 at *
  rintro e w1 ⟨rfl, hX1⟩
  obtain ⟨⟨c0, c1, c2⟩, _⟩ := block3 (hX1.block B0)
  obtain ⟨⟨d0, d1, d2⟩, f0, f1, f2⟩ := block3 (hX1.block B1)
  have HX := Lib.hid (hX.trans hX1)
  clear hX hX1 B0 B1 hA hA1 hv
  go_wp2
  refine bodyPost_ret (v := .tuple #[.agg #[.int .i64 W, .int .i64 H, .slice a n c], .bool true]) ?_ rfl ⟨rfl, HX.out.fin3 (by omega) _ _ _⟩
  simp only [results, Try.results79]
  go_simp
theorem give_no (W H : Int) (a : Option Addr) (n c : Nat) (zs : List Int) (hz : zs.length = n) (hn : n ≤ 1048576) (w : World) (hA : VArr w a (ints zs)) (hv : vldH W H zs = false) :
    Calls Try.prog 79 #[.agg #[.int .i64 W, .int .i64 H, .slice a n c]] w fun e w' => e = .returned (.tuple #[.agg #[.int .i64 0, .int .i64 0, .slice none 0 0], .bool false]) ∧ Ext w w' := by
  have hX := ((Ext.refl w).alloc (.cells #[.int .i64 W, .int .i64 H, .slice a n c] 33)).alloc (.cells #[.int .i64 0, .int .i64 0, .slice none 0 0] 33)
  have hA1 := hA.ext hX
  have B0 := heap_mid1 w (.cells #[.int .i64 W, .int .i64 H, .slice a n c] 33) (.cells #[.int .i64 0, .int .i64 0, .slice none 0 0] 33)
  have B1 := heap_new1 w (.cells #[.int .i64 W, .int .i64 H, .slice a n c] 33) (.cells #[.int .i64 0, .int .i64 0, .slice none 0 0] 33)
  go_enter Try.func79, Try.ntmps79
  go_wp2_with fail
  refine (l05Is_any _ W H a n c zs hz (by omega) _ (block3 B0).1 hA1).mono ?_
  rw [hv]
  generalize (w.alloc (.cells #[.int .i64 W, .int .i64 H, .slice a n c] 33)).alloc (.cells #[.int .i64 0, .int .i64 0, .slice none 0 0] 33) = w0 at *
  rintro e w1 ⟨rfl, hX1⟩
  obtain ⟨⟨c0, c1, c2⟩, _⟩ := block3 (hX1.block B0)
  obtain ⟨⟨d0, d1, d2⟩, f0, f1, f2⟩ := block3 (hX1.block B1)
  have HX := Lib.hid (hX.trans hX1)
  clear hX hX1 B0 B1 hA hA1 hv
  go_wp2
  refine bodyPost_ret (v := .tuple #[.agg #[.int .i64 0, .int .i64 0, .slice none 0 0], .bool false]) ?_ rfl ⟨rfl, HX.out.fin3 (by omega) _ _ _⟩
  simp only [results, Try.results79]
  go_simp
end Go.Proofs.Ytdggpkgbncmlbaa
