/-
  ValidMelt by the reference.
-/
import Derived.Test.YtajfpjggdbifjaaMeG
import Derived.Test.YtajfpjggdbifjaaMeE
namespace Go.Proofs.Ytajfpjggdbifjaa
open Go.RowKit
set_option linter.unusedVariables false
set_option linter.unusedSimpArgs false
set_option linter.unnecessarySimpa false

theorem specValidM_any (W H : Int) (R : Bool) (a : Option Addr) (n c : Nat) (W' H' : Int) (R' : Bool) (a' : Option Addr) (n' c' : Nat) (f1 f2 f3 f4 f5 : Nat) (k : Int) (xs xs' : List Nat) (hz : xs.length = n) (hz' : xs'.length = n') (hn : n ≤ 1048576) (hn' : n' ≤ 1048576) (w : World) (hA : VArr w a (flts xs)) (hA' : VArr w a' (flts xs')) :
    Calls Try.prog 43 #[.agg #[.int .i64 W, .int .i64 H, .bool R, .slice a n c, .int .i64 W', .int .i64 H', .bool R', .slice a' n' c', .float .f32 f1, .float .f32 f2, .float .f32 f3, .float .f32 f4, .float .f32 f5, .int .i64 k]] w fun e w' => e = .returned (.bool (vldM W H R n W' H' R' n' xs xs' f1 f2 f3 f4 f5 k)) ∧ Ext w w' := by
  have hX := (Ext.refl w).alloc (.cells #[.int .i64 W, .int .i64 H, .bool R, .slice a n c, .int .i64 W', .int .i64 H', .bool R', .slice a' n' c', .float .f32 f1, .float .f32 f2, .float .f32 f3, .float .f32 f4, .float .f32 f5, .int .i64 k] 62)
  have b0 := heap_new w (.cells #[.int .i64 W, .int .i64 H, .bool R, .slice a n c, .int .i64 W', .int .i64 H', .bool R', .slice a' n' c', .float .f32 f1, .float .f32 f2, .float .f32 f3, .float .f32 f4, .float .f32 f5, .int .i64 k] 62)
  go_enter Try.func43, Try.ntmps43
  go_wp2_with fail
  refine (l03Is_any _ W H R a n c W' H' R' a' n' c' f1 f2 f3 f4 f5 k xs xs' hz hz' hn hn' _ b0 (hA.ext hX) (hA'.ext hX)).mono ?_
  rintro e w1 ⟨rfl, hX1⟩
  go_wp2
  go_ret
  exact ⟨rfl, hX.trans hX1⟩
end Go.Proofs.Ytajfpjggdbifjaa
