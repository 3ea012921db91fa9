/-
  RoughnessOf, by the program and by the reference.
-/
import Derived.Test.YtajfpjggdbifjaaAtP
namespace Go.Proofs.Ytajfpjggdbifjaa
open Go.RowKit
set_option linter.unusedVariables false
set_option linter.unusedSimpArgs false
set_option linter.unnecessarySimpa false

def sqr (b : Nat) (w : World) : Nat := match FloatKind.f64.format.sqrt b with
  | some r => r
  | none => (Question.nanBits .f64 b b).cut (w.tape w.drawn (.nanBits .f64 b b))
def sqn (b : Nat) : Nat := match FloatKind.f64.format.sqrt b with
  | some _ => 0
  | none => 1
theorem fa_sqr (b : Nat) (w : World) : fa .f64 (sqr b w) = fsq (fa .f64 b) := by
  rw [← sqrt_fa]
  unfold sqr
  split
  · rename_i r h; rw [h, fa_num (sqrt_num h)]
  · rename_i h; rw [h, fa_nan (isN_cut _ _ _ _)]
theorem run_sqrt (b : Nat) (w : World) : (callFunc 178 #[.float .f64 b]).run Try.prog w = .ok (.value (.float .f64 (sqr b w))) (w.drewN (sqn b)) := by
  rw [run_callFunc_extern (fn := Try.f178) (e := Go.Extern.MathSqrt.sqrt) Try.func178 (by kernel_rfl) (by kernel_rfl) (by kernel_rfl) (by kernel_rfl)]
  have h0 : Extern.MathSqrt.sqrt #[Value.float .f64 b] = ((match FloatKind.f64.format.sqrt b with
    | some r => pure (Value.float .f64 r)
    | none => do pure (Value.float .f64 (← choose (.nanBits .f64 b b)))) : Sem Value) := rfl
  rw [h0]
  cases h : FloatKind.f64.format.sqrt b with
  | some r =>
    simp [sqr, sqn, h, Sem.run, Result.andThen]
    first | done | rfl
  | none =>
    simp [sqr, sqn, h, Sem.run, Result.andThen, choose, Question.forced]
    first | done | rfl
theorem sqrt_any (b : Nat) (w : World) : Calls Try.prog 168 #[.float .f64 b] w fun e w' => ∃ r, e = .returned (.float .f64 r) ∧ fa .f64 r = fsq (fa .f64 b) ∧ Ext w w' := by
  have hd := run_sqrt b w
  go_enter Try.func168, Try.ntmps168
  go_wp2
  go_ret
  exact ⟨_, rfl, fa_sqr b w, (Ext.refl _).drewN _⟩
theorem l01Narrow_any (b : Nat) (h : narOk b) (w : World) : Calls Try.prog 126 #[.float .f64 b] w fun e w' => ∃ r, e = .returned (.float .f32 r) ∧ fa .f32 r = fnar (fa .f64 b) ∧ Ext w w' := by
  have hd := run_narrow (P := Try.prog) h w (s := 36) (d := 28) (by kernel_rfl) Try.underlying28
  have HF := Lib.hid (fa_nar h w)
  clear h
  go_enter Try.func126, Try.ntmps126
  go_wp2
  go_ret
  exact ⟨_, rfl, HF.out, (Ext.refl _).drewN _⟩

def roQ (W H : Int) (zs : List Int) : Option Nat := fnar (fsq (alD W H zs zs.length 0 0))
def roR (W H : Int) (zs : List Int) : Option Nat := if vldH W H zs = true then roQ W H zs else fa .f32 0
theorem roR_no {W H : Int} {zs : List Int} (h : vldH W H zs = false) : roR W H zs = fa .f32 0 := by simp [roR, h]
theorem roR_yes {W H : Int} {zs : List Int} (h : vldH W H zs = true) : roR W H zs = roQ W H zs := by simp [roR, h]
theorem ro_bd {W H : Int} {zs : List Int} {n : Nat} (hv : vldH W H zs = true) (hz : zs.length = n) : bdo (fsq (alD W H zs n 0 0)) (2 ^ 100 * unit .f64) := by
  have h := bdo_sqrt (N := 2 ^ 26 * unit .f64) (alD_bd (x := 0) (y := 0) hv hz) (rep_unit0 (by decide)) (by
    rw [Nat.mul_mul_mul_comm, ← Nat.mul_assoc 4, Nat.mul_assoc]
    exact Nat.mul_le_mul_right _ (by decide))
  exact h.mono (Nat.mul_le_mul_right _ (by decide))

end Go.Proofs.Ytajfpjggdbifjaa
