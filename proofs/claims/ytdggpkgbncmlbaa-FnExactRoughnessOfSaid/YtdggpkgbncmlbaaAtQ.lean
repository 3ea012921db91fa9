/-
  RoughnessOf, by the program and by the reference.
-/
import Derived.Test.YtdggpkgbncmlbaaAtP
namespace Go.Proofs.Ytdggpkgbncmlbaa
open Go.RowKit
set_option linter.unusedVariables false
set_option linter.unusedSimpArgs false
set_option linter.unnecessarySimpa false

def sqr (b : Nat) (w : World) : Nat := match FloatKind.f64.format.sqrt b with
  | some r => r
  | none => (Question.nanBits .f64 b b).cut (w.tape w.drawn (.nanBits .f64 b b))
def sqn (b : Nat) : Nat := match FloatKind.f64.format.sqrt b with
  | some _ => 0
  | none => 1
theorem fa_sqr (b : Nat) (w : World) : fa .f64 (sqr b w) = fsq (fa .f64 b) := by
  rw [← sqrt_fa]
  unfold sqr
  split
  · rename_i r h; rw [h, fa_num (sqrt_num h)]
  · rename_i h; rw [h, fa_nan (isN_cut _ _ _ _)]
theorem run_sqrt (b : Nat) (w : World) : (callFunc 110 #[.float .f64 b]).run Try.prog w = .ok (.value (.float .f64 (sqr b w))) (w.drewN (sqn b)) := by
  rw [run_callFunc_extern (fn := Try.f110) (e := Go.Extern.MathSqrt.sqrt) Try.func110 (by kernel_rfl) (by kernel_rfl) (by kernel_rfl) (by kernel_rfl)]
  have h0 : Extern.MathSqrt.sqrt #[Value.float .f64 b] = ((match FloatKind.f64.format.sqrt b with
    | some r => pure (Value.float .f64 r)
    | none => do pure (Value.float .f64 (← choose (.nanBits .f64 b b)))) : Sem Value) := rfl
  rw [h0]
  cases h : FloatKind.f64.format.sqrt b with
  | some r =>
    simp [sqr, sqn, h, Sem.run, Result.andThen]
    first | done | rfl
  | none =>
    simp [sqr, sqn, h, Sem.run, Result.andThen, choose, Question.forced]
    first | done | rfl
theorem sqrt_any (b : Nat) (w : World) : Calls Try.prog 101 #[.float .f64 b] w fun e w' => ∃ r, e = .returned (.float .f64 r) ∧ fa .f64 r = fsq (fa .f64 b) ∧ Ext w w' := by
  have hd := run_sqrt b w
  go_enter Try.func101, Try.ntmps101
  go_wp2
  go_ret
  exact ⟨_, rfl, fa_sqr b w, (Ext.refl _).drewN _⟩
theorem l01Narrow_any (b : Nat) (h : narOk b) (w : World) : Calls Try.prog 100 #[.float .f64 b] w fun e w' => ∃ r, e = .returned (.float .f32 r) ∧ fa .f32 r = fnar (fa .f64 b) ∧ Ext w w' := by
  have hd := run_narrow (P := Try.prog) h w (s := 45) (d := 41) (by kernel_rfl) Try.underlying41
  have HF := Lib.hid (fa_nar h w)
  clear h
  go_enter Try.func100, Try.ntmps100
  go_wp2
  go_ret
  exact ⟨_, rfl, HF.out, (Ext.refl _).drewN _⟩

def roQ (W H : Int) (zs : List Int) : Option Nat := fnar (fsq (alD W H zs zs.length 0 0))
def roR (W H : Int) (zs : List Int) : Option Nat := if vldH W H zs = true then roQ W H zs else fa .f32 0
theorem roR_no {W H : Int} {zs : List Int} (h : vldH W H zs = false) : roR W H zs = fa .f32 0 := by simp [roR, h]
theorem roR_yes {W H : Int} {zs : List Int} (h : vldH W H zs = true) : roR W H zs = roQ W H zs := by simp [roR, h]
theorem ro_bd {W H : Int} {zs : List Int} {n : Nat} (hv : vldH W H zs = true) (hz : zs.length = n) : bdo (fsq (alD W H zs n 0 0)) (2 ^ 100 * unit .f64) := by
  have h := bdo_sqrt (N := 2 ^ 26 * unit .f64) (alD_bd (x := 0) (y := 0) hv hz) (rep_unit0 (by decide)) (by
    rw [Nat.mul_mul_mul_comm, ← Nat.mul_assoc 4, Nat.mul_assoc]
    exact Nat.mul_le_mul_right _ (by decide))
  exact h.mono (Nat.mul_le_mul_right _ (by decide))

set_option maxRecDepth 100000 in
theorem specRough_any (W H : Int) (a : Option Addr) (n c : Nat) (zs : List Int) (hz : zs.length = n) (hn : n ≤ 1048576) (w : World) (hA : VArr w a (ints zs)) :
    Calls Try.prog 58 #[.agg #[.int .i64 W, .int .i64 H, .slice a n c]] w fun e w' => ∃ fr, e = .returned (.tuple #[.float .f32 fr, .bool (vldH W H zs)]) ∧ Ext w w' ∧ fa .f32 fr = roR W H zs := by
  have hX := (Ext.refl w).alloc (.cells #[.int .i64 W, .int .i64 H, .slice a n c] 33)
  have b0 := heap_new w (.cells #[.int .i64 W, .int .i64 H, .slice a n c] 33)
  have hA1 := hA.ext hX
  go_enter Try.func58, Try.ntmps58
  go_wp2_with fail
  refine (l05Is_any _ W H a n c zs hz (by omega) _ (block3 b0).1 hA1).mono ?_
  generalize w.alloc (.cells #[.int .i64 W, .int .i64 H, .slice a n c] 33) = w0 at *
  generalize w.heap.size = p at *
  rintro e w1 ⟨rfl, hX1⟩
  cases hv : vldH W H zs with
  | false =>
    have HV := Lib.hid hv
    have HE := Lib.hid (hX.trans hX1)
    clear hX hX1 b0 hA hA1 hv
    go_wp2
    go_ret2
    exact ⟨0, by rw [HV.out]; rfl, HE.out, by rw [roR_no HV.out]⟩
  | true =>
    have HV := Lib.hid hv
    have HE := Lib.hid (hX.trans hX1)
    have HZ := Lib.hid hz
    have hn1 : 0 < n := by have := (vld_facts hv hz).2.2.2.1.1; omega
    obtain ⟨b, o, rfl⟩ := hA.starts (i := 0) (by simp; omega)
    have hp : HtsAt w1 p W H (some ⟨b, o, none⟩) n c := (block3 (hX1.block b0)).1
    have hA2 := hA1.ext hX1
    have HQ : Hid (roQ W H zs = fnar (fsq (alD W H zs n 0 0))) := by show _ = _; unfold roQ; rw [hz]
    have HBD := Lib.hid (ro_bd hv hz)
    clear hX hX1 b0 hA hA1 hv hz
    go_wp2_with fail
    refine (l05Mean_any p W H 0 0 (by omega) (by omega) b o n c zs HZ.out HV.out _ hp hA2).mono ?_
    rintro e w2 ⟨r1, rfl, hr1, hX2⟩
    clear hp hA2
    go_wp2_with fail
    refine (sqrt_any r1 _).mono ?_
    rintro e w3 ⟨r2, rfl, hr2, hX3⟩
    have h2 : fa .f64 r2 = fsq (alD W H zs n 0 0) := by rw [hr2, hr1]
    have HNO := Lib.hid (narOk_fa h2 HBD.out)
    have HF2 := Lib.hid h2
    clear h2 hr1 hr2
    go_wp2_with fail
    refine (l01Narrow_any r2 HNO.out _).mono ?_
    rintro e w4 ⟨r3, rfl, hr3, hX4⟩
    have HF3 := Lib.hid hr3
    have HX := Lib.hid (((HE.out.trans hX2).trans hX3).trans hX4)
    clear hr3 hX2 hX3 hX4
    go_wp2
    go_ret2
    exact ⟨r3, by rw [HV.out]; rfl, HX.out, by rw [roR_yes HV.out, HQ.out, HF3.out, HF2.out]⟩

set_option maxRecDepth 100000 in
theorem implRough_any (W H : Int) (a : Option Addr) (n c : Nat) (zs : List Int) (hz : zs.length = n) (hn : n ≤ 1048576) (w : World) (hA : VArr w a (ints zs)) :
    Calls Try.prog 59 #[.agg #[.int .i64 W, .int .i64 H, .slice a n c]] w fun e w' => ∃ fr, e = .returned (.tuple #[.float .f32 fr, .bool (vldH W H zs)]) ∧ Ext w w' ∧ fa .f32 fr = roR W H zs := by
  have hX := (Ext.refl w).alloc (.cells #[.int .i64 W, .int .i64 H, .slice a n c] 33)
  have b0 := heap_new w (.cells #[.int .i64 W, .int .i64 H, .slice a n c] 33)
  have hA1 := hA.ext hX
  go_enter Try.func59, Try.ntmps59
  go_wp2_with fail
  refine (implValid_any W H a n c zs hz (by omega) _ hA1).mono ?_
  generalize w.alloc (.cells #[.int .i64 W, .int .i64 H, .slice a n c] 33) = w0 at *
  generalize w.heap.size = p at *
  rintro e w1 ⟨rfl, hX1⟩
  cases hv : vldH W H zs with
  | false =>
    have HV := Lib.hid hv
    have HE := Lib.hid (hX.trans hX1)
    clear hX hX1 b0 hA hA1 hv
    go_wp2
    go_ret2
    exact ⟨0, by rw [HV.out]; rfl, HE.out, by rw [roR_no HV.out]⟩
  | true =>
    have HV := Lib.hid hv
    have HE := Lib.hid (hX.trans hX1)
    have HZ := Lib.hid hz
    have hn1 : 0 < n := by have := (vld_facts hv hz).2.2.2.1.1; omega
    obtain ⟨b, o, rfl⟩ := hA.starts (i := 0) (by simp; omega)
    obtain ⟨⟨c0, c1, c2⟩, _⟩ := block3 (hX1.block b0)
    have hA2 := hA1.ext hX1
    have HQ : Hid (roQ W H zs = fnar (fsq (alD W H zs n 0 0))) := by show _ = _; unfold roQ; rw [hz]
    have HBD := Lib.hid (ro_bd hv hz)
    clear hX hX1 b0 hA hA1 hv hz
    go_wp2_with fail
    refine (alikeH_any W H 0 0 (by omega) (by omega) b o n c zs HZ.out HV.out _ hA2).mono ?_
    rintro e w2 ⟨r1, rfl, hr1, hX2⟩
    clear hA2 c0 c1 c2
    go_wp2_with fail
    refine (sqrt_any r1 _).mono ?_
    rintro e w3 ⟨r2, rfl, hr2, hX3⟩
    have h2 : fa .f64 r2 = fsq (alD W H zs n 0 0) := by rw [hr2, hr1]
    have hno := narOk_fa h2 HBD.out
    have HF2 := Lib.hid h2
    have HF3 := Lib.hid (fa_nar hno w3)
    have hd := run_narrow (P := Try.prog) hno w3 (s := 45) (d := 41) (by kernel_rfl) Try.underlying41
    have HX := Lib.hid ((HE.out.trans hX2).trans hX3)
    clear h2 hr1 hr2 hno hX2 hX3
    go_wp2
    go_ret2
    exact ⟨_, by rw [HV.out]; rfl, HX.out.drewN _, by rw [roR_yes HV.out, HQ.out, HF3.out, HF2.out]⟩
end Go.Proofs.Ytdggpkgbncmlbaa
