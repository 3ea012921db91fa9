/-
  LabelAbout and CountOfLabel, by the program and by the reference.
-/
import Derived.Test.YtaakkdcpkllgoaaGrD
namespace Go.Proofs.Ytaakkdcpkllgoaa
open Go.RowKit
set_option linter.unusedVariables false
set_option linter.unusedSimpArgs false
set_option linter.unnecessarySimpa false

theorem keepI_no {b : Bool} {x : Int} (h : b = false) : keepI b x = 0 := by simp [keepI, h]
theorem keepI_yes {b : Bool} {x : Int} (h : b = true) : keepI b x = x := by simp [keepI, h]

def aboutOk (W H : Int) (zs : List Int) (x y : Int) : Bool := vldG W H zs && (inB x (-1000) 1000 && inB y (-1000) 1000)
def aboutR (W H : Int) (zs : List Int) (x y : Int) : Int := keepI (aboutOk W H zs x y) (zs[(cellF W H x y).toNat]?.getD 0)

theorem implAbout_any (W H x y : Int) (a : Option Addr) (n c : Nat) (zs : List Int) (hz : zs.length = n) (hn : n ≤ 1048576) (w : World) (hA : VArr w a (ints zs)) :
    Calls Try.prog 28 #[.agg #[.int .i64 W, .int .i64 H, .slice a n c], .int .i64 x, .int .i64 y] w fun e w' => e = .returned (.tuple #[.int .i64 (aboutR W H zs x y), .bool (aboutOk W H zs x y)]) ∧ Ext w w' := by
  have hX := (Ext.refl w).alloc (.cells #[.int .i64 W, .int .i64 H, .slice a n c] 24)
  have b0 := heap_new w (.cells #[.int .i64 W, .int .i64 H, .slice a n c] 24)
  have hA1 := hA.ext hX
  go_enter Try.func28, Try.ntmps28
  go_wp2_with fail
  refine (implValid_any W H a n c zs hz (by omega) _ hA1).mono ?_
  generalize w.alloc (.cells #[.int .i64 W, .int .i64 H, .slice a n c] 24) = w0 at *
  rintro e w1 ⟨rfl, hX1⟩
  cases hv : vldG W H zs with
  | false =>
    have hk : aboutOk W H zs x y = false := by simp [aboutOk, hv]
    have HR : Hid (aboutOk W H zs x y = false ∧ aboutR W H zs x y = 0) := ⟨hk, keepI_no hk⟩
    have HE := Lib.hid (hX.trans hX1)
    clear hX hX1 b0 hA hA1 hv hk
    go_wp2
    go_ret2
    exact ⟨by rw [HR.out.1, HR.out.2]; rfl, HE.out⟩
  | true =>
    have e2 : allIn (-1000) 1000 [x, y] = (inB x (-1000) 1000 && inB y (-1000) 1000) := allIn_two
    have hY := (Ext.refl w1).alloc (.cells #[.int .i64 x, .int .i64 y] 2)
    have b4 := heap_new w1 (.cells #[.int .i64 x, .int .i64 y] 2)
    go_wp2_with fail
    refine (areWithin_any _ 2 2 [x, y] rfl (by omega) (-1000) 1000 _ (VArr.two b4)).mono ?_
    rw [e2]
    generalize w1.alloc (.cells #[.int .i64 x, .int .i64 y] 2) = w1' at *
    rintro e w2 ⟨rfl, hX2⟩
    have hX3 := (hX1.trans hY).trans hX2
    clear hY b4 hX2 hX1
    cases hxy : (inB x (-1000) 1000 && inB y (-1000) 1000) with
    | false =>
      have hk : aboutOk W H zs x y = false := by simp [aboutOk, hxy]
      have HR : Hid (aboutOk W H zs x y = false ∧ aboutR W H zs x y = 0) := ⟨hk, keepI_no hk⟩
      have HE := Lib.hid (hX.trans hX3)
      clear hX hX3 b0 hA hA1 hv hxy e2 hk
      go_wp2
      go_ret2
      exact ⟨by rw [HR.out.1, HR.out.2]; rfl, HE.out⟩
    | true =>
      have hk : aboutOk W H zs x y = true := by simp [aboutOk, hxy, hv]
      have HR : Hid (aboutOk W H zs x y = true ∧ aboutR W H zs x y = zs[(cellF W H x y).toNat]?.getD 0) := ⟨hk, keepI_yes hk⟩
      obtain ⟨_, _, _, ⟨hn1, _⟩, _⟩ := vld_facts hv hz
      obtain ⟨⟨c0, c1, c2⟩, _⟩ := block3 (hX3.block b0)
      obtain ⟨b, o, rfl⟩ := hA.starts (i := 0) (by simp; omega)
      have HV := Lib.hid hv
      have HE := Lib.hid (hX.trans hX3)
      clear hv hxy e2 hk
      go_wp2_with fail
      refine (about_any W H x y b o n c zs hz HV.out _ (hA1.ext hX3)).mono ?_
      rintro e w4 ⟨rfl, hX4⟩
      clear c0 c1 c2 hX hX3 b0 hA hA1
      go_wp2
      go_ret2
      exact ⟨by rw [HR.out.1, HR.out.2]; rfl, HE.out.trans hX4⟩

theorem specAbout_any (W H x y : Int) (a : Option Addr) (n c : Nat) (zs : List Int) (hz : zs.length = n) (hn : n ≤ 1048576) (w : World) (hA : VArr w a (ints zs)) :
    Calls Try.prog 27 #[.agg #[.int .i64 W, .int .i64 H, .slice a n c], .int .i64 x, .int .i64 y] w fun e w' => e = .returned (.tuple #[.int .i64 (aboutR W H zs x y), .bool (aboutOk W H zs x y)]) ∧ Ext w w' := by
  have hX := (Ext.refl w).alloc (.cells #[.int .i64 W, .int .i64 H, .slice a n c] 24)
  have b0 := heap_new w (.cells #[.int .i64 W, .int .i64 H, .slice a n c] 24)
  have hA1 := hA.ext hX
  go_enter Try.func27, Try.ntmps27
  go_wp2_with fail
  refine (l04Is_any _ W H a n c zs hz (by omega) _ (block3 b0).1 hA1).mono ?_
  generalize w.alloc (.cells #[.int .i64 W, .int .i64 H, .slice a n c] 24) = w0 at *
  rintro e w1 ⟨rfl, hX1⟩
  cases hv : vldG W H zs with
  | false =>
    have hk : aboutOk W H zs x y = false := by simp [aboutOk, hv]
    have HR : Hid (aboutOk W H zs x y = false ∧ aboutR W H zs x y = 0) := ⟨hk, keepI_no hk⟩
    have HE := Lib.hid (hX.trans hX1)
    clear hX hX1 b0 hA hA1 hv hk
    go_wp2
    go_ret2
    exact ⟨by rw [HR.out.1, HR.out.2]; rfl, HE.out⟩
  | true =>
    cases hx : inB x (-1000) 1000 with
    | false =>
      have hk : aboutOk W H zs x y = false := by simp [aboutOk, hx]
      have HR : Hid (aboutOk W H zs x y = false ∧ aboutR W H zs x y = 0) := ⟨hk, keepI_no hk⟩
      have HE := Lib.hid (hX.trans hX1)
      have HXX := Lib.hid hx
      clear hX hX1 b0 hA hA1 hv hk hx
      go_wp2_with (go_at_call 61; refine (l00In_any _ _ _ _).mono ?_; rw [HXX.out]; rintro e w' ⟨rfl, rfl⟩)
      go_ret2
      exact ⟨by rw [HR.out.1, HR.out.2]; rfl, HE.out⟩
    | true =>
      have HXX := Lib.hid hx
      cases hy : inB y (-1000) 1000 with
      | false =>
        have hk : aboutOk W H zs x y = false := by simp [aboutOk, hy]
        have HR : Hid (aboutOk W H zs x y = false ∧ aboutR W H zs x y = 0) := ⟨hk, keepI_no hk⟩
        have HE := Lib.hid (hX.trans hX1)
        have HYY := Lib.hid hy
        clear hX hX1 b0 hA hA1 hv hk hx hy
        go_wp2_with fail
        refine (l00In_any _ _ _ _).mono ?_
        rw [HXX.out]
        rintro e w' ⟨rfl, rfl⟩
        go_wp2_with (go_at_call 61; refine (l00In_any _ _ _ _).mono ?_; rw [HYY.out]; rintro e w' ⟨rfl, rfl⟩)
        go_ret2
        exact ⟨by rw [HR.out.1, HR.out.2]; rfl, HE.out⟩
      | true =>
        have hk : aboutOk W H zs x y = true := by simp [aboutOk, hx, hy, hv]
        have HR : Hid (aboutOk W H zs x y = true ∧ aboutR W H zs x y = zs[(cellF W H x y).toNat]?.getD 0) := ⟨hk, keepI_yes hk⟩
        obtain ⟨_, _, _, ⟨hn1, _⟩, _⟩ := vld_facts hv hz
        obtain ⟨b, o, rfl⟩ := hA.starts (i := 0) (by simp; omega)
        have HV := Lib.hid hv
        have HYY := Lib.hid hy
        have HE := Lib.hid (hX.trans hX1)
        clear hv hx hy hk
        go_wp2_with fail
        refine (l00In_any _ _ _ _).mono ?_
        rw [HXX.out]
        rintro e w' ⟨rfl, rfl⟩
        go_wp2_with fail
        refine (l00In_any _ _ _ _).mono ?_
        rw [HYY.out]
        rintro e w' ⟨rfl, rfl⟩
        go_wp2_with fail
        refine (l04About_any _ W H x y b o n c zs hz HV.out _ (block3 (hX1.block b0)).1 (hA1.ext hX1)).mono ?_
        rintro e w4 ⟨rfl, hX4⟩
        clear hX hX1 b0 hA hA1
        go_wp2
        go_ret2
        exact ⟨by rw [HR.out.1, HR.out.2]; rfl, HE.out.trans hX4⟩
end Go.Proofs.Ytaakkdcpkllgoaa
