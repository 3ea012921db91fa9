/-
  AlikeAt, by the program and by the reference.
-/
import Derived.Test.YtajfpjggdbifjaaAkD
import Derived.Test.YtajfpjggdbifjaaAtQ
import Derived.Test.YtajfpjggdbifjaaAtI
namespace Go.Proofs.Ytajfpjggdbifjaa
open Go.RowKit
set_option linter.unusedVariables false
set_option linter.unusedSimpArgs false
set_option linter.unnecessarySimpa false

def alkS (W H : Int) (zs : List Int) (x y : Int) : Bool := vldH W H zs && (inB x (-16) 16 && inB y (-16) 16)
def alkOk (W H : Int) (zs : List Int) (x y : Int) : Bool := alkS W H zs x y && posD (alD W H zs zs.length 0 0)
def alkR (W H : Int) (zs : List Int) (x y : Int) : Option Nat := if alkOk W H zs x y = true then fnar (fop .quo .f64 (alD W H zs zs.length x y) (alD W H zs zs.length 0 0)) else fa .f32 0
theorem alk_no {W H : Int} {zs : List Int} {x y : Int} (h : alkOk W H zs x y = false) : alkR W H zs x y = fa .f32 0 := by simp [alkR, h]
theorem alk_yes {W H : Int} {zs : List Int} {x y : Int} {n : Nat} (hz : zs.length = n) (h : alkOk W H zs x y = true) : alkR W H zs x y = fnar (fop .quo .f64 (alD W H zs n x y) (alD W H zs n 0 0)) := by rw [← hz]; simp [alkR, h]
theorem posD_of {b : Nat} {X : Option Nat} (h : fa .f64 b = X) : (FloatKind.f64.format.order b 0 == some .gt) = posD X := by
  unfold posD
  rw [← h, order_fa]

set_option maxRecDepth 100000 in
theorem specAlike_any (W H x y : Int) (a : Option Addr) (n c : Nat) (zs : List Int) (hz : zs.length = n) (hn : n ≤ 1048576) (w : World) (hA : VArr w a (ints zs)) :
    Calls Try.prog 59 #[.agg #[.int .i64 W, .int .i64 H, .slice a n c], .int .i64 x, .int .i64 y] w fun e w' => ∃ fr, e = .returned (.tuple #[.float .f32 fr, .bool (alkOk W H zs x y)]) ∧ Ext w w' ∧ fa .f32 fr = alkR W H zs x y := by
  have hX := (Ext.refl w).alloc (.cells #[.int .i64 W, .int .i64 H, .slice a n c] 81)
  have b0 := heap_new w (.cells #[.int .i64 W, .int .i64 H, .slice a n c] 81)
  have hA1 := hA.ext hX
  go_enter Try.func59, Try.ntmps59
  go_wp2_with fail
  refine (l05Is_any _ W H a n c zs hz (by omega) _ (block3 b0).1 hA1).mono ?_
  generalize w.alloc (.cells #[.int .i64 W, .int .i64 H, .slice a n c] 81) = w0 at *
  generalize w.heap.size = p at *
  rintro e w1 ⟨rfl, hX1⟩
  cases hv : vldH W H zs with
  | false =>
    have HO : Hid (alkOk W H zs x y = false) := by show _ = _; simp [alkOk, alkS, hv]
    have HE := Lib.hid (hX.trans hX1)
    clear hX hX1 b0 hA hA1 hv
    go_wp2
    go_ret2
    exact ⟨0, by rw [HO.out]; rfl, HE.out, by rw [alk_no HO.out]⟩
  | true =>
    cases hxy : (inB x (-16) 16 && inB y (-16) 16) with
    | false =>
      have HO : Hid (alkOk W H zs x y = false) := by show _ = _; simp [alkOk, alkS, hxy]
      have HE := Lib.hid (hX.trans hX1)
      have HXY := Lib.hid hxy
      clear hX hX1 b0 hA hA1 hv hxy
      go_wp2_with (go_at_call 124; refine (l05Shift_any _ _ _).mono ?_; rw [HXY.out]; rintro e w' ⟨rfl, rfl⟩)
      go_ret2
      exact ⟨0, by rw [HO.out]; rfl, HE.out, by rw [alk_no HO.out]⟩
    | true =>
      have HO : Hid (alkOk W H zs x y = posD (alD W H zs n 0 0)) := by show _ = _; simp [alkOk, alkS, hxy, hv, hz]
      have HE := Lib.hid (hX.trans hX1)
      have HZ := Lib.hid hz
      obtain ⟨hx, hy⟩ := (Bool.and_eq_true_iff).1 hxy
      obtain ⟨x0, x1⟩ := inB_iff.1 hx
      obtain ⟨y0, y1⟩ := inB_iff.1 hy
      have hn1 : 0 < n := by have := (vld_facts hv hz).2.2.2.1.1; omega
      obtain ⟨b, o, rfl⟩ := hA.starts (i := 0) (by simp; omega)
      have hp : HtsAt w1 p W H (some ⟨b, o, none⟩) n c := (block3 (hX1.block b0)).1
      have hA2 := hA1.ext hX1
      have HXY := Lib.hid hxy
      have HV := Lib.hid hv
      have HP := Lib.hid hp
      have HA2 := Lib.hid hA2
      clear hX hX1 b0 hA hA1 hv hz hxy hx hy hp hA2
      go_wp2_with (go_at_call 124; refine (l05Shift_any _ _ _).mono ?_; rw [HXY.out]; rintro e w' ⟨rfl, rfl⟩)
      refine (l05Mean_any p W H 0 0 (by omega) (by omega) b o n c zs HZ.out HV.out _ HP.out HA2.out).mono ?_
      rintro e w2 ⟨r1, rfl, hr1, hX2⟩
      have hb1 := posD_of hr1
      have HR1 := Lib.hid hr1
      have HX2 := Lib.hid hX2
      clear hr1 hX2
      cases hpo : posD (alD W H zs n 0 0) with
      | false =>
        rw [hpo] at hb1
        have HO2 : Hid (alkOk W H zs x y = false) := by show _ = _; rw [HO.out, hpo]
        clear hpo
        go_wp2
        go_ret2
        exact ⟨0, by rw [HO2.out]; rfl, HE.out.trans HX2.out, by rw [alk_no HO2.out]⟩
      | true =>
        rw [hpo] at hb1
        have HO2 : Hid (alkOk W H zs x y = true) := by show _ = _; rw [HO.out, hpo]
        have HBD := Lib.hid (rat_bd (x := x) (y := y) HV.out HZ.out hpo)
        clear hpo
        go_wp2_with fail
        refine (l05Mean_any p W H x y (by omega) (by omega) b o n c zs HZ.out HV.out _ (HP.out.ext HX2.out) (HA2.out.ext HX2.out)).mono ?_
        rintro e w3 ⟨r2, rfl, hr2, hX3⟩
        go_wp2_with fail
        have hq := fa_frr .quo .f64 r2 r1 w3
        have hX4 := (Ext.refl w3).drewN (frn .quo .f64 r2 r1)
        generalize frr .quo .f64 r2 r1 w3 = r3 at *
        generalize w3.drewN (frn .quo .f64 r2 r1) = w4 at *
        rw [hr2, HR1.out] at hq
        refine (l01Narrow_any r3 (narOk_fa hq HBD.out) _).mono ?_
        rintro e w5 ⟨r4, rfl, hr4, hX5⟩
        have HX := Lib.hid ((((HE.out.trans HX2.out).trans hX3).trans hX4).trans hX5)
        have HF : Hid (fa .f32 r4 = alkR W H zs x y) := by show _ = _; rw [alk_yes HZ.out HO2.out, hr4, hq]
        clear hr2 hq hr4 hX3 hX4 hX5 hb1
        go_wp2
        go_ret2
        exact ⟨r4, by rw [HO2.out]; rfl, HX.out, HF.out⟩

def argI (args : Array Value) (i : Nat) : Int := match args[i]? with
  | some (.int _ z) => z
  | _ => 0

set_option maxRecDepth 100000 in
theorem implAlike_any (W H x y : Int) (a : Option Addr) (n c : Nat) (zs : List Int) (hz : zs.length = n) (hn : n ≤ 1048576) (w : World) (hA : VArr w a (ints zs)) :
    Calls Try.prog 61 #[.agg #[.int .i64 W, .int .i64 H, .slice a n c], .int .i64 x, .int .i64 y] w fun e w' => ∃ fr, e = .returned (.tuple #[.float .f32 fr, .bool (alkOk W H zs x y)]) ∧ Ext w w' ∧ fa .f32 fr = alkR W H zs x y := by
  have hX := (Ext.refl w).alloc (.cells #[.int .i64 W, .int .i64 H, .slice a n c] 81)
  have b0 := heap_new w (.cells #[.int .i64 W, .int .i64 H, .slice a n c] 81)
  have hA1 := hA.ext hX
  go_enter Try.func61, Try.ntmps61
  go_wp2_with fail
  refine (implValid_any W H a n c zs hz (by omega) _ hA1).mono ?_
  generalize w.alloc (.cells #[.int .i64 W, .int .i64 H, .slice a n c] 81) = w0 at *
  generalize w.heap.size = p at *
  rintro e w1 ⟨rfl, hX1⟩
  cases hv : vldH W H zs with
  | false =>
    have HO : Hid (alkOk W H zs x y = false) := by show _ = _; simp [alkOk, alkS, hv]
    have HE := Lib.hid (hX.trans hX1)
    clear hX hX1 b0 hA hA1 hv
    go_wp2
    go_ret2
    exact ⟨0, by rw [HO.out]; rfl, HE.out, by rw [alk_no HO.out]⟩
  | true =>
    obtain ⟨⟨c0, c1, c2⟩, _⟩ := block3 (hX1.block b0)
    have e2 : allIn (-16) 16 [x, y] = (inB x (-16) 16 && inB y (-16) 16) := allIn_two
    have hY := (Ext.refl w1).alloc (.cells #[.int .i64 x, .int .i64 y] 2)
    have b4 := heap_new w1 (.cells #[.int .i64 x, .int .i64 y] 2)
    go_wp2_with fail
    refine (areWithin_any _ 2 2 [x, y] rfl (by omega) (-16) 16 _ (VArr.two b4)).mono ?_
    rw [e2]
    generalize w1.alloc (.cells #[.int .i64 x, .int .i64 y] 2) = w1' at *
    rintro e w2 ⟨rfl, hX2⟩
    have hX3 := (hX1.trans hY).trans hX2
    clear hY b4 hX2 hX1 c0 c1 c2
    obtain ⟨⟨c0, c1, c2⟩, _⟩ := block3 (hX3.block b0)
    cases hxy : (inB x (-16) 16 && inB y (-16) 16) with
    | false =>
      have HO : Hid (alkOk W H zs x y = false) := by show _ = _; simp [alkOk, alkS, hxy]
      have HE := Lib.hid (hX.trans hX3)
      clear hX hX3 b0 hA hA1 hv hxy e2
      go_wp2
      go_ret2
      exact ⟨0, by rw [HO.out]; rfl, HE.out, by rw [alk_no HO.out]⟩
    | true =>
      have HO : Hid (alkOk W H zs x y = posD (alD W H zs n 0 0)) := by show _ = _; simp [alkOk, alkS, hxy, hv, hz]
      have HE := Lib.hid (hX.trans hX3)
      have HZ := Lib.hid hz
      obtain ⟨hx, hy⟩ := (Bool.and_eq_true_iff).1 hxy
      obtain ⟨x0, x1⟩ := inB_iff.1 hx
      obtain ⟨y0, y1⟩ := inB_iff.1 hy
      have hn1 : 0 < n := by have := (vld_facts hv hz).2.2.2.1.1; omega
      obtain ⟨b, o, rfl⟩ := hA.starts (i := 0) (by simp; omega)
      have B2 := hX3.block b0
      have hA2 := hA1.ext hX3
      have HV := Lib.hid hv
      have HA2 := Lib.hid hA2
      clear hX hX3 b0 hA hA1 hv hz hxy hx hy hA2 e2
      go_wp2_with fail
      refine (alikeH_any W H 0 0 (by omega) (by omega) b o n c zs HZ.out HV.out _ HA2.out).mono ?_
      rintro e w3 ⟨r1, rfl, hr1, hX2⟩
      have hb1 := posD_of hr1
      have HX2 := Lib.hid hX2
      have B3 := Lib.hid (hX2.block B2)
      clear hr1 hX2 c0 c1 c2 B2
      cases hpo : posD (alD W H zs n 0 0) with
      | false =>
        rw [hpo] at hb1
        have HO2 : Hid (alkOk W H zs x y = false) := by show _ = _; rw [HO.out, hpo]
        clear hpo
        go_wp2
        go_ret2
        exact ⟨0, by rw [HO2.out]; rfl, HE.out.trans HX2.out, by rw [alk_no HO2.out]⟩
      | true =>
        rw [hpo] at hb1
        have HO2 : Hid (alkOk W H zs x y = true) := by show _ = _; rw [HO.out, hpo]
        have HBD := Lib.hid (rat_bd (x := x) (y := y) HV.out HZ.out hpo)
        clear hpo
        go_wp2_with fail
        refine region_grow (C := Ext w3) (K := fun _ args V _ => ∃ r, V = .float .f64 r ∧ fa .f64 r = alD W H zs n (argI args 1) (argI args 2)) ⟨fun _ _ h k => h.trans k, fun _ _ _ _ _ h _ => h⟩ (by kernel_rfl) (by kernel_rfl) ((Ext.refl w3).drew) ?_
        iterate 3 (refine grow_q rfl ?_; apply Exists.intro; refine ⟨fun u' hu' _ => ?_, ?_⟩; focus (obtain ⟨⟨c0, c1, c2⟩, _⟩ := block3 (hu'.block B3.out); go_simp; rfl))
        refine grow_cf 129 .f64 rfl ⟨#[.agg #[.int .i64 W, .int .i64 H, .slice (some ⟨b, o, none⟩) n c], .int .i64 x, .int .i64 y], fun u' => ?_, _, fun u' hu' _ => alikeH_any W H x y (by omega) (by omega) b o n c zs HZ.out HV.out _ (HA2.out.ext (HX2.out.trans hu')), fun V u' => Iff.rfl, fun r2 hr2 => ?_⟩
        · go_simp
        iterate 1 (refine grow_q rfl ?_; apply Exists.intro; refine ⟨fun u' hu' _ => ?_, ?_⟩; focus (obtain ⟨⟨c0, c1, c2⟩, _⟩ := block3 (hu'.block B3.out); go_simp; rfl))
        refine grow_cf 129 .f64 rfl ⟨#[.agg #[.int .i64 W, .int .i64 H, .slice (some ⟨b, o, none⟩) n c], .int .i64 0, .int .i64 0], fun u' => ?_, _, fun u' hu' _ => alikeH_any W H 0 0 (by omega) (by omega) b o n c zs HZ.out HV.out _ (HA2.out.ext (HX2.out.trans hu')), fun V u' => Iff.rfl, fun r3 hr3 => ?_⟩
        · go_simp
        refine grow_f .f64 rfl ⟨_, _, fun u hu _ => (by go_simp; exact ⟨rfl, rfl⟩), _, fun u => fa_frr _ _ _ _ u, fun r4 hr4 => ?_⟩
        have hq : fa .f64 r4 = fop .quo .f64 (alD W H zs n x y) (alD W H zs n 0 0) := by rw [hr4, hr2, hr3]
        have HNO := Lib.hid (narOk_fa hq HBD.out)
        refine grow_f .f32 rfl ⟨nar r4, narn r4, fun u hu _ => (by have hd := run_narrow (P := Try.prog) HNO.out u (s := 36) (d := 28) (by kernel_rfl) Try.underlying28; go_simp), _, fun u => fa_nar HNO.out u, fun r5 hr5 => ?_⟩
        iterate 2 (refine grow_q rfl ?_; apply Exists.intro; refine ⟨fun u' hu' _ => ?_, ?_⟩; focus (go_simp; rfl))
        refine grow_nil (fun w4 hw4 _ => ?_)
        have HX := Lib.hid ((HE.out.trans HX2.out).trans hw4)
        have HF : Hid (fa .f32 r5 = alkR W H zs x y) := by show _ = _; rw [alk_yes HZ.out HO2.out, hr5, hq]
        clear hr2 hr3 hr4 hr5 hq hw4 hb1
        go_simp
        go_wp2
        go_ret2
        exact ⟨r5, by rw [HO2.out]; rfl, HX.out, HF.out⟩
end Go.Proofs.Ytajfpjggdbifjaa
