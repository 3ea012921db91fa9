/-
  The mean of products of differences from the mean, by the program and by the reference. (Printed by gen_rough.py.)
-/
import Derived.Test.YtajfpjggdbifjaaAtN
import Derived.Test.YtajfpjggdbifjaaFbf
namespace Go.Proofs.Ytajfpjggdbifjaa
open Go.RowKit
set_option linter.unusedVariables false
set_option linter.unusedSimpArgs false
set_option linter.unnecessarySimpa false

def intD (n : Int) : Option Nat := fa .f64 (floatOfInt .f64 n)
theorem intD_some (n : Int) : intD n = some (floatOfInt .f64 n) := fa_num (isN_nearest .f64 _ _ _)
def mnD (zs : List Int) (n : Nat) : Option Nat := fop .quo .f64 (intD (sumTo zs n)) (intD n)
def trmD (W H : Int) (zs : List Int) (n : Nat) (x y : Int) (k : Nat) : Option Nat := fop .mul .f64 (fop .sub .f64 (intD (zs[k]?.getD 0)) (mnD zs n)) (fop .sub .f64 (intD (topZ W H zs (((k % W.toNat : Nat) : Int) + x) (((k / W.toNat : Nat) : Int) + y))) (mnD zs n))
def smD (W H : Int) (zs : List Int) (n : Nat) (x y : Int) : Nat → Option Nat
  | 0 => fa .f64 0
  | k + 1 => fop .add .f64 (smD W H zs n x y k) (trmD W H zs n x y k)
def alD (W H : Int) (zs : List Int) (n : Nat) (x y : Int) : Option Nat := fop .quo .f64 (smD W H zs n x y n) (intD n)

/-! ### How large -/
def bdo (X : Option Nat) (N : Nat) : Prop := ∀ b, X = some b → bd .f64 b N
theorem bdo.mono {X : Option Nat} {N M : Nat} (h : bdo X N) (hm : N ≤ M) : bdo X M := fun b hb => (h b hb).mono hm
theorem bdo_int {n : Int} {M : Nat} (h : n.natAbs ≤ M) (hM : M < 2 ^ 53) : bdo (intD n) (M * unit .f64) := by
  intro b hb
  rw [intD_some] at hb
  cases hb
  exact bd_int h hM
theorem fop_some {op : BinOp} {X Y : Option Nat} {r : Nat} (h : fop op .f64 X Y = some r) : ∃ x y, X = some x ∧ Y = some y ∧ floatBits op .f64 x y = some r := by
  cases X with
  | none => cases h
  | some x =>
    cases Y with
    | none => rw [fop_none2] at h; cases h
    | some y => exact ⟨x, y, rfl, rfl, h⟩
theorem bdo_add {X Y : Option Nat} {A B N : Nat} (hx : bdo X A) (hy : bdo Y B) (hr : rep FloatKind.f64.format N) (hN : A + B ≤ N) : bdo (fop .add .f64 X Y) N := by
  intro b hb
  obtain ⟨x, y, h1, h2, h3⟩ := fop_some hb
  exact bd_add (hx x h1) (hy y h2) hr hN h3
theorem bdo_sub {X Y : Option Nat} {A B N : Nat} (hx : bdo X A) (hy : bdo Y B) (hr : rep FloatKind.f64.format N) (hN : A + B ≤ N) : bdo (fop .sub .f64 X Y) N := by
  intro b hb
  obtain ⟨x, y, h1, h2, h3⟩ := fop_some hb
  exact bd_sub (hx x h1) (hy y h2) hr hN h3
theorem bdo_mul {X Y : Option Nat} {A B N : Nat} (hx : bdo X A) (hy : bdo Y B) (hr : rep FloatKind.f64.format N) (hN : A * B ≤ N * unit .f64) : bdo (fop .mul .f64 X Y) N := by
  intro b hb
  obtain ⟨x, y, h1, h2, h3⟩ := fop_some hb
  exact bd_mul (by decide) (hx x h1) (hy y h2) hr hN h3
theorem bdo_quo {X : Option Nat} {n : Nat} {A N : Nat} (hx : bdo X A) (h1 : 1 ≤ n) (h : n < 2 ^ 53) (hr : rep FloatKind.f64.format N) (hN : 2 * A ≤ N) : bdo (fop .quo .f64 X (intD n)) N := by
  intro b hb
  obtain ⟨x, y, g1, g2, g3⟩ := fop_some hb
  rw [intD_some] at g2
  cases g2
  exact bd_quo (by decide) (hx x g1) (int_ge1 h1 h).1 (int_ge1 h1 h).2 hr hN g3
theorem bdo_sqrt {X : Option Nat} {A N : Nat} (hx : bdo X A) (hr : rep FloatKind.f64.format N) (hN : 4 * A * unit .f64 ≤ N * N) : bdo (fsq X) N := by
  intro b hb
  cases X with
  | none => cases hb
  | some x => exact bd_sqrt (hx x rfl) hr hN hb
/-- A double whose value, up to which not-a-number, is bounded can be made a single. -/
theorem narOk_fa {b : Nat} {X : Option Nat} (hb : fa .f64 b = X) (hX : bdo X (2 ^ 100 * unit .f64)) : narOk b := by
  cases hn : isN .f64 b with
  | true => exact .inl hn
  | false =>
    rw [fa_num hn] at hb
    exact narOk_of (hX b hb.symm)

theorem mnD_bd {zs : List Int} {n : Nat} (h : 0 ≤ sumTo zs n ∧ sumTo zs n ≤ 256000) (h1 : 1 ≤ n) (h2 : n ≤ 256) : bdo (mnD zs n) (2 ^ 19 * unit .f64) := by
  refine bdo_quo (A := 2 ^ 18 * unit .f64) (bdo_int (by omega) (by decide)) h1 (by omega) (rep_unit0 (by decide)) ?_
  rw [← Nat.mul_assoc]
  exact Nat.mul_le_mul_right _ (by decide)
theorem trmD_bd {W H : Int} {zs : List Int} {n : Nat} {x y : Int} {k : Nat} (hm : bdo (mnD zs n) (2 ^ 19 * unit .f64)) (hz : 0 ≤ zs[k]?.getD 0 ∧ zs[k]?.getD 0 ≤ 1000) (ht : ∀ u v, 0 ≤ topZ W H zs u v ∧ topZ W H zs u v ≤ 1000) : bdo (trmD W H zs n x y k) (1 * 2 ^ 40 * unit .f64) := by
  have hd : ∀ z : Int, 0 ≤ z ∧ z ≤ 1000 → bdo (fop .sub .f64 (intD z) (mnD zs n)) (2 ^ 20 * unit .f64) := fun z hz =>
    bdo_sub (A := 1000 * unit .f64) (bdo_int (by omega) (by decide)) hm (rep_unit0 (by decide)) (by rw [← Nat.add_mul]; exact Nat.mul_le_mul_right _ (by decide))
  refine bdo_mul (hd _ hz) (hd _ (ht _ _)) (rep_unit 40 (by decide) (by decide)) ?_
  rw [Nat.mul_mul_mul_comm, ← Nat.mul_assoc]
  exact Nat.mul_le_mul_right _ (Nat.mul_le_mul_right _ (by decide))
theorem smD_bd {W H : Int} {zs : List Int} {n : Nat} {x y : Int} (hm : bdo (mnD zs n) (2 ^ 19 * unit .f64)) (hz : ∀ k, k < n → 0 ≤ zs[k]?.getD 0 ∧ zs[k]?.getD 0 ≤ 1000) (ht : ∀ u v, 0 ≤ topZ W H zs u v ∧ topZ W H zs u v ≤ 1000) : ∀ k, k ≤ n → k ≤ 256 → bdo (smD W H zs n x y k) (k * 2 ^ 40 * unit .f64)
  | 0, _, _ => by
    intro b hb
    unfold smD at hb
    rw [show fa .f64 0 = some 0 from by decide] at hb
    cases hb
    exact ⟨by rw [Nat.zero_mod]; decide, by rw [Nat.zero_mod]; unfold magR; rw [if_pos (binade_pos _)]; exact Nat.zero_le _⟩
  | k + 1, h, h2 => by
    refine bdo_add (smD_bd hm hz ht k (by omega) (by omega)) (trmD_bd (x := x) (y := y) hm (hz k (by omega)) ht) (rep_unit 40 (by omega) (by decide)) ?_
    rw [← Nat.add_mul, ← Nat.add_mul]
    exact Nat.le_refl _
theorem alD_bd {W H : Int} {zs : List Int} {n : Nat} {x y : Int} (hv : vldH W H zs = true) (hz : zs.length = n) : bdo (alD W H zs n x y) (2 ^ 49 * unit .f64) := by
  obtain ⟨hW, hH, hnn, ⟨hn1, hn2⟩, hb⟩ := vld_facts hv hz
  have hs := sumTo_bd (M := 1000) (by omega) hz hb n (Nat.le_refl _)
  have hm := mnD_bd (zs := zs) (n := n) (by omega) (by omega) hn2
  have h1 := smD_bd (W := W) (H := H) (x := x) (y := y) hm hb (topZ_bd hb (by omega) (by omega) hnn) n (Nat.le_refl _) hn2
  refine bdo_quo (A := 256 * 2 ^ 40 * unit .f64) (h1.mono (Nat.mul_le_mul_right _ (Nat.mul_le_mul_right _ hn2))) (by omega) (by omega) (rep_unit0 (by decide)) ?_
  rw [← Nat.mul_assoc]
  exact Nat.mul_le_mul_right _ (by decide)

set_option maxRecDepth 100000 in
set_option maxHeartbeats 2000000 in
theorem l05Mean_any (p : Nat) (W H x y : Int) (hx : -16 ≤ x ∧ x ≤ 16) (hy : -16 ≤ y ∧ y ≤ 16) (b o n c : Nat) (zs : List Int) (hz : zs.length = n) (hv : vldH W H zs = true) (w : World) (hp : HtsAt w p W H (some ⟨b, o, none⟩) n c) (hA : VArr w (some ⟨b, o, none⟩) (ints zs)) :
    Calls Try.prog 125 #[.pointer (some ⟨p, 0, none⟩), .int .i64 x, .int .i64 y] w fun e w' => ∃ r, e = .returned (.float .f64 r) ∧ fa .f64 r = alD W H zs n x y ∧ Ext w w' := by
  obtain ⟨hW, hH, hnn, ⟨hn1, hn2⟩, hb⟩ := vld_facts hv hz
  obtain ⟨Wn, rfl⟩ := Int.eq_ofNat_of_zero_le (show 0 ≤ W by omega)
  obtain ⟨Hn, rfl⟩ := Int.eq_ofNat_of_zero_le (show 0 ≤ H by omega)
  have HCB : Hid (∀ x y, ∃ i : Nat, cellF Wn Hn x y = i ∧ i < n) := fun x y => ⟨(cellF Wn Hn x y).toNat, by have := cellF_bd x y (by omega : (1 : Int) ≤ Wn) (by omega : (1 : Int) ≤ Hn); omega⟩
  have HSS : Hid (∀ k, smD Wn Hn zs n x y (k + 1) = fop .add .f64 (smD Wn Hn zs n x y k) (fop .mul .f64 (fop .sub .f64 (intD (zs[k]?.getD 0)) (mnD zs n)) (fop .sub .f64 (intD (topZ Wn Hn zs (((k % Wn : Nat) : Int) + x) (((k / Wn : Nat) : Int) + y))) (mnD zs n)))) := fun k => rfl
  have HAL : Hid (alD Wn Hn zs n x y = fop .quo .f64 (smD Wn Hn zs n x y n) (intD n)) := by show _ = _; rfl
  have HMN : Hid (mnD zs n = fop .quo .f64 (intD (sumTo zs n)) (intD n)) := by show _ = _; rfl
  have HS0 : Hid (smD Wn Hn zs n x y 0 = fa .f64 0) := by show _ = _; rfl
  have HZ := Lib.hid hz
  have HV := Lib.hid hv
  have HP := Lib.hid hp
  have HA := Lib.hid hA
  have HC := Lib.hid (fun w' (h : Ext w w') => l05Atoms_any p Wn Hn (some ⟨b, o, none⟩) n c zs hz hv w' (hp.ext h) (hA.ext h))
  clear hp hA hz hv hnn hb
  generalize hsum : sumTo zs n = ss at *
  go_enter Try.func125, Try.ntmps125
  go_wp2_with fail
  refine region_grow (C := Ext w) (K := fun _ _ V _ => V = .int .i64 ss) ⟨fun _ _ h k => h.trans k, fun _ _ _ _ _ h _ => h⟩ (by kernel_rfl) (by kernel_rfl) ((Ext.refl w).drew) ?_
  iterate 1 (refine grow_q rfl ?_; apply Exists.intro; refine ⟨fun u' hu' _ => ?_, ?_⟩; focus (go_simp; rfl))
  refine grow_c1 160 rfl ⟨#[.pointer (some ⟨p, 0, none⟩)], fun u => ?_, .int .i64 ss, fun u hu _ => HC.out u hu, fun V u h => h, fun u => rfl, ?_⟩
  · go_simp
  iterate 7 (refine grow_q rfl ?_; apply Exists.intro; refine ⟨fun u' hu' _ => ?_, ?_⟩; focus (obtain ⟨c0, c1, c2⟩ := HP.out.ext hu'; go_simp; rfl))
  refine grow_f .f64 rfl ⟨_, _, fun u hu _ => (by go_simp; exact ⟨rfl, rfl⟩), _, fun u => fa_frr _ _ _ _ u, fun rm hrm => ?_⟩
  iterate 1 (refine grow_q rfl ?_; apply Exists.intro; refine ⟨fun u' hu' _ => ?_, ?_⟩; focus (go_simp; rfl))
  refine grow_nil (fun w1 hw _ => ?_)
  have HX1 := Lib.hid hw
  have HRM : Hid (fa .f64 rm = mnD zs n) := by show _ = _; rw [HMN.out]; exact hrm
  clear hw hrm
  go_simp
  obtain ⟨c0, c1, c2⟩ := HP.out.ext HX1.out
  go_wp2
  clear c0 c1 c2
  go_loopw [8, 29] (fun S i wr => ∃ (k rs : Nat), k ≤ n ∧ i = .int .i64 k ∧ S = .float .f64 rs ∧ fa .f64 rs = smD Wn Hn zs n x y k ∧ Ext w wr) (fun _ i _ => n - (intOf i).toNat)
  case atStart => exact ⟨0, 0, Nat.zero_le _, rfl, rfl, HS0.out.symm, HX1.out⟩
  case round =>
    obtain ⟨k, rs, hk, rfl, rfl, hrs, hX⟩ := hrel
    have HX := Lib.hid hX
    have HRS := Lib.hid hrs
    clear hrs hX HX1
    obtain ⟨c0, c1, c2⟩ := HP.out.ext HX.out
    by_cases hlt : k < n
    · have hu2 : k % Wn ≤ k := Nat.mod_le _ _
      have hv2 : k / Wn ≤ k := Nat.div_le_self _ _
      obtain ⟨i1, hi1, hl1⟩ := HCB.out (((k % Wn : Nat) : Int) + x) (((k / Wn : Nat) : Int) + y)
      have HI1 := Lib.hid hi1
      have HT : Hid (topZ Wn Hn zs (((k % Wn : Nat) : Int) + x) (((k / Wn : Nat) : Int) + y) = zs[i1]?.getD 0) := by show _ = _; unfold topZ; rw [hi1, Int.toNat_natCast]
      have HSK := Lib.hid (HSS.out k)
      have hc0 := (HA.out.ext HX.out).ofInts k (by rw [HZ.out]; exact hlt)
      have hc1 := (HA.out.ext HX.out).ofInts i1 (by rw [HZ.out]; exact hl1)
      rw [List.getD_eq_getElem?_getD] at hc0 hc1
      have hu := tmod_nat k Wn
      have hv := tdiv_nat k Wn
      have hne : ¬ Wn = 0 := by omega
      clear hi1
      generalize zs[k]?.getD 0 = z at *
      generalize zs[i1]?.getD 0 = y1 at *
      generalize k % Wn = u at *
      generalize k / Wn = v at *
      have hwu := wrapS (n := (u : Int) + x) (by omega) (by omega)
      have hwv := wrapS (n := (v : Int) + y) (by omega) (by omega)
      have hwu0 := wrapS (n := (u : Int)) (by omega) (by omega)
      have hwv0 := wrapS (n := (v : Int)) (by omega) (by omega)
      go_wp2_with fail
      have hra := fa_frr .sub .f64 (floatOfInt .f64 z) rm wr
      generalize frr .sub .f64 (floatOfInt .f64 z) rm wr = ra at *
      have HX2 := Lib.hid (HX.out.trans ((Ext.refl wr).drewN (frn .sub .f64 (floatOfInt .f64 z) rm)))
      have HC1 := Lib.hid (((Ext.refl wr).drewN (frn .sub .f64 (floatOfInt .f64 z) rm)).cell hc1)
      generalize wr.drewN (frn .sub .f64 (floatOfInt .f64 z) rm) = wr2 at *
      have HRA := Lib.hid hra
      clear hra HX c0 c1 c2 hc0 hc1
      refine region_grow (C := Ext wr2) (K := fun _ _ val _ => val = .int .i64 i1) ⟨fun _ _ h k => h.trans k, fun _ _ _ _ _ h _ => h⟩ (by kernel_rfl) (by kernel_rfl) ((Ext.refl wr2).drew) ?_
      iterate 11 (refine grow_q rfl ?_; apply Exists.intro; refine ⟨fun u' hu' _ => ?_, ?_⟩; focus (obtain ⟨c0, c1, c2⟩ := HP.out.ext (HX2.out.trans hu'); go_simp; rfl))
      refine grow_c1 161 rfl ⟨#[.pointer (some ⟨p, 0, none⟩), .int .i64 (u + x : Int), .int .i64 (v + y : Int)], fun u' => ?_, .int .i64 i1, fun u' hu' _ => ?_, fun V u' h => h, fun u' => rfl, ?_⟩
      · go_simp; try (simp only [hwu, hwv])
      · refine (l05Index_any p Wn Hn _ _ _ n c (by omega) (by omega) u' (HP.out.ext (HX2.out.trans hu'))).mono fun e w' h => ?_
        rw [HI1.out] at h; exact h
      iterate 4 (refine grow_q rfl ?_; apply Exists.intro; refine ⟨fun u' hu' _ => ?_, ?_⟩; focus (have d1 := hu'.cell HC1.out; go_simp; rfl))
      refine grow_f .f64 rfl ⟨_, _, fun u hu _ => (by go_simp; exact ⟨rfl, rfl⟩), _, fun u => fa_frr _ _ _ _ u, fun rb hrb => ?_⟩
      iterate 1 (refine grow_q rfl ?_; apply Exists.intro; refine ⟨fun u' hu' _ => ?_, ?_⟩; focus (go_simp; rfl))
      refine grow_nil (fun w4 hw4 _ => ?_)
      have HRB := Lib.hid hrb
      have HX4 := Lib.hid (HX2.out.trans hw4)
      clear hw4 HX2 HC1 hrb
      go_simp
      go_wp2
      have hq1 := fa_frr .mul .f64 ra rb w4
      go_roundw
      case rel =>
        refine ⟨k + 1, _, by omega, by go_num, rfl, ?_, ?_⟩
        · rw [fa_frr, fa_frr, HSK.out, HRS.out, HRA.out, HRB.out, HRM.out, HT.out]; rfl
        · first | exact HX4.out.drewN _ | exact (HX4.out.drewN _).drewN _
      case measure => simp [intOf]; omega
    · obtain rfl : k = n := by omega
      go_wp2
      go_ret
      refine ⟨_, rfl, ?_, ?_⟩
      · rw [fa_frr, HAL.out, HRS.out]; rfl
      · first | exact HX.out.drewN _ | exact (HX.out.drewN _).drewN _

set_option maxRecDepth 100000 in
set_option maxHeartbeats 2000000 in
theorem alikeH_any (W H x y : Int) (hx : -16 ≤ x ∧ x ≤ 16) (hy : -16 ≤ y ∧ y ≤ 16) (b o n c : Nat) (zs : List Int) (hz : zs.length = n) (hv : vldH W H zs = true) (w : World) (hA : VArr w (some ⟨b, o, none⟩) (ints zs)) :
    Calls Try.prog 129 #[.agg #[.int .i64 W, .int .i64 H, .slice (some ⟨b, o, none⟩) n c], .int .i64 x, .int .i64 y] w fun e w' => ∃ r, e = .returned (.float .f64 r) ∧ fa .f64 r = alD W H zs n x y ∧ Ext w w' := by
  obtain ⟨hW, hH, hnn, ⟨hn1, hn2⟩, hb⟩ := vld_facts hv hz
  obtain ⟨Wn, rfl⟩ := Int.eq_ofNat_of_zero_le (show 0 ≤ W by omega)
  obtain ⟨Hn, rfl⟩ := Int.eq_ofNat_of_zero_le (show 0 ≤ H by omega)
  have HCB : Hid (∀ x y, ∃ i : Nat, cellF Wn Hn x y = i ∧ i < n) := fun x y => ⟨(cellF Wn Hn x y).toNat, by have := cellF_bd x y (by omega : (1 : Int) ≤ Wn) (by omega : (1 : Int) ≤ Hn); omega⟩
  have HSS : Hid (∀ k, smD Wn Hn zs n x y (k + 1) = fop .add .f64 (smD Wn Hn zs n x y k) (fop .mul .f64 (fop .sub .f64 (intD (zs[k]?.getD 0)) (mnD zs n)) (fop .sub .f64 (intD (topZ Wn Hn zs (((k % Wn : Nat) : Int) + x) (((k / Wn : Nat) : Int) + y))) (mnD zs n)))) := fun k => rfl
  have HAL : Hid (alD Wn Hn zs n x y = fop .quo .f64 (smD Wn Hn zs n x y n) (intD n)) := by show _ = _; rfl
  have HMN : Hid (mnD zs n = fop .quo .f64 (intD (sumTo zs n)) (intD n)) := by show _ = _; rfl
  have HS0 : Hid (smD Wn Hn zs n x y 0 = fa .f64 0) := by show _ = _; rfl
  have HZ := Lib.hid hz
  have HV := Lib.hid hv
  have hX := (Ext.refl w).alloc (.cells #[.int .i64 Wn, .int .i64 Hn, .slice (some ⟨b, o, none⟩) n c] 81)
  have B0 := heap_new w (.cells #[.int .i64 Wn, .int .i64 Hn, .slice (some ⟨b, o, none⟩) n c] 81)
  have HXX := Lib.hid hX
  have HA := Lib.hid (hA.ext hX)
  clear hX hA hz hv hnn hb
  obtain ⟨⟨c0, c1, c2⟩, _⟩ := block3 B0
  generalize hsum : sumTo zs n = ss at *
  go_enter Try.func129, Try.ntmps129
  go_wp2_with fail
  refine (atoms_any Wn Hn (some ⟨b, o, none⟩) n c zs HZ.out HV.out _ HA.out).mono ?_
  clear c0 c1 c2
  generalize w.alloc (.cells #[.int .i64 Wn, .int .i64 Hn, .slice (some ⟨b, o, none⟩) n c] 81) = w0 at *
  generalize w.heap.size = p at *
  rw [hsum]
  rintro e w1 ⟨rfl, hX1⟩
  obtain ⟨⟨c0, c1, c2⟩, _⟩ := block3 (hX1.block B0)
  have HX1 := Lib.hid hX1
  clear hX1
  go_wp2
  have hrm := fa_frr .quo .f64 (floatOfInt .f64 ss) (floatOfInt .f64 n) w1
  generalize frr .quo .f64 (floatOfInt .f64 ss) (floatOfInt .f64 n) w1 = rm at *
  have HX2 := Lib.hid (HX1.out.drewN (frn .quo .f64 (floatOfInt .f64 ss) (floatOfInt .f64 n)))
  generalize w1.drewN (frn .quo .f64 (floatOfInt .f64 ss) (floatOfInt .f64 n)) = w2 at *
  have HRM : Hid (fa .f64 rm = mnD zs n) := by show _ = _; rw [HMN.out]; exact hrm
  clear hrm c0 c1 c2 HX1
  go_loopw [9, 25] (fun S i wr => ∃ (k rs : Nat), k ≤ n ∧ i = .int .i64 k ∧ S = .float .f64 rs ∧ fa .f64 rs = smD Wn Hn zs n x y k ∧ Ext w0 wr) (fun _ i _ => n - (intOf i).toNat)
  case atStart => exact ⟨0, 0, Nat.zero_le _, rfl, rfl, HS0.out.symm, HX2.out⟩
  case round =>
    obtain ⟨k, rs, hk, rfl, rfl, hrs, hX⟩ := hrel
    have HX := Lib.hid hX
    have HRS := Lib.hid hrs
    clear hrs hX HX2
    by_cases hlt : k < n
    · have hu2 : k % Wn ≤ k := Nat.mod_le _ _
      have hv2 : k / Wn ≤ k := Nat.div_le_self _ _
      have HT : Hid (topZ Wn Hn zs (((k % Wn : Nat) : Int) + x) (((k / Wn : Nat) : Int) + y) = zs[(cellF Wn Hn (((k % Wn : Nat) : Int) + x) (((k / Wn : Nat) : Int) + y)).toNat]?.getD 0) := by show _ = _; rfl
      have HSK := Lib.hid (HSS.out k)
      have hc0 := (HA.out.ext HX.out).ofInts k (by rw [HZ.out]; exact hlt)
      rw [List.getD_eq_getElem?_getD] at hc0
      have hu := tmod_nat k Wn
      have hv := tdiv_nat k Wn
      have hne : ¬ Wn = 0 := by omega
      have B1 := HX.out.block B0
      generalize zs[k]?.getD 0 = z at *
      generalize k % Wn = u at *
      generalize k / Wn = v at *
      generalize topZ Wn Hn zs ((u : Int) + x) ((v : Int) + y) = y1 at *
      have hwu := wrapS (n := (u : Int) + x) (by omega) (by omega)
      have hwv := wrapS (n := (v : Int) + y) (by omega) (by omega)
      have hwu0 := wrapS (n := (u : Int)) (by omega) (by omega)
      have hwv0 := wrapS (n := (v : Int)) (by omega) (by omega)
      go_wp2_with fail
      refine region_grow (C := Ext wr) (K := fun _ _ val _ => val = .int .i64 y1) ⟨fun _ _ h k => h.trans k, fun _ _ _ _ _ h _ => h⟩ (by kernel_rfl) (by kernel_rfl) ((Ext.refl wr).drew) ?_
      iterate 13 (refine grow_q rfl ?_; apply Exists.intro; refine ⟨fun u' hu' _ => ?_, ?_⟩; focus (obtain ⟨⟨c0, c1, c2⟩, _⟩ := block3 (hu'.block B1); go_simp; rfl))
      refine grow_c1 163 rfl ⟨#[.agg #[.int .i64 Wn, .int .i64 Hn, .slice (some ⟨b, o, none⟩) n c], .int .i64 (u + x : Int), .int .i64 (v + y : Int)], fun u' => ?_, .int .i64 y1, fun u' hu' _ => ?_, fun V u' h => h, fun u' => rfl, ?_⟩
      · go_simp; try (simp only [hwu, hwv])
      · refine (top_any Wn Hn _ _ b o n c zs HZ.out HV.out u' (HA.out.ext (HX.out.trans hu'))).mono fun e w' h => ?_
        rw [← HT.out] at h; exact h
      iterate 1 (refine grow_q rfl ?_; apply Exists.intro; refine ⟨fun u' hu' _ => ?_, ?_⟩; focus (go_simp; rfl))
      refine grow_nil (fun w4 hw4 _ => ?_)
      have HX4 := Lib.hid (HX.out.trans hw4)
      clear hw4 HX hc0 B1
      go_simp
      go_wp2
      go_roundw
      case rel =>
        refine ⟨k + 1, _, by omega, by go_num, rfl, ?_, ?_⟩
        · rw [fa_frr, fa_frr, fa_frr, fa_frr, HSK.out, HRS.out, HRM.out]; rfl
        · exact HX4.out.drewN _
      case measure => simp [intOf]; omega
    · obtain rfl : k = n := by omega
      go_wp2
      go_ret
      refine ⟨_, rfl, ?_, ?_⟩
      · rw [fa_frr, HAL.out, HRS.out]; rfl
      · exact HXX.out.trans (HX.out.drewN _)

end Go.Proofs.Ytajfpjggdbifjaa
