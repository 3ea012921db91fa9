/-
  Sums over pairs of neighbours, by the program and by the reference. (Printed by gen_pairs.py.)
-/
import Derived.Test.YtdggpkgbncmlbaaAtI
import Derived.Test.YtdggpkgbncmlbaaAtM
namespace Go.Proofs.Ytdggpkgbncmlbaa
open Go.RowKit
set_option linter.unusedVariables false
set_option linter.unusedSimpArgs false
set_option linter.unnecessarySimpa false

def topZ (W H : Int) (zs : List Int) (u v : Int) : Int := zs[(cellF W H u v).toNat]?.getD 0
def pairS (g : Int → Int → Int) (Wn Hn : Nat) (zs : List Int) : Nat → Int
  | 0 => 0
  | k + 1 => pairS g Wn Hn zs k + (g (zs[k]?.getD 0) (topZ Wn Hn zs ((k % Wn : Nat) + 1 : Int) ((k / Wn : Nat) : Int)) + g (zs[k]?.getD 0) (topZ Wn Hn zs ((k % Wn : Nat) : Int) ((k / Wn : Nat) + 1 : Int)))
/-- A measure of two tops. -/
def pairG (g : Int → Int → Int) : Prop := ∀ a b, 0 ≤ a → a ≤ 1000 → 0 ≤ b → b ≤ 1000 → 0 ≤ g a b ∧ g a b ≤ 1000
theorem topZ_bd {W H : Int} {zs : List Int} {n : Nat} (h : ∀ k, k < n → 0 ≤ zs[k]?.getD 0 ∧ zs[k]?.getD 0 ≤ 1000) (hW : 1 ≤ W) (hH : 1 ≤ H) (hn : (n : Int) = W * H) (u v : Int) : 0 ≤ topZ W H zs u v ∧ topZ W H zs u v ≤ 1000 := by
  have := cellF_bd u v hW hH
  exact h _ (by omega)
theorem pairS_bd {g : Int → Int → Int} (hg : pairG g) {Wn Hn n : Nat} {zs : List Int} (h : ∀ k, k < n → 0 ≤ zs[k]?.getD 0 ∧ zs[k]?.getD 0 ≤ 1000) (hW : 1 ≤ Wn) (hH : 1 ≤ Hn) (hn : (n : Int) = Wn * Hn) : ∀ k : Nat, k ≤ n → 0 ≤ pairS g Wn Hn zs k ∧ pairS g Wn Hn zs k ≤ 2000 * k
  | 0, _ => by simp [pairS]
  | k + 1, hk => by
    have h1 := pairS_bd hg h hW hH hn k (by omega)
    have h2 := h k (by omega)
    have t1 := topZ_bd h (by omega : (1 : Int) ≤ Wn) (by omega : (1 : Int) ≤ Hn) hn ((k % Wn : Nat) + 1 : Int) ((k / Wn : Nat) : Int)
    have t2 := topZ_bd h (by omega : (1 : Int) ≤ Wn) (by omega : (1 : Int) ≤ Hn) hn ((k % Wn : Nat) : Int) ((k / Wn : Nat) + 1 : Int)
    have g1 := hg _ _ h2.1 h2.2 t1.1 t1.2
    have g2 := hg _ _ h2.1 h2.2 t2.1 t2.2
    unfold pairS
    omega
def pairN (g : Int → Int → Int) (W H : Int) (zs : List Int) : Int := pairS g W.toNat H.toNat zs (H.toNat * W.toNat)
def pairR (g : Int → Int → Int) (W H : Int) (zs : List Int) : Int := if vldH W H zs then pairN g W H zs else 0
theorem pairR_no {g : Int → Int → Int} {W H : Int} {zs : List Int} (h : vldH W H zs = false) : pairR g W H zs = 0 := by simp [pairR, h]
theorem pairR_yes {g : Int → Int → Int} {W H : Int} {zs : List Int} (h : vldH W H zs = true) : pairR g W H zs = pairN g W H zs := by simp [pairR, h]
def minG (a b : Int) : Int := min a b
def difG (a b : Int) : Int := max (a - b) (b - a)
theorem minG_ok : pairG minG := fun a b _ _ _ _ => by unfold minG; omega
theorem difG_ok : pairG difG := fun a b _ _ _ _ => by unfold difG; omega

theorem l00MinH_any (x y : Int) (w : World) : Calls Try.prog 86 #[.int .i64 x, .int .i64 y] w fun e w' => e = .returned (.int .i64 (min x y)) ∧ w = w' := by
  go_enter Try.func86, Try.ntmps86
  by_cases h : x < y
  · have e : decide (x < y) = true := by simpa using h
    have HM := Lib.hid (show min x y = x by omega)
    go_wp2
    go_ret
    exact ⟨by rw [HM.out]; rfl, rfl⟩
  · have e : decide (x < y) = false := by simpa using h
    have HM := Lib.hid (show min x y = y by omega)
    go_wp2
    go_ret
    exact ⟨by rw [HM.out]; rfl, rfl⟩

theorem minC_any (x y : Int) (w : World) : Calls Try.prog 108 #[.int .i64 x, .int .i64 y] w fun e w' => e = .returned (.int .i64 (minG x y)) ∧ Ext w w' := by
  unfold minG
  rcases Int.lt_trichotomy x y with h | h | h
  · have HM := Lib.hid (show min x y = x by omega)
    go_enter Try.func108, Try.ntmps108
    go_wp2
    go_ret
    exact ⟨by rw [HM.out]; rfl, Ext.refl _⟩
  · subst h
    have HM := Lib.hid (show min x x = x by omega)
    go_enter Try.func108, Try.ntmps108
    go_wp2
    go_ret
    exact ⟨by rw [HM.out]; rfl, Ext.refl _⟩
  · have HM := Lib.hid (show min x y = y by omega)
    go_enter Try.func108, Try.ntmps108
    go_wp2
    go_ret
    exact ⟨by rw [HM.out]; rfl, Ext.refl _⟩

theorem ne_args {A B : Value} {a b c d : Int} (h : #[A, .int .i64 a, .int .i64 b] = #[B, Value.int .i64 c, .int .i64 d]) : a = c ∧ b = d := by simp at h; exact ⟨h.2.1, h.2.2⟩
theorem eq_arg {a b c d : Int} (h : #[Value.int .i64 a, .int .i64 b] = #[Value.int .i64 c, .int .i64 d]) : a = c ∧ b = d := by simpa using h
theorem size_args {A B C D E : Value} (h : #[A, B, C] = #[D, E]) : False := by simp at h
theorem size_args' {A B C D E : Value} (h : #[D, E] = #[A, B, C]) : False := by simp at h

theorem difC_any (x y : Int) (hx : 0 ≤ x ∧ x ≤ 1000) (hy : 0 ≤ y ∧ y ≤ 1000) (w : World) : Calls Try.prog 88 #[.int .i64 x, .int .i64 y] w fun e w' => e = .returned (.int .i64 (difG x y)) ∧ Ext w w' := by
  have h1 := wrapS (n := x - y) (by omega) (by omega)
  have h2 := wrapS (n := y - x) (by omega) (by omega)
  unfold difG
  by_cases h : x - y < y - x
  · have HM := Lib.hid (show max (x - y) (y - x) = y - x by omega)
    go_enter Try.func88, Try.ntmps88
    go_wp2
    go_ret
    exact ⟨by rw [HM.out]; rfl, Ext.refl _⟩
  · have HM := Lib.hid (show max (x - y) (y - x) = x - y by omega)
    go_enter Try.func88, Try.ntmps88
    go_wp2
    go_ret
    exact ⟨by rw [HM.out]; rfl, Ext.refl _⟩

set_option maxRecDepth 100000 in
set_option maxHeartbeats 2000000 in
theorem pairs_any (g : Int → Int → Int) (hg : pairG g) (F : FuncId) (W H : Int) (b o n c : Nat) (zs : List Int) (hz : zs.length = n) (hv : vldH W H zs = true) (w : World) (hA : VArr w (some ⟨b, o, none⟩) (ints zs))
    (hcall : ∀ args u, Sem.run Try.prog (callFunc F args) u = .ok (.enter F args) u)
    (hF : ∀ x y u, 0 ≤ x ∧ x ≤ 1000 → 0 ≤ y ∧ y ≤ 1000 → Calls Try.prog F #[.int .i64 x, .int .i64 y] u fun e w' => e = .returned (.int .i64 (g x y)) ∧ Ext u w') :
    Calls Try.prog 87 #[.agg #[.int .i64 W, .int .i64 H, .slice (some ⟨b, o, none⟩) n c], .func (.func F) #[] #[]] w fun e w' => e = .returned (.int .i64 (pairN g W H zs)) ∧ Ext w w' := by
  obtain ⟨hW, hH, hnn, ⟨hn1, hn2⟩, hb⟩ := vld_facts hv hz
  obtain ⟨Wn, rfl⟩ := Int.eq_ofNat_of_zero_le (show 0 ≤ W by omega)
  obtain ⟨Hn, rfl⟩ := Int.eq_ofNat_of_zero_le (show 0 ≤ H by omega)
  have hnn' : n = Hn * Wn := by
    have : ((Hn * Wn : Nat) : Int) = Wn * Hn := by rw [Int.natCast_mul, Int.mul_comm]
    omega
  have HBD := Lib.hid (pairS_bd hg hb (by omega : 1 ≤ Wn) (by omega : 1 ≤ Hn) hnn)
  have HTB := Lib.hid (topZ_bd hb (by omega : (1 : Int) ≤ Wn) (by omega : (1 : Int) ≤ Hn) hnn)
  have HB := Lib.hid hb
  have HG := Lib.hid hg
  have HN := Lib.hid hnn'
  have HZ := Lib.hid hz
  have HV := Lib.hid hv
  have HF := Lib.hid hF
  have HC := Lib.hid hcall
  have hX := (Ext.refl w).alloc (.cells #[.int .i64 Wn, .int .i64 Hn, .slice (some ⟨b, o, none⟩) n c] 33)
  have B0 := heap_new w (.cells #[.int .i64 Wn, .int .i64 Hn, .slice (some ⟨b, o, none⟩) n c] 33)
  have HXX := Lib.hid hX
  have HA := Lib.hid (hA.ext hX)
  clear hnn hnn' hb hg hz hv hA hX hF hcall
  go_enter Try.func87, Try.ntmps87
  go_wp2
  generalize w.alloc (.cells #[.int .i64 Wn, .int .i64 Hn, .slice (some ⟨b, o, none⟩) n c] 33) = w0 at *
  generalize w.heap.size = p at *
  go_loopw [5, 13] (fun s i wr => ∃ k : Nat, k ≤ n ∧ i = .int .i64 k ∧ s = .int .i64 (pairS g Wn Hn zs k) ∧ Ext w0 wr) (fun _ i _ => n - (intOf i).toNat)
  case atStart => exact ⟨0, Nat.zero_le _, rfl, rfl, Ext.refl _⟩
  case round =>
    obtain ⟨k, hk, rfl, rfl, hX⟩ := hrel
    have HX := Lib.hid hX
    clear hX
    by_cases hlt : k < n
    · have hu2 : k % Wn < Wn := Nat.mod_lt _ (by omega)
      have hv2 : k / Wn < Hn := Nat.div_lt_of_lt_mul (by rw [Nat.mul_comm]; have := HN.out; omega)
      have hbd := HBD.out k (by omega)
      have hzb := HB.out k hlt
      have HS : Hid (pairS g Wn Hn zs (k + 1) = pairS g Wn Hn zs k + (g (zs[k]?.getD 0) (topZ Wn Hn zs ((k % Wn : Nat) + 1 : Int) ((k / Wn : Nat) : Int)) + g (zs[k]?.getD 0) (topZ Wn Hn zs ((k % Wn : Nat) : Int) ((k / Wn : Nat) + 1 : Int)))) := by show _ = _; rfl
      have t1 := HTB.out ((k % Wn : Nat) + 1 : Int) ((k / Wn : Nat) : Int)
      have t2 := HTB.out ((k % Wn : Nat) : Int) ((k / Wn : Nat) + 1 : Int)
      have gb1 := HG.out _ _ hzb.1 hzb.2 t1.1 t1.2
      have gb2 := HG.out _ _ hzb.1 hzb.2 t2.1 t2.2
      have hca := (HA.out.ext HX.out).ofInts k (by rw [HZ.out]; exact hlt)
      rw [List.getD_eq_getElem?_getD] at hca
      have hu := tmod_nat k Wn
      have hv := tdiv_nat k Wn
      have hne : ¬ Wn = 0 := by omega
      have B1 := HX.out.block B0
      obtain ⟨⟨c0, c1, c2⟩, _⟩ := block3 B1
      generalize hs : pairS g Wn Hn zs k = s at *
      clear hs
      generalize zs[k]?.getD 0 = z at *
      generalize k % Wn = u at *
      generalize k / Wn = v at *
      generalize ht1 : topZ Wn Hn zs (u + 1 : Int) (v : Int) = y1 at *
      generalize ht2 : topZ Wn Hn zs (u : Int) (v + 1 : Int) = y2 at *
      have HT1 := Lib.hid ht1
      have HT2 := Lib.hid ht2
      clear ht1 ht2
      have hwu := wrapS (n := (u : Int) + 1) (by omega) (by omega)
      have hwv := wrapS (n := (v : Int) + 1) (by omega) (by omega)
      have hwu0 := wrapS (n := (u : Int)) (by omega) (by omega)
      have hwv0 := wrapS (n := (v : Int)) (by omega) (by omega)
      have hw1 := wrapS (n := g z y1 + g z y2) (by omega) (by omega)
      have hw2 := wrapS (n := s + (g z y1 + g z y2)) (by omega) (by omega)
      go_wp2
      go_quiet (fail)
      have HX2 := Lib.hid (HX.out.trans ((Ext.refl wr).drewN nq))
      clear HX c0 c1 c2 B1
      go_wp2_with fail
      generalize wr.drewN nq = wr2 at *
      have B2 := HX2.out.block B0
      refine region_grow (C := Ext wr2) (K := fun _ args val _ => (args = #[.agg #[.int .i64 Wn, .int .i64 Hn, .slice (some ⟨b, o, none⟩) n c], .int .i64 (u + 1 : Int), .int .i64 v] → val = .int .i64 y1) ∧ (args = #[.agg #[.int .i64 Wn, .int .i64 Hn, .slice (some ⟨b, o, none⟩) n c], .int .i64 u, .int .i64 (v + 1 : Int)] → val = .int .i64 y2) ∧ (∀ a y, args = #[.int .i64 a, .int .i64 y] → val = .int .i64 (g a y))) ⟨fun _ _ h k => h.trans k, fun _ _ _ _ _ h _ => h⟩ (by kernel_rfl) (by kernel_rfl) ((Ext.refl wr2).drew) ?_
      iterate 7 (refine grow_q rfl ?_; apply Exists.intro; refine ⟨fun u' hu' _ => ?_, ?_⟩; focus (obtain ⟨⟨c0, c1, c2⟩, _⟩ := block3 (hu'.block B2); go_simp; rfl))
      refine grow_c1 77 rfl ⟨#[.agg #[.int .i64 Wn, .int .i64 Hn, .slice (some ⟨b, o, none⟩) n c], .int .i64 (u + 1 : Int), .int .i64 v], fun u' => ?_, .int .i64 y1, fun u' hu' _ => ?_, fun V u' h => ?_, fun u' => ?_, ?_⟩
      · go_simp; try (simp only [hwu, hwv])
      · refine (top_any Wn Hn (u + 1 : Int) v b o n c zs HZ.out HV.out u' (HA.out.ext (HX2.out.trans hu'))).mono fun e w' h => ?_
        have hh := HT1.out; unfold topZ at hh; rw [hh] at h; exact h
      · exact h.1 rfl
      · exact ⟨fun _ => rfl, fun h => by have := ne_args h; omega, fun a y h => (size_args h).elim⟩
      refine grow_c1 F rfl ⟨#[.int .i64 z, .int .i64 y1], fun u' => ?_, .int .i64 (g z y1), fun u' hu' _ => HF.out z y1 u' hzb t1, fun V u' h => h.2.2 _ _ rfl, fun u' => ⟨fun h => (size_args' h).elim, fun h => (size_args' h).elim, fun a y h => by obtain ⟨rfl, rfl⟩ := eq_arg h; rfl⟩, ?_⟩
      · go_simp; try exact HC.out _ _
      iterate 6 (refine grow_q rfl ?_; apply Exists.intro; refine ⟨fun u' hu' _ => ?_, ?_⟩; focus (obtain ⟨⟨c0, c1, c2⟩, _⟩ := block3 (hu'.block B2); go_simp; rfl))
      refine grow_c1 77 rfl ⟨#[.agg #[.int .i64 Wn, .int .i64 Hn, .slice (some ⟨b, o, none⟩) n c], .int .i64 u, .int .i64 (v + 1 : Int)], fun u' => ?_, .int .i64 y2, fun u' hu' _ => ?_, fun V u' h => ?_, fun u' => ?_, ?_⟩
      · go_simp; try (simp only [hwu, hwv])
      · refine (top_any Wn Hn u (v + 1 : Int) b o n c zs HZ.out HV.out u' (HA.out.ext (HX2.out.trans hu'))).mono fun e w' h => ?_
        have hh := HT2.out; unfold topZ at hh; rw [hh] at h; exact h
      · exact h.2.1 rfl
      · exact ⟨fun h => by have := ne_args h; omega, fun _ => rfl, fun a y h => (size_args h).elim⟩
      refine grow_c1 F rfl ⟨#[.int .i64 z, .int .i64 y2], fun u' => ?_, .int .i64 (g z y2), fun u' hu' _ => HF.out z y2 u' hzb t2, fun V u' h => h.2.2 _ _ rfl, fun u' => ⟨fun h => (size_args' h).elim, fun h => (size_args' h).elim, fun a y h => by obtain ⟨rfl, rfl⟩ := eq_arg h; rfl⟩, ?_⟩
      · go_simp; try exact HC.out _ _
      iterate 3 (refine grow_q rfl ?_; apply Exists.intro; refine ⟨fun u' hu' _ => ?_, ?_⟩; focus (go_simp; rfl))
      refine grow_nil (fun w4 hw4 _ => ?_)
      have HX4 := Lib.hid (HX2.out.trans hw4)
      clear hw4 hca HX2 B2
      go_simp
      go_wp2
      go_roundw
      case rel => exact ⟨k + 1, by omega, by go_num, by rw [HS.out], HX4.out⟩
      case measure => simp [intOf]; omega
    · obtain rfl : k = n := by omega
      have HP : Hid (pairN g Wn Hn zs = pairS g Wn Hn zs k) := by show _ = _; unfold pairN; simp only [Int.toNat_natCast]; rw [← HN.out]
      go_wp2
      go_ret
      exact ⟨by rw [HP.out]; rfl, HXX.out.trans HX.out⟩

theorem bonds_any (W H : Int) (b o n c : Nat) (zs : List Int) (hz : zs.length = n) (hv : vldH W H zs = true) (w : World) (hA : VArr w (some ⟨b, o, none⟩) (ints zs)) :
    Calls Try.prog 83 #[.agg #[.int .i64 W, .int .i64 H, .slice (some ⟨b, o, none⟩) n c]] w fun e w' => e = .returned (.int .i64 (pairN minG W H zs)) ∧ Ext w w' := by
  have hX := (Ext.refl w).alloc (.cells #[.int .i64 W, .int .i64 H, .slice (some ⟨b, o, none⟩) n c] 33)
  have B0 := heap_new w (.cells #[.int .i64 W, .int .i64 H, .slice (some ⟨b, o, none⟩) n c] 33)
  have HA := Lib.hid (hA.ext hX)
  have HX := Lib.hid hX
  have HZ := Lib.hid hz
  have HV := Lib.hid hv
  obtain ⟨⟨c0, c1, c2⟩, _⟩ := block3 B0
  clear hA hX hz hv B0
  go_enter Try.func83, Try.ntmps83
  go_wp2_with fail
  refine (pairs_any minG minG_ok 108 W H b o n c zs HZ.out HV.out _ HA.out (fun args u => by go_simp) (fun x y u _ _ => minC_any x y u)).mono ?_
  clear c0 c1 c2
  generalize w.alloc (.cells #[.int .i64 W, .int .i64 H, .slice (some ⟨b, o, none⟩) n c] 33) = w0 at *
  rintro e w1 ⟨rfl, hX1⟩
  go_wp2
  go_ret
  exact ⟨rfl, HX.out.trans hX1⟩

set_option maxRecDepth 100000 in
set_option maxHeartbeats 1000000 in
theorem implBondsIn_any (W H : Int) (a : Option Addr) (n c : Nat) (zs : List Int) (hz : zs.length = n) (hn : n ≤ 1048576) (w : World) (hA : VArr w a (ints zs)) :
    Calls Try.prog 42 #[.agg #[.int .i64 W, .int .i64 H, .slice a n c]] w fun e w' => e = .returned (.tuple #[.int .i64 (pairR minG W H zs), .bool (vldH W H zs)]) ∧ Ext w w' := by
  have hX := (Ext.refl w).alloc (.cells #[.int .i64 W, .int .i64 H, .slice a n c] 33)
  have b0 := heap_new w (.cells #[.int .i64 W, .int .i64 H, .slice a n c] 33)
  have hA1 := hA.ext hX
  go_enter Try.func42, Try.ntmps42
  go_wp2_with fail
  refine (implValid_any W H a n c zs hz (by omega) _ hA1).mono ?_
  generalize w.alloc (.cells #[.int .i64 W, .int .i64 H, .slice a n c] 33) = w0 at *
  generalize w.heap.size = p at *
  rintro e w1 ⟨rfl, hX1⟩
  cases hv : vldH W H zs with
  | false =>
    have HV := Lib.hid hv
    have HE := Lib.hid (hX.trans hX1)
    clear hX hX1 b0 hA hA1 hv
    go_wp2
    go_ret2
    exact ⟨by rw [pairR_no HV.out, HV.out]; rfl, HE.out⟩
  | true =>
    obtain ⟨hW, hH, hnn, ⟨hn1, hn2⟩, _⟩ := vld_facts hv hz
    have HV := Lib.hid hv
    have HE := Lib.hid (hX.trans hX1)
    have HZ := Lib.hid hz
    have HB := Lib.hid (hX1.block b0)
    obtain ⟨b, o, rfl⟩ := hA.starts (i := 0) (by simp; omega)
    have HA := Lib.hid (hA1.ext hX1)
    obtain ⟨⟨c0, c1, c2⟩, _⟩ := block3 HB.out
    clear hX hX1 b0 hA hA1 hv hz hnn
    go_wp2_with fail
    refine (bonds_any W H b o n c zs HZ.out HV.out _ HA.out).mono ?_
    clear c0 c1 c2
    rintro e w2 ⟨rfl, hX2⟩
    go_wp2
    go_ret2
    exact ⟨by rw [pairR_yes HV.out, HV.out]; rfl, HE.out.trans hX2⟩

set_option maxRecDepth 100000 in
set_option maxHeartbeats 1000000 in
theorem implStepsIn_any (W H : Int) (a : Option Addr) (n c : Nat) (zs : List Int) (hz : zs.length = n) (hn : n ≤ 1048576) (w : World) (hA : VArr w a (ints zs)) :
    Calls Try.prog 44 #[.agg #[.int .i64 W, .int .i64 H, .slice a n c]] w fun e w' => e = .returned (.tuple #[.int .i64 (pairR difG W H zs), .bool (vldH W H zs)]) ∧ Ext w w' := by
  have hX := (Ext.refl w).alloc (.cells #[.int .i64 W, .int .i64 H, .slice a n c] 33)
  have b0 := heap_new w (.cells #[.int .i64 W, .int .i64 H, .slice a n c] 33)
  have hA1 := hA.ext hX
  go_enter Try.func44, Try.ntmps44
  go_wp2_with fail
  refine (implValid_any W H a n c zs hz (by omega) _ hA1).mono ?_
  generalize w.alloc (.cells #[.int .i64 W, .int .i64 H, .slice a n c] 33) = w0 at *
  generalize w.heap.size = p at *
  rintro e w1 ⟨rfl, hX1⟩
  cases hv : vldH W H zs with
  | false =>
    have HV := Lib.hid hv
    have HE := Lib.hid (hX.trans hX1)
    clear hX hX1 b0 hA hA1 hv
    go_wp2
    go_ret2
    exact ⟨by rw [pairR_no HV.out, HV.out]; rfl, HE.out⟩
  | true =>
    obtain ⟨hW, hH, hnn, ⟨hn1, hn2⟩, _⟩ := vld_facts hv hz
    have HV := Lib.hid hv
    have HE := Lib.hid (hX.trans hX1)
    have HZ := Lib.hid hz
    have HB := Lib.hid (hX1.block b0)
    obtain ⟨b, o, rfl⟩ := hA.starts (i := 0) (by simp; omega)
    have HA := Lib.hid (hA1.ext hX1)
    obtain ⟨⟨c0, c1, c2⟩, _⟩ := block3 HB.out
    clear hX hX1 b0 hA hA1 hv hz hnn
    go_wp2_with fail
    refine (pairs_any difG difG_ok 88 W H b o n c zs HZ.out HV.out _ HA.out (fun args u => by go_simp) (fun x y u hx hy => difC_any x y hx hy u)).mono ?_
    clear c0 c1 c2
    rintro e w2 ⟨rfl, hX2⟩
    go_wp2
    go_ret2
    exact ⟨by rw [pairR_yes HV.out, HV.out]; rfl, HE.out.trans hX2⟩

end Go.Proofs.Ytdggpkgbncmlbaa
