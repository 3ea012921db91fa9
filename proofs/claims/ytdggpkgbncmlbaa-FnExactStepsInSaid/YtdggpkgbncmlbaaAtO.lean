/-
  Sums over pairs of neighbours, by the reference. (Printed by gen_pairs2.py.)
-/
import Derived.Test.YtdggpkgbncmlbaaAtN
namespace Go.Proofs.Ytdggpkgbncmlbaa
open Go.RowKit
set_option linter.unusedVariables false
set_option linter.unusedSimpArgs false
set_option linter.unnecessarySimpa false

def nearQ (q : Nat) (W H : Int) (x y : Int) (w : World) : Prop := w.heap[q]? = some (.cells #[.int .i64 (cellF W H (x - 1) y), .int .i64 (cellF W H (x + 1) y), .int .i64 (cellF W H x (y - 1)), .int .i64 (cellF W H x (y + 1))] 2 (0, 0))
theorem four_cells {w : World} {q : Nat} {v0 v1 v2 v3 : Value} {t : TypeId} (h : w.heap[q]? = some (.cells #[v0, v1, v2, v3] t (0, 0))) : w.cell? ⟨q, 0, none⟩ = some v0 ∧ w.cell? ⟨q, 1, none⟩ = some v1 ∧ w.cell? ⟨q, 2, none⟩ = some v2 ∧ w.cell? ⟨q, 3, none⟩ = some v3 :=
  ⟨by simp [block_cell h], by simp [block_cell h], by simp [block_cell h], by simp [block_cell h]⟩

set_option maxRecDepth 100000 in
set_option maxHeartbeats 1000000 in
theorem l05Near_any (p : Nat) (Wn Hn : Nat) (k : Nat) (a : Option Addr) (n c : Nat) (hW : 1 ≤ (Wn : Int) ∧ (Wn : Int) ≤ 16) (hH : 1 ≤ (Hn : Int) ∧ (Hn : Int) ≤ 16) (hk : k ≤ 256) (w : World) (hp : HtsAt w p Wn Hn a n c) :
    Calls Try.prog 84 #[.pointer (some ⟨p, 0, none⟩), .int .i64 k] w fun e w' => ∃ q, e = .returned (.slice (some ⟨q, 0, none⟩) 4 4) ∧ w.heap.size ≤ q ∧ Ext w w' ∧ nearQ q Wn Hn ((k % Wn : Nat) : Int) ((k / Wn : Nat) : Int) w' := by
  have HC : Hid (∀ x y u, Ext w u → Calls Try.prog 93 #[.pointer (some ⟨p, 0, none⟩), .int .i64 x, .int .i64 y] u fun e w' => e = .returned (.int .i64 (cellF Wn Hn x y)) ∧ Ext u w') := fun x y u hu => l05Index_any p Wn Hn x y a n c hW hH u (hp.ext hu)
  obtain ⟨c0, c1, c2⟩ := hp
  have hu := tmod_nat k Wn
  have hv := tdiv_nat k Wn
  have hu2 : k % Wn ≤ k := Nat.mod_le _ _
  have hv2 : k / Wn ≤ k := Nat.div_le_self _ _
  have hne : ¬ Wn = 0 := by omega
  generalize hgu : k % Wn = u at *
  generalize hgv : k / Wn = v at *
  clear hgu hgv
  have hwu := wrapS (n := (u : Int) + 1) (by omega) (by omega)
  have hwv := wrapS (n := (v : Int) + 1) (by omega) (by omega)
  have hmu := wrapS (n := (u : Int) - 1) (by omega) (by omega)
  have hmv := wrapS (n := (v : Int) - 1) (by omega) (by omega)
  have hwu0 := wrapS (n := (u : Int)) (by omega) (by omega)
  have hwv0 := wrapS (n := (v : Int)) (by omega) (by omega)
  unfold nearQ
  go_enter Try.func84, Try.ntmps84
  go_wp2_with fail
  refine (HC.out ((u : Int) - 1) v _ (Ext.refl w)).mono ?_
  rintro e v0 ⟨rfl, x0⟩
  have X0 := Lib.hid x0
  clear x0
  clear c0 c1 c2
  go_wp2_with fail
  refine (HC.out ((u : Int) + 1) v _ X0.out).mono ?_
  rintro e v1 ⟨rfl, x1⟩
  have X1 := Lib.hid (X0.out.trans x1)
  clear x1 X0
  go_wp2_with fail
  refine (HC.out u ((v : Int) - 1) _ X1.out).mono ?_
  rintro e v2 ⟨rfl, x2⟩
  have X2 := Lib.hid (X1.out.trans x2)
  clear x2 X1
  go_wp2_with fail
  refine (HC.out u ((v : Int) + 1) _ X2.out).mono ?_
  rintro e v3 ⟨rfl, x3⟩
  have X3 := Lib.hid (X2.out.trans x3)
  clear x3 X2
  have HS := Lib.hid X3.out.size
  have HE := Lib.hid ((X3.out).alloc (.cells #[.int .i64 (cellF Wn Hn ((u : Int) - 1) v), .int .i64 (cellF Wn Hn ((u : Int) + 1) v), .int .i64 (cellF Wn Hn u ((v : Int) - 1)), .int .i64 (cellF Wn Hn u ((v : Int) + 1))] 2))
  have HB := Lib.hid (heap_new v3 (.cells #[.int .i64 (cellF Wn Hn ((u : Int) - 1) v), .int .i64 (cellF Wn Hn ((u : Int) + 1) v), .int .i64 (cellF Wn Hn u ((v : Int) - 1)), .int .i64 (cellF Wn Hn u ((v : Int) + 1))] 2))
  go_wp2
  go_ret
  exact ⟨_, rfl, HS.out, HE.out, HB.out⟩

set_option maxRecDepth 100000 in
set_option maxHeartbeats 2000000 in
theorem l05Bonds_any (p : Nat) (W H : Int) (b o n c : Nat) (zs : List Int) (hz : zs.length = n) (hv : vldH W H zs = true) (w : World) (hp : HtsAt w p W H (some ⟨b, o, none⟩) n c) (hA : VArr w (some ⟨b, o, none⟩) (ints zs)) :
    Calls Try.prog 82 #[.pointer (some ⟨p, 0, none⟩)] w fun e w' => e = .returned (.int .i64 (pairN minG W H zs)) ∧ Ext w w' := by
  obtain ⟨hW, hH, hnn, ⟨hn1, hn2⟩, hb⟩ := vld_facts hv hz
  obtain ⟨Wn, rfl⟩ := Int.eq_ofNat_of_zero_le (show 0 ≤ W by omega)
  obtain ⟨Hn, rfl⟩ := Int.eq_ofNat_of_zero_le (show 0 ≤ H by omega)
  have hnn' : n = Hn * Wn := by
    have : ((Hn * Wn : Nat) : Int) = Wn * Hn := by rw [Int.natCast_mul, Int.mul_comm]
    omega
  have HBD := Lib.hid (pairS_bd minG_ok hb (by omega : 1 ≤ Wn) (by omega : 1 ≤ Hn) hnn)
  have HTB := Lib.hid (topZ_bd hb (by omega : (1 : Int) ≤ Wn) (by omega : (1 : Int) ≤ Hn) hnn)
  have HB := Lib.hid hb
  have HCB : Hid (∀ x y, ∃ i : Nat, cellF Wn Hn x y = i ∧ i < n) := fun x y => ⟨(cellF Wn Hn x y).toNat, by have := cellF_bd x y (by omega : (1 : Int) ≤ Wn) (by omega : (1 : Int) ≤ Hn); omega⟩
  have HN := Lib.hid hnn'
  have HZ := Lib.hid hz
  have HV := Lib.hid hv
  have HP := Lib.hid hp
  have HA := Lib.hid hA
  obtain ⟨c0, c1, c2⟩ := hp
  clear hnn hnn' hb hz hv hA
  go_enter Try.func82, Try.ntmps82
  go_wp2
  clear c0 c1 c2
  go_loopw [3, 11] (fun s i wr => ∃ k : Nat, k ≤ n ∧ i = .int .i64 k ∧ s = .int .i64 (pairS minG Wn Hn zs k) ∧ Ext w wr) (fun _ i _ => n - (intOf i).toNat)
  case atStart => exact ⟨0, Nat.zero_le _, rfl, rfl, Ext.refl _⟩
  case round =>
    obtain ⟨k, hk, rfl, rfl, hX⟩ := hrel
    have HX := Lib.hid hX
    clear hX
    by_cases hlt : k < n
    · have hbd := HBD.out k (by omega)
      have hzb := HB.out k hlt
      have HS : Hid (pairS minG Wn Hn zs (k + 1) = pairS minG Wn Hn zs k + (minG (zs[k]?.getD 0) (topZ Wn Hn zs ((k % Wn : Nat) + 1 : Int) ((k / Wn : Nat) : Int)) + minG (zs[k]?.getD 0) (topZ Wn Hn zs ((k % Wn : Nat) : Int) ((k / Wn : Nat) + 1 : Int)))) := by show _ = _; rfl
      have t1 := HTB.out ((k % Wn : Nat) + 1 : Int) ((k / Wn : Nat) : Int)
      have t2 := HTB.out ((k % Wn : Nat) : Int) ((k / Wn : Nat) + 1 : Int)
      go_wp2_with fail
      refine (l05Near_any p Wn Hn k _ n c (by omega) (by omega) (by omega) _ (HP.out.ext HX.out)).mono ?_
      rintro e w1 ⟨q, rfl, hq, hX1, hQ⟩
      have HX1 := Lib.hid (HX.out.trans hX1)
      obtain ⟨n0, n1, n2, n3⟩ := four_cells hQ
      clear hX1 HX hq hQ n0 n2
      obtain ⟨i1, hi1, hl1⟩ := HCB.out ((k % Wn : Nat) + 1 : Int) ((k / Wn : Nat) : Int)
      obtain ⟨i2, hi2, hl2⟩ := HCB.out ((k % Wn : Nat) : Int) ((k / Wn : Nat) + 1 : Int)
      rw [hi1] at n1
      rw [hi2] at n3
      have e1 : topZ Wn Hn zs ((k % Wn : Nat) + 1 : Int) ((k / Wn : Nat) : Int) = zs[i1]?.getD 0 := by unfold topZ; rw [hi1, Int.toNat_natCast]
      have e2 : topZ Wn Hn zs ((k % Wn : Nat) : Int) ((k / Wn : Nat) + 1 : Int) = zs[i2]?.getD 0 := by unfold topZ; rw [hi2, Int.toNat_natCast]
      rw [e1] at t1 HS
      rw [e2] at t2 HS
      clear hi1 hi2 e1 e2
      have hc0 := (HA.out.ext HX1.out).ofInts k (by rw [HZ.out]; exact hlt)
      have hc1 := (HA.out.ext HX1.out).ofInts i1 (by rw [HZ.out]; exact hl1)
      have hc2 := (HA.out.ext HX1.out).ofInts i2 (by rw [HZ.out]; exact hl2)
      rw [List.getD_eq_getElem?_getD] at hc0 hc1 hc2
      generalize pairS minG Wn Hn zs k = s at *
      generalize zs[k]?.getD 0 = z at *
      generalize zs[i1]?.getD 0 = y1 at *
      generalize zs[i2]?.getD 0 = y2 at *
      have g1 := minG_ok _ _ hzb.1 hzb.2 t1.1 t1.2
      have g2 := minG_ok _ _ hzb.1 hzb.2 t2.1 t2.2
      have hw1 := wrapS (n := minG z y1 + minG z y2) (by omega) (by omega)
      have hw2 := wrapS (n := s + (minG z y1 + minG z y2)) (by omega) (by omega)
      go_wp2_with fail
      refine region_grow (C := Ext w1) (K := fun _ args val _ => ∀ a y, args = #[.int .i64 a, .int .i64 y] → val = .int .i64 (minG a y)) ⟨fun _ _ h k => h.trans k, fun _ _ _ _ _ h _ => h⟩ (by kernel_rfl) (by kernel_rfl) ((Ext.refl w1).drew) ?_
      iterate 17 (refine grow_q rfl ?_; apply Exists.intro; refine ⟨fun u' hu' _ => ?_, ?_⟩; focus (obtain ⟨c0, c1, c2⟩ := HP.out.ext (HX1.out.trans hu'); have d1 := hu'.cell n1; have d3 := hu'.cell n3; have g0 := hu'.cell hc0; have g1 := hu'.cell hc1; have g2 := hu'.cell hc2; go_simp; rfl))
      refine grow_c1 86 rfl ⟨#[.int .i64 z, .int .i64 y1], fun u' => ?_, .int .i64 (minG z y1), fun u' hu' _ => (l00MinH_any z y1 u').mono (fun e w' h => ⟨h.1, by rw [h.2]; exact Ext.refl _⟩), fun V u' h => h _ _ rfl, fun u' => fun a y h => by obtain ⟨rfl, rfl⟩ := eq_arg h; rfl, ?_⟩
      · go_simp
      iterate 16 (refine grow_q rfl ?_; apply Exists.intro; refine ⟨fun u' hu' _ => ?_, ?_⟩; focus (obtain ⟨c0, c1, c2⟩ := HP.out.ext (HX1.out.trans hu'); have d1 := hu'.cell n1; have d3 := hu'.cell n3; have g0 := hu'.cell hc0; have g1 := hu'.cell hc1; have g2 := hu'.cell hc2; go_simp; rfl))
      refine grow_c1 86 rfl ⟨#[.int .i64 z, .int .i64 y2], fun u' => ?_, .int .i64 (minG z y2), fun u' hu' _ => (l00MinH_any z y2 u').mono (fun e w' h => ⟨h.1, by rw [h.2]; exact Ext.refl _⟩), fun V u' h => h _ _ rfl, fun u' => fun a y h => by obtain ⟨rfl, rfl⟩ := eq_arg h; rfl, ?_⟩
      · go_simp
      iterate 3 (refine grow_q rfl ?_; apply Exists.intro; refine ⟨fun u' hu' _ => ?_, ?_⟩; focus (go_simp; rfl))
      refine grow_nil (fun w4 hw4 _ => ?_)
      have HX4 := Lib.hid (HX1.out.trans hw4)
      clear hw4 hc0 hc1 hc2 n1 n3 HX1
      go_simp
      go_wp2
      go_roundw
      case rel => exact ⟨k + 1, by omega, by go_num, by rw [HS.out], HX4.out⟩
      case measure => simp [intOf]; omega
    · obtain rfl : k = n := by omega
      have HPN : Hid (pairN minG Wn Hn zs = pairS minG Wn Hn zs k) := by show _ = _; unfold pairN; simp only [Int.toNat_natCast]; rw [← HN.out]
      go_wp2
      go_ret
      exact ⟨by rw [HPN.out]; rfl, HX.out⟩

set_option maxRecDepth 100000 in
set_option maxHeartbeats 2000000 in
theorem specBondsIn_any (W H : Int) (a : Option Addr) (n c : Nat) (zs : List Int) (hz : zs.length = n) (hn : n ≤ 1048576) (w : World) (hA : VArr w a (ints zs)) :
    Calls Try.prog 41 #[.agg #[.int .i64 W, .int .i64 H, .slice a n c]] w fun e w' => e = .returned (.tuple #[.int .i64 (pairR minG W H zs), .bool (vldH W H zs)]) ∧ Ext w w' := by
  have hX := (Ext.refl w).alloc (.cells #[.int .i64 W, .int .i64 H, .slice a n c] 33)
  have b0 := heap_new w (.cells #[.int .i64 W, .int .i64 H, .slice a n c] 33)
  have hA1 := hA.ext hX
  go_enter Try.func41, Try.ntmps41
  go_wp2_with fail
  refine (l05Is_any _ W H a n c zs hz (by omega) _ (block3 b0).1 hA1).mono ?_
  generalize w.alloc (.cells #[.int .i64 W, .int .i64 H, .slice a n c] 33) = w0 at *
  generalize w.heap.size = p at *
  rintro e w1 ⟨rfl, hX1⟩
  cases hv : vldH W H zs with
  | false =>
    have HV := Lib.hid hv
    have HE := Lib.hid (hX.trans hX1)
    clear hX hX1 b0 hA hA1 hv
    go_wp2
    go_ret2
    exact ⟨by rw [pairR_no HV.out, HV.out]; rfl, HE.out⟩
  | true =>
    have HV := Lib.hid hv
    have HE := Lib.hid (hX.trans hX1)
    have HZ := Lib.hid hz
    have hn1 : 0 < n := by have := (vld_facts hv hz).2.2.2.1.1; omega
    obtain ⟨b, o, rfl⟩ := hA.starts (i := 0) (by simp; omega)
    have hp : HtsAt w1 p W H (some ⟨b, o, none⟩) n c := (block3 (hX1.block b0)).1
    have hA2 := hA1.ext hX1
    clear hX hX1 b0 hA hA1 hv hz
    go_wp2_with fail
    refine (l05Bonds_any p W H b o n c zs HZ.out HV.out _ hp hA2).mono ?_
    rintro e w2 ⟨rfl, hX2⟩
    clear hp hA2
    go_wp2
    go_ret2
    exact ⟨by rw [pairR_yes HV.out, HV.out]; rfl, HE.out.trans hX2⟩

set_option maxRecDepth 100000 in
set_option maxHeartbeats 2000000 in
theorem specStepsIn_any (W H : Int) (a : Option Addr) (n c : Nat) (zs : List Int) (hz : zs.length = n) (hn : n ≤ 1048576) (w : World) (hA : VArr w a (ints zs)) :
    Calls Try.prog 43 #[.agg #[.int .i64 W, .int .i64 H, .slice a n c]] w fun e w' => e = .returned (.tuple #[.int .i64 (pairR difG W H zs), .bool (vldH W H zs)]) ∧ Ext w w' := by
  have hX := (Ext.refl w).alloc (.cells #[.int .i64 W, .int .i64 H, .slice a n c] 33)
  have b0 := heap_new w (.cells #[.int .i64 W, .int .i64 H, .slice a n c] 33)
  have hA1 := hA.ext hX
  go_enter Try.func43, Try.ntmps43
  go_wp2_with fail
  refine (l05Is_any _ W H a n c zs hz (by omega) _ (block3 b0).1 hA1).mono ?_
  generalize w.alloc (.cells #[.int .i64 W, .int .i64 H, .slice a n c] 33) = w0 at *
  generalize w.heap.size = p at *
  rintro e w1 ⟨rfl, hX1⟩
  cases hv : vldH W H zs with
  | false =>
    have HV := Lib.hid hv
    have HE := Lib.hid (hX.trans hX1)
    clear hX hX1 b0 hA hA1 hv
    go_wp2
    go_ret2
    exact ⟨by rw [pairR_no HV.out, HV.out]; rfl, HE.out⟩
  | true =>
    obtain ⟨hW, hH, hnn, ⟨hn1, hn2⟩, hb⟩ := vld_facts hv hz
    obtain ⟨Wn, rfl⟩ := Int.eq_ofNat_of_zero_le (show 0 ≤ W by omega)
    obtain ⟨Hn, rfl⟩ := Int.eq_ofNat_of_zero_le (show 0 ≤ H by omega)
    have hnn' : n = Hn * Wn := by
      have : ((Hn * Wn : Nat) : Int) = Wn * Hn := by rw [Int.natCast_mul, Int.mul_comm]
      omega
    have HBD := Lib.hid (pairS_bd difG_ok hb (by omega : 1 ≤ Wn) (by omega : 1 ≤ Hn) hnn)
    have HTB := Lib.hid (topZ_bd hb (by omega : (1 : Int) ≤ Wn) (by omega : (1 : Int) ≤ Hn) hnn)
    have HB := Lib.hid hb
    have HCB : Hid (∀ x y, ∃ i : Nat, cellF Wn Hn x y = i ∧ i < n) := fun x y => ⟨(cellF Wn Hn x y).toNat, by have := cellF_bd x y (by omega : (1 : Int) ≤ Wn) (by omega : (1 : Int) ≤ Hn); omega⟩
    have HN := Lib.hid hnn'
    have HZ := Lib.hid hz
    have HV := Lib.hid hv
    have HE := Lib.hid (hX.trans hX1)
    have HP := Lib.hid (hX1.block b0)
    obtain ⟨b, o, rfl⟩ := hA.starts (i := 0) (by simp; omega)
    have HA := Lib.hid (hA1.ext hX1)
    obtain ⟨⟨c0, c1, c2⟩, _⟩ := block3 HP.out
    clear hX hX1 b0 hA hA1 hv hz hnn hnn' hb
    go_wp2
    clear c0 c1 c2
    go_loopw [4, 15] (fun s i wr => ∃ k : Nat, k ≤ n ∧ i = .int .i64 k ∧ s = .int .i64 (pairS difG Wn Hn zs k) ∧ Ext w1 wr) (fun _ i _ => n - (intOf i).toNat)
    case atStart => exact ⟨0, Nat.zero_le _, rfl, rfl, Ext.refl _⟩
    case round =>
      obtain ⟨k, hk, rfl, rfl, hX⟩ := hrel
      have HX := Lib.hid hX
      clear hX
      obtain ⟨⟨c0, c1, c2⟩, _⟩ := block3 (HX.out.block HP.out)
      by_cases hlt : k < n
      · have hbd := HBD.out k (by omega)
        have hzb := HB.out k hlt
        have HS : Hid (pairS difG Wn Hn zs (k + 1) = pairS difG Wn Hn zs k + (difG (zs[k]?.getD 0) (topZ Wn Hn zs ((k % Wn : Nat) + 1 : Int) ((k / Wn : Nat) : Int)) + difG (zs[k]?.getD 0) (topZ Wn Hn zs ((k % Wn : Nat) : Int) ((k / Wn : Nat) + 1 : Int)))) := by show _ = _; rfl
        have t1 := HTB.out ((k % Wn : Nat) + 1 : Int) ((k / Wn : Nat) : Int)
        have t2 := HTB.out ((k % Wn : Nat) : Int) ((k / Wn : Nat) + 1 : Int)
        go_wp2_with fail
        refine (l05Near_any p Wn Hn k _ n c (by omega) (by omega) (by omega) _ ((block3 (HX.out.block HP.out)).1)).mono ?_
        rintro e w3 ⟨q, rfl, hq, hX1, hQ⟩
        have HX1 := Lib.hid (HX.out.trans hX1)
        obtain ⟨n0, n1, n2, n3⟩ := four_cells hQ
        clear hX1 HX hq hQ n0 n2 c0 c1 c2
        obtain ⟨i1, hi1, hl1⟩ := HCB.out ((k % Wn : Nat) + 1 : Int) ((k / Wn : Nat) : Int)
        obtain ⟨i2, hi2, hl2⟩ := HCB.out ((k % Wn : Nat) : Int) ((k / Wn : Nat) + 1 : Int)
        rw [hi1] at n1
        rw [hi2] at n3
        have e1 : topZ Wn Hn zs ((k % Wn : Nat) + 1 : Int) ((k / Wn : Nat) : Int) = zs[i1]?.getD 0 := by unfold topZ; rw [hi1, Int.toNat_natCast]
        have e2 : topZ Wn Hn zs ((k % Wn : Nat) : Int) ((k / Wn : Nat) + 1 : Int) = zs[i2]?.getD 0 := by unfold topZ; rw [hi2, Int.toNat_natCast]
        rw [e1] at t1 HS
        rw [e2] at t2 HS
        clear hi1 hi2 e1 e2
        have hc0 := (HA.out.ext HX1.out).ofInts k (by rw [HZ.out]; exact hlt)
        have hc1 := (HA.out.ext HX1.out).ofInts i1 (by rw [HZ.out]; exact hl1)
        have hc2 := (HA.out.ext HX1.out).ofInts i2 (by rw [HZ.out]; exact hl2)
        rw [List.getD_eq_getElem?_getD] at hc0 hc1 hc2
        generalize pairS difG Wn Hn zs k = s at *
        generalize zs[k]?.getD 0 = z at *
        generalize zs[i1]?.getD 0 = y1 at *
        generalize zs[i2]?.getD 0 = y2 at *
        have HD1 : Hid (difG z y1 = max z y1 - min z y1) := by show _ = _; unfold difG; omega
        have HD2 : Hid (difG z y2 = max z y2 - min z y2) := by show _ = _; unfold difG; omega
        have g1 := difG_ok _ _ hzb.1 hzb.2 t1.1 t1.2
        have g2 := difG_ok _ _ hzb.1 hzb.2 t2.1 t2.2
        rw [HD1.out] at g1
        rw [HD2.out] at g2
        generalize hd1 : max z y1 - min z y1 = D1 at *
        generalize hd2 : max z y2 - min z y2 = D2 at *
        have HDD1 := Lib.hid hd1
        have HDD2 := Lib.hid hd2
        clear hd1 hd2
        have HC0 := Lib.hid hc0
        have HC1 := Lib.hid hc1
        have HC2 := Lib.hid hc2
        have HN1 := Lib.hid n1
        have HN3 := Lib.hid n3
        clear hc0 hc1 hc2 n1 n3
        go_wp2
        go_loopw [4, 7] (fun S j wr => Ext w3 wr ∧ ((j = .int .i64 1 ∧ S = .int .i64 s) ∨ (j = .int .i64 3 ∧ S = .int .i64 (s + D1)) ∨ (j = .int .i64 5 ∧ S = .int .i64 (s + D1 + D2)))) (fun _ j _ => 5 - (intOf j).toNat)
        case atStart => exact ⟨Ext.refl _, .inl ⟨rfl, rfl⟩⟩
        case round =>
          obtain ⟨hX2, (⟨rfl, rfl⟩ | ⟨rfl, rfl⟩ | ⟨rfl, rfl⟩)⟩ := hrel

          · obtain ⟨⟨c0, c1, c2⟩, _⟩ := block3 ((HX1.out.trans hX2).block HP.out)
            have g0 := hX2.cell HC0.out
            have g3 := hX2.cell HN1.out
            have g4 := hX2.cell HC1.out
            have HY := Lib.hid hX2
            clear hX2
            have ew := wrapS (n := max z y1 - min z y1) (by rw [HDD1.out]; omega) (by rw [HDD1.out]; omega)
            rw [HDD1.out] at ew
            have HW := Lib.hid (wrapS (n := s + D1) (by omega) (by omega))
            go_wp2
            go_quiet (fail)
            have HY2 := Lib.hid (HY.out.trans ((Ext.refl wr).drewN nq))
            clear HY c0 c1 c2 g0 g3 g4
            generalize wr.drewN nq = wr2 at *
            go_wp2_with fail
            refine (l00MaxH_any z y1 _).mono ?_
            rintro e w' ⟨rfl, rfl⟩
            go_wp2_with fail
            refine (l00MinH_any z y1 _).mono ?_
            rintro e w' ⟨rfl, rfl⟩
            rw [← HDD1.out] at ew HW
            go_wp2
            go_roundw
            case rel => exact ⟨HY2.out, .inr (.inl ⟨rfl, by rw [HDD1.out]⟩)⟩
            case measure => simp [intOf]
          · obtain ⟨⟨c0, c1, c2⟩, _⟩ := block3 ((HX1.out.trans hX2).block HP.out)
            have g0 := hX2.cell HC0.out
            have g3 := hX2.cell HN3.out
            have g4 := hX2.cell HC2.out
            have HY := Lib.hid hX2
            clear hX2
            have ew := wrapS (n := max z y2 - min z y2) (by rw [HDD2.out]; omega) (by rw [HDD2.out]; omega)
            rw [HDD2.out] at ew
            have HW := Lib.hid (wrapS (n := s + D1 + D2) (by omega) (by omega))
            go_wp2
            go_quiet (fail)
            have HY2 := Lib.hid (HY.out.trans ((Ext.refl wr).drewN nq))
            clear HY c0 c1 c2 g0 g3 g4
            generalize wr.drewN nq = wr2 at *
            go_wp2_with fail
            refine (l00MaxH_any z y2 _).mono ?_
            rintro e w' ⟨rfl, rfl⟩
            go_wp2_with fail
            refine (l00MinH_any z y2 _).mono ?_
            rintro e w' ⟨rfl, rfl⟩
            rw [← HDD2.out] at ew HW
            go_wp2
            go_roundw
            case rel => exact ⟨HY2.out, .inr (.inr ⟨rfl, by rw [HDD2.out]⟩)⟩
            case measure => simp [intOf]
          · have HY := Lib.hid hX2
            clear hX2
            have HW := Lib.hid (show s + D1 + D2 = s + (D1 + D2) by omega)
            go_wp2
            go_roundw
            case rel => exact ⟨k + 1, by omega, by go_num, by rw [HS.out, HD1.out, HD2.out, HW.out], HX1.out.trans HY.out⟩
            case measure => simp [intOf]; omega
      · obtain rfl : k = n := by omega
        have HPN : Hid (pairN difG Wn Hn zs = pairS difG Wn Hn zs k) := by show _ = _; unfold pairN; simp only [Int.toNat_natCast]; rw [← HN.out]
        go_wp2
        go_ret2
        exact ⟨by rw [pairR_yes HV.out, HV.out, HPN.out]; rfl, HE.out.trans HX.out⟩
end Go.Proofs.Ytdggpkgbncmlbaa
