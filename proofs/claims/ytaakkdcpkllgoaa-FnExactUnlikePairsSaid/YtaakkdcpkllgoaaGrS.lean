/-
  UnlikePairs, by the program and by the reference.
-/
import Derived.Test.YtaakkdcpkllgoaaGrR
namespace Go.Proofs.Ytaakkdcpkllgoaa
open Go.RowKit
set_option linter.unusedVariables false
set_option linter.unusedSimpArgs false
set_option linter.unnecessarySimpa false

/-- The sum over the first cells. -/
def prS (Wn : Nat) (H : Int) (zs : List Int) : Nat → Int
  | 0 => 0
  | k + 1 => prS Wn H zs k + unlN Wn H zs ((k % Wn : Nat) : Int) ((k / Wn : Nat) : Int) (zs[k]?.getD 0)
theorem prS_bd (Wn : Nat) (H : Int) (zs : List Int) : ∀ k : Nat, 0 ≤ prS Wn H zs k ∧ prS Wn H zs k ≤ 8 * k
  | 0 => by simp [prS]
  | k + 1 => by
    have h1 := prS_bd Wn H zs k
    have h2 := unlN_bd Wn H zs ((k % Wn : Nat) : Int) ((k / Wn : Nat) : Int) (zs[k]?.getD 0)
    unfold prS
    omega
def prN (W H : Int) (zs : List Int) : Int := (prS W.toNat H zs (H.toNat * W.toNat)) / 2
def prR (W H : Int) (zs : List Int) : Int := if vldG W H zs then prN W H zs else 0
theorem prR_no {W H : Int} {zs : List Int} (h : vldG W H zs = false) : prR W H zs = 0 := by simp [prR, h]
theorem prR_yes {W H : Int} {zs : List Int} (h : vldG W H zs = true) : prR W H zs = prN W H zs := by simp [prR, h]

set_option maxRecDepth 100000 in
set_option maxHeartbeats 1000000 in
theorem l04Pairs_any (p : Nat) (W H : Int) (b o n c : Nat) (zs : List Int) (hz : zs.length = n) (hv : vldG W H zs = true) (w : World) (hp : GrsAt w p W H (some ⟨b, o, none⟩) n c) (hA : VArr w (some ⟨b, o, none⟩) (ints zs)) :
    Calls Try.prog 82 #[.pointer (some ⟨p, 0, none⟩)] w fun e w' => e = .returned (.int .i64 (prN W H zs)) ∧ Ext w w' := by
  obtain ⟨hW, hH, hnn, ⟨hn1, hn2⟩, _⟩ := vld_facts hv hz
  obtain ⟨Wn, rfl⟩ := Int.eq_ofNat_of_zero_le (show 0 ≤ W by omega)
  obtain ⟨Hn, rfl⟩ := Int.eq_ofNat_of_zero_le (show 0 ≤ H by omega)
  have hM : (Wn : Int) * Hn = n := hnn.symm
  have hnn' : n = Hn * Wn := by
    have : ((Hn * Wn : Nat) : Int) = Wn * Hn := by rw [Int.natCast_mul, Int.mul_comm]
    omega
  have HNN := Lib.hid hnn'
  have HZ := Lib.hid hz
  have HV := Lib.hid hv
  have HP := Lib.hid hp
  have HA := Lib.hid hA
  clear hnn hnn' hz hv hp hA
  go_enter Try.func82, Try.ntmps82
  go_wp2
  go_loopw [3, 4] (fun s i wr => ∃ k : Nat, k ≤ n ∧ i = .int .i64 k ∧ s = .int .i64 (prS Wn Hn zs k) ∧ Ext w wr) (fun _ i _ => n - (intOf i).toNat)
  case atStart => exact ⟨0, Nat.zero_le _, rfl, rfl, Ext.refl _⟩
  case round =>
    obtain ⟨k, hk, rfl, rfl, hX⟩ := hrel
    have HX := Lib.hid hX
    obtain ⟨c0, c1, c2⟩ := HP.out.ext hX
    clear hX
    by_cases hlt : k < n
    · go_wp2
      go_quiet (fail)
      have HX2 := Lib.hid (HX.out.trans ((Ext.refl wr).drewN nq))
      clear HX c0 c1 c2
      go_wp2_with fail
      generalize wr.drewN nq = wr2 at *
      have hu2 : k % Wn < Wn := Nat.mod_lt _ (by omega)
      have hv2 : k / Wn < Hn := Nat.div_lt_of_lt_mul (by rw [Nat.mul_comm]; have := HNN.out; omega)
      have hbd := prS_bd Wn Hn zs k
      have HS : Hid (prS Wn Hn zs (k + 1) = prS Wn Hn zs k + unlN Wn Hn zs ((k % Wn : Nat) : Int) ((k / Wn : Nat) : Int) (zs[k]?.getD 0)) := by show _ = _; rfl
      have hub := unlN_bd Wn Hn zs ((k % Wn : Nat) : Int) ((k / Wn : Nat) : Int) (zs[k]?.getD 0)
      have hca := (HA.out.ext HX2.out).ofInts k (by rw [HZ.out]; exact hlt)
      rw [List.getD_eq_getElem?_getD] at hca
      have hu := tmod_nat k Wn
      have hv := tdiv_nat k Wn
      have hne : ¬ Wn = 0 := by omega
      generalize prS Wn Hn zs k = s at *
      generalize zs[k]?.getD 0 = z at *
      generalize k % Wn = u at *
      generalize k / Wn = v at *
      refine region_grow (C := Ext wr2) (K := fun _ _ V _ => V = .int .i64 (unlN Wn Hn zs u v z)) ⟨fun _ _ h k => h.trans k, fun _ _ _ _ _ h _ => h⟩ (by kernel_rfl) (by kernel_rfl) ((Ext.refl wr2).drew) ?_
      iterate 21 (refine grow_q rfl ?_; apply Exists.intro; refine ⟨fun u' hu' _ => ?_, ?_⟩; focus (obtain ⟨c0, c1, c2⟩ := HP.out.ext (HX2.out.trans hu'); have g0 := hu'.cell hca; go_simp; rfl))
      refine grow_c1 80 rfl ⟨#[.pointer (some ⟨p, 0, none⟩), .int .i64 u, .int .i64 v, .int .i64 z], fun u' => ?_, _, fun u' hu' _ => l04Unlike_any p Wn Hn u v z b o n c zs HZ.out HV.out ⟨by omega, by omega⟩ ⟨by omega, by omega⟩ u' (HP.out.ext (HX2.out.trans hu')) (HA.out.ext (HX2.out.trans hu')), fun V u h => h, fun u => rfl, ?_⟩
      · go_simp
        all_goals (first | done | ((have hvw := wrapS (n := (v : Int)) (by omega) (by omega)); ((try simp only [hu, hv, hvw]) <;> ((repeat' apply And.intro) <;> first | rfl | exact wrapS (by omega) (by omega)))))
      iterate 2 (refine grow_q rfl ?_; apply Exists.intro; refine ⟨fun u' hu' _ => ?_, ?_⟩; focus (go_simp; rfl))
      refine grow_nil (fun w4 hw4 _ => ?_)
      have HX4 := Lib.hid (HX2.out.trans hw4)
      clear hw4 hca HX2
      go_simp
      go_wp2
      go_roundw
      case rel => exact ⟨k + 1, by omega, by go_num, by rw [HS.out, wrapS (by omega) (by omega)], HX4.out⟩
      case measure => simp [intOf]; omega
    · obtain rfl : k = n := by omega
      have e9 : decide ((k : Int) < (Wn : Int) * (Hn : Int)) = false := by rw [hM]; simp
      have hbd := prS_bd Wn Hn zs k
      have HS : Hid (prN Wn Hn zs = prS Wn Hn zs k / 2) := by show _ = _; unfold prN; simp only [Int.toNat_natCast]; rw [← HNN.out]
      generalize prS Wn Hn zs k = s at *
      go_wp2
      go_quiet (fail)
      have HX2 := Lib.hid (HX.out.trans ((Ext.refl wr).drewN nq))
      clear HX c0 c1 c2
      generalize wr.drewN nq = wr2 at *
      go_wp2
      go_ret
      exact ⟨by rw [HS.out]; rfl, HX2.out⟩

set_option maxRecDepth 100000 in
theorem specPairs_any (W H : Int) (a : Option Addr) (n c : Nat) (zs : List Int) (hz : zs.length = n) (hn : n ≤ 1048576) (w : World) (hA : VArr w a (ints zs)) :
    Calls Try.prog 38 #[.agg #[.int .i64 W, .int .i64 H, .slice a n c]] w fun e w' => e = .returned (.tuple #[.int .i64 (prR W H zs), .bool (vldG W H zs)]) ∧ Ext w w' := by
  have hX := (Ext.refl w).alloc (.cells #[.int .i64 W, .int .i64 H, .slice a n c] 24)
  have b0 := heap_new w (.cells #[.int .i64 W, .int .i64 H, .slice a n c] 24)
  have hA1 := hA.ext hX
  go_enter Try.func38, Try.ntmps38
  go_wp2_with fail
  refine (l04Is_any _ W H a n c zs hz (by omega) _ (block3 b0).1 hA1).mono ?_
  generalize w.alloc (.cells #[.int .i64 W, .int .i64 H, .slice a n c] 24) = w0 at *
  generalize w.heap.size = p at *
  rintro e w1 ⟨rfl, hX1⟩
  cases hv : vldG W H zs with
  | false =>
    have HV := Lib.hid hv
    have HE := Lib.hid (hX.trans hX1)
    clear hX hX1 b0 hA hA1 hv
    go_wp2
    go_ret2
    exact ⟨by rw [prR_no HV.out, HV.out]; rfl, HE.out⟩
  | true =>
    have HV := Lib.hid hv
    have HE := Lib.hid (hX.trans hX1)
    have HZ := Lib.hid hz
    have hn1 : 0 < n := by have := (vld_facts hv hz).2.2.2.1.1; omega
    obtain ⟨b, o, rfl⟩ := hA.starts (i := 0) (by simp; omega)
    have hp : GrsAt w1 p W H (some ⟨b, o, none⟩) n c := (block3 (hX1.block b0)).1
    have hA2 := hA1.ext hX1
    clear hX hX1 b0 hA hA1 hv hz
    go_wp2_with fail
    refine (l04Pairs_any p W H b o n c zs HZ.out HV.out _ hp hA2).mono ?_
    rintro e w2 ⟨rfl, hX2⟩
    clear hp hA2
    go_wp2
    go_ret2
    exact ⟨by rw [prR_yes HV.out, HV.out]; rfl, HE.out.trans hX2⟩

set_option maxRecDepth 100000 in
set_option maxHeartbeats 1000000 in
theorem implPairs_any (W H : Int) (a : Option Addr) (n c : Nat) (zs : List Int) (hz : zs.length = n) (hn : n ≤ 1048576) (w : World) (hA : VArr w a (ints zs)) :
    Calls Try.prog 39 #[.agg #[.int .i64 W, .int .i64 H, .slice a n c]] w fun e w' => e = .returned (.tuple #[.int .i64 (prR W H zs), .bool (vldG W H zs)]) ∧ Ext w w' := by
  have hX := (Ext.refl w).alloc (.cells #[.int .i64 W, .int .i64 H, .slice a n c] 24)
  have b0 := heap_new w (.cells #[.int .i64 W, .int .i64 H, .slice a n c] 24)
  have hA1 := hA.ext hX
  go_enter Try.func39, Try.ntmps39
  go_wp2_with fail
  refine (implValid_any W H a n c zs hz (by omega) _ hA1).mono ?_
  generalize w.alloc (.cells #[.int .i64 W, .int .i64 H, .slice a n c] 24) = w0 at *
  generalize w.heap.size = p at *
  rintro e w1 ⟨rfl, hX1⟩
  cases hv : vldG W H zs with
  | false =>
    have HV := Lib.hid hv
    have HE := Lib.hid (hX.trans hX1)
    clear hX hX1 b0 hA hA1 hv
    go_wp2
    go_ret2
    exact ⟨by rw [prR_no HV.out, HV.out]; rfl, HE.out⟩
  | true =>
    obtain ⟨hW, hH, hnn, ⟨hn1, hn2⟩, _⟩ := vld_facts hv hz
    obtain ⟨Wn, rfl⟩ := Int.eq_ofNat_of_zero_le (show 0 ≤ W by omega)
    obtain ⟨Hn, rfl⟩ := Int.eq_ofNat_of_zero_le (show 0 ≤ H by omega)
    have hnn' : n = Hn * Wn := by
      have : ((Hn * Wn : Nat) : Int) = Wn * Hn := by rw [Int.natCast_mul, Int.mul_comm]
      omega
    have HNN := Lib.hid hnn'
    have HV := Lib.hid hv
    have HE := Lib.hid (hX.trans hX1)
    have HZ := Lib.hid hz
    have HB := Lib.hid (hX1.block b0)
    obtain ⟨b, o, rfl⟩ := hA.starts (i := 0) (by simp; omega)
    have HA := Lib.hid (hA1.ext hX1)
    obtain ⟨⟨c0, c1, c2⟩, _⟩ := block3 HB.out
    clear hX hX1 b0 hA hA1 hv hz hnn hnn'
    go_wp2
    clear c0 c1 c2
    go_loopw [4, 13] (fun s i wr => ∃ k : Nat, k ≤ n ∧ i = .int .i64 k ∧ s = .int .i64 (prS Wn Hn zs k) ∧ Ext w1 wr) (fun _ i _ => n - (intOf i).toNat)
    case atStart => exact ⟨0, Nat.zero_le _, rfl, rfl, Ext.refl _⟩
    case round =>
      obtain ⟨k, hk, rfl, rfl, hX⟩ := hrel
      have HX := Lib.hid hX
      clear hX
      by_cases hlt : k < n
      · have hu2 : k % Wn < Wn := Nat.mod_lt _ (by omega)
        have hv2 : k / Wn < Hn := Nat.div_lt_of_lt_mul (by rw [Nat.mul_comm]; have := HNN.out; omega)
        have hbd := prS_bd Wn Hn zs k
        have HS : Hid (prS Wn Hn zs (k + 1) = prS Wn Hn zs k + unlN Wn Hn zs ((k % Wn : Nat) : Int) ((k / Wn : Nat) : Int) (zs[k]?.getD 0)) := by show _ = _; rfl
        have hub := unlN_bd Wn Hn zs ((k % Wn : Nat) : Int) ((k / Wn : Nat) : Int) (zs[k]?.getD 0)
        have hca := (HA.out.ext HX.out).ofInts k (by rw [HZ.out]; exact hlt)
        rw [List.getD_eq_getElem?_getD] at hca
        have hu := tmod_nat k Wn
        have hv := tdiv_nat k Wn
        have hne : ¬ Wn = 0 := by omega
        generalize prS Wn Hn zs k = s at *
        generalize zs[k]?.getD 0 = z at *
        generalize k % Wn = u at *
        generalize k / Wn = v at *
        go_wp2_with fail
        refine region_grow (C := Ext wr) (K := fun _ _ V _ => V = .int .i64 (unlN Wn Hn zs u v z)) ⟨fun _ _ h k => h.trans k, fun _ _ _ _ _ h _ => h⟩ (by kernel_rfl) (by kernel_rfl) ((Ext.refl wr).drew) ?_
        iterate 11 (refine grow_q rfl ?_; apply Exists.intro; refine ⟨fun u' hu' _ => ?_, ?_⟩; focus (obtain ⟨⟨c0, c1, c2⟩, _⟩ := block3 ((HX.out.trans hu').block HB.out); go_simp; rfl))
        refine grow_c1 81 rfl ⟨#[.agg #[.int .i64 Wn, .int .i64 Hn, .slice (some ⟨b, o, none⟩) n c], .int .i64 u, .int .i64 v, .int .i64 z], fun u' => ?_, _, fun u' hu' _ => unlike_any Wn Hn u v z b o n c zs HZ.out HV.out ⟨by omega, by omega⟩ ⟨by omega, by omega⟩ u' (HA.out.ext (HX.out.trans hu')), fun V u h => h, fun u => rfl, ?_⟩
        · go_simp
          all_goals (first | done | ((have hvw := wrapS (n := (v : Int)) (by omega) (by omega)); ((try simp only [hu, hv, hvw]) <;> ((repeat' apply And.intro) <;> first | rfl | exact wrapS (by omega) (by omega)))))
        iterate 2 (refine grow_q rfl ?_; apply Exists.intro; refine ⟨fun u' hu' _ => ?_, ?_⟩; focus (go_simp; rfl))
        refine grow_nil (fun w4 hw4 _ => ?_)
        have HX4 := Lib.hid (HX.out.trans hw4)
        clear hw4 hca HX
        go_simp
        go_wp2
        go_roundw
        case rel => exact ⟨k + 1, by omega, by go_num, by rw [HS.out, wrapS (by omega) (by omega)], HX4.out⟩
        case measure => simp [intOf]; omega
      · obtain rfl : k = n := by omega
        have hbd := prS_bd Wn Hn zs k
        have HS : Hid (prN Wn Hn zs = prS Wn Hn zs k / 2) := by show _ = _; unfold prN; simp only [Int.toNat_natCast]; rw [← HNN.out]
        generalize prS Wn Hn zs k = s at *
        go_wp2
        go_ret2
        exact ⟨by rw [prR_yes HV.out, HV.out, HS.out]; rfl, HE.out.trans HX.out⟩
end Go.Proofs.Ytaakkdcpkllgoaa
