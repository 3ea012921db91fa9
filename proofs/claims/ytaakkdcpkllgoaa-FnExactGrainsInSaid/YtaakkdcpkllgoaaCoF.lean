/-
  The neighbours of a cell of grains by the reference.
-/
import Derived.Test.YtaakkdcpkllgoaaCoE
namespace Go.Proofs.Ytaakkdcpkllgoaa
open Go.RowKit
set_option linter.unusedVariables false
set_option linter.unusedSimpArgs false
set_option linter.unnecessarySimpa false

set_option maxRecDepth 100000 in
set_option maxHeartbeats 2000000 in
theorem l04Beside_any (p Wn Hn i : Nat) (a : Option Addr) (n c : Nat) (hW : 1 ≤ Wn ∧ Wn ≤ 16) (hH : 1 ≤ Hn ∧ Hn ≤ 16) (hi : i < Hn * Wn) (w : World) (hp : GrsAt w p Wn Hn a n c) :
    Calls Try.prog 92 #[.pointer (some ⟨p, 0, none⟩), .int .i64 i] w fun e w' => ∃ g c, e = .returned (.slice (some ⟨g, 0, none⟩) 4 c) ∧ Ext w w' ∧ w'.ownsRow w.heap.size 2 1 (.slice (some ⟨g, 0, none⟩) 4 c) 4 (ints (nbL Wn Hn true i)) := by
  have hu2 : i % Wn < Wn := Nat.mod_lt _ (by omega)
  have hv2 : i / Wn < Hn := Nat.div_lt_of_lt_mul (by rw [Nat.mul_comm]; omega)
  have hu := tmod_nat i Wn
  have hv := tdiv_nat i Wn
  have hN : nbL Wn Hn true i = [((i % Wn : Nat) - 1 : Int) % Wn + Wn * (i / Wn : Nat), ((i % Wn : Nat) + 1 : Int) % Wn + Wn * (i / Wn : Nat), (i % Wn : Nat) + Wn * (((i / Wn : Nat) - 1 : Int) % Hn), (i % Wn : Nat) + Wn * (((i / Wn : Nat) + 1 : Int) % Hn)] := by
    have e1 : ((i % Wn : Nat) : Int) % (Wn : Int) = (i % Wn : Nat) := Int.emod_eq_of_lt (Int.natCast_nonneg _) (by exact_mod_cast hu2)
    have e2 : ((i / Wn : Nat) : Int) % (Hn : Int) = (i / Wn : Nat) := Int.emod_eq_of_lt (Int.natCast_nonneg _) (by exact_mod_cast hv2)
    simp only [nbL, cellR, placeR, if_true, e1, e2]
  rw [hN]
  have HP := Lib.hid hp
  obtain ⟨p0, p1, p2⟩ := hp
  have hne : ¬ Wn = 0 := by omega
  generalize i % Wn = x at *
  generalize i / Wn = y at *
  have m1 : 0 ≤ (Wn : Int) * (y : Int) ∧ (Wn : Int) * (y : Int) ≤ 256 := by
    have := Nat.mul_le_mul hW.2 (show y ≤ 16 by omega)
    constructor
    · exact_mod_cast Nat.zero_le _
    · exact_mod_cast this
  have a1 := Int.emod_nonneg ((x : Int) - 1) (b := (Wn : Int)) (by omega)
  have a2 := Int.emod_lt_of_pos ((x : Int) - 1) (b := (Wn : Int)) (by omega)
  have a3 := Int.emod_nonneg ((x : Int) + 1) (b := (Wn : Int)) (by omega)
  have a4 := Int.emod_lt_of_pos ((x : Int) + 1) (b := (Wn : Int)) (by omega)
  have b1 := Int.emod_nonneg ((y : Int) - 1) (b := (Hn : Int)) (by omega)
  have b2 := Int.emod_lt_of_pos ((y : Int) - 1) (b := (Hn : Int)) (by omega)
  have b3 := Int.emod_nonneg ((y : Int) + 1) (b := (Hn : Int)) (by omega)
  have b4 := Int.emod_lt_of_pos ((y : Int) + 1) (b := (Hn : Int)) (by omega)
  have m2 : 0 ≤ (Wn : Int) * (((y : Int) - 1) % (Hn : Int)) ∧ (Wn : Int) * (((y : Int) - 1) % (Hn : Int)) ≤ 256 := by
    obtain ⟨k, hk⟩ := Int.eq_ofNat_of_zero_le b1
    rw [hk] at b2 ⊢
    have := Nat.mul_le_mul hW.2 (show k ≤ 16 by omega)
    constructor
    · exact_mod_cast Nat.zero_le _
    · exact_mod_cast this
  have m3 : 0 ≤ (Wn : Int) * (((y : Int) + 1) % (Hn : Int)) ∧ (Wn : Int) * (((y : Int) + 1) % (Hn : Int)) ≤ 256 := by
    obtain ⟨k, hk⟩ := Int.eq_ofNat_of_zero_le b3
    rw [hk] at b4 ⊢
    have := Nat.mul_le_mul hW.2 (show k ≤ 16 by omega)
    constructor
    · exact_mod_cast Nat.zero_le _
    · exact_mod_cast this
  clear hN hi
  go_enter Try.func92, Try.ntmps92
  go_wp2
  go_quiet ((go_at_call 98; exact Calls.quiet_of_same ((l02Place_true _ _ (by omega) (by omega) _).mono fun _ _ h => ⟨h.1, h.2.symm⟩)))
  have hw1 := (Ext.refl w).drewN nq
  generalize w.drewN nq = w1 at *
  clear p0 p1 p2
  obtain ⟨p0, p1, p2⟩ := HP.out.ext hw1
  go_wp2
  go_quiet ((go_at_call 98; exact Calls.quiet_of_same ((l02Place_true _ _ (by omega) (by omega) _).mono fun _ _ h => ⟨h.1, h.2.symm⟩)))
  have hw2 := hw1.trans ((Ext.refl w1).drewN nq)
  generalize w1.drewN nq = w2 at *
  clear p0 p1 p2 hw1
  go_wp2_with fail
  refine region_grow (C := Ext w2) (K := fun _ args V _ => ∀ t : Int, args = #[.int .i64 t, .int .i64 Hn, .bool true] → V = .int .i64 (t % Hn)) ⟨fun _ _ h k => h.trans k, fun _ _ _ _ _ h _ => h⟩ (by kernel_rfl) (by kernel_rfl) ((Ext.refl w2).drew) ?_
  iterate 13 (refine grow_q rfl ?_; apply Exists.intro; refine ⟨fun u hu _ => ?_, ?_⟩; focus (obtain ⟨q0, q1, q2⟩ := HP.out.ext (hw2.trans hu); go_simp; rfl))
  refine grow_c1 98 rfl ⟨#[.int .i64 (y - 1 : Int), .int .i64 Hn, .bool true], fun u => ?_, .int .i64 ((y - 1 : Int) % Hn), fun u hu _ => (l02Place_true _ _ (by omega) (by omega) _).mono fun _ _ h => ⟨h.1, by rw [h.2]; exact Ext.refl _⟩, fun V u h => h _ rfl, fun u t h => by
    simp only [Array.mk.injEq, List.cons.injEq, Value.int.injEq, true_and, and_true] at h
    subst h
    rfl, ?_⟩
  · go_simp
    all_goals (first | done | ((repeat' apply And.intro) <;> exact wrapS (by omega) (by omega)))
  iterate 13 (refine grow_q rfl ?_; apply Exists.intro; refine ⟨fun u hu _ => ?_, ?_⟩; focus (obtain ⟨q0, q1, q2⟩ := HP.out.ext (hw2.trans hu); go_simp; rfl))
  refine grow_c1 98 rfl ⟨#[.int .i64 (y + 1 : Int), .int .i64 Hn, .bool true], fun u => ?_, .int .i64 ((y + 1 : Int) % Hn), fun u hu _ => (l02Place_true _ _ (by omega) (by omega) _).mono fun _ _ h => ⟨h.1, by rw [h.2]; exact Ext.refl _⟩, fun V u h => h _ rfl, fun u t h => by
    simp only [Array.mk.injEq, List.cons.injEq, Value.int.injEq, true_and, and_true] at h
    subst h
    rfl, ?_⟩
  · go_simp
    all_goals (first | done | ((repeat' apply And.intro) <;> exact wrapS (by omega) (by omega)))
  iterate 2 (refine grow_q rfl ?_; apply Exists.intro; refine ⟨fun u hu _ => ?_, ?_⟩; focus (go_simp; rfl))
  refine grow_newB (mk := fun b => .slice (some ⟨b, 0, none⟩) 4 4) (ob := .cells #[.int .i64 ((x - 1 : Int) % Wn + Wn * y), .int .i64 ((x + 1 : Int) % Wn + Wn * y), .int .i64 (x + Wn * ((y - 1 : Int) % Hn)), .int .i64 (x + Wn * ((y + 1 : Int) % Hn))] 2) w2.heap.size rfl (fun b b' h => by simpa using h) (fun u hu => hu.size) (fun u _ _ => ?_) (fun q hq => ?_)
  · go_simp
    have g2 := wrapS (n := (Wn : Int) * ((y - 1 : Int) % Hn)) (by omega) (by omega)
    have g3 := wrapS (n := (Wn : Int) * ((y + 1 : Int) % Hn)) (by omega) (by omega)
    simp only [g2, g3]
    have g4 := wrapS (n := (x : Int) + (Wn : Int) * ((y - 1 : Int) % Hn)) (by omega) (by omega)
    have g5 := wrapS (n := (x : Int) + (Wn : Int) * ((y + 1 : Int) % Hn)) (by omega) (by omega)
    simp only [g4, g5]
  iterate 1 (refine grow_q rfl ?_; apply Exists.intro; refine ⟨fun u hu _ => ?_, ?_⟩; focus (go_simp; rfl))
  refine grow_nil (fun w4 hw4 hh => ?_)
  obtain ⟨_, hb⟩ := hh
  have r0 := row_of_blockF (n := 4) (B := w.heap.size) (Nat.le_trans hw2.size hq) (by rfl) (by unfold maxLen; omega) hb
  have E0 := hw2.trans hw4
  clear hw2 hw4 hb hu hv
  go_simp
  go_wp2
  go_ret
  exact ⟨q, 4, rfl, E0, r0⟩
end Go.Proofs.Ytaakkdcpkllgoaa
