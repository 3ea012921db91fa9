/-
  Contracts on fields: the statements' own copies, comparisons and marks; and which fields are valid, by the reference and by the program.
-/
import Derived.Test.YtpmcjojipbiinaaFlts
import Derived.Test.YtpmcjojipbiinaaNum
namespace Go.Proofs.Ytpmcjojipbiinaa
open Go.RowKit
set_option linter.unusedVariables false
set_option linter.unusedSimpArgs false
set_option linter.unnecessarySimpa false

def szF (W H : Int) : Bool := inB W 1 16 && inB H 1 16
theorem szF_iff {W H : Int} : szF W H = true ↔ (1 ≤ W ∧ W ≤ 16) ∧ 1 ≤ H ∧ H ≤ 16 := by simp [szF, inB_iff]
def lenF (n : Nat) (W H : Int) : Bool := ((n : Int) == W * H)
def vldF (W H : Int) (n : Nat) : Bool := szF W H && lenF n W H
theorem vldF_iff {W H : Int} {n : Nat} : vldF W H n = true ↔ szF W H = true ∧ (n : Int) = W * H := by
  simp [vldF, lenF, and_assoc]
theorem mulF_bd {W H : Int} (a : 1 ≤ W) (b : W ≤ 16) (c : 1 ≤ H) (d : H ≤ 16) : 1 ≤ W * H ∧ W * H ≤ 256 := by
  constructor
  · have := Int.mul_le_mul a c (by omega) (by omega); omega
  · have := Int.mul_le_mul b d (by omega) (by omega); omega
theorem vldF_facts {W H : Int} {n : Nat} (h : vldF W H n = true) : ∃ Wn Hn : Nat, W = (Wn : Int) ∧ H = (Hn : Int) ∧ 1 ≤ Wn ∧ Wn ≤ 16 ∧ 1 ≤ Hn ∧ Hn ≤ 16 ∧ n = Hn * Wn ∧ n ≤ 256 := by
  obtain ⟨hs, hl⟩ := vldF_iff.1 h
  obtain ⟨⟨h1, h2⟩, h3, h4⟩ := szF_iff.1 hs
  obtain ⟨hm1, hm2⟩ := mulF_bd h1 h2 h3 h4
  refine ⟨W.toNat, H.toNat, by omega, by omega, by omega, by omega, by omega, by omega, ?_, by omega⟩
  have e1 : ((W.toNat : Nat) : Int) = W := by omega
  have e2 : ((H.toNat : Nat) : Int) = H := by omega
  have : (n : Int) = ((H.toNat * W.toNat : Nat) : Int) := by rw [hl, Int.natCast_mul, e1, e2, Int.mul_comm]
  exact_mod_cast this
theorem block4 {w : World} {b : Nat} {v0 v1 v2 v3 : Value} {T : TypeId} (h : w.heap[b]? = some (.cells #[v0, v1, v2, v3] T (0, 0))) :
    (w.cell? ⟨b, 0, none⟩ = some v0 ∧ w.cell? ⟨b, 1, none⟩ = some v1 ∧ w.cell? ⟨b, 2, none⟩ = some v2 ∧ w.cell? ⟨b, 3, none⟩ = some v3) ∧ w.frozen? ⟨b, 0, none⟩ = false ∧ w.frozen? ⟨b, 1, none⟩ = false ∧ w.frozen? ⟨b, 2, none⟩ = false ∧ w.frozen? ⟨b, 3, none⟩ = false :=
  ⟨⟨block_cell h 0, block_cell h 1, block_cell h 2, block_cell h 3⟩, block_free h 0, block_free h 1, block_free h 2, block_free h 3⟩

theorem VArr.twoF {w : World} {b : Nat} {x y : Int} {T : TypeId} (h : w.heap[b]? = some (.cells #[.int .i64 x, .int .i64 y] T (0, 0))) : VArr w (some ⟨b, 0, none⟩) (ints [x, y]) := by
  intro i v hv
  refine ⟨b, 0, rfl, ?_⟩
  rw [Nat.zero_add, block_cell h i]
  match i with
  | 0 => simpa [ints] using hv
  | 1 => simpa [ints] using hv
  | i + 2 => simp [ints] at hv

/-! ### Which fields are valid -/
theorem l02SizeF_any (W H : Int) (w : World) : Calls Try.prog 25 #[.int .i64 W, .int .i64 H] w fun e w' => e = .returned (.bool (szF W H)) ∧ w = w' := by
  cases h1 : inB W 1 16 with
  | true =>
    have e0 : szF W H = inB H 1 16 := by simp [szF, h1]
    go_enter Try.func25, Try.ntmps25
    go_wp2_with (go_at_call 41; refine (l00In_any _ _ _ _).mono ?_; rintro e w' ⟨rfl, rfl⟩)
    go_ret
    exact ⟨by simp [szF, h1], rfl⟩
  | false =>
    have e0 : szF W H = false := by simp [szF, h1]
    go_enter Try.func25, Try.ntmps25
    go_wp2_with (go_at_call 41; refine (l00In_any _ _ _ _).mono ?_; rintro e w' ⟨rfl, rfl⟩)
    go_ret
    exact ⟨by simp [szF, h1], rfl⟩

theorem l02SizeF_b (W H : Int) (b : Bool) (hb : szF W H = b) (w : World) : Calls Try.prog 25 #[.int .i64 W, .int .i64 H] w fun e w' => e = .returned (.bool b) ∧ w' = w :=
  (l02SizeF_any W H w).mono fun _ _ h => ⟨by rw [h.1, hb], h.2.symm⟩

/-- The cells of a field behind a pointer. -/
def FldAt (w : World) (p : Nat) (W H : Int) (R : Bool) (a : Option Addr) (n c : Nat) : Prop :=
  w.cell? ⟨p, 0, none⟩ = some (.int .i64 W) ∧ w.cell? ⟨p, 1, none⟩ = some (.int .i64 H) ∧ w.cell? ⟨p, 2, none⟩ = some (.bool R) ∧ w.cell? ⟨p, 3, none⟩ = some (.slice a n c)
theorem FldAt.ext {w w' : World} {p : Nat} {W H : Int} {R : Bool} {a : Option Addr} {n c : Nat} (h : FldAt w p W H R a n c) (e : Ext w w') : FldAt w' p W H R a n c := ⟨e.cell h.1, e.cell h.2.1, e.cell h.2.2.1, e.cell h.2.2.2⟩
theorem FldAt.box {w : World} {p : Nat} {W H : Int} {R : Bool} {a : Option Addr} {n c : Nat} {T : TypeId} (h : w.heap[p]? = some (.cells #[.int .i64 W, .int .i64 H, .bool R, .slice a n c] T (0, 0))) : FldAt w p W H R a n c := (block4 h).1

end Go.Proofs.Ytpmcjojipbiinaa
