/-
  Contracts on fields: the statements' own copies, comparisons and marks; and which fields are valid, by the reference and by the program.
-/
import Derived.Test.YtaakkdcpkllgoaaFlts
import Derived.Test.YtaakkdcpkllgoaaNum
namespace Go.Proofs.Ytaakkdcpkllgoaa
open Go.RowKit
set_option linter.unusedVariables false
set_option linter.unusedSimpArgs false
set_option linter.unnecessarySimpa false

def szF (W H : Int) : Bool := inB W 1 16 && inB H 1 16
theorem szF_iff {W H : Int} : szF W H = true ↔ (1 ≤ W ∧ W ≤ 16) ∧ 1 ≤ H ∧ H ≤ 16 := by simp [szF, inB_iff]
def lenF (n : Nat) (W H : Int) : Bool := ((n : Int) == W * H)
def vldF (W H : Int) (n : Nat) : Bool := szF W H && lenF n W H
theorem vldF_iff {W H : Int} {n : Nat} : vldF W H n = true ↔ szF W H = true ∧ (n : Int) = W * H := by
  simp [vldF, lenF, and_assoc]
theorem mulF_bd {W H : Int} (a : 1 ≤ W) (b : W ≤ 16) (c : 1 ≤ H) (d : H ≤ 16) : 1 ≤ W * H ∧ W * H ≤ 256 := by
  constructor
  · have := Int.mul_le_mul a c (by omega) (by omega); omega
  · have := Int.mul_le_mul b d (by omega) (by omega); omega
theorem vldF_facts {W H : Int} {n : Nat} (h : vldF W H n = true) : ∃ Wn Hn : Nat, W = (Wn : Int) ∧ H = (Hn : Int) ∧ 1 ≤ Wn ∧ Wn ≤ 16 ∧ 1 ≤ Hn ∧ Hn ≤ 16 ∧ n = Hn * Wn ∧ n ≤ 256 := by
  obtain ⟨hs, hl⟩ := vldF_iff.1 h
  obtain ⟨⟨h1, h2⟩, h3, h4⟩ := szF_iff.1 hs
  obtain ⟨hm1, hm2⟩ := mulF_bd h1 h2 h3 h4
  refine ⟨W.toNat, H.toNat, by omega, by omega, by omega, by omega, by omega, by omega, ?_, by omega⟩
  have e1 : ((W.toNat : Nat) : Int) = W := by omega
  have e2 : ((H.toNat : Nat) : Int) = H := by omega
  have : (n : Int) = ((H.toNat * W.toNat : Nat) : Int) := by rw [hl, Int.natCast_mul, e1, e2, Int.mul_comm]
  exact_mod_cast this
theorem block4 {w : World} {b : Nat} {v0 v1 v2 v3 : Value} {T : TypeId} (h : w.heap[b]? = some (.cells #[v0, v1, v2, v3] T (0, 0))) :
    (w.cell? ⟨b, 0, none⟩ = some v0 ∧ w.cell? ⟨b, 1, none⟩ = some v1 ∧ w.cell? ⟨b, 2, none⟩ = some v2 ∧ w.cell? ⟨b, 3, none⟩ = some v3) ∧ w.frozen? ⟨b, 0, none⟩ = false ∧ w.frozen? ⟨b, 1, none⟩ = false ∧ w.frozen? ⟨b, 2, none⟩ = false ∧ w.frozen? ⟨b, 3, none⟩ = false :=
  ⟨⟨block_cell h 0, block_cell h 1, block_cell h 2, block_cell h 3⟩, block_free h 0, block_free h 1, block_free h 2, block_free h 3⟩

/-- Heights compare equal if they are. -/
theorem eqField_any (W H W' H' : Int) (R R' : Bool) (a a' : Option Addr) (n c n' c' : Nat) (zs zs' : List Nat) (hz : zs.length = n) (hz' : zs'.length = n') (hn : n ≤ 1152921504606846976) (hn' : n' ≤ 1152921504606846976) (hW : W = W') (hH : H = H') (hR : R = R') (hzz : fas zs = fas zs') (w : World) (hA : VArr w a (flts zs)) (hA' : VArr w a' (flts zs')) :
    Calls Try.prog 46 #[.agg #[.int .i64 W, .int .i64 H, .bool R, .slice a n c], .agg #[.int .i64 W', .int .i64 H', .bool R', .slice a' n' c']] w fun e w' => e = .returned (.bool true) ∧ Ext w w' := by
  subst hW hH hR
  have hX0 : Ext w ((w.alloc (.cells #[.int .i64 W, .int .i64 H, .bool R, .slice a n c] 55)).alloc (.cells #[.int .i64 W, .int .i64 H, .bool R, .slice a' n' c'] 55)) := ((Ext.refl w).alloc _).alloc _
  have hA1 := hA.ext hX0
  have hA1' := hA'.ext hX0
  have HX := Lib.hid hX0
  clear hX0
  go_enter Try.func46, Try.ntmps46
  go_wp2_with (go_at_call 88; refine (eqFloat32S_any a a' n c n' c' zs zs' hz hz' hn hn' hzz _ hA1 hA1').mono ?_; rintro e w' ⟨rfl, hw⟩)
  go_ret
  exact ⟨rfl, HX.out.trans (by assumption)⟩

theorem markField_any (W H : Int) (R : Bool) (a : Option Addr) (n c base : Nat) (zs : List Nat) (k0 : Int) (h0 : 0 ≤ k0) (hk0 : k0 ≤ 16777216) (hn : n ≤ 1048576) (w : World) (hO : w.ownsRow base 84 1 (.slice a n c) n (flts zs)) :
    Calls Try.prog 47 #[.agg #[.int .i64 W, .int .i64 H, .bool R, .slice a n c], .int .i64 k0] w fun e w' => e = .returned (.int .i64 (k0 + n)) ∧ w.grownBy w' (Value.slice a n c).ownBlock ∧
      w'.ownsRow base 84 1 (.slice a n c) n (flts (markF k0 n)) := by
  have HG := Lib.hid (World.grownBy_alloc w (.cells #[.int .i64 W, .int .i64 H, .bool R, .slice a n c] 55) (Value.slice a n c).ownBlock)
  have hO1 := hO.alloc (.cells #[.int .i64 W, .int .i64 H, .bool R, .slice a n c] 55)
  go_enter Try.func47, Try.ntmps47
  go_wp2_with (go_at_call 89; refine (markFloat32S_any a n c base zs k0 h0 hk0 hn _ hO1).mono ?_; rintro e w' ⟨rfl, hg, ho⟩)
  go_ret
  exact ⟨rfl, grownBy_trans HG.out (by assumption), by assumption⟩

theorem heldField_any (W H : Int) (R : Bool) (a : Option Addr) (n c : Nat) (k0 : Int) (h0 : 0 ≤ k0) (hk0 : k0 ≤ 16777216) (hn : n ≤ 1048576) (w : World) (hA : VArr w a (flts (markF k0 n))) :
    Calls Try.prog 48 #[.agg #[.int .i64 W, .int .i64 H, .bool R, .slice a n c], .int .i64 k0] w fun e w' => e = .returned (.int .i64 (k0 + n)) ∧ Ext w w' := by
  have hX : Ext w (w.alloc (.cells #[.int .i64 W, .int .i64 H, .bool R, .slice a n c] 55)) := (Ext.refl w).alloc _
  have hA1 := hA.ext hX
  have HX := Lib.hid hX
  clear hX
  go_enter Try.func48, Try.ntmps48
  go_wp2_with (go_at_call 90; refine (heldFloat32S_any a n c k0 h0 hk0 hn _ hA1).mono ?_; rintro e w' ⟨rfl, hw⟩)
  go_ret
  exact ⟨rfl, HX.out.trans (by assumption)⟩

theorem VArr.twoF {w : World} {b : Nat} {x y : Int} {T : TypeId} (h : w.heap[b]? = some (.cells #[.int .i64 x, .int .i64 y] T (0, 0))) : VArr w (some ⟨b, 0, none⟩) (ints [x, y]) := by
  intro i v hv
  refine ⟨b, 0, rfl, ?_⟩
  rw [Nat.zero_add, block_cell h i]
  match i with
  | 0 => simpa [ints] using hv
  | 1 => simpa [ints] using hv
  | i + 2 => simp [ints] at hv

/-! ### Which fields are valid -/
theorem l02SizeF_any (W H : Int) (w : World) : Calls Try.prog 54 #[.int .i64 W, .int .i64 H] w fun e w' => e = .returned (.bool (szF W H)) ∧ w = w' := by
  cases h1 : inB W 1 16 with
  | true =>
    have e0 : szF W H = inB H 1 16 := by simp [szF, h1]
    go_enter Try.func54, Try.ntmps54
    go_wp2_with (go_at_call 61; refine (l00In_any _ _ _ _).mono ?_; rintro e w' ⟨rfl, rfl⟩)
    go_ret
    exact ⟨by simp [szF, h1], rfl⟩
  | false =>
    have e0 : szF W H = false := by simp [szF, h1]
    go_enter Try.func54, Try.ntmps54
    go_wp2_with (go_at_call 61; refine (l00In_any _ _ _ _).mono ?_; rintro e w' ⟨rfl, rfl⟩)
    go_ret
    exact ⟨by simp [szF, h1], rfl⟩

theorem l02SizeF_b (W H : Int) (b : Bool) (hb : szF W H = b) (w : World) : Calls Try.prog 54 #[.int .i64 W, .int .i64 H] w fun e w' => e = .returned (.bool b) ∧ w' = w :=
  (l02SizeF_any W H w).mono fun _ _ h => ⟨by rw [h.1, hb], h.2.symm⟩

/-- The cells of a field behind a pointer. -/
def FldAt (w : World) (p : Nat) (W H : Int) (R : Bool) (a : Option Addr) (n c : Nat) : Prop :=
  w.cell? ⟨p, 0, none⟩ = some (.int .i64 W) ∧ w.cell? ⟨p, 1, none⟩ = some (.int .i64 H) ∧ w.cell? ⟨p, 2, none⟩ = some (.bool R) ∧ w.cell? ⟨p, 3, none⟩ = some (.slice a n c)
theorem FldAt.ext {w w' : World} {p : Nat} {W H : Int} {R : Bool} {a : Option Addr} {n c : Nat} (h : FldAt w p W H R a n c) (e : Ext w w') : FldAt w' p W H R a n c := ⟨e.cell h.1, e.cell h.2.1, e.cell h.2.2.1, e.cell h.2.2.2⟩
theorem FldAt.box {w : World} {p : Nat} {W H : Int} {R : Bool} {a : Option Addr} {n c : Nat} {T : TypeId} (h : w.heap[p]? = some (.cells #[.int .i64 W, .int .i64 H, .bool R, .slice a n c] T (0, 0))) : FldAt w p W H R a n c := (block4 h).1

end Go.Proofs.Ytaakkdcpkllgoaa
