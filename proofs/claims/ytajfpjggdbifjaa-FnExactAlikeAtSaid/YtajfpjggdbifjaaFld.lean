/-
  Contracts on fields: the statements' own copies, comparisons and marks; and which fields are valid, by the reference and by the program.
-/
import Derived.Test.YtajfpjggdbifjaaFlts
import Derived.Test.YtajfpjggdbifjaaNum
namespace Go.Proofs.Ytajfpjggdbifjaa
open Go.RowKit
set_option linter.unusedVariables false
set_option linter.unusedSimpArgs false
set_option linter.unnecessarySimpa false

def szF (W H : Int) : Bool := inB W 1 16 && inB H 1 16
theorem szF_iff {W H : Int} : szF W H = true ↔ (1 ≤ W ∧ W ≤ 16) ∧ 1 ≤ H ∧ H ≤ 16 := by simp [szF, inB_iff]
def lenF (n : Nat) (W H : Int) : Bool := ((n : Int) == W * H)
def vldF (W H : Int) (n : Nat) : Bool := szF W H && lenF n W H
theorem vldF_iff {W H : Int} {n : Nat} : vldF W H n = true ↔ szF W H = true ∧ (n : Int) = W * H := by
  simp [vldF, lenF, and_assoc]
theorem mulF_bd {W H : Int} (a : 1 ≤ W) (b : W ≤ 16) (c : 1 ≤ H) (d : H ≤ 16) : 1 ≤ W * H ∧ W * H ≤ 256 := by
  constructor
  · have := Int.mul_le_mul a c (by omega) (by omega); omega
  · have := Int.mul_le_mul b d (by omega) (by omega); omega
theorem vldF_facts {W H : Int} {n : Nat} (h : vldF W H n = true) : ∃ Wn Hn : Nat, W = (Wn : Int) ∧ H = (Hn : Int) ∧ 1 ≤ Wn ∧ Wn ≤ 16 ∧ 1 ≤ Hn ∧ Hn ≤ 16 ∧ n = Hn * Wn ∧ n ≤ 256 := by
  obtain ⟨hs, hl⟩ := vldF_iff.1 h
  obtain ⟨⟨h1, h2⟩, h3, h4⟩ := szF_iff.1 hs
  obtain ⟨hm1, hm2⟩ := mulF_bd h1 h2 h3 h4
  refine ⟨W.toNat, H.toNat, by omega, by omega, by omega, by omega, by omega, by omega, ?_, by omega⟩
  have e1 : ((W.toNat : Nat) : Int) = W := by omega
  have e2 : ((H.toNat : Nat) : Int) = H := by omega
  have : (n : Int) = ((H.toNat * W.toNat : Nat) : Int) := by rw [hl, Int.natCast_mul, e1, e2, Int.mul_comm]
  exact_mod_cast this
theorem block4 {w : World} {b : Nat} {v0 v1 v2 v3 : Value} {T : TypeId} (h : w.heap[b]? = some (.cells #[v0, v1, v2, v3] T (0, 0))) :
    (w.cell? ⟨b, 0, none⟩ = some v0 ∧ w.cell? ⟨b, 1, none⟩ = some v1 ∧ w.cell? ⟨b, 2, none⟩ = some v2 ∧ w.cell? ⟨b, 3, none⟩ = some v3) ∧ w.frozen? ⟨b, 0, none⟩ = false ∧ w.frozen? ⟨b, 1, none⟩ = false ∧ w.frozen? ⟨b, 2, none⟩ = false ∧ w.frozen? ⟨b, 3, none⟩ = false :=
  ⟨⟨block_cell h 0, block_cell h 1, block_cell h 2, block_cell h 3⟩, block_free h 0, block_free h 1, block_free h 2, block_free h 3⟩

theorem szField_any (W H : Int) (R : Bool) (a : Option Addr) (n c : Nat) (L : Int) (hn : n ≤ 9223372036854775807) (hL : L ≤ 1048576) (hL0 : 0 ≤ L) (w : World) :
    Calls Try.prog 99 #[.agg #[.int .i64 W, .int .i64 H, .bool R, .slice a n c], .int .i64 L] w fun e w' => e = .returned (.int .i64 (if L - n < 0 then -1 else L - n)) ∧ Ext w w' := by
  by_cases h : L - (n : Int) < 0
  · go_enter Try.func99, Try.ntmps99
    go_wp2_with (go_at_call 143; refine (szFloat32S_any a n c L hn hL (by omega) _).mono ?_; rw [if_pos h]; rintro e w' ⟨rfl, rfl⟩)
    go_ret
    exact ⟨rfl, (Ext.refl w).alloc _⟩
  · go_enter Try.func99, Try.ntmps99
    go_wp2_with (go_at_call 143; refine (szFloat32S_any a n c L hn hL (by omega) _).mono ?_; rw [if_neg h]; rintro e w' ⟨rfl, rfl⟩)
    go_ret
    exact ⟨rfl, (Ext.refl w).alloc _⟩

theorem toField_any (W H : Int) (R : Bool) (a : Option Addr) (n c : Nat) (zs : List Nat) (hz : zs.length = n) (hn : n ≤ 1048576) (w : World) (hA : VArr w a (flts zs)) :
    Calls Try.prog 101 #[.agg #[.int .i64 W, .int .i64 H, .bool R, .slice a n c]] w fun e w' => ∃ b, e = .returned (.agg #[.int .i64 W, .int .i64 H, .bool R, .slice (some ⟨b, 0, none⟩) n n]) ∧ Ext w w' ∧
      w'.ownsRow w.heap.size 28 1 (.slice (some ⟨b, 0, none⟩) n n) n (flts zs) := by
  go_enter Try.func101, Try.ntmps101
  go_wp2_with fail
  have hX0 : Ext w (((w.alloc (.cells #[.int .i64 W, .int .i64 H, .bool R, .slice a n c] 56)).alloc (.cells #[.int .i64 0, .int .i64 0, .bool false, .slice none 0 0] 26)).alloc (.cells #[.int .i64 W, .int .i64 H, .bool R, .slice none 0 0] 26)) :=
    (((Ext.refl w).alloc _).alloc _).alloc _
  have b1 := heap_mid2 w (.cells #[.int .i64 W, .int .i64 H, .bool R, .slice a n c] 56) (.cells #[.int .i64 0, .int .i64 0, .bool false, .slice none 0 0] 26) (.cells #[.int .i64 W, .int .i64 H, .bool R, .slice none 0 0] 26)
  have b2 := heap_new2 w (.cells #[.int .i64 W, .int .i64 H, .bool R, .slice a n c] 56) (.cells #[.int .i64 0, .int .i64 0, .bool false, .slice none 0 0] 26) (.cells #[.int .i64 W, .int .i64 H, .bool R, .slice none 0 0] 26)
  have hz0 : (((w.alloc (.cells #[.int .i64 W, .int .i64 H, .bool R, .slice a n c] 56)).alloc (.cells #[.int .i64 0, .int .i64 0, .bool false, .slice none 0 0] 26)).alloc (.cells #[.int .i64 W, .int .i64 H, .bool R, .slice none 0 0] 26)).heap.size = w.heap.size + 3 := by simp
  refine (toFloat32S_any a n c zs hz hn _ (hA.ext hX0)).mono ?_
  generalize (((w.alloc (.cells #[.int .i64 W, .int .i64 H, .bool R, .slice a n c] 56)).alloc (.cells #[.int .i64 0, .int .i64 0, .bool false, .slice none 0 0] 26)).alloc (.cells #[.int .i64 W, .int .i64 H, .bool R, .slice none 0 0] 26)) = W0 at *
  rintro e w1 ⟨rfl, hX1, hO⟩
  have HB := Lib.hid (hz0)
  rw [hz0] at hO ⊢
  obtain ⟨⟨c10, c11, c12, c13⟩, f10, f11, f12, f13⟩ := block4 (hX1.block b1)
  obtain ⟨⟨c20, c21, c22, c23⟩, f20, f21, f22, f23⟩ := block4 (hX1.block b2)
  have HO := Lib.hid hO
  have HX := Lib.hid (hX0.trans hX1)
  clear hO hX0 hX1 b1 b2 hz0 hA
  go_wp2
  refine bodyPost_ret (v := .agg #[.int .i64 W, .int .i64 H, .bool R, .slice (some ⟨w.heap.size + 3, 0, none⟩) n n]) ?_ rfl ⟨_, rfl, ?_, ?_⟩
  · simp only [results, Try.results101]
    go_simp
  · exact Below.setCell (Below.setCell (Below.setCell (Below.setCell (Below.setCell HX.out (by simp; omega) _) (by simp) _) (by simp) _) (by simp) _) (by simp) _
  · refine ownsRow_setCell_other (ownsRow_setCell_other (ownsRow_setCell_other (ownsRow_setCell_other (ownsRow_setCell_other (ownsRow_mono HO.out (by omega)) ?_ _) ?_ _) ?_ _) ?_ _) ?_ _
    all_goals simp [Value.ownBlock]

/-- Heights compare equal if they are. -/
theorem eqField_any (W H W' H' : Int) (R R' : Bool) (a a' : Option Addr) (n c n' c' : Nat) (zs zs' : List Nat) (hz : zs.length = n) (hz' : zs'.length = n') (hn : n ≤ 1152921504606846976) (hn' : n' ≤ 1152921504606846976) (hW : W = W') (hH : H = H') (hR : R = R') (hzz : fas zs = fas zs') (w : World) (hA : VArr w a (flts zs)) (hA' : VArr w a' (flts zs')) :
    Calls Try.prog 102 #[.agg #[.int .i64 W, .int .i64 H, .bool R, .slice a n c], .agg #[.int .i64 W', .int .i64 H', .bool R', .slice a' n' c']] w fun e w' => e = .returned (.bool true) ∧ Ext w w' := by
  subst hW hH hR
  have hX0 : Ext w ((w.alloc (.cells #[.int .i64 W, .int .i64 H, .bool R, .slice a n c] 26)).alloc (.cells #[.int .i64 W, .int .i64 H, .bool R, .slice a' n' c'] 26)) := ((Ext.refl w).alloc _).alloc _
  have hA1 := hA.ext hX0
  have hA1' := hA'.ext hX0
  have HX := Lib.hid hX0
  clear hX0
  go_enter Try.func102, Try.ntmps102
  go_wp2_with (go_at_call 147; refine (eqFloat32S_any a a' n c n' c' zs zs' hz hz' hn hn' hzz _ hA1 hA1').mono ?_; rintro e w' ⟨rfl, hw⟩)
  go_ret
  exact ⟨rfl, HX.out.trans (by assumption)⟩

theorem markField_any (W H : Int) (R : Bool) (a : Option Addr) (n c base : Nat) (zs : List Nat) (k0 : Int) (h0 : 0 ≤ k0) (hk0 : k0 ≤ 16777216) (hn : n ≤ 1048576) (w : World) (hO : w.ownsRow base 28 1 (.slice a n c) n (flts zs)) :
    Calls Try.prog 114 #[.agg #[.int .i64 W, .int .i64 H, .bool R, .slice a n c], .int .i64 k0] w fun e w' => e = .returned (.int .i64 (k0 + n)) ∧ w.grownBy w' (Value.slice a n c).ownBlock ∧
      w'.ownsRow base 28 1 (.slice a n c) n (flts (markF k0 n)) := by
  have HG := Lib.hid (World.grownBy_alloc w (.cells #[.int .i64 W, .int .i64 H, .bool R, .slice a n c] 26) (Value.slice a n c).ownBlock)
  have hO1 := hO.alloc (.cells #[.int .i64 W, .int .i64 H, .bool R, .slice a n c] 26)
  go_enter Try.func114, Try.ntmps114
  go_wp2_with (go_at_call 155; refine (markFloat32S_any a n c base zs k0 h0 hk0 hn _ hO1).mono ?_; rintro e w' ⟨rfl, hg, ho⟩)
  go_ret
  exact ⟨rfl, grownBy_trans HG.out (by assumption), by assumption⟩

theorem heldField_any (W H : Int) (R : Bool) (a : Option Addr) (n c : Nat) (k0 : Int) (h0 : 0 ≤ k0) (hk0 : k0 ≤ 16777216) (hn : n ≤ 1048576) (w : World) (hA : VArr w a (flts (markF k0 n))) :
    Calls Try.prog 115 #[.agg #[.int .i64 W, .int .i64 H, .bool R, .slice a n c], .int .i64 k0] w fun e w' => e = .returned (.int .i64 (k0 + n)) ∧ Ext w w' := by
  have hX : Ext w (w.alloc (.cells #[.int .i64 W, .int .i64 H, .bool R, .slice a n c] 26)) := (Ext.refl w).alloc _
  have hA1 := hA.ext hX
  have HX := Lib.hid hX
  clear hX
  go_enter Try.func115, Try.ntmps115
  go_wp2_with (go_at_call 156; refine (heldFloat32S_any a n c k0 h0 hk0 hn _ hA1).mono ?_; rintro e w' ⟨rfl, hw⟩)
  go_ret
  exact ⟨rfl, HX.out.trans (by assumption)⟩

theorem VArr.twoF {w : World} {b : Nat} {x y : Int} {T : TypeId} (h : w.heap[b]? = some (.cells #[.int .i64 x, .int .i64 y] T (0, 0))) : VArr w (some ⟨b, 0, none⟩) (ints [x, y]) := by
  intro i v hv
  refine ⟨b, 0, rfl, ?_⟩
  rw [Nat.zero_add, block_cell h i]
  match i with
  | 0 => simpa [ints] using hv
  | 1 => simpa [ints] using hv
  | i + 2 => simp [ints] at hv

/-! ### Which fields are valid -/
theorem l02SizeF_any (W H : Int) (w : World) : Calls Try.prog 153 #[.int .i64 W, .int .i64 H] w fun e w' => e = .returned (.bool (szF W H)) ∧ w = w' := by
  cases h1 : inB W 1 16 with
  | true =>
    have e0 : szF W H = inB H 1 16 := by simp [szF, h1]
    go_enter Try.func153, Try.ntmps153
    go_wp2_with (go_at_call 151; refine (l00In_any _ _ _ _).mono ?_; rintro e w' ⟨rfl, rfl⟩)
    go_ret
    exact ⟨by simp [szF, h1], rfl⟩
  | false =>
    have e0 : szF W H = false := by simp [szF, h1]
    go_enter Try.func153, Try.ntmps153
    go_wp2_with (go_at_call 151; refine (l00In_any _ _ _ _).mono ?_; rintro e w' ⟨rfl, rfl⟩)
    go_ret
    exact ⟨by simp [szF, h1], rfl⟩

theorem l02SizeF_b (W H : Int) (b : Bool) (hb : szF W H = b) (w : World) : Calls Try.prog 153 #[.int .i64 W, .int .i64 H] w fun e w' => e = .returned (.bool b) ∧ w' = w :=
  (l02SizeF_any W H w).mono fun _ _ h => ⟨by rw [h.1, hb], h.2.symm⟩

/-- The cells of a field behind a pointer. -/
def FldAt (w : World) (p : Nat) (W H : Int) (R : Bool) (a : Option Addr) (n c : Nat) : Prop :=
  w.cell? ⟨p, 0, none⟩ = some (.int .i64 W) ∧ w.cell? ⟨p, 1, none⟩ = some (.int .i64 H) ∧ w.cell? ⟨p, 2, none⟩ = some (.bool R) ∧ w.cell? ⟨p, 3, none⟩ = some (.slice a n c)
theorem FldAt.ext {w w' : World} {p : Nat} {W H : Int} {R : Bool} {a : Option Addr} {n c : Nat} (h : FldAt w p W H R a n c) (e : Ext w w') : FldAt w' p W H R a n c := ⟨e.cell h.1, e.cell h.2.1, e.cell h.2.2.1, e.cell h.2.2.2⟩
theorem FldAt.box {w : World} {p : Nat} {W H : Int} {R : Bool} {a : Option Addr} {n c : Nat} {T : TypeId} (h : w.heap[p]? = some (.cells #[.int .i64 W, .int .i64 H, .bool R, .slice a n c] T (0, 0))) : FldAt w p W H R a n c := (block4 h).1

theorem l02Is_any (p : Nat) (W H : Int) (R : Bool) (a : Option Addr) (n c : Nat) (hn : n ≤ 1152921504606846976) (w : World) (hp : FldAt w p W H R a n c) :
    Calls Try.prog 148 #[.pointer (some ⟨p, 0, none⟩)] w fun e w' => e = .returned (.bool (vldF W H n)) ∧ Ext w w' := by
  obtain ⟨p0, p1, p2, p3⟩ := hp
  cases hs : szF W H with
  | false =>
    have HV : Hid (vldF W H n = false) := by show _ = _; simp [vldF, hs]
    go_enter Try.func148, Try.ntmps148
    go_wp2
    go_quiet ((go_at_call 153; exact Calls.quiet_of_same (l02SizeF_b W H _ hs _)))
    go_wp2
    go_ret
    exact ⟨by rw [HV.out]; rfl, (Ext.refl _).drewN _⟩
  | true =>
    obtain ⟨⟨h1, h2⟩, h3, h4⟩ := szF_iff.1 hs
    obtain ⟨hm1, hm2⟩ := mulF_bd (by omega) h2 (by omega) h4
    have HV : Hid (vldF W H n = ((n : Int) == W * H)) := by show _ = _; simp [vldF, hs, lenF]
    go_enter Try.func148, Try.ntmps148
    go_wp2
    go_quiet ((go_at_call 153; exact Calls.quiet_of_same (l02SizeF_b W H _ hs _)))
    go_wp2
    go_ret
    exact ⟨by rw [HV.out]; rfl, (Ext.refl _).drewN _⟩

theorem implValidF_any (W H : Int) (R : Bool) (a : Option Addr) (n c : Nat) (hn : n ≤ 1152921504606846976) (w : World) :
    Calls Try.prog 67 #[.agg #[.int .i64 W, .int .i64 H, .bool R, .slice a n c]] w fun e w' => e = .returned (.bool (vldF W H n)) ∧ Ext w w' := by
  have hX0 : Ext w ((w.alloc (.cells #[.int .i64 W, .int .i64 H, .bool R, .slice a n c] 26)).alloc (.cells #[.int .i64 W, .int .i64 H] 2)) := ((Ext.refl w).alloc _).alloc _
  have b0 := heap_mid1 w (.cells #[.int .i64 W, .int .i64 H, .bool R, .slice a n c] 26) (.cells #[.int .i64 W, .int .i64 H] 2)
  have b1 := heap_new1 w (.cells #[.int .i64 W, .int .i64 H, .bool R, .slice a n c] 26) (.cells #[.int .i64 W, .int .i64 H] 2)
  have e2 : allIn 1 16 [W, H] = szF W H := allIn_two
  cases hs : szF W H with
  | false =>
    have HR : Hid (vldF W H n = false) := by show vldF W H n = false; simp [vldF, hs]
    rw [hs] at e2
    go_enter Try.func67, Try.ntmps67
    go_wp2_with fail
    refine (areWithin_any _ 2 2 [W, H] rfl (by omega) 1 16 _ (VArr.twoF b1)).mono ?_
    rw [e2]
    rintro e w1 ⟨rfl, hX1⟩
    clear b0 b1
    have HX := Lib.hid (hX0.trans hX1)
    clear hX0 hX1
    go_wp2
    go_ret
    exact ⟨by rw [HR.out]; rfl, HX.out⟩
  | true =>
    obtain ⟨⟨h1, h2⟩, h3, h4⟩ := szF_iff.1 hs
    obtain ⟨hm1, hm2⟩ := mulF_bd (by omega) h2 (by omega) h4
    rw [hs] at e2
    have HR : Hid (vldF W H n = ((n : Int) == W * H)) := by show _ = _; simp [vldF, hs, lenF]
    clear hs
    go_enter Try.func67, Try.ntmps67
    go_wp2_with fail
    refine (areWithin_any _ 2 2 [W, H] rfl (by omega) 1 16 _ (VArr.twoF b1)).mono ?_
    rw [e2]
    rintro e w1 ⟨rfl, hX1⟩
    obtain ⟨⟨c0, c1, c2, c3⟩, _⟩ := block4 (hX1.block b0)
    clear b0 b1
    have HX := Lib.hid (hX0.trans hX1)
    clear hX0 hX1
    go_wp2
    go_ret
    exact ⟨by rw [HR.out]; rfl, HX.out⟩
end Go.Proofs.Ytajfpjggdbifjaa
