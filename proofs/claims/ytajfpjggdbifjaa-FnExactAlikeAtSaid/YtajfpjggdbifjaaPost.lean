/-
  Copies as contracts of regions: fields, slices of integers.
-/
import Derived.Test.YtajfpjggdbifjaaFld
namespace Go.Proofs.Ytajfpjggdbifjaa
open Go.RowKit
set_option linter.unusedVariables false
set_option linter.unusedSimpArgs false

/-- A copy of a field, as a region's contract: whatever is handed over. -/
def toPostField (w0 : World) (args : Array Value) (v : Value) (w : World) : Prop :=
  ∀ W H R a n c, args = #[.agg #[.int .i64 W, .int .i64 H, .bool R, .slice a n c]] → ∃ b, v = .agg #[.int .i64 W, .int .i64 H, .bool R, .slice (some ⟨b, 0, none⟩) n n] ∧ ∀ zs : List Nat, zs.length = n → VArr w0 a (flts zs) → VArr w (some ⟨b, 0, none⟩) (flts zs)
theorem toPostField.ext {w0 : World} {args : Array Value} {v : Value} {w w' : World} (h : toPostField w0 args v w) (e : Ext w w') : toPostField w0 args v w' := fun W H R a n c ha =>
  let ⟨b, hb, hv⟩ := h W H R a n c ha; ⟨b, hb, fun zs hz h0 => (hv zs hz h0).ext e⟩
theorem toPostField_get {w0 : World} {v : Value} {w : World} {W H : Int} {R : Bool} {a : Option Addr} {n c : Nat} {zs : List Nat} (h : toPostField w0 #[.agg #[.int .i64 W, .int .i64 H, .bool R, .slice a n c]] v w) (hz : zs.length = n) (h0 : VArr w0 a (flts zs)) :
    (∃ b, v = .agg #[.int .i64 W, .int .i64 H, .bool R, .slice (some ⟨b, 0, none⟩) n n]) ∧ ∃ b, v = .agg #[.int .i64 W, .int .i64 H, .bool R, .slice (some ⟨b, 0, none⟩) n n] ∧ VArr w (some ⟨b, 0, none⟩) (flts zs) :=
  let ⟨b, hb, hv⟩ := h W H R a n c rfl; ⟨⟨b, hb⟩, b, hb, hv zs hz h0⟩
theorem toPostField_mk {w0 : World} {w : World} {W H : Int} {R : Bool} {a : Option Addr} {n c b : Nat} {zs : List Nat} (hz : zs.length = n) (h0 : VArr w0 a (flts zs)) (hv : VArr w (some ⟨b, 0, none⟩) (flts zs)) :
    toPostField w0 #[.agg #[.int .i64 W, .int .i64 H, .bool R, .slice a n c]] (.agg #[.int .i64 W, .int .i64 H, .bool R, .slice (some ⟨b, 0, none⟩) n n]) w := by
  intro W' H' R' a' n' c' he
  simp at he
  obtain ⟨rfl, rfl, rfl, rfl, rfl, rfl⟩ := he
  refine ⟨b, rfl, fun zs' hz' h' => ?_⟩
  have := flts_inj (VArr.unique (by simp [hz, hz']) h0 h')
  subst this
  exact hv

/-- A copy of a slice of integers. -/
def toPostInts (w0 : World) (args : Array Value) (v : Value) (w : World) : Prop :=
  ∀ a n c, args = #[.slice a n c] → ∃ b, v = .slice (some ⟨b, 0, none⟩) n n ∧ ∀ zs : List Int, zs.length = n → VArr w0 a (ints zs) → VArr w (some ⟨b, 0, none⟩) (ints zs)
theorem toPostInts.ext {w0 : World} {args : Array Value} {v : Value} {w w' : World} (h : toPostInts w0 args v w) (e : Ext w w') : toPostInts w0 args v w' := fun a n c ha =>
  let ⟨b, hb, hv⟩ := h a n c ha; ⟨b, hb, fun zs hz h0 => (hv zs hz h0).ext e⟩
theorem toPostInts_get {w0 : World} {v : Value} {w : World} {a : Option Addr} {n c : Nat} {zs : List Int} (h : toPostInts w0 #[.slice a n c] v w) (hz : zs.length = n) (h0 : VArr w0 a (ints zs)) :
    (∃ b, v = .slice (some ⟨b, 0, none⟩) n n) ∧ ∃ b, v = .slice (some ⟨b, 0, none⟩) n n ∧ VArr w (some ⟨b, 0, none⟩) (ints zs) :=
  let ⟨b, hb, hv⟩ := h a n c rfl; ⟨⟨b, hb⟩, b, hb, hv zs hz h0⟩
theorem toPostInts_mk {w0 : World} {w : World} {a : Option Addr} {n c b : Nat} {zs : List Int} (hz : zs.length = n) (h0 : VArr w0 a (ints zs)) (hv : VArr w (some ⟨b, 0, none⟩) (ints zs)) :
    toPostInts w0 #[.slice a n c] (.slice (some ⟨b, 0, none⟩) n n) w := by
  intro a' n' c' he
  simp at he
  obtain ⟨rfl, rfl, rfl⟩ := he
  refine ⟨b, rfl, fun zs' hz' h' => ?_⟩
  have := ints_inj (VArr.unique (by simp [hz, hz']) h0 h')
  subst this
  exact hv

theorem toInt64S_ex (a : Option Addr) (n c : Nat) (zs : List Int) (hz : zs.length = n) (hn : n ≤ 1048576) (w : World) (hA : VArr w a (ints zs)) :
    Calls Try.prog 127 #[.slice a n c] w fun e w' => ∃ b, e = .returned (.slice (some ⟨b, 0, none⟩) n n) ∧ Ext w w' ∧
      w'.ownsRow w.heap.size 2 1 (.slice (some ⟨b, 0, none⟩) n n) n (ints zs) :=
  (toInt64S_any a n c zs hz hn w hA).mono fun e w' h => ⟨_, h.1, h.2.1, h.2.2⟩

theorem eqInt64S_all (a a' : Option Addr) (n c n' c' : Nat) (zs zs' : List Int) (hz : zs.length = n) (hz' : zs'.length = n') (hn : n ≤ 1152921504606846976) (hn' : n' ≤ 1152921504606846976) (hzz : zs = zs') (w : World) (hA : VArr w a (ints zs)) (hA' : VArr w a' (ints zs')) :
    Calls Try.prog 130 #[.slice a n c, .slice a' n' c'] w fun e w' => e = .returned (.bool true) ∧ Ext w w' :=
  (eqInt64S_any a a' n c n' c' zs zs' hz hz' hn hn' w hA hA').mono fun e w' h => ⟨by rw [h.1]; simp [hzz], h.2⟩
end Go.Proofs.Ytajfpjggdbifjaa
