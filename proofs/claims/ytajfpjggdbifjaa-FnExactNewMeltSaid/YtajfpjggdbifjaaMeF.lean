/-
  Valid melts: words. (Printed by gen_melt.py.)
-/
import Derived.Test.YtajfpjggdbifjaaMeA
import Derived.Test.YtajfpjggdbifjaaMeB
import Derived.Test.YtajfpjggdbifjaaFlJ
namespace Go.Proofs.Ytajfpjggdbifjaa
open Go.RowKit
set_option linter.unusedVariables false
set_option linter.unusedSimpArgs false
set_option linter.unnecessarySimpa false


def ge0 (x : Nat) : Bool := FloatKind.f32.format.order x 0 == some .gt || FloatKind.f32.format.order x 0 == some .eq
def gt1 (x : Nat) : Bool := FloatKind.f32.format.order x 1065353216 == some .gt
def lt1 (x : Nat) : Bool := FloatKind.f32.format.order x 1065353216 == some .lt
/-- A phase of a valid melt. -/
def phB (x : Nat) : Bool := ge0 x && !gt1 x
def four (f1 f2 f3 f4 : Nat) : Bool := leB f1 && leB f2 && leB f3 && leB f4
def lastB (f5 : Nat) (k : Int) : Bool := ge0 f5 && lt1 f5 && inB k 1 8
def vldM (W H : Int) (R : Bool) (n : Nat) (W' H' : Int) (R' : Bool) (n' : Nat) (xs xs' : List Nat) (f1 f2 f3 f4 f5 : Nat) (k : Int) : Bool :=
  twoB W H R n W' H' R' n' && (xs.all phB && xs'.all finB) && (four f1 f2 f3 f4 && lastB f5 k)
/-- A melt's cells are in a block. -/
def FldAtO (w : World) (p o : Nat) (W H : Int) (R : Bool) (a : Option Addr) (n c : Nat) : Prop := w.cell? ⟨p, o, none⟩ = some (.int .i64 W) ∧ w.cell? ⟨p, o + 1, none⟩ = some (.int .i64 H) ∧ w.cell? ⟨p, o + 2, none⟩ = some (.bool R) ∧ w.cell? ⟨p, o + 3, none⟩ = some (.slice a n c)
theorem FldAtO.ext {w w' : World} {p o : Nat} {W H : Int} {R : Bool} {a : Option Addr} {n c : Nat} (h : FldAtO w p o W H R a n c) (e : Ext w w') : FldAtO w' p o W H R a n c := ⟨e.cell h.1, e.cell h.2.1, e.cell h.2.2.1, e.cell h.2.2.2⟩
theorem l02IsO_any (p o : Nat) (W H : Int) (R : Bool) (a : Option Addr) (n c : Nat) (hn : n ≤ 1152921504606846976) (w : World) (hp : FldAtO w p o W H R a n c) :
    Calls Try.prog 148 #[.pointer (some ⟨p, o, none⟩)] w fun e w' => e = .returned (.bool (vldF W H n)) ∧ Ext w w' := by
  obtain ⟨p0, p1, p2, p3⟩ := hp
  cases hs : szF W H with
  | false =>
    have HV : Hid (vldF W H n = false) := by show _ = _; simp [vldF, hs]
    go_enter Try.func148, Try.ntmps148
    go_wp2
    go_quiet ((go_at_call 153; exact Calls.quiet_of_same (l02SizeF_b W H _ hs _)))
    go_wp2
    go_ret
    exact ⟨by rw [HV.out]; rfl, (Ext.refl _).drewN _⟩
  | true =>
    obtain ⟨⟨h1, h2⟩, h3, h4⟩ := szF_iff.1 hs
    obtain ⟨hm1, hm2⟩ := mulF_bd (by omega) h2 (by omega) h4
    have HV : Hid (vldF W H n = ((n : Int) == W * H)) := by show _ = _; simp [vldF, hs, lenF]
    go_enter Try.func148, Try.ntmps148
    go_wp2
    go_quiet ((go_at_call 153; exact Calls.quiet_of_same (l02SizeF_b W H _ hs _)))
    go_wp2
    go_ret
    exact ⟨by rw [HV.out]; rfl, (Ext.refl _).drewN _⟩

/-- The first k places are those of a valid melt. -/
def upB (xs xs' : List Nat) (k : Nat) : Prop := ∀ j, j < k → phB (xs[j]?.getD 0) = true ∧ finB (xs'[j]?.getD 0) = true
theorem upB_all {xs xs' : List Nat} {n : Nat} (h1 : xs.length = n) (h2 : xs'.length = n) (h : upB xs xs' n) : (xs.all phB && xs'.all finB) = true := by
  rw [Bool.and_eq_true, List.all_eq_true, List.all_eq_true]
  constructor
  · intro x hx
    obtain ⟨j, hj, he⟩ := List.getElem_of_mem hx
    have := (h j (by omega)).1
    simpa [hj, he] using this
  · intro x hx
    obtain ⟨j, hj, he⟩ := List.getElem_of_mem hx
    have := (h j (by omega)).2
    simpa [hj, he] using this
theorem all_no1 {xs xs' : List Nat} {j : Nat} (hj : j < xs.length) (h : phB (xs[j]?.getD 0) = false) : (xs.all phB && xs'.all finB) = false := by
  rw [Bool.and_eq_false_iff]
  left
  rw [List.all_eq_false]
  exact ⟨xs[j], List.getElem_mem hj, by simpa [hj] using h⟩
theorem all_no2 {xs xs' : List Nat} {j : Nat} (hj : j < xs'.length) (h : finB (xs'[j]?.getD 0) = false) : (xs.all phB && xs'.all finB) = false := by
  rw [Bool.and_eq_false_iff]
  right
  rw [List.all_eq_false]
  exact ⟨xs'[j], List.getElem_mem hj, by simpa [hj] using h⟩
end Go.Proofs.Ytajfpjggdbifjaa
