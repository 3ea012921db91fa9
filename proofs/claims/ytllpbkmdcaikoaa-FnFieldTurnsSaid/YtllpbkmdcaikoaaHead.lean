/-
  The head of the translation as letters' numbers, and the closed facts of the rows that hang on it alone.
-/
import Derived.Test.YtllpbkmdcaikoaaRows
import Derived.ProofKit
namespace Go.Proofs.Ytllpbkmdcaikoaa
def headCodes : List Nat := [
  104, 97, 114, 110, 101, 115, 115, 32, 51, 56, 98, 49, 102, 48, 98, 57, 102, 100, 51, 51, 55, 56, 97, 50, 102, 53, 99, 50, 100, 53, 101, 48, 97, 50, 57, 97, 51, 54, 52, 97,
  50, 49, 52, 53, 99, 54, 52, 57, 99, 55, 51, 52, 53, 101, 55, 50, 101, 102, 57, 57, 52, 48, 50, 51, 57, 98, 100, 49, 55, 54, 49, 55, 32, 99, 117, 116, 32, 97, 116, 32,
  108, 111, 111, 112, 46, 101, 120, 97, 109, 112, 108, 101, 47, 103, 48, 49, 50, 52, 55, 47, 108, 97, 119, 115, 46, 70, 110, 69, 120, 97, 99, 116, 83, 97, 109, 101, 70, 105, 101, 108,
  100, 32, 108, 111, 111, 112, 46, 101, 120, 97, 109, 112, 108, 101, 47, 103, 48, 49, 50, 52, 55, 47, 108, 97, 119, 115, 46, 70, 110, 69, 120, 97, 99, 116, 68, 111, 116, 70, 105, 101,
  108, 100, 115, 32, 108, 111, 111, 112, 46, 101, 120, 97, 109, 112, 108, 101, 47, 103, 48, 49, 50, 52, 55, 47, 108, 97, 119, 115, 46, 70, 110, 69, 120, 97, 99, 116, 86, 97, 108, 117,
  101, 65, 98, 111, 117, 116, 32, 108, 111, 111, 112, 46, 101, 120, 97, 109, 112, 108, 101, 47, 103, 48, 49, 50, 52, 55, 47, 108, 97, 119, 115, 46, 70, 110, 69, 120, 97, 99, 116, 65,
  100, 100, 70, 105, 101, 108, 100, 115, 32, 108, 111, 111, 112, 46, 101, 120, 97, 109, 112, 108, 101, 47, 103, 48, 49, 50, 52, 55, 47, 108, 97, 119, 115, 46, 70, 110, 69, 120, 97, 99,
  116, 76, 101, 115, 115, 70, 105, 101, 108, 100, 115, 32, 108, 111, 111, 112, 46, 101, 120, 97, 109, 112, 108, 101, 47, 103, 48, 49, 50, 52, 55, 47, 108, 97, 119, 115, 46, 70, 110, 69,
  120, 97, 99, 116, 84, 105, 109, 101, 115, 70, 105, 101, 108, 100, 115, 32, 108, 111, 111, 112, 46, 101, 120, 97, 109, 112, 108, 101, 47, 103, 48, 49, 50, 52, 55, 47, 108, 97, 119, 115,
  46, 70, 110, 69, 120, 97, 99, 116, 82, 111, 108, 108, 70, 105, 101, 108, 100, 32, 108, 111, 111, 112, 46, 101, 120, 97, 109, 112, 108, 101, 47, 103, 48, 49, 50, 52, 55, 47, 108, 97,
  119, 115, 46, 70, 110, 69, 120, 97, 99, 116, 83, 108, 111, 112, 101, 115, 79, 102, 32, 108, 111, 111, 112, 46, 101, 120, 97, 109, 112, 108, 101, 47, 103, 48, 49, 50, 52, 55, 47, 108,
  97, 119, 115, 46, 70, 110, 69, 120, 97, 99, 116, 76, 97, 112, 108, 97, 99, 101, 70, 105, 101, 108, 100, 32, 108, 111, 111, 112, 46, 101, 120, 97, 109, 112, 108, 101, 47, 103, 48, 49,
  50, 52, 55, 47, 108, 97, 119, 115, 46, 70, 110, 69, 120, 97, 99, 116, 78, 105, 110, 101, 70, 105, 101, 108, 100, 32, 108, 111, 111, 112, 46, 101, 120, 97, 109, 112, 108, 101, 47, 103,
  48, 49, 50, 52, 55, 47, 108, 97, 119, 115, 46, 70, 110, 69, 120, 97, 99, 116, 83, 112, 114, 101, 97, 100, 70, 105, 101, 108, 100, 32, 108, 111, 111, 112, 46, 101, 120, 97, 109, 112,
  108, 101, 47, 103, 48, 49, 50, 52, 55, 47, 108, 97, 119, 115, 46, 70, 110, 69, 120, 97, 99, 116, 66, 111, 114, 100, 101, 114, 79, 102, 32, 108, 111, 111, 112, 46, 101, 120, 97, 109,
  112, 108, 101, 47, 103, 48, 49, 50, 52, 55, 47, 108, 97, 119, 115, 46, 70, 110, 69, 120, 97, 99, 116, 67, 111, 109, 112, 111, 110, 101, 110, 116, 115, 79, 102, 32, 108, 111, 111, 112,
  46, 101, 120, 97, 109, 112, 108, 101, 47, 103, 48, 49, 50, 52, 55, 47, 108, 97, 119, 115, 46, 70, 110, 70, 105, 101, 108, 100, 84, 117, 114, 110, 115]
def headChars : List Char := headCodes.map Char.ofNat
theorem head_lit : Try.checked.prog.initOrder = "harness 38b1f0b9fd3378a2f5c2d5e0a29a364a2145c649c7345e72ef9940239bd17617 cut at loop.example/g01247/laws.FnExactSameField loop.example/g01247/laws.FnExactDotFields loop.example/g01247/laws.FnExactValueAbout loop.example/g01247/laws.FnExactAddFields loop.example/g01247/laws.FnExactLessFields loop.example/g01247/laws.FnExactTimesFields loop.example/g01247/laws.FnExactRollField loop.example/g01247/laws.FnExactSlopesOf loop.example/g01247/laws.FnExactLaplaceField loop.example/g01247/laws.FnExactNineField loop.example/g01247/laws.FnExactSpreadField loop.example/g01247/laws.FnExactBorderOf loop.example/g01247/laws.FnExactComponentsOf loop.example/g01247/laws.FnFieldTurns" := by kernel_rfl
theorem head_ofList : "harness 38b1f0b9fd3378a2f5c2d5e0a29a364a2145c649c7345e72ef9940239bd17617 cut at loop.example/g01247/laws.FnExactSameField loop.example/g01247/laws.FnExactDotFields loop.example/g01247/laws.FnExactValueAbout loop.example/g01247/laws.FnExactAddFields loop.example/g01247/laws.FnExactLessFields loop.example/g01247/laws.FnExactTimesFields loop.example/g01247/laws.FnExactRollField loop.example/g01247/laws.FnExactSlopesOf loop.example/g01247/laws.FnExactLaplaceField loop.example/g01247/laws.FnExactNineField loop.example/g01247/laws.FnExactSpreadField loop.example/g01247/laws.FnExactBorderOf loop.example/g01247/laws.FnExactComponentsOf loop.example/g01247/laws.FnFieldTurns" = String.ofList headChars := by kernel_rfl
theorem head_is : Try.checked.prog.initOrder = String.ofList headChars := head_lit.trans head_ofList
theorem head_chars : Try.checked.prog.initOrder.toList = headChars := by rw [head_is, String.toList_ofList]
theorem make_of {P : Program} {l : List Char} (h : P.initOrder.toList = l) (hl : P.headLifts = []) (hm : (match behindMainWord (wordsSigns l) with
    | c :: rest => if c == "gc".toList || c == "spec".toList then some Make.whole else if c == "cut".toList || (c == "finals".toList && rest.head? == some "cut".toList) then some .cut else if c == "carried".toList then some .carried else if (List.isEmpty (α := String) []) then none else some (.lifted [])
    | [] => none) = some .cut) : P.make = some .cut := by
  subst h
  unfold Program.make
  rw [hl]
  exact hm
theorem enter_of {P : Program} {l : List Char} (h : P.initOrder.toList = l) (b1 b2 : Bool) (h1 : P.laysLater = b1) (h2 : P.bearsReflect = b2) (hd : P.doorFits (stripLifts liftWords (behindMainWord (wordsSigns l))).1 = true) (hm : (match behindMainWord (wordsSigns l) with
    | c :: rest =>
      ((c == "gc".toList || c == "spec".toList) && (rest.isEmpty || rest.head? == some "stop".toList)) ||
      (c == "carried".toList && rest.take 2 == ["gc".toList, "cut".toList] && !b1 && !b2) ||
      ((stripLifts liftWords (c :: rest)).2.head? == some "cut".toList &&
        ((stripLifts liftWords (c :: rest)).1.contains "finals" || !b1) && ((stripLifts liftWords (c :: rest)).1.contains "reflectrows" || !b2) &&
        ((stripLifts liftWords (c :: rest)).1.contains "reflectrows" || !(stripLifts liftWords (c :: rest)).1.contains "leanrows") && true)
    | [] => false) = true) : P.mayEnter = true := by
  subst h h1 h2
  unfold Program.mayEnter
  revert hm hd
  generalize behindMainWord (wordsSigns P.initOrder.toList) = X
  cases X with
  | nil => exact fun _ h => h
  | cons c rest => intro hd hm; simp only [hd]; exact hm
theorem head_lifts : Try.checked.prog.headLifts = [] := by unfold Program.headLifts; rw [head_chars]; kernel_rfl
theorem head_final : Try.checked.prog.liftsFinal = false := by unfold Program.liftsFinal; rw [head_lifts, head_chars]; kernel_rfl
theorem head_make : Try.checked.prog.make = some .cut := make_of head_chars head_lifts (by kernel_rfl)
theorem head_enter : Try.checked.prog.mayEnter = true := enter_of head_chars false false (by kernel_rfl) (by kernel_rfl) (by kernel_rfl) (by kernel_rfl)
end Go.Proofs.Ytllpbkmdcaikoaa
