/-
  The head of the translation as letters' numbers, and the closed facts of the rows that hang on it alone.
-/
import Derived.Test.YtpmcjojipbiinaaRows
import Derived.ProofKit
namespace Go.Proofs.Ytpmcjojipbiinaa
def headCodes : List Nat := [
  104, 97, 114, 110, 101, 115, 115, 32, 99, 98, 50, 54, 54, 51, 55, 55, 97, 57, 49, 100, 50, 48, 51, 50, 54, 56, 54, 57, 50, 54, 57, 50, 98, 101, 56, 56, 97, 52, 55, 53,
  49, 55, 98, 53, 99, 97, 99, 97, 49, 57, 102, 52, 102, 55, 99, 98, 51, 55, 100, 102, 97, 53, 48, 97, 98, 55, 51, 52, 98, 97, 101, 97, 32, 99, 117, 116, 32, 97, 116, 32,
  108, 111, 111, 112, 46, 101, 120, 97, 109, 112, 108, 101, 47, 103, 48, 49, 50, 52, 55, 47, 108, 97, 119, 115, 46, 70, 110, 69, 120, 97, 99, 116, 78, 101, 97, 114, 101, 115, 116, 71,
  114, 97, 105, 110, 115, 32, 108, 111, 111, 112, 46, 101, 120, 97, 109, 112, 108, 101, 47, 103, 48, 49, 50, 52, 55, 47, 108, 97, 119, 115, 46, 70, 110, 69, 120, 97, 99, 116, 70, 108,
  105, 112, 71, 114, 97, 105, 110, 115, 32, 108, 111, 111, 112, 46, 101, 120, 97, 109, 112, 108, 101, 47, 103, 48, 49, 50, 52, 55, 47, 108, 97, 119, 115, 46, 70, 110, 69, 120, 97, 99,
  116, 77, 105, 100, 100, 108, 101, 79, 102, 76, 97, 98, 101, 108, 32, 108, 111, 111, 112, 46, 101, 120, 97, 109, 112, 108, 101, 47, 103, 48, 49, 50, 52, 55, 47, 108, 97, 119, 115, 46,
  70, 110, 69, 120, 97, 99, 116, 83, 104, 97, 112, 101, 79, 102, 76, 97, 98, 101, 108]
def headChars : List Char := headCodes.map Char.ofNat
theorem head_lit : Try.checked.prog.initOrder = "harness cb266377a91d203268692692be88a47517b5caca19f4f7cb37dfa50ab734baea cut at loop.example/g01247/laws.FnExactNearestGrains loop.example/g01247/laws.FnExactFlipGrains loop.example/g01247/laws.FnExactMiddleOfLabel loop.example/g01247/laws.FnExactShapeOfLabel" := by kernel_rfl
theorem head_ofList : "harness cb266377a91d203268692692be88a47517b5caca19f4f7cb37dfa50ab734baea cut at loop.example/g01247/laws.FnExactNearestGrains loop.example/g01247/laws.FnExactFlipGrains loop.example/g01247/laws.FnExactMiddleOfLabel loop.example/g01247/laws.FnExactShapeOfLabel" = String.ofList headChars := by kernel_rfl
theorem head_is : Try.checked.prog.initOrder = String.ofList headChars := head_lit.trans head_ofList
theorem head_chars : Try.checked.prog.initOrder.toList = headChars := by rw [head_is, String.toList_ofList]
theorem make_of {P : Program} {l : List Char} (h : P.initOrder.toList = l) (hl : P.headLifts = []) (hm : (match behindMainWord (wordsSigns l) with
    | c :: rest => if c == "gc".toList || c == "spec".toList then some Make.whole else if c == "cut".toList || (c == "finals".toList && rest.head? == some "cut".toList) then some .cut else if c == "carried".toList then some .carried else if (List.isEmpty (α := String) []) then none else some (.lifted [])
    | [] => none) = some .cut) : P.make = some .cut := by
  subst h
  unfold Program.make
  rw [hl]
  exact hm
theorem enter_of {P : Program} {l : List Char} (h : P.initOrder.toList = l) (b1 b2 : Bool) (h1 : P.laysLater = b1) (h2 : P.bearsReflect = b2) (hd : P.doorFits (stripLifts liftWords (behindMainWord (wordsSigns l))).1 = true) (hm : (match behindMainWord (wordsSigns l) with
    | c :: rest =>
      ((c == "gc".toList || c == "spec".toList) && (rest.isEmpty || rest.head? == some "stop".toList)) ||
      (c == "carried".toList && rest.take 2 == ["gc".toList, "cut".toList] && !b1 && !b2) ||
      ((stripLifts liftWords (c :: rest)).2.head? == some "cut".toList &&
        ((stripLifts liftWords (c :: rest)).1.contains "finals" || !b1) && ((stripLifts liftWords (c :: rest)).1.contains "reflectrows" || !b2) &&
        ((stripLifts liftWords (c :: rest)).1.contains "reflectrows" || !(stripLifts liftWords (c :: rest)).1.contains "leanrows") && true)
    | [] => false) = true) : P.mayEnter = true := by
  subst h h1 h2
  unfold Program.mayEnter
  revert hm hd
  generalize behindMainWord (wordsSigns P.initOrder.toList) = X
  cases X with
  | nil => exact fun _ h => h
  | cons c rest => intro hd hm; simp only [hd]; exact hm
theorem head_lifts : Try.checked.prog.headLifts = [] := by unfold Program.headLifts; rw [head_chars]; kernel_rfl
theorem head_final : Try.checked.prog.liftsFinal = false := by unfold Program.liftsFinal; rw [head_lifts, head_chars]; kernel_rfl
theorem head_make : Try.checked.prog.make = some .cut := make_of head_chars head_lifts (by kernel_rfl)
theorem head_enter : Try.checked.prog.mayEnter = true := enter_of head_chars false false (by kernel_rfl) (by kernel_rfl) (by kernel_rfl) (by kernel_rfl)
end Go.Proofs.Ytpmcjojipbiinaa
