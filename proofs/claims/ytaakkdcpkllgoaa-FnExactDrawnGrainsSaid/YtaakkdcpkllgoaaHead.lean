/-
  The head of the translation as letters' numbers, and the closed facts of the rows that hang on it alone.
-/
import Derived.Test.YtaakkdcpkllgoaaRows
import Derived.ProofKit
namespace Go.Proofs.Ytaakkdcpkllgoaa
def headCodes : List Nat := [
  104, 97, 114, 110, 101, 115, 115, 32, 52, 102, 48, 99, 57, 53, 99, 99, 97, 100, 102, 53, 101, 50, 48, 102, 49, 99, 55, 98, 51, 49, 52, 55, 99, 55, 99, 54, 57, 48, 97, 100,
  48, 98, 97, 100, 98, 48, 98, 98, 55, 56, 98, 49, 98, 55, 98, 97, 99, 50, 100, 55, 97, 101, 101, 50, 48, 48, 53, 53, 53, 53, 57, 56, 32, 99, 117, 116, 32, 97, 116, 32,
  108, 111, 111, 112, 46, 101, 120, 97, 109, 112, 108, 101, 47, 103, 48, 49, 50, 52, 55, 47, 108, 97, 119, 115, 46, 70, 110, 69, 120, 97, 99, 116, 70, 108, 97, 116, 71, 114, 97, 105,
  110, 115, 32, 108, 111, 111, 112, 46, 101, 120, 97, 109, 112, 108, 101, 47, 103, 48, 49, 50, 52, 55, 47, 108, 97, 119, 115, 46, 70, 110, 69, 120, 97, 99, 116, 68, 114, 97, 119, 110,
  71, 114, 97, 105, 110, 115, 32, 108, 111, 111, 112, 46, 101, 120, 97, 109, 112, 108, 101, 47, 103, 48, 49, 50, 52, 55, 47, 108, 97, 119, 115, 46, 70, 110, 69, 120, 97, 99, 116, 67,
  111, 117, 110, 116, 79, 102, 76, 97, 98, 101, 108, 32, 108, 111, 111, 112, 46, 101, 120, 97, 109, 112, 108, 101, 47, 103, 48, 49, 50, 52, 55, 47, 108, 97, 119, 115, 46, 70, 110, 69,
  120, 97, 99, 116, 76, 97, 98, 101, 108, 65, 98, 111, 117, 116, 32, 108, 111, 111, 112, 46, 101, 120, 97, 109, 112, 108, 101, 47, 103, 48, 49, 50, 52, 55, 47, 108, 97, 119, 115, 46,
  70, 110, 69, 120, 97, 99, 116, 82, 101, 108, 97, 98, 101, 108, 71, 114, 97, 105, 110, 115, 32, 108, 111, 111, 112, 46, 101, 120, 97, 109, 112, 108, 101, 47, 103, 48, 49, 50, 52, 55,
  47, 108, 97, 119, 115, 46, 70, 110, 69, 120, 97, 99, 116, 80, 117, 116, 76, 97, 98, 101, 108, 32, 108, 111, 111, 112, 46, 101, 120, 97, 109, 112, 108, 101, 47, 103, 48, 49, 50, 52,
  55, 47, 108, 97, 119, 115, 46, 70, 110, 69, 120, 97, 99, 116, 85, 110, 108, 105, 107, 101, 65, 114, 111, 117, 110, 100, 32, 108, 111, 111, 112, 46, 101, 120, 97, 109, 112, 108, 101, 47,
  103, 48, 49, 50, 52, 55, 47, 108, 97, 119, 115, 46, 70, 110, 69, 120, 97, 99, 116, 85, 110, 108, 105, 107, 101, 80, 97, 105, 114, 115, 32, 108, 111, 111, 112, 46, 101, 120, 97, 109,
  112, 108, 101, 47, 103, 48, 49, 50, 52, 55, 47, 108, 97, 119, 115, 46, 70, 110, 69, 120, 97, 99, 116, 77, 105, 114, 114, 111, 114, 71, 114, 97, 105, 110, 115, 32, 108, 111, 111, 112,
  46, 101, 120, 97, 109, 112, 108, 101, 47, 103, 48, 49, 50, 52, 55, 47, 108, 97, 119, 115, 46, 70, 110, 69, 120, 97, 99, 116, 82, 111, 108, 108, 71, 114, 97, 105, 110, 115, 32, 108,
  111, 111, 112, 46, 101, 120, 97, 109, 112, 108, 101, 47, 103, 48, 49, 50, 52, 55, 47, 108, 97, 119, 115, 46, 70, 110, 69, 120, 97, 99, 116, 70, 105, 101, 108, 100, 79, 102, 76, 97,
  98, 101, 108, 32, 108, 111, 111, 112, 46, 101, 120, 97, 109, 112, 108, 101, 47, 103, 48, 49, 50, 52, 55, 47, 108, 97, 119, 115, 46, 70, 110, 69, 120, 97, 99, 116, 76, 97, 98, 101,
  108, 115, 79, 102, 32, 108, 111, 111, 112, 46, 101, 120, 97, 109, 112, 108, 101, 47, 103, 48, 49, 50, 52, 55, 47, 108, 97, 119, 115, 46, 70, 110, 69, 120, 97, 99, 116, 71, 114, 97,
  105, 110, 115, 73, 110]
def headChars : List Char := headCodes.map Char.ofNat
theorem head_lit : Try.checked.prog.initOrder = "harness 4f0c95ccadf5e20f1c7b3147c7c690ad0badb0bb78b1b7bac2d7aee200555598 cut at loop.example/g01247/laws.FnExactFlatGrains loop.example/g01247/laws.FnExactDrawnGrains loop.example/g01247/laws.FnExactCountOfLabel loop.example/g01247/laws.FnExactLabelAbout loop.example/g01247/laws.FnExactRelabelGrains loop.example/g01247/laws.FnExactPutLabel loop.example/g01247/laws.FnExactUnlikeAround loop.example/g01247/laws.FnExactUnlikePairs loop.example/g01247/laws.FnExactMirrorGrains loop.example/g01247/laws.FnExactRollGrains loop.example/g01247/laws.FnExactFieldOfLabel loop.example/g01247/laws.FnExactLabelsOf loop.example/g01247/laws.FnExactGrainsIn" := by kernel_rfl
theorem head_ofList : "harness 4f0c95ccadf5e20f1c7b3147c7c690ad0badb0bb78b1b7bac2d7aee200555598 cut at loop.example/g01247/laws.FnExactFlatGrains loop.example/g01247/laws.FnExactDrawnGrains loop.example/g01247/laws.FnExactCountOfLabel loop.example/g01247/laws.FnExactLabelAbout loop.example/g01247/laws.FnExactRelabelGrains loop.example/g01247/laws.FnExactPutLabel loop.example/g01247/laws.FnExactUnlikeAround loop.example/g01247/laws.FnExactUnlikePairs loop.example/g01247/laws.FnExactMirrorGrains loop.example/g01247/laws.FnExactRollGrains loop.example/g01247/laws.FnExactFieldOfLabel loop.example/g01247/laws.FnExactLabelsOf loop.example/g01247/laws.FnExactGrainsIn" = String.ofList headChars := by kernel_rfl
theorem head_is : Try.checked.prog.initOrder = String.ofList headChars := head_lit.trans head_ofList
theorem head_chars : Try.checked.prog.initOrder.toList = headChars := by rw [head_is, String.toList_ofList]
theorem make_of {P : Program} {l : List Char} (h : P.initOrder.toList = l) (hl : P.headLifts = []) (hm : (match behindMainWord (wordsSigns l) with
    | c :: rest => if c == "gc".toList || c == "spec".toList then some Make.whole else if c == "cut".toList || (c == "finals".toList && rest.head? == some "cut".toList) then some .cut else if c == "carried".toList then some .carried else if (List.isEmpty (α := String) []) then none else some (.lifted [])
    | [] => none) = some .cut) : P.make = some .cut := by
  subst h
  unfold Program.make
  rw [hl]
  exact hm
theorem enter_of {P : Program} {l : List Char} (h : P.initOrder.toList = l) (b1 b2 : Bool) (h1 : P.laysLater = b1) (h2 : P.bearsReflect = b2) (hd : P.doorFits (stripLifts liftWords (behindMainWord (wordsSigns l))).1 = true) (hm : (match behindMainWord (wordsSigns l) with
    | c :: rest =>
      ((c == "gc".toList || c == "spec".toList) && (rest.isEmpty || rest.head? == some "stop".toList)) ||
      (c == "carried".toList && rest.take 2 == ["gc".toList, "cut".toList] && !b1 && !b2) ||
      ((stripLifts liftWords (c :: rest)).2.head? == some "cut".toList &&
        ((stripLifts liftWords (c :: rest)).1.contains "finals" || !b1) && ((stripLifts liftWords (c :: rest)).1.contains "reflectrows" || !b2) &&
        ((stripLifts liftWords (c :: rest)).1.contains "reflectrows" || !(stripLifts liftWords (c :: rest)).1.contains "leanrows") && true)
    | [] => false) = true) : P.mayEnter = true := by
  subst h h1 h2
  unfold Program.mayEnter
  revert hm hd
  generalize behindMainWord (wordsSigns P.initOrder.toList) = X
  cases X with
  | nil => exact fun _ h => h
  | cons c rest => intro hd hm; simp only [hd]; exact hm
theorem head_lifts : Try.checked.prog.headLifts = [] := by unfold Program.headLifts; rw [head_chars]; kernel_rfl
theorem head_final : Try.checked.prog.liftsFinal = false := by unfold Program.liftsFinal; rw [head_lifts, head_chars]; kernel_rfl
theorem head_make : Try.checked.prog.make = some .cut := make_of head_chars head_lifts (by kernel_rfl)
theorem head_enter : Try.checked.prog.mayEnter = true := enter_of head_chars false false (by kernel_rfl) (by kernel_rfl) (by kernel_rfl) (by kernel_rfl)
end Go.Proofs.Ytaakkdcpkllgoaa
