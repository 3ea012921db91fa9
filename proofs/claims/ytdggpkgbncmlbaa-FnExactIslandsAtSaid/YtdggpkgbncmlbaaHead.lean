/-
  The head of the translation as letters' numbers, and the closed facts of the rows that hang on it alone.
-/
import Derived.Test.YtdggpkgbncmlbaaRows
import Derived.ProofKit
namespace Go.Proofs.Ytdggpkgbncmlbaa
def headCodes : List Nat := [
  104, 97, 114, 110, 101, 115, 115, 32, 99, 52, 48, 100, 101, 100, 54, 101, 100, 49, 55, 53, 56, 101, 50, 55, 49, 48, 101, 56, 57, 54, 56, 102, 50, 98, 57, 99, 102, 54, 100, 102,
  97, 53, 97, 97, 54, 100, 97, 101, 48, 53, 54, 100, 57, 50, 102, 101, 56, 48, 51, 102, 56, 57, 97, 98, 98, 57, 56, 50, 100, 52, 54, 49, 32, 99, 117, 116, 32, 97, 116, 32,
  108, 111, 111, 112, 46, 101, 120, 97, 109, 112, 108, 101, 47, 103, 48, 49, 50, 52, 55, 47, 108, 97, 119, 115, 46, 70, 110, 69, 120, 97, 99, 116, 78, 101, 120, 116, 83, 101, 101, 100,
  32, 108, 111, 111, 112, 46, 101, 120, 97, 109, 112, 108, 101, 47, 103, 48, 49, 50, 52, 55, 47, 108, 97, 119, 115, 46, 70, 110, 69, 120, 97, 99, 116, 85, 115, 101, 83, 101, 101, 100,
  32, 108, 111, 111, 112, 46, 101, 120, 97, 109, 112, 108, 101, 47, 103, 48, 49, 50, 52, 55, 47, 108, 97, 119, 115, 46, 70, 110, 69, 120, 97, 99, 116, 83, 97, 109, 101, 72, 101, 105,
  103, 104, 116, 115, 32, 108, 111, 111, 112, 46, 101, 120, 97, 109, 112, 108, 101, 47, 103, 48, 49, 50, 52, 55, 47, 108, 97, 119, 115, 46, 70, 110, 69, 120, 97, 99, 116, 86, 97, 108,
  105, 100, 72, 101, 105, 103, 104, 116, 115, 32, 108, 111, 111, 112, 46, 101, 120, 97, 109, 112, 108, 101, 47, 103, 48, 49, 50, 52, 55, 47, 108, 97, 119, 115, 46, 70, 110, 69, 120, 97,
  99, 116, 65, 116, 111, 109, 115, 73, 110, 32, 108, 111, 111, 112, 46, 101, 120, 97, 109, 112, 108, 101, 47, 103, 48, 49, 50, 52, 55, 47, 108, 97, 119, 115, 46, 70, 110, 69, 120, 97,
  99, 116, 84, 111, 112, 65, 116, 32, 108, 111, 111, 112, 46, 101, 120, 97, 109, 112, 108, 101, 47, 103, 48, 49, 50, 52, 55, 47, 108, 97, 119, 115, 46, 70, 110, 69, 120, 97, 99, 116,
  77, 101, 97, 110, 84, 111, 112, 32, 108, 111, 111, 112, 46, 101, 120, 97, 109, 112, 108, 101, 47, 103, 48, 49, 50, 52, 55, 47, 108, 97, 119, 115, 46, 70, 110, 69, 120, 97, 99, 116,
  70, 108, 97, 116, 72, 101, 105, 103, 104, 116, 115, 32, 108, 111, 111, 112, 46, 101, 120, 97, 109, 112, 108, 101, 47, 103, 48, 49, 50, 52, 55, 47, 108, 97, 119, 115, 46, 70, 110, 69,
  120, 97, 99, 116, 66, 111, 110, 100, 115, 73, 110, 32, 108, 111, 111, 112, 46, 101, 120, 97, 109, 112, 108, 101, 47, 103, 48, 49, 50, 52, 55, 47, 108, 97, 119, 115, 46, 70, 110, 69,
  120, 97, 99, 116, 83, 116, 101, 112, 115, 73, 110, 32, 108, 111, 111, 112, 46, 101, 120, 97, 109, 112, 108, 101, 47, 103, 48, 49, 50, 52, 55, 47, 108, 97, 119, 115, 46, 70, 110, 69,
  120, 97, 99, 116, 76, 97, 121, 101, 114, 115, 79, 102, 32, 108, 111, 111, 112, 46, 101, 120, 97, 109, 112, 108, 101, 47, 103, 48, 49, 50, 52, 55, 47, 108, 97, 119, 115, 46, 70, 110,
  69, 120, 97, 99, 116, 65, 100, 100, 72, 101, 105, 103, 104, 116, 115, 32, 108, 111, 111, 112, 46, 101, 120, 97, 109, 112, 108, 101, 47, 103, 48, 49, 50, 52, 55, 47, 108, 97, 119, 115,
  46, 70, 110, 69, 120, 97, 99, 116, 83, 104, 105, 102, 116, 72, 101, 105, 103, 104, 116, 115, 32, 108, 111, 111, 112, 46, 101, 120, 97, 109, 112, 108, 101, 47, 103, 48, 49, 50, 52, 55,
  47, 108, 97, 119, 115, 46, 70, 110, 69, 120, 97, 99, 116, 73, 115, 108, 97, 110, 100, 115, 65, 116, 32, 108, 111, 111, 112, 46, 101, 120, 97, 109, 112, 108, 101, 47, 103, 48, 49, 50,
  52, 55, 47, 108, 97, 119, 115, 46, 70, 110, 69, 120, 97, 99, 116, 76, 97, 114, 103, 101, 115, 116, 73, 115, 108, 97, 110, 100, 32, 108, 111, 111, 112, 46, 101, 120, 97, 109, 112, 108,
  101, 47, 103, 48, 49, 50, 52, 55, 47, 108, 97, 119, 115, 46, 70, 110, 69, 120, 97, 99, 116, 82, 111, 117, 103, 104, 110, 101, 115, 115, 79, 102]
def headChars : List Char := headCodes.map Char.ofNat
theorem head_lit : Try.checked.prog.initOrder = "harness c40ded6ed1758e2710e8968f2b9cf6dfa5aa6dae056d92fe803f89abb982d461 cut at loop.example/g01247/laws.FnExactNextSeed loop.example/g01247/laws.FnExactUseSeed loop.example/g01247/laws.FnExactSameHeights loop.example/g01247/laws.FnExactValidHeights loop.example/g01247/laws.FnExactAtomsIn loop.example/g01247/laws.FnExactTopAt loop.example/g01247/laws.FnExactMeanTop loop.example/g01247/laws.FnExactFlatHeights loop.example/g01247/laws.FnExactBondsIn loop.example/g01247/laws.FnExactStepsIn loop.example/g01247/laws.FnExactLayersOf loop.example/g01247/laws.FnExactAddHeights loop.example/g01247/laws.FnExactShiftHeights loop.example/g01247/laws.FnExactIslandsAt loop.example/g01247/laws.FnExactLargestIsland loop.example/g01247/laws.FnExactRoughnessOf" := by kernel_rfl
theorem head_ofList : "harness c40ded6ed1758e2710e8968f2b9cf6dfa5aa6dae056d92fe803f89abb982d461 cut at loop.example/g01247/laws.FnExactNextSeed loop.example/g01247/laws.FnExactUseSeed loop.example/g01247/laws.FnExactSameHeights loop.example/g01247/laws.FnExactValidHeights loop.example/g01247/laws.FnExactAtomsIn loop.example/g01247/laws.FnExactTopAt loop.example/g01247/laws.FnExactMeanTop loop.example/g01247/laws.FnExactFlatHeights loop.example/g01247/laws.FnExactBondsIn loop.example/g01247/laws.FnExactStepsIn loop.example/g01247/laws.FnExactLayersOf loop.example/g01247/laws.FnExactAddHeights loop.example/g01247/laws.FnExactShiftHeights loop.example/g01247/laws.FnExactIslandsAt loop.example/g01247/laws.FnExactLargestIsland loop.example/g01247/laws.FnExactRoughnessOf" = String.ofList headChars := by kernel_rfl
theorem head_is : Try.checked.prog.initOrder = String.ofList headChars := head_lit.trans head_ofList
theorem head_chars : Try.checked.prog.initOrder.toList = headChars := by rw [head_is, String.toList_ofList]
theorem make_of {P : Program} {l : List Char} (h : P.initOrder.toList = l) (hl : P.headLifts = []) (hm : (match behindMainWord (wordsSigns l) with
    | c :: rest => if c == "gc".toList || c == "spec".toList then some Make.whole else if c == "cut".toList || (c == "finals".toList && rest.head? == some "cut".toList) then some .cut else if c == "carried".toList then some .carried else if (List.isEmpty (α := String) []) then none else some (.lifted [])
    | [] => none) = some .cut) : P.make = some .cut := by
  subst h
  unfold Program.make
  rw [hl]
  exact hm
theorem enter_of {P : Program} {l : List Char} (h : P.initOrder.toList = l) (b1 b2 : Bool) (h1 : P.laysLater = b1) (h2 : P.bearsReflect = b2) (hd : P.doorFits (stripLifts liftWords (behindMainWord (wordsSigns l))).1 = true) (hm : (match behindMainWord (wordsSigns l) with
    | c :: rest =>
      ((c == "gc".toList || c == "spec".toList) && (rest.isEmpty || rest.head? == some "stop".toList)) ||
      (c == "carried".toList && rest.take 2 == ["gc".toList, "cut".toList] && !b1 && !b2) ||
      ((stripLifts liftWords (c :: rest)).2.head? == some "cut".toList &&
        ((stripLifts liftWords (c :: rest)).1.contains "finals" || !b1) && ((stripLifts liftWords (c :: rest)).1.contains "reflectrows" || !b2) &&
        ((stripLifts liftWords (c :: rest)).1.contains "reflectrows" || !(stripLifts liftWords (c :: rest)).1.contains "leanrows") && true)
    | [] => false) = true) : P.mayEnter = true := by
  subst h h1 h2
  unfold Program.mayEnter
  revert hm hd
  generalize behindMainWord (wordsSigns P.initOrder.toList) = X
  cases X with
  | nil => exact fun _ h => h
  | cons c rest => intro hd hm; simp only [hd]; exact hm
theorem head_lifts : Try.checked.prog.headLifts = [] := by unfold Program.headLifts; rw [head_chars]; kernel_rfl
theorem head_final : Try.checked.prog.liftsFinal = false := by unfold Program.liftsFinal; rw [head_lifts, head_chars]; kernel_rfl
theorem head_make : Try.checked.prog.make = some .cut := make_of head_chars head_lifts (by kernel_rfl)
theorem head_enter : Try.checked.prog.mayEnter = true := enter_of head_chars false false (by kernel_rfl) (by kernel_rfl) (by kernel_rfl) (by kernel_rfl)
end Go.Proofs.Ytdggpkgbncmlbaa
