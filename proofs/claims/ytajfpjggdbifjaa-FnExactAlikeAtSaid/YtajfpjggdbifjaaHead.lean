/-
  The head of the translation as letters' numbers, and the closed facts of the rows that hang on it alone.
-/
import Derived.Test.YtajfpjggdbifjaaRows
import Derived.ProofKit
namespace Go.Proofs.Ytajfpjggdbifjaa
def headCodes : List Nat := [
  104, 97, 114, 110, 101, 115, 115, 32, 56, 56, 55, 97, 102, 55, 100, 101, 98, 102, 101, 99, 56, 99, 101, 57, 56, 55, 101, 53, 98, 50, 97, 100, 52, 97, 57, 53, 57, 48, 99, 100,
  102, 101, 53, 48, 49, 54, 102, 51, 52, 57, 99, 97, 97, 57, 49, 48, 57, 101, 101, 57, 52, 49, 52, 55, 50, 100, 53, 55, 51, 51, 51, 53, 32, 99, 117, 116, 32, 97, 116, 32,
  108, 111, 111, 112, 46, 101, 120, 97, 109, 112, 108, 101, 47, 103, 48, 49, 50, 52, 55, 47, 108, 97, 119, 115, 46, 70, 110, 83, 109, 111, 111, 116, 104, 101, 100, 32, 108, 111, 111, 112,
  46, 101, 120, 97, 109, 112, 108, 101, 47, 103, 48, 49, 50, 52, 55, 47, 108, 97, 119, 115, 46, 70, 110, 80, 97, 114, 116, 115, 32, 108, 111, 111, 112, 46, 101, 120, 97, 109, 112, 108,
  101, 47, 103, 48, 49, 50, 52, 55, 47, 108, 97, 119, 115, 46, 70, 110, 70, 105, 101, 108, 100, 83, 117, 109, 115, 32, 108, 111, 111, 112, 46, 101, 120, 97, 109, 112, 108, 101, 47, 103,
  48, 49, 50, 52, 55, 47, 108, 97, 119, 115, 46, 70, 110, 69, 120, 97, 99, 116, 83, 97, 109, 101, 77, 101, 108, 116, 32, 108, 111, 111, 112, 46, 101, 120, 97, 109, 112, 108, 101, 47,
  103, 48, 49, 50, 52, 55, 47, 108, 97, 119, 115, 46, 70, 110, 69, 120, 97, 99, 116, 86, 97, 108, 105, 100, 77, 101, 108, 116, 32, 108, 111, 111, 112, 46, 101, 120, 97, 109, 112, 108,
  101, 47, 103, 48, 49, 50, 52, 55, 47, 108, 97, 119, 115, 46, 70, 110, 69, 120, 97, 99, 116, 83, 111, 108, 105, 100, 73, 110, 32, 108, 111, 111, 112, 46, 101, 120, 97, 109, 112, 108,
  101, 47, 103, 48, 49, 50, 52, 55, 47, 108, 97, 119, 115, 46, 70, 110, 69, 120, 97, 99, 116, 75, 101, 112, 116, 73, 110, 32, 108, 111, 111, 112, 46, 101, 120, 97, 109, 112, 108, 101,
  47, 103, 48, 49, 50, 52, 55, 47, 108, 97, 119, 115, 46, 70, 110, 69, 120, 97, 99, 116, 78, 101, 119, 77, 101, 108, 116, 32, 108, 111, 111, 112, 46, 101, 120, 97, 109, 112, 108, 101,
  47, 103, 48, 49, 50, 52, 55, 47, 108, 97, 119, 115, 46, 70, 110, 69, 120, 97, 99, 116, 68, 114, 105, 118, 101, 65, 116, 32, 108, 111, 111, 112, 46, 101, 120, 97, 109, 112, 108, 101,
  47, 103, 48, 49, 50, 52, 55, 47, 108, 97, 119, 115, 46, 70, 110, 69, 120, 97, 99, 116, 84, 105, 112, 65, 108, 111, 110, 103, 32, 108, 111, 111, 112, 46, 101, 120, 97, 109, 112, 108,
  101, 47, 103, 48, 49, 50, 52, 55, 47, 108, 97, 119, 115, 46, 70, 110, 69, 120, 97, 99, 116, 65, 108, 105, 107, 101, 65, 116]
def headChars : List Char := headCodes.map Char.ofNat
theorem head_lit : Try.checked.prog.initOrder = "harness 887af7debfec8ce987e5b2ad4a9590cdfe5016f349caa9109ee941472d573335 cut at loop.example/g01247/laws.FnSmoothed loop.example/g01247/laws.FnParts loop.example/g01247/laws.FnFieldSums loop.example/g01247/laws.FnExactSameMelt loop.example/g01247/laws.FnExactValidMelt loop.example/g01247/laws.FnExactSolidIn loop.example/g01247/laws.FnExactKeptIn loop.example/g01247/laws.FnExactNewMelt loop.example/g01247/laws.FnExactDriveAt loop.example/g01247/laws.FnExactTipAlong loop.example/g01247/laws.FnExactAlikeAt" := by kernel_rfl
theorem head_ofList : "harness 887af7debfec8ce987e5b2ad4a9590cdfe5016f349caa9109ee941472d573335 cut at loop.example/g01247/laws.FnSmoothed loop.example/g01247/laws.FnParts loop.example/g01247/laws.FnFieldSums loop.example/g01247/laws.FnExactSameMelt loop.example/g01247/laws.FnExactValidMelt loop.example/g01247/laws.FnExactSolidIn loop.example/g01247/laws.FnExactKeptIn loop.example/g01247/laws.FnExactNewMelt loop.example/g01247/laws.FnExactDriveAt loop.example/g01247/laws.FnExactTipAlong loop.example/g01247/laws.FnExactAlikeAt" = String.ofList headChars := by kernel_rfl
theorem head_is : Try.checked.prog.initOrder = String.ofList headChars := head_lit.trans head_ofList
theorem head_chars : Try.checked.prog.initOrder.toList = headChars := by rw [head_is, String.toList_ofList]
theorem make_of {P : Program} {l : List Char} (h : P.initOrder.toList = l) (hl : P.headLifts = []) (hm : (match behindMainWord (wordsSigns l) with
    | c :: rest => if c == "gc".toList || c == "spec".toList then some Make.whole else if c == "cut".toList || (c == "finals".toList && rest.head? == some "cut".toList) then some .cut else if c == "carried".toList then some .carried else if (List.isEmpty (α := String) []) then none else some (.lifted [])
    | [] => none) = some .cut) : P.make = some .cut := by
  subst h
  unfold Program.make
  rw [hl]
  exact hm
theorem enter_of {P : Program} {l : List Char} (h : P.initOrder.toList = l) (b1 b2 : Bool) (h1 : P.laysLater = b1) (h2 : P.bearsReflect = b2) (hd : P.doorFits (stripLifts liftWords (behindMainWord (wordsSigns l))).1 = true) (hm : (match behindMainWord (wordsSigns l) with
    | c :: rest =>
      ((c == "gc".toList || c == "spec".toList) && (rest.isEmpty || rest.head? == some "stop".toList)) ||
      (c == "carried".toList && rest.take 2 == ["gc".toList, "cut".toList] && !b1 && !b2) ||
      ((stripLifts liftWords (c :: rest)).2.head? == some "cut".toList &&
        ((stripLifts liftWords (c :: rest)).1.contains "finals" || !b1) && ((stripLifts liftWords (c :: rest)).1.contains "reflectrows" || !b2) &&
        ((stripLifts liftWords (c :: rest)).1.contains "reflectrows" || !(stripLifts liftWords (c :: rest)).1.contains "leanrows") && true)
    | [] => false) = true) : P.mayEnter = true := by
  subst h h1 h2
  unfold Program.mayEnter
  revert hm hd
  generalize behindMainWord (wordsSigns P.initOrder.toList) = X
  cases X with
  | nil => exact fun _ h => h
  | cons c rest => intro hd hm; simp only [hd]; exact hm
theorem head_lifts : Try.checked.prog.headLifts = [] := by unfold Program.headLifts; rw [head_chars]; kernel_rfl
theorem head_final : Try.checked.prog.liftsFinal = false := by unfold Program.liftsFinal; rw [head_lifts, head_chars]; kernel_rfl
theorem head_make : Try.checked.prog.make = some .cut := make_of head_chars head_lifts (by kernel_rfl)
theorem head_enter : Try.checked.prog.mayEnter = true := enter_of head_chars false false (by kernel_rfl) (by kernel_rfl) (by kernel_rfl) (by kernel_rfl)
end Go.Proofs.Ytajfpjggdbifjaa
