/-
  No cell of these rows narrows 'for every input' (looked for: loops, veiled, ifaces, maps, wideKeys, modest, calm, conditions, laid).
  DERIVED. THE GIVEN ROWS OF THIS SEAT. 16 by the template 'for every input the law returns true; each argument reads behind the call as it read before'; 0 by the template 'total and deterministic' (their statements: YtdggpkgbncmlbaaTotals.lean).
  GIVEN WITH THE SEED: the statements are not yours to turn. If you find one false, say at which input.
  Laid BY PROGRAM, IN A SANDBOX (cutbox-rows.mjs): the forced cells as the released guide's own fill.sh prints them over the translation 6f0669e378b7e363… (all of the seat's roots in one cut). By AI agents, Wed Nov 11 2026. No macro, syntax, notation, axiom, sorry.
-/
import Derived.Test.YtdggpkgbncmlbaaChecked
import GoSem.Claim
import GoSem.ClaimJoined
import GoSem.ClaimMapViews
import Derived.JoinedTies
import Derived.KernelRfl
namespace Go.Proofs.Ytdggpkgbncmlbaa
/- THE CELL 'sum', in the pinned program and in every row, IS THE sha256 OF THE DUMP (.gsa) THAT YtdggpkgbncmlbaaProg.lean LOADS. Nothing in Lean hashes anything: it is a label: what it is worth is what the hold of that sum in a sandbox is worth. -/
noncomputable def Try.pinned : Pinned := { name := "ytdggpkgbncmlbaa", sum := "6f0669e378b7e3631ead6f39e10256a26163278d648ec491f5f4b4706261af46", checked := Try.checked }
namespace Rows
def none {H : Type} : Left H := { results := [], args := [] }

/-- 'laws.FnExactNextSeed': WHATEVER THE INPUT: true; the input reads as it did. -/
def fnExactNextSeedSpec : ChangeSpec := { name := "fnExactNextSeed", fn := fun _ => fun
  | [d] => { results := [.lit (.bool true)], args := [d] }
  | _ => none }
def fnExactNextSeedRow : OpenClaim := { program := "ytdggpkgbncmlbaa", sum := "6f0669e378b7e3631ead6f39e10256a26163278d648ec491f5f4b4706261af46", func := "loop.example/g01247/laws.FnExactNextSeed", spec := "fnExactNextSeed", apart := false }
def FnExactNextSeedSaid : Prop := fnExactNextSeedRow.holds Try.pinned (OpenSpec.ofChange fnExactNextSeedSpec)

/-- ITS FALSE NEIGHBOUR: 'it returns false'. Refute it at one input. -/
def fnExactNextSeedWrong : ChangeSpec := { name := "fnExactNextSeed", fn := fun _ => fun
  | [d] => { results := [.lit (.bool false)], args := [d] }
  | _ => none }
def FnExactNextSeedWrongFalsely : Prop := fnExactNextSeedRow.holds Try.pinned (OpenSpec.ofChange fnExactNextSeedWrong)

/-- 'laws.FnExactUseSeed': WHATEVER THE INPUT: true; the input reads as it did. -/
def fnExactUseSeedSpec : ChangeSpec := { name := "fnExactUseSeed", fn := fun _ => fun
  | [d1, d2] => { results := [.lit (.bool true)], args := [d1, d2] }
  | _ => none }
def fnExactUseSeedRow : OpenClaim := { program := "ytdggpkgbncmlbaa", sum := "6f0669e378b7e3631ead6f39e10256a26163278d648ec491f5f4b4706261af46", func := "loop.example/g01247/laws.FnExactUseSeed", spec := "fnExactUseSeed", apart := false }
def FnExactUseSeedSaid : Prop := fnExactUseSeedRow.holds Try.pinned (OpenSpec.ofChange fnExactUseSeedSpec)

/-- ITS FALSE NEIGHBOUR: 'it returns false'. Refute it at one input. -/
def fnExactUseSeedWrong : ChangeSpec := { name := "fnExactUseSeed", fn := fun _ => fun
  | [d1, d2] => { results := [.lit (.bool false)], args := [d1, d2] }
  | _ => none }
def FnExactUseSeedWrongFalsely : Prop := fnExactUseSeedRow.holds Try.pinned (OpenSpec.ofChange fnExactUseSeedWrong)

/-- 'laws.FnExactSameHeights': WHATEVER THE INPUT: true; the input reads as it did. -/
def fnExactSameHeightsSpec : ChangeSpec := { name := "fnExactSameHeights", fn := fun _ => fun
  | [d1, d2] => { results := [.lit (.bool true)], args := [d1, d2] }
  | _ => none }
def fnExactSameHeightsRow : OpenClaim := { program := "ytdggpkgbncmlbaa", sum := "6f0669e378b7e3631ead6f39e10256a26163278d648ec491f5f4b4706261af46", func := "loop.example/g01247/laws.FnExactSameHeights", spec := "fnExactSameHeights", apart := false }
def FnExactSameHeightsSaid : Prop := fnExactSameHeightsRow.holds Try.pinned (OpenSpec.ofChange fnExactSameHeightsSpec)

/-- ITS FALSE NEIGHBOUR: 'it returns false'. Refute it at one input. -/
def fnExactSameHeightsWrong : ChangeSpec := { name := "fnExactSameHeights", fn := fun _ => fun
  | [d1, d2] => { results := [.lit (.bool false)], args := [d1, d2] }
  | _ => none }
def FnExactSameHeightsWrongFalsely : Prop := fnExactSameHeightsRow.holds Try.pinned (OpenSpec.ofChange fnExactSameHeightsWrong)

/-- 'laws.FnExactValidHeights': WHATEVER THE INPUT: true; the input reads as it did. -/
def fnExactValidHeightsSpec : ChangeSpec := { name := "fnExactValidHeights", fn := fun _ => fun
  | [d] => { results := [.lit (.bool true)], args := [d] }
  | _ => none }
def fnExactValidHeightsRow : OpenClaim := { program := "ytdggpkgbncmlbaa", sum := "6f0669e378b7e3631ead6f39e10256a26163278d648ec491f5f4b4706261af46", func := "loop.example/g01247/laws.FnExactValidHeights", spec := "fnExactValidHeights", unfollowed := true, recurses := true, apart := false }
def FnExactValidHeightsSaid : Prop := fnExactValidHeightsRow.holds Try.pinned (OpenSpec.ofChange fnExactValidHeightsSpec)

/-- ITS FALSE NEIGHBOUR: 'it returns false'. Refute it at one input. -/
def fnExactValidHeightsWrong : ChangeSpec := { name := "fnExactValidHeights", fn := fun _ => fun
  | [d] => { results := [.lit (.bool false)], args := [d] }
  | _ => none }
def FnExactValidHeightsWrongFalsely : Prop := fnExactValidHeightsRow.holds Try.pinned (OpenSpec.ofChange fnExactValidHeightsWrong)

/-- 'laws.FnExactAtomsIn': WHATEVER THE INPUT: true; the input reads as it did. -/
def fnExactAtomsInSpec : ChangeSpec := { name := "fnExactAtomsIn", fn := fun _ => fun
  | [d] => { results := [.lit (.bool true)], args := [d] }
  | _ => none }
def fnExactAtomsInRow : OpenClaim := { program := "ytdggpkgbncmlbaa", sum := "6f0669e378b7e3631ead6f39e10256a26163278d648ec491f5f4b4706261af46", func := "loop.example/g01247/laws.FnExactAtomsIn", spec := "fnExactAtomsIn", unfollowed := true, recurses := true, apart := false }
def FnExactAtomsInSaid : Prop := fnExactAtomsInRow.holds Try.pinned (OpenSpec.ofChange fnExactAtomsInSpec)

/-- ITS FALSE NEIGHBOUR: 'it returns false'. Refute it at one input. -/
def fnExactAtomsInWrong : ChangeSpec := { name := "fnExactAtomsIn", fn := fun _ => fun
  | [d] => { results := [.lit (.bool false)], args := [d] }
  | _ => none }
def FnExactAtomsInWrongFalsely : Prop := fnExactAtomsInRow.holds Try.pinned (OpenSpec.ofChange fnExactAtomsInWrong)

/-- 'laws.FnExactTopAt': WHATEVER THE INPUT: true; the input reads as it did. -/
def fnExactTopAtSpec : ChangeSpec := { name := "fnExactTopAt", fn := fun _ => fun
  | [d1, d2, d3] => { results := [.lit (.bool true)], args := [d1, d2, d3] }
  | _ => none }
def fnExactTopAtRow : OpenClaim := { program := "ytdggpkgbncmlbaa", sum := "6f0669e378b7e3631ead6f39e10256a26163278d648ec491f5f4b4706261af46", func := "loop.example/g01247/laws.FnExactTopAt", spec := "fnExactTopAt", unfollowed := true, recurses := true, apart := false }
def FnExactTopAtSaid : Prop := fnExactTopAtRow.holds Try.pinned (OpenSpec.ofChange fnExactTopAtSpec)

/-- ITS FALSE NEIGHBOUR: 'it returns false'. Refute it at one input. -/
def fnExactTopAtWrong : ChangeSpec := { name := "fnExactTopAt", fn := fun _ => fun
  | [d1, d2, d3] => { results := [.lit (.bool false)], args := [d1, d2, d3] }
  | _ => none }
def FnExactTopAtWrongFalsely : Prop := fnExactTopAtRow.holds Try.pinned (OpenSpec.ofChange fnExactTopAtWrong)

/-- 'laws.FnExactMeanTop': WHATEVER THE INPUT: true; the input reads as it did. -/
def fnExactMeanTopSpec : ChangeSpec := { name := "fnExactMeanTop", fn := fun _ => fun
  | [d] => { results := [.lit (.bool true)], args := [d] }
  | _ => none }
def fnExactMeanTopRow : OpenClaim := { program := "ytdggpkgbncmlbaa", sum := "6f0669e378b7e3631ead6f39e10256a26163278d648ec491f5f4b4706261af46", func := "loop.example/g01247/laws.FnExactMeanTop", spec := "fnExactMeanTop", unfollowed := true, recurses := true, apart := false }
def FnExactMeanTopSaid : Prop := fnExactMeanTopRow.holds Try.pinned (OpenSpec.ofChange fnExactMeanTopSpec)

/-- ITS FALSE NEIGHBOUR: 'it returns false'. Refute it at one input. -/
def fnExactMeanTopWrong : ChangeSpec := { name := "fnExactMeanTop", fn := fun _ => fun
  | [d] => { results := [.lit (.bool false)], args := [d] }
  | _ => none }
def FnExactMeanTopWrongFalsely : Prop := fnExactMeanTopRow.holds Try.pinned (OpenSpec.ofChange fnExactMeanTopWrong)

/-- 'laws.FnExactFlatHeights': WHATEVER THE INPUT: true; the input reads as it did. -/
def fnExactFlatHeightsSpec : ChangeSpec := { name := "fnExactFlatHeights", fn := fun _ => fun
  | [d1, d2, d3] => { results := [.lit (.bool true)], args := [d1, d2, d3] }
  | _ => none }
def fnExactFlatHeightsRow : OpenClaim := { program := "ytdggpkgbncmlbaa", sum := "6f0669e378b7e3631ead6f39e10256a26163278d648ec491f5f4b4706261af46", func := "loop.example/g01247/laws.FnExactFlatHeights", spec := "fnExactFlatHeights", unfollowed := true, recurses := true, apart := false }
def FnExactFlatHeightsSaid : Prop := fnExactFlatHeightsRow.holds Try.pinned (OpenSpec.ofChange fnExactFlatHeightsSpec)

/-- ITS FALSE NEIGHBOUR: 'it returns false'. Refute it at one input. -/
def fnExactFlatHeightsWrong : ChangeSpec := { name := "fnExactFlatHeights", fn := fun _ => fun
  | [d1, d2, d3] => { results := [.lit (.bool false)], args := [d1, d2, d3] }
  | _ => none }
def FnExactFlatHeightsWrongFalsely : Prop := fnExactFlatHeightsRow.holds Try.pinned (OpenSpec.ofChange fnExactFlatHeightsWrong)

/-- 'laws.FnExactBondsIn': WHATEVER THE INPUT: true; the input reads as it did. -/
def fnExactBondsInSpec : ChangeSpec := { name := "fnExactBondsIn", fn := fun _ => fun
  | [d] => { results := [.lit (.bool true)], args := [d] }
  | _ => none }
def fnExactBondsInRow : OpenClaim := { program := "ytdggpkgbncmlbaa", sum := "6f0669e378b7e3631ead6f39e10256a26163278d648ec491f5f4b4706261af46", func := "loop.example/g01247/laws.FnExactBondsIn", spec := "fnExactBondsIn", unfollowed := true, recurses := true, apart := false }
def FnExactBondsInSaid : Prop := fnExactBondsInRow.holds Try.pinned (OpenSpec.ofChange fnExactBondsInSpec)

/-- ITS FALSE NEIGHBOUR: 'it returns false'. Refute it at one input. -/
def fnExactBondsInWrong : ChangeSpec := { name := "fnExactBondsIn", fn := fun _ => fun
  | [d] => { results := [.lit (.bool false)], args := [d] }
  | _ => none }
def FnExactBondsInWrongFalsely : Prop := fnExactBondsInRow.holds Try.pinned (OpenSpec.ofChange fnExactBondsInWrong)

/-- 'laws.FnExactStepsIn': WHATEVER THE INPUT: true; the input reads as it did. -/
def fnExactStepsInSpec : ChangeSpec := { name := "fnExactStepsIn", fn := fun _ => fun
  | [d] => { results := [.lit (.bool true)], args := [d] }
  | _ => none }
def fnExactStepsInRow : OpenClaim := { program := "ytdggpkgbncmlbaa", sum := "6f0669e378b7e3631ead6f39e10256a26163278d648ec491f5f4b4706261af46", func := "loop.example/g01247/laws.FnExactStepsIn", spec := "fnExactStepsIn", unfollowed := true, recurses := true, apart := false }
def FnExactStepsInSaid : Prop := fnExactStepsInRow.holds Try.pinned (OpenSpec.ofChange fnExactStepsInSpec)

/-- ITS FALSE NEIGHBOUR: 'it returns false'. Refute it at one input. -/
def fnExactStepsInWrong : ChangeSpec := { name := "fnExactStepsIn", fn := fun _ => fun
  | [d] => { results := [.lit (.bool false)], args := [d] }
  | _ => none }
def FnExactStepsInWrongFalsely : Prop := fnExactStepsInRow.holds Try.pinned (OpenSpec.ofChange fnExactStepsInWrong)

/-- 'laws.FnExactLayersOf': WHATEVER THE INPUT: true; the input reads as it did. -/
def fnExactLayersOfSpec : ChangeSpec := { name := "fnExactLayersOf", fn := fun _ => fun
  | [d] => { results := [.lit (.bool true)], args := [d] }
  | _ => none }
def fnExactLayersOfRow : OpenClaim := { program := "ytdggpkgbncmlbaa", sum := "6f0669e378b7e3631ead6f39e10256a26163278d648ec491f5f4b4706261af46", func := "loop.example/g01247/laws.FnExactLayersOf", spec := "fnExactLayersOf", unfollowed := true, recurses := true, apart := false }
def FnExactLayersOfSaid : Prop := fnExactLayersOfRow.holds Try.pinned (OpenSpec.ofChange fnExactLayersOfSpec)

/-- ITS FALSE NEIGHBOUR: 'it returns false'. Refute it at one input. -/
def fnExactLayersOfWrong : ChangeSpec := { name := "fnExactLayersOf", fn := fun _ => fun
  | [d] => { results := [.lit (.bool false)], args := [d] }
  | _ => none }
def FnExactLayersOfWrongFalsely : Prop := fnExactLayersOfRow.holds Try.pinned (OpenSpec.ofChange fnExactLayersOfWrong)

/-- 'laws.FnExactAddHeights': WHATEVER THE INPUT: true; the input reads as it did. -/
def fnExactAddHeightsSpec : ChangeSpec := { name := "fnExactAddHeights", fn := fun _ => fun
  | [d1, d2] => { results := [.lit (.bool true)], args := [d1, d2] }
  | _ => none }
def fnExactAddHeightsRow : OpenClaim := { program := "ytdggpkgbncmlbaa", sum := "6f0669e378b7e3631ead6f39e10256a26163278d648ec491f5f4b4706261af46", func := "loop.example/g01247/laws.FnExactAddHeights", spec := "fnExactAddHeights", unfollowed := true, recurses := true, apart := false }
def FnExactAddHeightsSaid : Prop := fnExactAddHeightsRow.holds Try.pinned (OpenSpec.ofChange fnExactAddHeightsSpec)

/-- ITS FALSE NEIGHBOUR: 'it returns false'. Refute it at one input. -/
def fnExactAddHeightsWrong : ChangeSpec := { name := "fnExactAddHeights", fn := fun _ => fun
  | [d1, d2] => { results := [.lit (.bool false)], args := [d1, d2] }
  | _ => none }
def FnExactAddHeightsWrongFalsely : Prop := fnExactAddHeightsRow.holds Try.pinned (OpenSpec.ofChange fnExactAddHeightsWrong)

/-- 'laws.FnExactShiftHeights': WHATEVER THE INPUT: true; the input reads as it did. -/
def fnExactShiftHeightsSpec : ChangeSpec := { name := "fnExactShiftHeights", fn := fun _ => fun
  | [d1, d2, d3] => { results := [.lit (.bool true)], args := [d1, d2, d3] }
  | _ => none }
def fnExactShiftHeightsRow : OpenClaim := { program := "ytdggpkgbncmlbaa", sum := "6f0669e378b7e3631ead6f39e10256a26163278d648ec491f5f4b4706261af46", func := "loop.example/g01247/laws.FnExactShiftHeights", spec := "fnExactShiftHeights", unfollowed := true, recurses := true, apart := false }
def FnExactShiftHeightsSaid : Prop := fnExactShiftHeightsRow.holds Try.pinned (OpenSpec.ofChange fnExactShiftHeightsSpec)

/-- ITS FALSE NEIGHBOUR: 'it returns false'. Refute it at one input. -/
def fnExactShiftHeightsWrong : ChangeSpec := { name := "fnExactShiftHeights", fn := fun _ => fun
  | [d1, d2, d3] => { results := [.lit (.bool false)], args := [d1, d2, d3] }
  | _ => none }
def FnExactShiftHeightsWrongFalsely : Prop := fnExactShiftHeightsRow.holds Try.pinned (OpenSpec.ofChange fnExactShiftHeightsWrong)

/-- 'laws.FnExactIslandsAt': WHATEVER THE INPUT: true; the input reads as it did. -/
def fnExactIslandsAtSpec : ChangeSpec := { name := "fnExactIslandsAt", fn := fun _ => fun
  | [d1, d2] => { results := [.lit (.bool true)], args := [d1, d2] }
  | _ => none }
def fnExactIslandsAtRow : OpenClaim := { program := "ytdggpkgbncmlbaa", sum := "6f0669e378b7e3631ead6f39e10256a26163278d648ec491f5f4b4706261af46", func := "loop.example/g01247/laws.FnExactIslandsAt", spec := "fnExactIslandsAt", unfollowed := true, recurses := true, apart := false }
def FnExactIslandsAtSaid : Prop := fnExactIslandsAtRow.holds Try.pinned (OpenSpec.ofChange fnExactIslandsAtSpec)

/-- ITS FALSE NEIGHBOUR: 'it returns false'. Refute it at one input. -/
def fnExactIslandsAtWrong : ChangeSpec := { name := "fnExactIslandsAt", fn := fun _ => fun
  | [d1, d2] => { results := [.lit (.bool false)], args := [d1, d2] }
  | _ => none }
def FnExactIslandsAtWrongFalsely : Prop := fnExactIslandsAtRow.holds Try.pinned (OpenSpec.ofChange fnExactIslandsAtWrong)

/-- 'laws.FnExactLargestIsland': WHATEVER THE INPUT: true; the input reads as it did. -/
def fnExactLargestIslandSpec : ChangeSpec := { name := "fnExactLargestIsland", fn := fun _ => fun
  | [d1, d2] => { results := [.lit (.bool true)], args := [d1, d2] }
  | _ => none }
def fnExactLargestIslandRow : OpenClaim := { program := "ytdggpkgbncmlbaa", sum := "6f0669e378b7e3631ead6f39e10256a26163278d648ec491f5f4b4706261af46", func := "loop.example/g01247/laws.FnExactLargestIsland", spec := "fnExactLargestIsland", unfollowed := true, recurses := true, apart := false }
def FnExactLargestIslandSaid : Prop := fnExactLargestIslandRow.holds Try.pinned (OpenSpec.ofChange fnExactLargestIslandSpec)

/-- ITS FALSE NEIGHBOUR: 'it returns false'. Refute it at one input. -/
def fnExactLargestIslandWrong : ChangeSpec := { name := "fnExactLargestIsland", fn := fun _ => fun
  | [d1, d2] => { results := [.lit (.bool false)], args := [d1, d2] }
  | _ => none }
def FnExactLargestIslandWrongFalsely : Prop := fnExactLargestIslandRow.holds Try.pinned (OpenSpec.ofChange fnExactLargestIslandWrong)

/-- 'laws.FnExactRoughnessOf': WHATEVER THE INPUT: true; the input reads as it did. -/
def fnExactRoughnessOfSpec : ChangeSpec := { name := "fnExactRoughnessOf", fn := fun _ => fun
  | [d] => { results := [.lit (.bool true)], args := [d] }
  | _ => none }
def fnExactRoughnessOfRow : OpenClaim := { program := "ytdggpkgbncmlbaa", sum := "6f0669e378b7e3631ead6f39e10256a26163278d648ec491f5f4b4706261af46", func := "loop.example/g01247/laws.FnExactRoughnessOf", spec := "fnExactRoughnessOf", inPlace := ["math.sqrt"], unfollowed := true, recurses := true, apart := false }
def FnExactRoughnessOfSaid : Prop := fnExactRoughnessOfRow.holds Try.pinned (OpenSpec.ofChange fnExactRoughnessOfSpec)

/-- ITS FALSE NEIGHBOUR: 'it returns false'. Refute it at one input. -/
def fnExactRoughnessOfWrong : ChangeSpec := { name := "fnExactRoughnessOf", fn := fun _ => fun
  | [d] => { results := [.lit (.bool false)], args := [d] }
  | _ => none }
def FnExactRoughnessOfWrongFalsely : Prop := fnExactRoughnessOfRow.holds Try.pinned (OpenSpec.ofChange fnExactRoughnessOfWrong)

/- THE SECOND FORM. 'bulk': how many values and letters a reading holds, each counted each time it is reached (what is shared counts as often as it is met; a slice's spare places count too). A statement '..UptoSaid' is the law's where the arguments, and the package variables that the reading takes, are together of bulk at most 1048576: NARROWER than '..Said'. Prove '..Said' where nothing that the law and all that it calls make is longer than what came in: it says more and counts as full. Else prove '..UptoSaid'. A law counts once. -/
mutual
def uptoBulk {H : Type} : DataW H → Nat
  | .lit (.string bytes) => bytes.length + 1
  | .lit _ => 1
  | .nil => 1
  | .ptr d => uptoBulk d + 1
  | .slice elems spare => uptoBulkAll elems + uptoBulkAll spare + 1
  | .agg parts => uptoBulkAll parts + 1
  | .iface _ d => uptoBulk d + 1
  | .map entries => uptoBulkEntries entries + 1
  | .held _ => 1
def uptoBulkAll {H : Type} : List (DataW H) → Nat
  | [] => 0
  | d :: r => uptoBulk d + uptoBulkAll r
def uptoBulkEntries {H : Type} : List (Lit × DataW H) → Nat
  | [] => 0
  | x :: r => uptoBulkEntry x + uptoBulkEntries r
def uptoBulkEntry {H : Type} : Lit × DataW H → Nat
  | (.string bytes, d) => bytes.length + uptoBulk d + 1
  | (_, d) => uptoBulk d + 1
 end
def uptoSmall : (H : Type) → List (DataW H) → Bool := fun _ ds => decide (uptoBulkAll ds ≤ 1048576)
def OpenSpec.upto (s : _root_.Go.ChangeSpec) : _root_.Go.OpenSpec := { _root_.Go.OpenSpec.ofChange s with cond := some uptoSmall }

/-- 'laws.FnExactNextSeed', WHERE WHAT IT READS IS OF BULK AT MOST 1048576: true; the input reads as it did. -/
def fnExactNextSeedUptoRow : OpenClaim := { program := "ytdggpkgbncmlbaa", sum := "6f0669e378b7e3631ead6f39e10256a26163278d648ec491f5f4b4706261af46", func := "loop.example/g01247/laws.FnExactNextSeed", spec := "fnExactNextSeed", apart := false, narrowed := true }
def FnExactNextSeedUptoSaid : Prop := fnExactNextSeedUptoRow.holds Try.pinned (OpenSpec.upto fnExactNextSeedSpec)

/-- 'laws.FnExactUseSeed', WHERE WHAT IT READS IS OF BULK AT MOST 1048576: true; the input reads as it did. -/
def fnExactUseSeedUptoRow : OpenClaim := { program := "ytdggpkgbncmlbaa", sum := "6f0669e378b7e3631ead6f39e10256a26163278d648ec491f5f4b4706261af46", func := "loop.example/g01247/laws.FnExactUseSeed", spec := "fnExactUseSeed", apart := false, narrowed := true }
def FnExactUseSeedUptoSaid : Prop := fnExactUseSeedUptoRow.holds Try.pinned (OpenSpec.upto fnExactUseSeedSpec)

/-- 'laws.FnExactSameHeights', WHERE WHAT IT READS IS OF BULK AT MOST 1048576: true; the input reads as it did. -/
def fnExactSameHeightsUptoRow : OpenClaim := { program := "ytdggpkgbncmlbaa", sum := "6f0669e378b7e3631ead6f39e10256a26163278d648ec491f5f4b4706261af46", func := "loop.example/g01247/laws.FnExactSameHeights", spec := "fnExactSameHeights", apart := false, narrowed := true }
def FnExactSameHeightsUptoSaid : Prop := fnExactSameHeightsUptoRow.holds Try.pinned (OpenSpec.upto fnExactSameHeightsSpec)

/-- 'laws.FnExactValidHeights', WHERE WHAT IT READS IS OF BULK AT MOST 1048576: true; the input reads as it did. -/
def fnExactValidHeightsUptoRow : OpenClaim := { program := "ytdggpkgbncmlbaa", sum := "6f0669e378b7e3631ead6f39e10256a26163278d648ec491f5f4b4706261af46", func := "loop.example/g01247/laws.FnExactValidHeights", spec := "fnExactValidHeights", unfollowed := true, recurses := true, apart := false, narrowed := true }
def FnExactValidHeightsUptoSaid : Prop := fnExactValidHeightsUptoRow.holds Try.pinned (OpenSpec.upto fnExactValidHeightsSpec)

/-- 'laws.FnExactAtomsIn', WHERE WHAT IT READS IS OF BULK AT MOST 1048576: true; the input reads as it did. -/
def fnExactAtomsInUptoRow : OpenClaim := { program := "ytdggpkgbncmlbaa", sum := "6f0669e378b7e3631ead6f39e10256a26163278d648ec491f5f4b4706261af46", func := "loop.example/g01247/laws.FnExactAtomsIn", spec := "fnExactAtomsIn", unfollowed := true, recurses := true, apart := false, narrowed := true }
def FnExactAtomsInUptoSaid : Prop := fnExactAtomsInUptoRow.holds Try.pinned (OpenSpec.upto fnExactAtomsInSpec)

/-- 'laws.FnExactTopAt', WHERE WHAT IT READS IS OF BULK AT MOST 1048576: true; the input reads as it did. -/
def fnExactTopAtUptoRow : OpenClaim := { program := "ytdggpkgbncmlbaa", sum := "6f0669e378b7e3631ead6f39e10256a26163278d648ec491f5f4b4706261af46", func := "loop.example/g01247/laws.FnExactTopAt", spec := "fnExactTopAt", unfollowed := true, recurses := true, apart := false, narrowed := true }
def FnExactTopAtUptoSaid : Prop := fnExactTopAtUptoRow.holds Try.pinned (OpenSpec.upto fnExactTopAtSpec)

/-- 'laws.FnExactMeanTop', WHERE WHAT IT READS IS OF BULK AT MOST 1048576: true; the input reads as it did. -/
def fnExactMeanTopUptoRow : OpenClaim := { program := "ytdggpkgbncmlbaa", sum := "6f0669e378b7e3631ead6f39e10256a26163278d648ec491f5f4b4706261af46", func := "loop.example/g01247/laws.FnExactMeanTop", spec := "fnExactMeanTop", unfollowed := true, recurses := true, apart := false, narrowed := true }
def FnExactMeanTopUptoSaid : Prop := fnExactMeanTopUptoRow.holds Try.pinned (OpenSpec.upto fnExactMeanTopSpec)

/-- 'laws.FnExactFlatHeights', WHERE WHAT IT READS IS OF BULK AT MOST 1048576: true; the input reads as it did. -/
def fnExactFlatHeightsUptoRow : OpenClaim := { program := "ytdggpkgbncmlbaa", sum := "6f0669e378b7e3631ead6f39e10256a26163278d648ec491f5f4b4706261af46", func := "loop.example/g01247/laws.FnExactFlatHeights", spec := "fnExactFlatHeights", unfollowed := true, recurses := true, apart := false, narrowed := true }
def FnExactFlatHeightsUptoSaid : Prop := fnExactFlatHeightsUptoRow.holds Try.pinned (OpenSpec.upto fnExactFlatHeightsSpec)

/-- 'laws.FnExactBondsIn', WHERE WHAT IT READS IS OF BULK AT MOST 1048576: true; the input reads as it did. -/
def fnExactBondsInUptoRow : OpenClaim := { program := "ytdggpkgbncmlbaa", sum := "6f0669e378b7e3631ead6f39e10256a26163278d648ec491f5f4b4706261af46", func := "loop.example/g01247/laws.FnExactBondsIn", spec := "fnExactBondsIn", unfollowed := true, recurses := true, apart := false, narrowed := true }
def FnExactBondsInUptoSaid : Prop := fnExactBondsInUptoRow.holds Try.pinned (OpenSpec.upto fnExactBondsInSpec)

/-- 'laws.FnExactStepsIn', WHERE WHAT IT READS IS OF BULK AT MOST 1048576: true; the input reads as it did. -/
def fnExactStepsInUptoRow : OpenClaim := { program := "ytdggpkgbncmlbaa", sum := "6f0669e378b7e3631ead6f39e10256a26163278d648ec491f5f4b4706261af46", func := "loop.example/g01247/laws.FnExactStepsIn", spec := "fnExactStepsIn", unfollowed := true, recurses := true, apart := false, narrowed := true }
def FnExactStepsInUptoSaid : Prop := fnExactStepsInUptoRow.holds Try.pinned (OpenSpec.upto fnExactStepsInSpec)

/-- 'laws.FnExactLayersOf', WHERE WHAT IT READS IS OF BULK AT MOST 1048576: true; the input reads as it did. -/
def fnExactLayersOfUptoRow : OpenClaim := { program := "ytdggpkgbncmlbaa", sum := "6f0669e378b7e3631ead6f39e10256a26163278d648ec491f5f4b4706261af46", func := "loop.example/g01247/laws.FnExactLayersOf", spec := "fnExactLayersOf", unfollowed := true, recurses := true, apart := false, narrowed := true }
def FnExactLayersOfUptoSaid : Prop := fnExactLayersOfUptoRow.holds Try.pinned (OpenSpec.upto fnExactLayersOfSpec)

/-- 'laws.FnExactAddHeights', WHERE WHAT IT READS IS OF BULK AT MOST 1048576: true; the input reads as it did. -/
def fnExactAddHeightsUptoRow : OpenClaim := { program := "ytdggpkgbncmlbaa", sum := "6f0669e378b7e3631ead6f39e10256a26163278d648ec491f5f4b4706261af46", func := "loop.example/g01247/laws.FnExactAddHeights", spec := "fnExactAddHeights", unfollowed := true, recurses := true, apart := false, narrowed := true }
def FnExactAddHeightsUptoSaid : Prop := fnExactAddHeightsUptoRow.holds Try.pinned (OpenSpec.upto fnExactAddHeightsSpec)

/-- 'laws.FnExactShiftHeights', WHERE WHAT IT READS IS OF BULK AT MOST 1048576: true; the input reads as it did. -/
def fnExactShiftHeightsUptoRow : OpenClaim := { program := "ytdggpkgbncmlbaa", sum := "6f0669e378b7e3631ead6f39e10256a26163278d648ec491f5f4b4706261af46", func := "loop.example/g01247/laws.FnExactShiftHeights", spec := "fnExactShiftHeights", unfollowed := true, recurses := true, apart := false, narrowed := true }
def FnExactShiftHeightsUptoSaid : Prop := fnExactShiftHeightsUptoRow.holds Try.pinned (OpenSpec.upto fnExactShiftHeightsSpec)

/-- 'laws.FnExactIslandsAt', WHERE WHAT IT READS IS OF BULK AT MOST 1048576: true; the input reads as it did. -/
def fnExactIslandsAtUptoRow : OpenClaim := { program := "ytdggpkgbncmlbaa", sum := "6f0669e378b7e3631ead6f39e10256a26163278d648ec491f5f4b4706261af46", func := "loop.example/g01247/laws.FnExactIslandsAt", spec := "fnExactIslandsAt", unfollowed := true, recurses := true, apart := false, narrowed := true }
def FnExactIslandsAtUptoSaid : Prop := fnExactIslandsAtUptoRow.holds Try.pinned (OpenSpec.upto fnExactIslandsAtSpec)

/-- 'laws.FnExactLargestIsland', WHERE WHAT IT READS IS OF BULK AT MOST 1048576: true; the input reads as it did. -/
def fnExactLargestIslandUptoRow : OpenClaim := { program := "ytdggpkgbncmlbaa", sum := "6f0669e378b7e3631ead6f39e10256a26163278d648ec491f5f4b4706261af46", func := "loop.example/g01247/laws.FnExactLargestIsland", spec := "fnExactLargestIsland", unfollowed := true, recurses := true, apart := false, narrowed := true }
def FnExactLargestIslandUptoSaid : Prop := fnExactLargestIslandUptoRow.holds Try.pinned (OpenSpec.upto fnExactLargestIslandSpec)

/-- 'laws.FnExactRoughnessOf', WHERE WHAT IT READS IS OF BULK AT MOST 1048576: true; the input reads as it did. -/
def fnExactRoughnessOfUptoRow : OpenClaim := { program := "ytdggpkgbncmlbaa", sum := "6f0669e378b7e3631ead6f39e10256a26163278d648ec491f5f4b4706261af46", func := "loop.example/g01247/laws.FnExactRoughnessOf", spec := "fnExactRoughnessOf", inPlace := ["math.sqrt"], unfollowed := true, recurses := true, apart := false, narrowed := true }
def FnExactRoughnessOfUptoSaid : Prop := fnExactRoughnessOfUptoRow.holds Try.pinned (OpenSpec.upto fnExactRoughnessOfSpec)

end Rows
end Go.Proofs.Ytdggpkgbncmlbaa
