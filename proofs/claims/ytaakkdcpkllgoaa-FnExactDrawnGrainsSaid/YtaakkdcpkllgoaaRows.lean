/-
  No cell of these rows narrows 'for every input' (looked for: loops, veiled, ifaces, maps, wideKeys, modest, calm, conditions, laid).
  DERIVED. THE GIVEN ROWS OF THIS SEAT. 13 by the template 'for every input the law returns true; each argument reads behind the call as it read before'; 0 by the template 'total and deterministic' (their statements: YtaakkdcpkllgoaaTotals.lean).
  GIVEN WITH THE SEED: the statements are not yours to turn. If you find one false, say at which input.
  Laid BY PROGRAM, IN A SANDBOX (cutbox-rows.mjs): the forced cells as the released guide's own fill.sh prints them over the translation c44eb2d235a017ed… (all of the seat's roots in one cut). By AI agents, Wed Nov 11 2026. No macro, syntax, notation, axiom, sorry.
-/
import Derived.Test.YtaakkdcpkllgoaaChecked
import GoSem.Claim
import GoSem.ClaimJoined
import GoSem.ClaimMapViews
import Derived.JoinedTies
import Derived.KernelRfl
namespace Go.Proofs.Ytaakkdcpkllgoaa
/- THE CELL 'sum', in the pinned program and in every row, IS THE sha256 OF THE DUMP (.gsa) THAT YtaakkdcpkllgoaaProg.lean LOADS. Nothing in Lean hashes anything: it is a label: what it is worth is what the hold of that sum in a sandbox is worth. -/
noncomputable def Try.pinned : Pinned := { name := "ytaakkdcpkllgoaa", sum := "c44eb2d235a017ed48e7e6c2e870da2bb2a24fba8b70b1a1798d21a1df5c238b", checked := Try.checked }
namespace Rows
def none {H : Type} : Left H := { results := [], args := [] }

/-- 'laws.FnExactFlatGrains': WHATEVER THE INPUT: true; the input reads as it did. -/
def fnExactFlatGrainsSpec : ChangeSpec := { name := "fnExactFlatGrains", fn := fun _ => fun
  | [d1, d2, d3] => { results := [.lit (.bool true)], args := [d1, d2, d3] }
  | _ => none }
def fnExactFlatGrainsRow : OpenClaim := { program := "ytaakkdcpkllgoaa", sum := "c44eb2d235a017ed48e7e6c2e870da2bb2a24fba8b70b1a1798d21a1df5c238b", func := "loop.example/g01247/laws.FnExactFlatGrains", spec := "fnExactFlatGrains", unfollowed := true, recurses := true, apart := false }
def FnExactFlatGrainsSaid : Prop := fnExactFlatGrainsRow.holds Try.pinned (OpenSpec.ofChange fnExactFlatGrainsSpec)

/-- ITS FALSE NEIGHBOUR: 'it returns false'. Refute it at one input. -/
def fnExactFlatGrainsWrong : ChangeSpec := { name := "fnExactFlatGrains", fn := fun _ => fun
  | [d1, d2, d3] => { results := [.lit (.bool false)], args := [d1, d2, d3] }
  | _ => none }
def FnExactFlatGrainsWrongFalsely : Prop := fnExactFlatGrainsRow.holds Try.pinned (OpenSpec.ofChange fnExactFlatGrainsWrong)

/-- 'laws.FnExactDrawnGrains': WHATEVER THE INPUT: true; the input reads as it did. -/
def fnExactDrawnGrainsSpec : ChangeSpec := { name := "fnExactDrawnGrains", fn := fun _ => fun
  | [d1, d2, d3, d4] => { results := [.lit (.bool true)], args := [d1, d2, d3, d4] }
  | _ => none }
def fnExactDrawnGrainsRow : OpenClaim := { program := "ytaakkdcpkllgoaa", sum := "c44eb2d235a017ed48e7e6c2e870da2bb2a24fba8b70b1a1798d21a1df5c238b", func := "loop.example/g01247/laws.FnExactDrawnGrains", spec := "fnExactDrawnGrains", unfollowed := true, recurses := true, apart := false }
def FnExactDrawnGrainsSaid : Prop := fnExactDrawnGrainsRow.holds Try.pinned (OpenSpec.ofChange fnExactDrawnGrainsSpec)

/-- ITS FALSE NEIGHBOUR: 'it returns false'. Refute it at one input. -/
def fnExactDrawnGrainsWrong : ChangeSpec := { name := "fnExactDrawnGrains", fn := fun _ => fun
  | [d1, d2, d3, d4] => { results := [.lit (.bool false)], args := [d1, d2, d3, d4] }
  | _ => none }
def FnExactDrawnGrainsWrongFalsely : Prop := fnExactDrawnGrainsRow.holds Try.pinned (OpenSpec.ofChange fnExactDrawnGrainsWrong)

/-- 'laws.FnExactCountOfLabel': WHATEVER THE INPUT: true; the input reads as it did. -/
def fnExactCountOfLabelSpec : ChangeSpec := { name := "fnExactCountOfLabel", fn := fun _ => fun
  | [d1, d2] => { results := [.lit (.bool true)], args := [d1, d2] }
  | _ => none }
def fnExactCountOfLabelRow : OpenClaim := { program := "ytaakkdcpkllgoaa", sum := "c44eb2d235a017ed48e7e6c2e870da2bb2a24fba8b70b1a1798d21a1df5c238b", func := "loop.example/g01247/laws.FnExactCountOfLabel", spec := "fnExactCountOfLabel", unfollowed := true, recurses := true, apart := false }
def FnExactCountOfLabelSaid : Prop := fnExactCountOfLabelRow.holds Try.pinned (OpenSpec.ofChange fnExactCountOfLabelSpec)

/-- ITS FALSE NEIGHBOUR: 'it returns false'. Refute it at one input. -/
def fnExactCountOfLabelWrong : ChangeSpec := { name := "fnExactCountOfLabel", fn := fun _ => fun
  | [d1, d2] => { results := [.lit (.bool false)], args := [d1, d2] }
  | _ => none }
def FnExactCountOfLabelWrongFalsely : Prop := fnExactCountOfLabelRow.holds Try.pinned (OpenSpec.ofChange fnExactCountOfLabelWrong)

/-- 'laws.FnExactLabelAbout': WHATEVER THE INPUT: true; the input reads as it did. -/
def fnExactLabelAboutSpec : ChangeSpec := { name := "fnExactLabelAbout", fn := fun _ => fun
  | [d1, d2, d3] => { results := [.lit (.bool true)], args := [d1, d2, d3] }
  | _ => none }
def fnExactLabelAboutRow : OpenClaim := { program := "ytaakkdcpkllgoaa", sum := "c44eb2d235a017ed48e7e6c2e870da2bb2a24fba8b70b1a1798d21a1df5c238b", func := "loop.example/g01247/laws.FnExactLabelAbout", spec := "fnExactLabelAbout", unfollowed := true, recurses := true, apart := false }
def FnExactLabelAboutSaid : Prop := fnExactLabelAboutRow.holds Try.pinned (OpenSpec.ofChange fnExactLabelAboutSpec)

/-- ITS FALSE NEIGHBOUR: 'it returns false'. Refute it at one input. -/
def fnExactLabelAboutWrong : ChangeSpec := { name := "fnExactLabelAbout", fn := fun _ => fun
  | [d1, d2, d3] => { results := [.lit (.bool false)], args := [d1, d2, d3] }
  | _ => none }
def FnExactLabelAboutWrongFalsely : Prop := fnExactLabelAboutRow.holds Try.pinned (OpenSpec.ofChange fnExactLabelAboutWrong)

/-- 'laws.FnExactRelabelGrains': WHATEVER THE INPUT: true; the input reads as it did. -/
def fnExactRelabelGrainsSpec : ChangeSpec := { name := "fnExactRelabelGrains", fn := fun _ => fun
  | [d1, d2] => { results := [.lit (.bool true)], args := [d1, d2] }
  | _ => none }
def fnExactRelabelGrainsRow : OpenClaim := { program := "ytaakkdcpkllgoaa", sum := "c44eb2d235a017ed48e7e6c2e870da2bb2a24fba8b70b1a1798d21a1df5c238b", func := "loop.example/g01247/laws.FnExactRelabelGrains", spec := "fnExactRelabelGrains", unfollowed := true, recurses := true, apart := false }
def FnExactRelabelGrainsSaid : Prop := fnExactRelabelGrainsRow.holds Try.pinned (OpenSpec.ofChange fnExactRelabelGrainsSpec)

/-- ITS FALSE NEIGHBOUR: 'it returns false'. Refute it at one input. -/
def fnExactRelabelGrainsWrong : ChangeSpec := { name := "fnExactRelabelGrains", fn := fun _ => fun
  | [d1, d2] => { results := [.lit (.bool false)], args := [d1, d2] }
  | _ => none }
def FnExactRelabelGrainsWrongFalsely : Prop := fnExactRelabelGrainsRow.holds Try.pinned (OpenSpec.ofChange fnExactRelabelGrainsWrong)

/-- 'laws.FnExactPutLabel': WHATEVER THE INPUT: true; the input reads as it did. -/
def fnExactPutLabelSpec : ChangeSpec := { name := "fnExactPutLabel", fn := fun _ => fun
  | [d1, d2, d3, d4] => { results := [.lit (.bool true)], args := [d1, d2, d3, d4] }
  | _ => none }
def fnExactPutLabelRow : OpenClaim := { program := "ytaakkdcpkllgoaa", sum := "c44eb2d235a017ed48e7e6c2e870da2bb2a24fba8b70b1a1798d21a1df5c238b", func := "loop.example/g01247/laws.FnExactPutLabel", spec := "fnExactPutLabel", unfollowed := true, recurses := true, apart := false }
def FnExactPutLabelSaid : Prop := fnExactPutLabelRow.holds Try.pinned (OpenSpec.ofChange fnExactPutLabelSpec)

/-- ITS FALSE NEIGHBOUR: 'it returns false'. Refute it at one input. -/
def fnExactPutLabelWrong : ChangeSpec := { name := "fnExactPutLabel", fn := fun _ => fun
  | [d1, d2, d3, d4] => { results := [.lit (.bool false)], args := [d1, d2, d3, d4] }
  | _ => none }
def FnExactPutLabelWrongFalsely : Prop := fnExactPutLabelRow.holds Try.pinned (OpenSpec.ofChange fnExactPutLabelWrong)

/-- 'laws.FnExactUnlikeAround': WHATEVER THE INPUT: true; the input reads as it did. -/
def fnExactUnlikeAroundSpec : ChangeSpec := { name := "fnExactUnlikeAround", fn := fun _ => fun
  | [d1, d2, d3, d4] => { results := [.lit (.bool true)], args := [d1, d2, d3, d4] }
  | _ => none }
def fnExactUnlikeAroundRow : OpenClaim := { program := "ytaakkdcpkllgoaa", sum := "c44eb2d235a017ed48e7e6c2e870da2bb2a24fba8b70b1a1798d21a1df5c238b", func := "loop.example/g01247/laws.FnExactUnlikeAround", spec := "fnExactUnlikeAround", unfollowed := true, recurses := true, apart := false }
def FnExactUnlikeAroundSaid : Prop := fnExactUnlikeAroundRow.holds Try.pinned (OpenSpec.ofChange fnExactUnlikeAroundSpec)

/-- ITS FALSE NEIGHBOUR: 'it returns false'. Refute it at one input. -/
def fnExactUnlikeAroundWrong : ChangeSpec := { name := "fnExactUnlikeAround", fn := fun _ => fun
  | [d1, d2, d3, d4] => { results := [.lit (.bool false)], args := [d1, d2, d3, d4] }
  | _ => none }
def FnExactUnlikeAroundWrongFalsely : Prop := fnExactUnlikeAroundRow.holds Try.pinned (OpenSpec.ofChange fnExactUnlikeAroundWrong)

/-- 'laws.FnExactUnlikePairs': WHATEVER THE INPUT: true; the input reads as it did. -/
def fnExactUnlikePairsSpec : ChangeSpec := { name := "fnExactUnlikePairs", fn := fun _ => fun
  | [d] => { results := [.lit (.bool true)], args := [d] }
  | _ => none }
def fnExactUnlikePairsRow : OpenClaim := { program := "ytaakkdcpkllgoaa", sum := "c44eb2d235a017ed48e7e6c2e870da2bb2a24fba8b70b1a1798d21a1df5c238b", func := "loop.example/g01247/laws.FnExactUnlikePairs", spec := "fnExactUnlikePairs", unfollowed := true, recurses := true, apart := false }
def FnExactUnlikePairsSaid : Prop := fnExactUnlikePairsRow.holds Try.pinned (OpenSpec.ofChange fnExactUnlikePairsSpec)

/-- ITS FALSE NEIGHBOUR: 'it returns false'. Refute it at one input. -/
def fnExactUnlikePairsWrong : ChangeSpec := { name := "fnExactUnlikePairs", fn := fun _ => fun
  | [d] => { results := [.lit (.bool false)], args := [d] }
  | _ => none }
def FnExactUnlikePairsWrongFalsely : Prop := fnExactUnlikePairsRow.holds Try.pinned (OpenSpec.ofChange fnExactUnlikePairsWrong)

/-- 'laws.FnExactMirrorGrains': WHATEVER THE INPUT: true; the input reads as it did. -/
def fnExactMirrorGrainsSpec : ChangeSpec := { name := "fnExactMirrorGrains", fn := fun _ => fun
  | [d] => { results := [.lit (.bool true)], args := [d] }
  | _ => none }
def fnExactMirrorGrainsRow : OpenClaim := { program := "ytaakkdcpkllgoaa", sum := "c44eb2d235a017ed48e7e6c2e870da2bb2a24fba8b70b1a1798d21a1df5c238b", func := "loop.example/g01247/laws.FnExactMirrorGrains", spec := "fnExactMirrorGrains", unfollowed := true, recurses := true, apart := false }
def FnExactMirrorGrainsSaid : Prop := fnExactMirrorGrainsRow.holds Try.pinned (OpenSpec.ofChange fnExactMirrorGrainsSpec)

/-- ITS FALSE NEIGHBOUR: 'it returns false'. Refute it at one input. -/
def fnExactMirrorGrainsWrong : ChangeSpec := { name := "fnExactMirrorGrains", fn := fun _ => fun
  | [d] => { results := [.lit (.bool false)], args := [d] }
  | _ => none }
def FnExactMirrorGrainsWrongFalsely : Prop := fnExactMirrorGrainsRow.holds Try.pinned (OpenSpec.ofChange fnExactMirrorGrainsWrong)

/-- 'laws.FnExactRollGrains': WHATEVER THE INPUT: true; the input reads as it did. -/
def fnExactRollGrainsSpec : ChangeSpec := { name := "fnExactRollGrains", fn := fun _ => fun
  | [d1, d2, d3] => { results := [.lit (.bool true)], args := [d1, d2, d3] }
  | _ => none }
def fnExactRollGrainsRow : OpenClaim := { program := "ytaakkdcpkllgoaa", sum := "c44eb2d235a017ed48e7e6c2e870da2bb2a24fba8b70b1a1798d21a1df5c238b", func := "loop.example/g01247/laws.FnExactRollGrains", spec := "fnExactRollGrains", unfollowed := true, recurses := true, apart := false }
def FnExactRollGrainsSaid : Prop := fnExactRollGrainsRow.holds Try.pinned (OpenSpec.ofChange fnExactRollGrainsSpec)

/-- ITS FALSE NEIGHBOUR: 'it returns false'. Refute it at one input. -/
def fnExactRollGrainsWrong : ChangeSpec := { name := "fnExactRollGrains", fn := fun _ => fun
  | [d1, d2, d3] => { results := [.lit (.bool false)], args := [d1, d2, d3] }
  | _ => none }
def FnExactRollGrainsWrongFalsely : Prop := fnExactRollGrainsRow.holds Try.pinned (OpenSpec.ofChange fnExactRollGrainsWrong)

/-- 'laws.FnExactFieldOfLabel': WHATEVER THE INPUT: true; the input reads as it did. -/
def fnExactFieldOfLabelSpec : ChangeSpec := { name := "fnExactFieldOfLabel", fn := fun _ => fun
  | [d1, d2] => { results := [.lit (.bool true)], args := [d1, d2] }
  | _ => none }
def fnExactFieldOfLabelRow : OpenClaim := { program := "ytaakkdcpkllgoaa", sum := "c44eb2d235a017ed48e7e6c2e870da2bb2a24fba8b70b1a1798d21a1df5c238b", func := "loop.example/g01247/laws.FnExactFieldOfLabel", spec := "fnExactFieldOfLabel", unfollowed := true, recurses := true, apart := false }
def FnExactFieldOfLabelSaid : Prop := fnExactFieldOfLabelRow.holds Try.pinned (OpenSpec.ofChange fnExactFieldOfLabelSpec)

/-- ITS FALSE NEIGHBOUR: 'it returns false'. Refute it at one input. -/
def fnExactFieldOfLabelWrong : ChangeSpec := { name := "fnExactFieldOfLabel", fn := fun _ => fun
  | [d1, d2] => { results := [.lit (.bool false)], args := [d1, d2] }
  | _ => none }
def FnExactFieldOfLabelWrongFalsely : Prop := fnExactFieldOfLabelRow.holds Try.pinned (OpenSpec.ofChange fnExactFieldOfLabelWrong)

/-- 'laws.FnExactLabelsOf': WHATEVER THE INPUT: true; the input reads as it did. -/
def fnExactLabelsOfSpec : ChangeSpec := { name := "fnExactLabelsOf", fn := fun _ => fun
  | [d] => { results := [.lit (.bool true)], args := [d] }
  | _ => none }
def fnExactLabelsOfRow : OpenClaim := { program := "ytaakkdcpkllgoaa", sum := "c44eb2d235a017ed48e7e6c2e870da2bb2a24fba8b70b1a1798d21a1df5c238b", func := "loop.example/g01247/laws.FnExactLabelsOf", spec := "fnExactLabelsOf", unfollowed := true, recurses := true, apart := false }
def FnExactLabelsOfSaid : Prop := fnExactLabelsOfRow.holds Try.pinned (OpenSpec.ofChange fnExactLabelsOfSpec)

/-- ITS FALSE NEIGHBOUR: 'it returns false'. Refute it at one input. -/
def fnExactLabelsOfWrong : ChangeSpec := { name := "fnExactLabelsOf", fn := fun _ => fun
  | [d] => { results := [.lit (.bool false)], args := [d] }
  | _ => none }
def FnExactLabelsOfWrongFalsely : Prop := fnExactLabelsOfRow.holds Try.pinned (OpenSpec.ofChange fnExactLabelsOfWrong)

/-- 'laws.FnExactGrainsIn': WHATEVER THE INPUT: true; the input reads as it did. -/
def fnExactGrainsInSpec : ChangeSpec := { name := "fnExactGrainsIn", fn := fun _ => fun
  | [d] => { results := [.lit (.bool true)], args := [d] }
  | _ => none }
def fnExactGrainsInRow : OpenClaim := { program := "ytaakkdcpkllgoaa", sum := "c44eb2d235a017ed48e7e6c2e870da2bb2a24fba8b70b1a1798d21a1df5c238b", func := "loop.example/g01247/laws.FnExactGrainsIn", spec := "fnExactGrainsIn", unfollowed := true, recurses := true, apart := false }
def FnExactGrainsInSaid : Prop := fnExactGrainsInRow.holds Try.pinned (OpenSpec.ofChange fnExactGrainsInSpec)

/-- ITS FALSE NEIGHBOUR: 'it returns false'. Refute it at one input. -/
def fnExactGrainsInWrong : ChangeSpec := { name := "fnExactGrainsIn", fn := fun _ => fun
  | [d] => { results := [.lit (.bool false)], args := [d] }
  | _ => none }
def FnExactGrainsInWrongFalsely : Prop := fnExactGrainsInRow.holds Try.pinned (OpenSpec.ofChange fnExactGrainsInWrong)

/- THE SECOND FORM. 'bulk': how many values and letters a reading holds, each counted each time it is reached (what is shared counts as often as it is met; a slice's spare places count too). A statement '..UptoSaid' is the law's where the arguments, and the package variables that the reading takes, are together of bulk at most 1048576: NARROWER than '..Said'. Prove '..Said' where nothing that the law and all that it calls make is longer than what came in: it says more and counts as full. Else prove '..UptoSaid'. A law counts once. -/
mutual
def uptoBulk {H : Type} : DataW H → Nat
  | .lit (.string bytes) => bytes.length + 1
  | .lit _ => 1
  | .nil => 1
  | .ptr d => uptoBulk d + 1
  | .slice elems spare => uptoBulkAll elems + uptoBulkAll spare + 1
  | .agg parts => uptoBulkAll parts + 1
  | .iface _ d => uptoBulk d + 1
  | .map entries => uptoBulkEntries entries + 1
  | .held _ => 1
def uptoBulkAll {H : Type} : List (DataW H) → Nat
  | [] => 0
  | d :: r => uptoBulk d + uptoBulkAll r
def uptoBulkEntries {H : Type} : List (Lit × DataW H) → Nat
  | [] => 0
  | x :: r => uptoBulkEntry x + uptoBulkEntries r
def uptoBulkEntry {H : Type} : Lit × DataW H → Nat
  | (.string bytes, d) => bytes.length + uptoBulk d + 1
  | (_, d) => uptoBulk d + 1
 end
def uptoSmall : (H : Type) → List (DataW H) → Bool := fun _ ds => decide (uptoBulkAll ds ≤ 1048576)
def OpenSpec.upto (s : _root_.Go.ChangeSpec) : _root_.Go.OpenSpec := { _root_.Go.OpenSpec.ofChange s with cond := some uptoSmall }

/-- 'laws.FnExactFlatGrains', WHERE WHAT IT READS IS OF BULK AT MOST 1048576: true; the input reads as it did. -/
def fnExactFlatGrainsUptoRow : OpenClaim := { program := "ytaakkdcpkllgoaa", sum := "c44eb2d235a017ed48e7e6c2e870da2bb2a24fba8b70b1a1798d21a1df5c238b", func := "loop.example/g01247/laws.FnExactFlatGrains", spec := "fnExactFlatGrains", unfollowed := true, recurses := true, apart := false, narrowed := true }
def FnExactFlatGrainsUptoSaid : Prop := fnExactFlatGrainsUptoRow.holds Try.pinned (OpenSpec.upto fnExactFlatGrainsSpec)

/-- 'laws.FnExactDrawnGrains', WHERE WHAT IT READS IS OF BULK AT MOST 1048576: true; the input reads as it did. -/
def fnExactDrawnGrainsUptoRow : OpenClaim := { program := "ytaakkdcpkllgoaa", sum := "c44eb2d235a017ed48e7e6c2e870da2bb2a24fba8b70b1a1798d21a1df5c238b", func := "loop.example/g01247/laws.FnExactDrawnGrains", spec := "fnExactDrawnGrains", unfollowed := true, recurses := true, apart := false, narrowed := true }
def FnExactDrawnGrainsUptoSaid : Prop := fnExactDrawnGrainsUptoRow.holds Try.pinned (OpenSpec.upto fnExactDrawnGrainsSpec)

/-- 'laws.FnExactCountOfLabel', WHERE WHAT IT READS IS OF BULK AT MOST 1048576: true; the input reads as it did. -/
def fnExactCountOfLabelUptoRow : OpenClaim := { program := "ytaakkdcpkllgoaa", sum := "c44eb2d235a017ed48e7e6c2e870da2bb2a24fba8b70b1a1798d21a1df5c238b", func := "loop.example/g01247/laws.FnExactCountOfLabel", spec := "fnExactCountOfLabel", unfollowed := true, recurses := true, apart := false, narrowed := true }
def FnExactCountOfLabelUptoSaid : Prop := fnExactCountOfLabelUptoRow.holds Try.pinned (OpenSpec.upto fnExactCountOfLabelSpec)

/-- 'laws.FnExactLabelAbout', WHERE WHAT IT READS IS OF BULK AT MOST 1048576: true; the input reads as it did. -/
def fnExactLabelAboutUptoRow : OpenClaim := { program := "ytaakkdcpkllgoaa", sum := "c44eb2d235a017ed48e7e6c2e870da2bb2a24fba8b70b1a1798d21a1df5c238b", func := "loop.example/g01247/laws.FnExactLabelAbout", spec := "fnExactLabelAbout", unfollowed := true, recurses := true, apart := false, narrowed := true }
def FnExactLabelAboutUptoSaid : Prop := fnExactLabelAboutUptoRow.holds Try.pinned (OpenSpec.upto fnExactLabelAboutSpec)

/-- 'laws.FnExactRelabelGrains', WHERE WHAT IT READS IS OF BULK AT MOST 1048576: true; the input reads as it did. -/
def fnExactRelabelGrainsUptoRow : OpenClaim := { program := "ytaakkdcpkllgoaa", sum := "c44eb2d235a017ed48e7e6c2e870da2bb2a24fba8b70b1a1798d21a1df5c238b", func := "loop.example/g01247/laws.FnExactRelabelGrains", spec := "fnExactRelabelGrains", unfollowed := true, recurses := true, apart := false, narrowed := true }
def FnExactRelabelGrainsUptoSaid : Prop := fnExactRelabelGrainsUptoRow.holds Try.pinned (OpenSpec.upto fnExactRelabelGrainsSpec)

/-- 'laws.FnExactPutLabel', WHERE WHAT IT READS IS OF BULK AT MOST 1048576: true; the input reads as it did. -/
def fnExactPutLabelUptoRow : OpenClaim := { program := "ytaakkdcpkllgoaa", sum := "c44eb2d235a017ed48e7e6c2e870da2bb2a24fba8b70b1a1798d21a1df5c238b", func := "loop.example/g01247/laws.FnExactPutLabel", spec := "fnExactPutLabel", unfollowed := true, recurses := true, apart := false, narrowed := true }
def FnExactPutLabelUptoSaid : Prop := fnExactPutLabelUptoRow.holds Try.pinned (OpenSpec.upto fnExactPutLabelSpec)

/-- 'laws.FnExactUnlikeAround', WHERE WHAT IT READS IS OF BULK AT MOST 1048576: true; the input reads as it did. -/
def fnExactUnlikeAroundUptoRow : OpenClaim := { program := "ytaakkdcpkllgoaa", sum := "c44eb2d235a017ed48e7e6c2e870da2bb2a24fba8b70b1a1798d21a1df5c238b", func := "loop.example/g01247/laws.FnExactUnlikeAround", spec := "fnExactUnlikeAround", unfollowed := true, recurses := true, apart := false, narrowed := true }
def FnExactUnlikeAroundUptoSaid : Prop := fnExactUnlikeAroundUptoRow.holds Try.pinned (OpenSpec.upto fnExactUnlikeAroundSpec)

/-- 'laws.FnExactUnlikePairs', WHERE WHAT IT READS IS OF BULK AT MOST 1048576: true; the input reads as it did. -/
def fnExactUnlikePairsUptoRow : OpenClaim := { program := "ytaakkdcpkllgoaa", sum := "c44eb2d235a017ed48e7e6c2e870da2bb2a24fba8b70b1a1798d21a1df5c238b", func := "loop.example/g01247/laws.FnExactUnlikePairs", spec := "fnExactUnlikePairs", unfollowed := true, recurses := true, apart := false, narrowed := true }
def FnExactUnlikePairsUptoSaid : Prop := fnExactUnlikePairsUptoRow.holds Try.pinned (OpenSpec.upto fnExactUnlikePairsSpec)

/-- 'laws.FnExactMirrorGrains', WHERE WHAT IT READS IS OF BULK AT MOST 1048576: true; the input reads as it did. -/
def fnExactMirrorGrainsUptoRow : OpenClaim := { program := "ytaakkdcpkllgoaa", sum := "c44eb2d235a017ed48e7e6c2e870da2bb2a24fba8b70b1a1798d21a1df5c238b", func := "loop.example/g01247/laws.FnExactMirrorGrains", spec := "fnExactMirrorGrains", unfollowed := true, recurses := true, apart := false, narrowed := true }
def FnExactMirrorGrainsUptoSaid : Prop := fnExactMirrorGrainsUptoRow.holds Try.pinned (OpenSpec.upto fnExactMirrorGrainsSpec)

/-- 'laws.FnExactRollGrains', WHERE WHAT IT READS IS OF BULK AT MOST 1048576: true; the input reads as it did. -/
def fnExactRollGrainsUptoRow : OpenClaim := { program := "ytaakkdcpkllgoaa", sum := "c44eb2d235a017ed48e7e6c2e870da2bb2a24fba8b70b1a1798d21a1df5c238b", func := "loop.example/g01247/laws.FnExactRollGrains", spec := "fnExactRollGrains", unfollowed := true, recurses := true, apart := false, narrowed := true }
def FnExactRollGrainsUptoSaid : Prop := fnExactRollGrainsUptoRow.holds Try.pinned (OpenSpec.upto fnExactRollGrainsSpec)

/-- 'laws.FnExactFieldOfLabel', WHERE WHAT IT READS IS OF BULK AT MOST 1048576: true; the input reads as it did. -/
def fnExactFieldOfLabelUptoRow : OpenClaim := { program := "ytaakkdcpkllgoaa", sum := "c44eb2d235a017ed48e7e6c2e870da2bb2a24fba8b70b1a1798d21a1df5c238b", func := "loop.example/g01247/laws.FnExactFieldOfLabel", spec := "fnExactFieldOfLabel", unfollowed := true, recurses := true, apart := false, narrowed := true }
def FnExactFieldOfLabelUptoSaid : Prop := fnExactFieldOfLabelUptoRow.holds Try.pinned (OpenSpec.upto fnExactFieldOfLabelSpec)

/-- 'laws.FnExactLabelsOf', WHERE WHAT IT READS IS OF BULK AT MOST 1048576: true; the input reads as it did. -/
def fnExactLabelsOfUptoRow : OpenClaim := { program := "ytaakkdcpkllgoaa", sum := "c44eb2d235a017ed48e7e6c2e870da2bb2a24fba8b70b1a1798d21a1df5c238b", func := "loop.example/g01247/laws.FnExactLabelsOf", spec := "fnExactLabelsOf", unfollowed := true, recurses := true, apart := false, narrowed := true }
def FnExactLabelsOfUptoSaid : Prop := fnExactLabelsOfUptoRow.holds Try.pinned (OpenSpec.upto fnExactLabelsOfSpec)

/-- 'laws.FnExactGrainsIn', WHERE WHAT IT READS IS OF BULK AT MOST 1048576: true; the input reads as it did. -/
def fnExactGrainsInUptoRow : OpenClaim := { program := "ytaakkdcpkllgoaa", sum := "c44eb2d235a017ed48e7e6c2e870da2bb2a24fba8b70b1a1798d21a1df5c238b", func := "loop.example/g01247/laws.FnExactGrainsIn", spec := "fnExactGrainsIn", unfollowed := true, recurses := true, apart := false, narrowed := true }
def FnExactGrainsInUptoSaid : Prop := fnExactGrainsInUptoRow.holds Try.pinned (OpenSpec.upto fnExactGrainsInSpec)

end Rows
end Go.Proofs.Ytaakkdcpkllgoaa
