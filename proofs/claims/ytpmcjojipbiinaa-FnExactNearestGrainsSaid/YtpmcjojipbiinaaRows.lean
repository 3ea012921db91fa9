/-
  No cell of these rows narrows 'for every input' (looked for: loops, veiled, ifaces, maps, wideKeys, modest, calm, conditions, laid).
  DERIVED. THE GIVEN ROWS OF THIS SEAT. 4 by the template 'for every input the law returns true; each argument reads behind the call as it read before'; 0 by the template 'total and deterministic' (their statements: YtpmcjojipbiinaaTotals.lean).
  GIVEN WITH THE SEED: the statements are not yours to turn. If you find one false, say at which input.
  Laid BY PROGRAM, IN A SANDBOX (cutbox-rows.mjs): the forced cells as the released guide's own fill.sh prints them over the translation af0e294304e41778… (all of the seat's roots in one cut). By AI agents, Wed Nov 11 2026. No macro, syntax, notation, axiom, sorry.
-/
import Derived.Test.YtpmcjojipbiinaaChecked
import GoSem.Claim
import GoSem.ClaimJoined
import GoSem.ClaimMapViews
import Derived.JoinedTies
import Derived.KernelRfl
namespace Go.Proofs.Ytpmcjojipbiinaa
/- THE CELL 'sum', in the pinned program and in every row, IS THE sha256 OF THE DUMP (.gsa) THAT YtpmcjojipbiinaaProg.lean LOADS. Nothing in Lean hashes anything: it is a label: what it is worth is what the hold of that sum in a sandbox is worth. -/
noncomputable def Try.pinned : Pinned := { name := "ytpmcjojipbiinaa", sum := "af0e294304e4177823263981f9f1493ddda9fed1c005cb70d52c5f1e42af55b0", checked := Try.checked }
namespace Rows
def none {H : Type} : Left H := { results := [], args := [] }

/-- 'laws.FnExactNearestGrains': WHATEVER THE INPUT: true; the input reads as it did. -/
def fnExactNearestGrainsSpec : ChangeSpec := { name := "fnExactNearestGrains", fn := fun _ => fun
  | [d1, d2, d3, d4] => { results := [.lit (.bool true)], args := [d1, d2, d3, d4] }
  | _ => none }
def fnExactNearestGrainsRow : OpenClaim := { program := "ytpmcjojipbiinaa", sum := "af0e294304e4177823263981f9f1493ddda9fed1c005cb70d52c5f1e42af55b0", func := "loop.example/g01247/laws.FnExactNearestGrains", spec := "fnExactNearestGrains", inPlace := ["math.Float64bits", "math.Float64frombits"], unfollowed := true, recurses := true, apart := false }
def FnExactNearestGrainsSaid : Prop := fnExactNearestGrainsRow.holds Try.pinned (OpenSpec.ofChange fnExactNearestGrainsSpec)

/-- ITS FALSE NEIGHBOUR: 'it returns false'. Refute it at one input. -/
def fnExactNearestGrainsWrong : ChangeSpec := { name := "fnExactNearestGrains", fn := fun _ => fun
  | [d1, d2, d3, d4] => { results := [.lit (.bool false)], args := [d1, d2, d3, d4] }
  | _ => none }
def FnExactNearestGrainsWrongFalsely : Prop := fnExactNearestGrainsRow.holds Try.pinned (OpenSpec.ofChange fnExactNearestGrainsWrong)

/-- 'laws.FnExactFlipGrains': WHATEVER THE INPUT: true; the input reads as it did. -/
def fnExactFlipGrainsSpec : ChangeSpec := { name := "fnExactFlipGrains", fn := fun _ => fun
  | [d1, d2, d3, d4] => { results := [.lit (.bool true)], args := [d1, d2, d3, d4] }
  | _ => none }
def fnExactFlipGrainsRow : OpenClaim := { program := "ytpmcjojipbiinaa", sum := "af0e294304e4177823263981f9f1493ddda9fed1c005cb70d52c5f1e42af55b0", func := "loop.example/g01247/laws.FnExactFlipGrains", spec := "fnExactFlipGrains", unfollowed := true, recurses := true, apart := false }
def FnExactFlipGrainsSaid : Prop := fnExactFlipGrainsRow.holds Try.pinned (OpenSpec.ofChange fnExactFlipGrainsSpec)

/-- ITS FALSE NEIGHBOUR: 'it returns false'. Refute it at one input. -/
def fnExactFlipGrainsWrong : ChangeSpec := { name := "fnExactFlipGrains", fn := fun _ => fun
  | [d1, d2, d3, d4] => { results := [.lit (.bool false)], args := [d1, d2, d3, d4] }
  | _ => none }
def FnExactFlipGrainsWrongFalsely : Prop := fnExactFlipGrainsRow.holds Try.pinned (OpenSpec.ofChange fnExactFlipGrainsWrong)

/-- 'laws.FnExactMiddleOfLabel': WHATEVER THE INPUT: true; the input reads as it did. -/
def fnExactMiddleOfLabelSpec : ChangeSpec := { name := "fnExactMiddleOfLabel", fn := fun _ => fun
  | [d1, d2] => { results := [.lit (.bool true)], args := [d1, d2] }
  | _ => none }
def fnExactMiddleOfLabelRow : OpenClaim := { program := "ytpmcjojipbiinaa", sum := "af0e294304e4177823263981f9f1493ddda9fed1c005cb70d52c5f1e42af55b0", func := "loop.example/g01247/laws.FnExactMiddleOfLabel", spec := "fnExactMiddleOfLabel", unfollowed := true, recurses := true, apart := false }
def FnExactMiddleOfLabelSaid : Prop := fnExactMiddleOfLabelRow.holds Try.pinned (OpenSpec.ofChange fnExactMiddleOfLabelSpec)

/-- ITS FALSE NEIGHBOUR: 'it returns false'. Refute it at one input. -/
def fnExactMiddleOfLabelWrong : ChangeSpec := { name := "fnExactMiddleOfLabel", fn := fun _ => fun
  | [d1, d2] => { results := [.lit (.bool false)], args := [d1, d2] }
  | _ => none }
def FnExactMiddleOfLabelWrongFalsely : Prop := fnExactMiddleOfLabelRow.holds Try.pinned (OpenSpec.ofChange fnExactMiddleOfLabelWrong)

/-- 'laws.FnExactShapeOfLabel': WHATEVER THE INPUT: true; the input reads as it did. -/
def fnExactShapeOfLabelSpec : ChangeSpec := { name := "fnExactShapeOfLabel", fn := fun _ => fun
  | [d1, d2] => { results := [.lit (.bool true)], args := [d1, d2] }
  | _ => none }
def fnExactShapeOfLabelRow : OpenClaim := { program := "ytpmcjojipbiinaa", sum := "af0e294304e4177823263981f9f1493ddda9fed1c005cb70d52c5f1e42af55b0", func := "loop.example/g01247/laws.FnExactShapeOfLabel", spec := "fnExactShapeOfLabel", unfollowed := true, recurses := true, apart := false }
def FnExactShapeOfLabelSaid : Prop := fnExactShapeOfLabelRow.holds Try.pinned (OpenSpec.ofChange fnExactShapeOfLabelSpec)

/-- ITS FALSE NEIGHBOUR: 'it returns false'. Refute it at one input. -/
def fnExactShapeOfLabelWrong : ChangeSpec := { name := "fnExactShapeOfLabel", fn := fun _ => fun
  | [d1, d2] => { results := [.lit (.bool false)], args := [d1, d2] }
  | _ => none }
def FnExactShapeOfLabelWrongFalsely : Prop := fnExactShapeOfLabelRow.holds Try.pinned (OpenSpec.ofChange fnExactShapeOfLabelWrong)

/- THE SECOND FORM. 'bulk': how many values and letters a reading holds, each counted each time it is reached (what is shared counts as often as it is met; a slice's spare places count too). A statement '..UptoSaid' is the law's where the arguments, and the package variables that the reading takes, are together of bulk at most 1048576: NARROWER than '..Said'. Prove '..Said' where nothing that the law and all that it calls make is longer than what came in: it says more and counts as full. Else prove '..UptoSaid'. A law counts once. -/
mutual
def uptoBulk {H : Type} : DataW H → Nat
  | .lit (.string bytes) => bytes.length + 1
  | .lit _ => 1
  | .nil => 1
  | .ptr d => uptoBulk d + 1
  | .slice elems spare => uptoBulkAll elems + uptoBulkAll spare + 1
  | .agg parts => uptoBulkAll parts + 1
  | .iface _ d => uptoBulk d + 1
  | .map entries => uptoBulkEntries entries + 1
  | .held _ => 1
def uptoBulkAll {H : Type} : List (DataW H) → Nat
  | [] => 0
  | d :: r => uptoBulk d + uptoBulkAll r
def uptoBulkEntries {H : Type} : List (Lit × DataW H) → Nat
  | [] => 0
  | x :: r => uptoBulkEntry x + uptoBulkEntries r
def uptoBulkEntry {H : Type} : Lit × DataW H → Nat
  | (.string bytes, d) => bytes.length + uptoBulk d + 1
  | (_, d) => uptoBulk d + 1
 end
def uptoSmall : (H : Type) → List (DataW H) → Bool := fun _ ds => decide (uptoBulkAll ds ≤ 1048576)
def OpenSpec.upto (s : _root_.Go.ChangeSpec) : _root_.Go.OpenSpec := { _root_.Go.OpenSpec.ofChange s with cond := some uptoSmall }

/-- 'laws.FnExactNearestGrains', WHERE WHAT IT READS IS OF BULK AT MOST 1048576: true; the input reads as it did. -/
def fnExactNearestGrainsUptoRow : OpenClaim := { program := "ytpmcjojipbiinaa", sum := "af0e294304e4177823263981f9f1493ddda9fed1c005cb70d52c5f1e42af55b0", func := "loop.example/g01247/laws.FnExactNearestGrains", spec := "fnExactNearestGrains", inPlace := ["math.Float64bits", "math.Float64frombits"], unfollowed := true, recurses := true, apart := false, narrowed := true }
def FnExactNearestGrainsUptoSaid : Prop := fnExactNearestGrainsUptoRow.holds Try.pinned (OpenSpec.upto fnExactNearestGrainsSpec)

/-- 'laws.FnExactFlipGrains', WHERE WHAT IT READS IS OF BULK AT MOST 1048576: true; the input reads as it did. -/
def fnExactFlipGrainsUptoRow : OpenClaim := { program := "ytpmcjojipbiinaa", sum := "af0e294304e4177823263981f9f1493ddda9fed1c005cb70d52c5f1e42af55b0", func := "loop.example/g01247/laws.FnExactFlipGrains", spec := "fnExactFlipGrains", unfollowed := true, recurses := true, apart := false, narrowed := true }
def FnExactFlipGrainsUptoSaid : Prop := fnExactFlipGrainsUptoRow.holds Try.pinned (OpenSpec.upto fnExactFlipGrainsSpec)

/-- 'laws.FnExactMiddleOfLabel', WHERE WHAT IT READS IS OF BULK AT MOST 1048576: true; the input reads as it did. -/
def fnExactMiddleOfLabelUptoRow : OpenClaim := { program := "ytpmcjojipbiinaa", sum := "af0e294304e4177823263981f9f1493ddda9fed1c005cb70d52c5f1e42af55b0", func := "loop.example/g01247/laws.FnExactMiddleOfLabel", spec := "fnExactMiddleOfLabel", unfollowed := true, recurses := true, apart := false, narrowed := true }
def FnExactMiddleOfLabelUptoSaid : Prop := fnExactMiddleOfLabelUptoRow.holds Try.pinned (OpenSpec.upto fnExactMiddleOfLabelSpec)

/-- 'laws.FnExactShapeOfLabel', WHERE WHAT IT READS IS OF BULK AT MOST 1048576: true; the input reads as it did. -/
def fnExactShapeOfLabelUptoRow : OpenClaim := { program := "ytpmcjojipbiinaa", sum := "af0e294304e4177823263981f9f1493ddda9fed1c005cb70d52c5f1e42af55b0", func := "loop.example/g01247/laws.FnExactShapeOfLabel", spec := "fnExactShapeOfLabel", unfollowed := true, recurses := true, apart := false, narrowed := true }
def FnExactShapeOfLabelUptoSaid : Prop := fnExactShapeOfLabelUptoRow.holds Try.pinned (OpenSpec.upto fnExactShapeOfLabelSpec)

end Rows
end Go.Proofs.Ytpmcjojipbiinaa
