/-
  No cell of these rows narrows 'for every input' (looked for: loops, veiled, ifaces, maps, wideKeys, modest, calm, conditions, laid).
  DERIVED. THE GIVEN ROWS OF THIS SEAT. 14 by the template 'for every input the law returns true; each argument reads behind the call as it read before'; 0 by the template 'total and deterministic' (their statements: YtllpbkmdcaikoaaTotals.lean).
  GIVEN WITH THE SEED: the statements are not yours to turn. If you find one false, say at which input.
  Laid BY PROGRAM, IN A SANDBOX (cutbox-rows.mjs): the forced cells as the released guide's own fill.sh prints them over the translation 127a017cf596fa06… (all of the seat's roots in one cut). By AI agents, Wed Nov 11 2026. No macro, syntax, notation, axiom, sorry.
-/
import Derived.Test.YtllpbkmdcaikoaaChecked
import GoSem.Claim
import GoSem.ClaimJoined
import GoSem.ClaimMapViews
import Derived.JoinedTies
import Derived.KernelRfl
namespace Go.Proofs.Ytllpbkmdcaikoaa
/- THE CELL 'sum', in the pinned program and in every row, IS THE sha256 OF THE DUMP (.gsa) THAT YtllpbkmdcaikoaaProg.lean LOADS. Nothing in Lean hashes anything: it is a label: what it is worth is what the hold of that sum in a sandbox is worth. -/
noncomputable def Try.pinned : Pinned := { name := "ytllpbkmdcaikoaa", sum := "127a017cf596fa063493c8730dcb6b71bcb2a4140b631864a42abbedf267f430", checked := Try.checked }
namespace Rows
def none {H : Type} : Left H := { results := [], args := [] }

/-- 'laws.FnExactSameField': WHATEVER THE INPUT: true; the input reads as it did. -/
def fnExactSameFieldSpec : ChangeSpec := { name := "fnExactSameField", fn := fun _ => fun
  | [d1, d2] => { results := [.lit (.bool true)], args := [d1, d2] }
  | _ => none }
def fnExactSameFieldRow : OpenClaim := { program := "ytllpbkmdcaikoaa", sum := "127a017cf596fa063493c8730dcb6b71bcb2a4140b631864a42abbedf267f430", func := "loop.example/g01247/laws.FnExactSameField", spec := "fnExactSameField", inPlace := ["math.Float32bits", "math.Float64bits"], unfollowed := true, recurses := true, apart := false }
def FnExactSameFieldSaid : Prop := fnExactSameFieldRow.holds Try.pinned (OpenSpec.ofChange fnExactSameFieldSpec)

/-- ITS FALSE NEIGHBOUR: 'it returns false'. Refute it at one input. -/
def fnExactSameFieldWrong : ChangeSpec := { name := "fnExactSameField", fn := fun _ => fun
  | [d1, d2] => { results := [.lit (.bool false)], args := [d1, d2] }
  | _ => none }
def FnExactSameFieldWrongFalsely : Prop := fnExactSameFieldRow.holds Try.pinned (OpenSpec.ofChange fnExactSameFieldWrong)

/-- 'laws.FnExactDotFields': WHATEVER THE INPUT: true; the input reads as it did. -/
def fnExactDotFieldsSpec : ChangeSpec := { name := "fnExactDotFields", fn := fun _ => fun
  | [d1, d2] => { results := [.lit (.bool true)], args := [d1, d2] }
  | _ => none }
def fnExactDotFieldsRow : OpenClaim := { program := "ytllpbkmdcaikoaa", sum := "127a017cf596fa063493c8730dcb6b71bcb2a4140b631864a42abbedf267f430", func := "loop.example/g01247/laws.FnExactDotFields", spec := "fnExactDotFields", unfollowed := true, recurses := true, apart := false }
def FnExactDotFieldsSaid : Prop := fnExactDotFieldsRow.holds Try.pinned (OpenSpec.ofChange fnExactDotFieldsSpec)

/-- ITS FALSE NEIGHBOUR: 'it returns false'. Refute it at one input. -/
def fnExactDotFieldsWrong : ChangeSpec := { name := "fnExactDotFields", fn := fun _ => fun
  | [d1, d2] => { results := [.lit (.bool false)], args := [d1, d2] }
  | _ => none }
def FnExactDotFieldsWrongFalsely : Prop := fnExactDotFieldsRow.holds Try.pinned (OpenSpec.ofChange fnExactDotFieldsWrong)

/-- 'laws.FnExactValueAbout': WHATEVER THE INPUT: true; the input reads as it did. -/
def fnExactValueAboutSpec : ChangeSpec := { name := "fnExactValueAbout", fn := fun _ => fun
  | [d1, d2, d3] => { results := [.lit (.bool true)], args := [d1, d2, d3] }
  | _ => none }
def fnExactValueAboutRow : OpenClaim := { program := "ytllpbkmdcaikoaa", sum := "127a017cf596fa063493c8730dcb6b71bcb2a4140b631864a42abbedf267f430", func := "loop.example/g01247/laws.FnExactValueAbout", spec := "fnExactValueAbout", unfollowed := true, recurses := true, apart := false }
def FnExactValueAboutSaid : Prop := fnExactValueAboutRow.holds Try.pinned (OpenSpec.ofChange fnExactValueAboutSpec)

/-- ITS FALSE NEIGHBOUR: 'it returns false'. Refute it at one input. -/
def fnExactValueAboutWrong : ChangeSpec := { name := "fnExactValueAbout", fn := fun _ => fun
  | [d1, d2, d3] => { results := [.lit (.bool false)], args := [d1, d2, d3] }
  | _ => none }
def FnExactValueAboutWrongFalsely : Prop := fnExactValueAboutRow.holds Try.pinned (OpenSpec.ofChange fnExactValueAboutWrong)

/-- 'laws.FnExactAddFields': WHATEVER THE INPUT: true; the input reads as it did. -/
def fnExactAddFieldsSpec : ChangeSpec := { name := "fnExactAddFields", fn := fun _ => fun
  | [d1, d2] => { results := [.lit (.bool true)], args := [d1, d2] }
  | _ => none }
def fnExactAddFieldsRow : OpenClaim := { program := "ytllpbkmdcaikoaa", sum := "127a017cf596fa063493c8730dcb6b71bcb2a4140b631864a42abbedf267f430", func := "loop.example/g01247/laws.FnExactAddFields", spec := "fnExactAddFields", unfollowed := true, recurses := true, apart := false }
def FnExactAddFieldsSaid : Prop := fnExactAddFieldsRow.holds Try.pinned (OpenSpec.ofChange fnExactAddFieldsSpec)

/-- ITS FALSE NEIGHBOUR: 'it returns false'. Refute it at one input. -/
def fnExactAddFieldsWrong : ChangeSpec := { name := "fnExactAddFields", fn := fun _ => fun
  | [d1, d2] => { results := [.lit (.bool false)], args := [d1, d2] }
  | _ => none }
def FnExactAddFieldsWrongFalsely : Prop := fnExactAddFieldsRow.holds Try.pinned (OpenSpec.ofChange fnExactAddFieldsWrong)

/-- 'laws.FnExactLessFields': WHATEVER THE INPUT: true; the input reads as it did. -/
def fnExactLessFieldsSpec : ChangeSpec := { name := "fnExactLessFields", fn := fun _ => fun
  | [d1, d2] => { results := [.lit (.bool true)], args := [d1, d2] }
  | _ => none }
def fnExactLessFieldsRow : OpenClaim := { program := "ytllpbkmdcaikoaa", sum := "127a017cf596fa063493c8730dcb6b71bcb2a4140b631864a42abbedf267f430", func := "loop.example/g01247/laws.FnExactLessFields", spec := "fnExactLessFields", unfollowed := true, recurses := true, apart := false }
def FnExactLessFieldsSaid : Prop := fnExactLessFieldsRow.holds Try.pinned (OpenSpec.ofChange fnExactLessFieldsSpec)

/-- ITS FALSE NEIGHBOUR: 'it returns false'. Refute it at one input. -/
def fnExactLessFieldsWrong : ChangeSpec := { name := "fnExactLessFields", fn := fun _ => fun
  | [d1, d2] => { results := [.lit (.bool false)], args := [d1, d2] }
  | _ => none }
def FnExactLessFieldsWrongFalsely : Prop := fnExactLessFieldsRow.holds Try.pinned (OpenSpec.ofChange fnExactLessFieldsWrong)

/-- 'laws.FnExactTimesFields': WHATEVER THE INPUT: true; the input reads as it did. -/
def fnExactTimesFieldsSpec : ChangeSpec := { name := "fnExactTimesFields", fn := fun _ => fun
  | [d1, d2] => { results := [.lit (.bool true)], args := [d1, d2] }
  | _ => none }
def fnExactTimesFieldsRow : OpenClaim := { program := "ytllpbkmdcaikoaa", sum := "127a017cf596fa063493c8730dcb6b71bcb2a4140b631864a42abbedf267f430", func := "loop.example/g01247/laws.FnExactTimesFields", spec := "fnExactTimesFields", unfollowed := true, recurses := true, apart := false }
def FnExactTimesFieldsSaid : Prop := fnExactTimesFieldsRow.holds Try.pinned (OpenSpec.ofChange fnExactTimesFieldsSpec)

/-- ITS FALSE NEIGHBOUR: 'it returns false'. Refute it at one input. -/
def fnExactTimesFieldsWrong : ChangeSpec := { name := "fnExactTimesFields", fn := fun _ => fun
  | [d1, d2] => { results := [.lit (.bool false)], args := [d1, d2] }
  | _ => none }
def FnExactTimesFieldsWrongFalsely : Prop := fnExactTimesFieldsRow.holds Try.pinned (OpenSpec.ofChange fnExactTimesFieldsWrong)

/-- 'laws.FnExactRollField': WHATEVER THE INPUT: true; the input reads as it did. -/
def fnExactRollFieldSpec : ChangeSpec := { name := "fnExactRollField", fn := fun _ => fun
  | [d1, d2, d3] => { results := [.lit (.bool true)], args := [d1, d2, d3] }
  | _ => none }
def fnExactRollFieldRow : OpenClaim := { program := "ytllpbkmdcaikoaa", sum := "127a017cf596fa063493c8730dcb6b71bcb2a4140b631864a42abbedf267f430", func := "loop.example/g01247/laws.FnExactRollField", spec := "fnExactRollField", unfollowed := true, recurses := true, apart := false }
def FnExactRollFieldSaid : Prop := fnExactRollFieldRow.holds Try.pinned (OpenSpec.ofChange fnExactRollFieldSpec)

/-- ITS FALSE NEIGHBOUR: 'it returns false'. Refute it at one input. -/
def fnExactRollFieldWrong : ChangeSpec := { name := "fnExactRollField", fn := fun _ => fun
  | [d1, d2, d3] => { results := [.lit (.bool false)], args := [d1, d2, d3] }
  | _ => none }
def FnExactRollFieldWrongFalsely : Prop := fnExactRollFieldRow.holds Try.pinned (OpenSpec.ofChange fnExactRollFieldWrong)

/-- 'laws.FnExactSlopesOf': WHATEVER THE INPUT: true; the input reads as it did. -/
def fnExactSlopesOfSpec : ChangeSpec := { name := "fnExactSlopesOf", fn := fun _ => fun
  | [d] => { results := [.lit (.bool true)], args := [d] }
  | _ => none }
def fnExactSlopesOfRow : OpenClaim := { program := "ytllpbkmdcaikoaa", sum := "127a017cf596fa063493c8730dcb6b71bcb2a4140b631864a42abbedf267f430", func := "loop.example/g01247/laws.FnExactSlopesOf", spec := "fnExactSlopesOf", unfollowed := true, recurses := true, apart := false }
def FnExactSlopesOfSaid : Prop := fnExactSlopesOfRow.holds Try.pinned (OpenSpec.ofChange fnExactSlopesOfSpec)

/-- ITS FALSE NEIGHBOUR: 'it returns false'. Refute it at one input. -/
def fnExactSlopesOfWrong : ChangeSpec := { name := "fnExactSlopesOf", fn := fun _ => fun
  | [d] => { results := [.lit (.bool false)], args := [d] }
  | _ => none }
def FnExactSlopesOfWrongFalsely : Prop := fnExactSlopesOfRow.holds Try.pinned (OpenSpec.ofChange fnExactSlopesOfWrong)

/-- 'laws.FnExactLaplaceField': WHATEVER THE INPUT: true; the input reads as it did. -/
def fnExactLaplaceFieldSpec : ChangeSpec := { name := "fnExactLaplaceField", fn := fun _ => fun
  | [d] => { results := [.lit (.bool true)], args := [d] }
  | _ => none }
def fnExactLaplaceFieldRow : OpenClaim := { program := "ytllpbkmdcaikoaa", sum := "127a017cf596fa063493c8730dcb6b71bcb2a4140b631864a42abbedf267f430", func := "loop.example/g01247/laws.FnExactLaplaceField", spec := "fnExactLaplaceField", unfollowed := true, recurses := true, apart := false }
def FnExactLaplaceFieldSaid : Prop := fnExactLaplaceFieldRow.holds Try.pinned (OpenSpec.ofChange fnExactLaplaceFieldSpec)

/-- ITS FALSE NEIGHBOUR: 'it returns false'. Refute it at one input. -/
def fnExactLaplaceFieldWrong : ChangeSpec := { name := "fnExactLaplaceField", fn := fun _ => fun
  | [d] => { results := [.lit (.bool false)], args := [d] }
  | _ => none }
def FnExactLaplaceFieldWrongFalsely : Prop := fnExactLaplaceFieldRow.holds Try.pinned (OpenSpec.ofChange fnExactLaplaceFieldWrong)

/-- 'laws.FnExactNineField': WHATEVER THE INPUT: true; the input reads as it did. -/
def fnExactNineFieldSpec : ChangeSpec := { name := "fnExactNineField", fn := fun _ => fun
  | [d] => { results := [.lit (.bool true)], args := [d] }
  | _ => none }
def fnExactNineFieldRow : OpenClaim := { program := "ytllpbkmdcaikoaa", sum := "127a017cf596fa063493c8730dcb6b71bcb2a4140b631864a42abbedf267f430", func := "loop.example/g01247/laws.FnExactNineField", spec := "fnExactNineField", unfollowed := true, recurses := true, apart := false }
def FnExactNineFieldSaid : Prop := fnExactNineFieldRow.holds Try.pinned (OpenSpec.ofChange fnExactNineFieldSpec)

/-- ITS FALSE NEIGHBOUR: 'it returns false'. Refute it at one input. -/
def fnExactNineFieldWrong : ChangeSpec := { name := "fnExactNineField", fn := fun _ => fun
  | [d] => { results := [.lit (.bool false)], args := [d] }
  | _ => none }
def FnExactNineFieldWrongFalsely : Prop := fnExactNineFieldRow.holds Try.pinned (OpenSpec.ofChange fnExactNineFieldWrong)

/-- 'laws.FnExactSpreadField': WHATEVER THE INPUT: true; the input reads as it did. -/
def fnExactSpreadFieldSpec : ChangeSpec := { name := "fnExactSpreadField", fn := fun _ => fun
  | [d1, d2, d3] => { results := [.lit (.bool true)], args := [d1, d2, d3] }
  | _ => none }
def fnExactSpreadFieldRow : OpenClaim := { program := "ytllpbkmdcaikoaa", sum := "127a017cf596fa063493c8730dcb6b71bcb2a4140b631864a42abbedf267f430", func := "loop.example/g01247/laws.FnExactSpreadField", spec := "fnExactSpreadField", unfollowed := true, recurses := true, apart := false }
def FnExactSpreadFieldSaid : Prop := fnExactSpreadFieldRow.holds Try.pinned (OpenSpec.ofChange fnExactSpreadFieldSpec)

/-- ITS FALSE NEIGHBOUR: 'it returns false'. Refute it at one input. -/
def fnExactSpreadFieldWrong : ChangeSpec := { name := "fnExactSpreadField", fn := fun _ => fun
  | [d1, d2, d3] => { results := [.lit (.bool false)], args := [d1, d2, d3] }
  | _ => none }
def FnExactSpreadFieldWrongFalsely : Prop := fnExactSpreadFieldRow.holds Try.pinned (OpenSpec.ofChange fnExactSpreadFieldWrong)

/-- 'laws.FnExactBorderOf': WHATEVER THE INPUT: true; the input reads as it did. -/
def fnExactBorderOfSpec : ChangeSpec := { name := "fnExactBorderOf", fn := fun _ => fun
  | [d1, d2] => { results := [.lit (.bool true)], args := [d1, d2] }
  | _ => none }
def fnExactBorderOfRow : OpenClaim := { program := "ytllpbkmdcaikoaa", sum := "127a017cf596fa063493c8730dcb6b71bcb2a4140b631864a42abbedf267f430", func := "loop.example/g01247/laws.FnExactBorderOf", spec := "fnExactBorderOf", unfollowed := true, recurses := true, apart := false }
def FnExactBorderOfSaid : Prop := fnExactBorderOfRow.holds Try.pinned (OpenSpec.ofChange fnExactBorderOfSpec)

/-- ITS FALSE NEIGHBOUR: 'it returns false'. Refute it at one input. -/
def fnExactBorderOfWrong : ChangeSpec := { name := "fnExactBorderOf", fn := fun _ => fun
  | [d1, d2] => { results := [.lit (.bool false)], args := [d1, d2] }
  | _ => none }
def FnExactBorderOfWrongFalsely : Prop := fnExactBorderOfRow.holds Try.pinned (OpenSpec.ofChange fnExactBorderOfWrong)

/-- 'laws.FnExactComponentsOf': WHATEVER THE INPUT: true; the input reads as it did. -/
def fnExactComponentsOfSpec : ChangeSpec := { name := "fnExactComponentsOf", fn := fun _ => fun
  | [d1, d2] => { results := [.lit (.bool true)], args := [d1, d2] }
  | _ => none }
def fnExactComponentsOfRow : OpenClaim := { program := "ytllpbkmdcaikoaa", sum := "127a017cf596fa063493c8730dcb6b71bcb2a4140b631864a42abbedf267f430", func := "loop.example/g01247/laws.FnExactComponentsOf", spec := "fnExactComponentsOf", unfollowed := true, recurses := true, apart := false }
def FnExactComponentsOfSaid : Prop := fnExactComponentsOfRow.holds Try.pinned (OpenSpec.ofChange fnExactComponentsOfSpec)

/-- ITS FALSE NEIGHBOUR: 'it returns false'. Refute it at one input. -/
def fnExactComponentsOfWrong : ChangeSpec := { name := "fnExactComponentsOf", fn := fun _ => fun
  | [d1, d2] => { results := [.lit (.bool false)], args := [d1, d2] }
  | _ => none }
def FnExactComponentsOfWrongFalsely : Prop := fnExactComponentsOfRow.holds Try.pinned (OpenSpec.ofChange fnExactComponentsOfWrong)

/-- 'laws.FnFieldTurns': WHATEVER THE INPUT: true; the input reads as it did. -/
def fnFieldTurnsSpec : ChangeSpec := { name := "fnFieldTurns", fn := fun _ => fun
  | [d1, d2] => { results := [.lit (.bool true)], args := [d1, d2] }
  | _ => none }
def fnFieldTurnsRow : OpenClaim := { program := "ytllpbkmdcaikoaa", sum := "127a017cf596fa063493c8730dcb6b71bcb2a4140b631864a42abbedf267f430", func := "loop.example/g01247/laws.FnFieldTurns", spec := "fnFieldTurns", inPlace := ["math.Float64bits"], unfollowed := true, recurses := true, apart := false }
def FnFieldTurnsSaid : Prop := fnFieldTurnsRow.holds Try.pinned (OpenSpec.ofChange fnFieldTurnsSpec)

/-- ITS FALSE NEIGHBOUR: 'it returns false'. Refute it at one input. -/
def fnFieldTurnsWrong : ChangeSpec := { name := "fnFieldTurns", fn := fun _ => fun
  | [d1, d2] => { results := [.lit (.bool false)], args := [d1, d2] }
  | _ => none }
def FnFieldTurnsWrongFalsely : Prop := fnFieldTurnsRow.holds Try.pinned (OpenSpec.ofChange fnFieldTurnsWrong)

/- THE SECOND FORM. 'bulk': how many values and letters a reading holds, each counted each time it is reached (what is shared counts as often as it is met; a slice's spare places count too). A statement '..UptoSaid' is the law's where the arguments, and the package variables that the reading takes, are together of bulk at most 1048576: NARROWER than '..Said'. Prove '..Said' where nothing that the law and all that it calls make is longer than what came in: it says more and counts as full. Else prove '..UptoSaid'. A law counts once. -/
mutual
def uptoBulk {H : Type} : DataW H → Nat
  | .lit (.string bytes) => bytes.length + 1
  | .lit _ => 1
  | .nil => 1
  | .ptr d => uptoBulk d + 1
  | .slice elems spare => uptoBulkAll elems + uptoBulkAll spare + 1
  | .agg parts => uptoBulkAll parts + 1
  | .iface _ d => uptoBulk d + 1
  | .map entries => uptoBulkEntries entries + 1
  | .held _ => 1
def uptoBulkAll {H : Type} : List (DataW H) → Nat
  | [] => 0
  | d :: r => uptoBulk d + uptoBulkAll r
def uptoBulkEntries {H : Type} : List (Lit × DataW H) → Nat
  | [] => 0
  | x :: r => uptoBulkEntry x + uptoBulkEntries r
def uptoBulkEntry {H : Type} : Lit × DataW H → Nat
  | (.string bytes, d) => bytes.length + uptoBulk d + 1
  | (_, d) => uptoBulk d + 1
 end
def uptoSmall : (H : Type) → List (DataW H) → Bool := fun _ ds => decide (uptoBulkAll ds ≤ 1048576)
def OpenSpec.upto (s : _root_.Go.ChangeSpec) : _root_.Go.OpenSpec := { _root_.Go.OpenSpec.ofChange s with cond := some uptoSmall }

/-- 'laws.FnExactSameField', WHERE WHAT IT READS IS OF BULK AT MOST 1048576: true; the input reads as it did. -/
def fnExactSameFieldUptoRow : OpenClaim := { program := "ytllpbkmdcaikoaa", sum := "127a017cf596fa063493c8730dcb6b71bcb2a4140b631864a42abbedf267f430", func := "loop.example/g01247/laws.FnExactSameField", spec := "fnExactSameField", inPlace := ["math.Float32bits", "math.Float64bits"], unfollowed := true, recurses := true, apart := false, narrowed := true }
def FnExactSameFieldUptoSaid : Prop := fnExactSameFieldUptoRow.holds Try.pinned (OpenSpec.upto fnExactSameFieldSpec)

/-- 'laws.FnExactDotFields', WHERE WHAT IT READS IS OF BULK AT MOST 1048576: true; the input reads as it did. -/
def fnExactDotFieldsUptoRow : OpenClaim := { program := "ytllpbkmdcaikoaa", sum := "127a017cf596fa063493c8730dcb6b71bcb2a4140b631864a42abbedf267f430", func := "loop.example/g01247/laws.FnExactDotFields", spec := "fnExactDotFields", unfollowed := true, recurses := true, apart := false, narrowed := true }
def FnExactDotFieldsUptoSaid : Prop := fnExactDotFieldsUptoRow.holds Try.pinned (OpenSpec.upto fnExactDotFieldsSpec)

/-- 'laws.FnExactValueAbout', WHERE WHAT IT READS IS OF BULK AT MOST 1048576: true; the input reads as it did. -/
def fnExactValueAboutUptoRow : OpenClaim := { program := "ytllpbkmdcaikoaa", sum := "127a017cf596fa063493c8730dcb6b71bcb2a4140b631864a42abbedf267f430", func := "loop.example/g01247/laws.FnExactValueAbout", spec := "fnExactValueAbout", unfollowed := true, recurses := true, apart := false, narrowed := true }
def FnExactValueAboutUptoSaid : Prop := fnExactValueAboutUptoRow.holds Try.pinned (OpenSpec.upto fnExactValueAboutSpec)

/-- 'laws.FnExactAddFields', WHERE WHAT IT READS IS OF BULK AT MOST 1048576: true; the input reads as it did. -/
def fnExactAddFieldsUptoRow : OpenClaim := { program := "ytllpbkmdcaikoaa", sum := "127a017cf596fa063493c8730dcb6b71bcb2a4140b631864a42abbedf267f430", func := "loop.example/g01247/laws.FnExactAddFields", spec := "fnExactAddFields", unfollowed := true, recurses := true, apart := false, narrowed := true }
def FnExactAddFieldsUptoSaid : Prop := fnExactAddFieldsUptoRow.holds Try.pinned (OpenSpec.upto fnExactAddFieldsSpec)

/-- 'laws.FnExactLessFields', WHERE WHAT IT READS IS OF BULK AT MOST 1048576: true; the input reads as it did. -/
def fnExactLessFieldsUptoRow : OpenClaim := { program := "ytllpbkmdcaikoaa", sum := "127a017cf596fa063493c8730dcb6b71bcb2a4140b631864a42abbedf267f430", func := "loop.example/g01247/laws.FnExactLessFields", spec := "fnExactLessFields", unfollowed := true, recurses := true, apart := false, narrowed := true }
def FnExactLessFieldsUptoSaid : Prop := fnExactLessFieldsUptoRow.holds Try.pinned (OpenSpec.upto fnExactLessFieldsSpec)

/-- 'laws.FnExactTimesFields', WHERE WHAT IT READS IS OF BULK AT MOST 1048576: true; the input reads as it did. -/
def fnExactTimesFieldsUptoRow : OpenClaim := { program := "ytllpbkmdcaikoaa", sum := "127a017cf596fa063493c8730dcb6b71bcb2a4140b631864a42abbedf267f430", func := "loop.example/g01247/laws.FnExactTimesFields", spec := "fnExactTimesFields", unfollowed := true, recurses := true, apart := false, narrowed := true }
def FnExactTimesFieldsUptoSaid : Prop := fnExactTimesFieldsUptoRow.holds Try.pinned (OpenSpec.upto fnExactTimesFieldsSpec)

/-- 'laws.FnExactRollField', WHERE WHAT IT READS IS OF BULK AT MOST 1048576: true; the input reads as it did. -/
def fnExactRollFieldUptoRow : OpenClaim := { program := "ytllpbkmdcaikoaa", sum := "127a017cf596fa063493c8730dcb6b71bcb2a4140b631864a42abbedf267f430", func := "loop.example/g01247/laws.FnExactRollField", spec := "fnExactRollField", unfollowed := true, recurses := true, apart := false, narrowed := true }
def FnExactRollFieldUptoSaid : Prop := fnExactRollFieldUptoRow.holds Try.pinned (OpenSpec.upto fnExactRollFieldSpec)

/-- 'laws.FnExactSlopesOf', WHERE WHAT IT READS IS OF BULK AT MOST 1048576: true; the input reads as it did. -/
def fnExactSlopesOfUptoRow : OpenClaim := { program := "ytllpbkmdcaikoaa", sum := "127a017cf596fa063493c8730dcb6b71bcb2a4140b631864a42abbedf267f430", func := "loop.example/g01247/laws.FnExactSlopesOf", spec := "fnExactSlopesOf", unfollowed := true, recurses := true, apart := false, narrowed := true }
def FnExactSlopesOfUptoSaid : Prop := fnExactSlopesOfUptoRow.holds Try.pinned (OpenSpec.upto fnExactSlopesOfSpec)

/-- 'laws.FnExactLaplaceField', WHERE WHAT IT READS IS OF BULK AT MOST 1048576: true; the input reads as it did. -/
def fnExactLaplaceFieldUptoRow : OpenClaim := { program := "ytllpbkmdcaikoaa", sum := "127a017cf596fa063493c8730dcb6b71bcb2a4140b631864a42abbedf267f430", func := "loop.example/g01247/laws.FnExactLaplaceField", spec := "fnExactLaplaceField", unfollowed := true, recurses := true, apart := false, narrowed := true }
def FnExactLaplaceFieldUptoSaid : Prop := fnExactLaplaceFieldUptoRow.holds Try.pinned (OpenSpec.upto fnExactLaplaceFieldSpec)

/-- 'laws.FnExactNineField', WHERE WHAT IT READS IS OF BULK AT MOST 1048576: true; the input reads as it did. -/
def fnExactNineFieldUptoRow : OpenClaim := { program := "ytllpbkmdcaikoaa", sum := "127a017cf596fa063493c8730dcb6b71bcb2a4140b631864a42abbedf267f430", func := "loop.example/g01247/laws.FnExactNineField", spec := "fnExactNineField", unfollowed := true, recurses := true, apart := false, narrowed := true }
def FnExactNineFieldUptoSaid : Prop := fnExactNineFieldUptoRow.holds Try.pinned (OpenSpec.upto fnExactNineFieldSpec)

/-- 'laws.FnExactSpreadField', WHERE WHAT IT READS IS OF BULK AT MOST 1048576: true; the input reads as it did. -/
def fnExactSpreadFieldUptoRow : OpenClaim := { program := "ytllpbkmdcaikoaa", sum := "127a017cf596fa063493c8730dcb6b71bcb2a4140b631864a42abbedf267f430", func := "loop.example/g01247/laws.FnExactSpreadField", spec := "fnExactSpreadField", unfollowed := true, recurses := true, apart := false, narrowed := true }
def FnExactSpreadFieldUptoSaid : Prop := fnExactSpreadFieldUptoRow.holds Try.pinned (OpenSpec.upto fnExactSpreadFieldSpec)

/-- 'laws.FnExactBorderOf', WHERE WHAT IT READS IS OF BULK AT MOST 1048576: true; the input reads as it did. -/
def fnExactBorderOfUptoRow : OpenClaim := { program := "ytllpbkmdcaikoaa", sum := "127a017cf596fa063493c8730dcb6b71bcb2a4140b631864a42abbedf267f430", func := "loop.example/g01247/laws.FnExactBorderOf", spec := "fnExactBorderOf", unfollowed := true, recurses := true, apart := false, narrowed := true }
def FnExactBorderOfUptoSaid : Prop := fnExactBorderOfUptoRow.holds Try.pinned (OpenSpec.upto fnExactBorderOfSpec)

/-- 'laws.FnExactComponentsOf', WHERE WHAT IT READS IS OF BULK AT MOST 1048576: true; the input reads as it did. -/
def fnExactComponentsOfUptoRow : OpenClaim := { program := "ytllpbkmdcaikoaa", sum := "127a017cf596fa063493c8730dcb6b71bcb2a4140b631864a42abbedf267f430", func := "loop.example/g01247/laws.FnExactComponentsOf", spec := "fnExactComponentsOf", unfollowed := true, recurses := true, apart := false, narrowed := true }
def FnExactComponentsOfUptoSaid : Prop := fnExactComponentsOfUptoRow.holds Try.pinned (OpenSpec.upto fnExactComponentsOfSpec)

/-- 'laws.FnFieldTurns', WHERE WHAT IT READS IS OF BULK AT MOST 1048576: true; the input reads as it did. -/
def fnFieldTurnsUptoRow : OpenClaim := { program := "ytllpbkmdcaikoaa", sum := "127a017cf596fa063493c8730dcb6b71bcb2a4140b631864a42abbedf267f430", func := "loop.example/g01247/laws.FnFieldTurns", spec := "fnFieldTurns", inPlace := ["math.Float64bits"], unfollowed := true, recurses := true, apart := false, narrowed := true }
def FnFieldTurnsUptoSaid : Prop := fnFieldTurnsUptoRow.holds Try.pinned (OpenSpec.upto fnFieldTurnsSpec)

end Rows
end Go.Proofs.Ytllpbkmdcaikoaa
