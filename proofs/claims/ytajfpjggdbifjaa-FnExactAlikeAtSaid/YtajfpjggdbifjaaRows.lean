/-
  No cell of these rows narrows 'for every input' (looked for: loops, veiled, ifaces, maps, wideKeys, modest, calm, conditions, laid).
  DERIVED. THE GIVEN ROWS OF THIS SEAT. 11 by the template 'for every input the law returns true; each argument reads behind the call as it read before'; 0 by the template 'total and deterministic' (their statements: YtajfpjggdbifjaaTotals.lean).
  GIVEN WITH THE SEED: the statements are not yours to turn. If you find one false, say at which input.
  Laid BY PROGRAM, IN A SANDBOX (cutbox-rows.mjs): the forced cells as the released guide's own fill.sh prints them over the translation 224a971fbf1165a3… (all of the seat's roots in one cut). By AI agents, Wed Nov 11 2026. No macro, syntax, notation, axiom, sorry.
-/
import Derived.Test.YtajfpjggdbifjaaChecked
import GoSem.Claim
import GoSem.ClaimJoined
import GoSem.ClaimMapViews
import Derived.JoinedTies
import Derived.KernelRfl
namespace Go.Proofs.Ytajfpjggdbifjaa
/- THE CELL 'sum', in the pinned program and in every row, IS THE sha256 OF THE DUMP (.gsa) THAT YtajfpjggdbifjaaProg.lean LOADS. Nothing in Lean hashes anything: it is a label: what it is worth is what the hold of that sum in a sandbox is worth. -/
noncomputable def Try.pinned : Pinned := { name := "ytajfpjggdbifjaa", sum := "224a971fbf1165a30afd22f14650ea571cacb0aff9762fee20b03ad401c69d49", checked := Try.checked }
namespace Rows
def none {H : Type} : Left H := { results := [], args := [] }

/-- 'laws.FnSmoothed': WHATEVER THE INPUT: true; the input reads as it did. -/
def fnSmoothedSpec : ChangeSpec := { name := "fnSmoothed", fn := fun _ => fun
  | [d1, d2] => { results := [.lit (.bool true)], args := [d1, d2] }
  | _ => none }
def fnSmoothedRow : OpenClaim := { program := "ytajfpjggdbifjaa", sum := "224a971fbf1165a30afd22f14650ea571cacb0aff9762fee20b03ad401c69d49", func := "loop.example/g01247/laws.FnSmoothed", spec := "fnSmoothed", inPlace := ["math.Float64bits"], unfollowed := true, recurses := true, apart := false }
def FnSmoothedSaid : Prop := fnSmoothedRow.holds Try.pinned (OpenSpec.ofChange fnSmoothedSpec)

/-- ITS FALSE NEIGHBOUR: 'it returns false'. Refute it at one input. -/
def fnSmoothedWrong : ChangeSpec := { name := "fnSmoothed", fn := fun _ => fun
  | [d1, d2] => { results := [.lit (.bool false)], args := [d1, d2] }
  | _ => none }
def FnSmoothedWrongFalsely : Prop := fnSmoothedRow.holds Try.pinned (OpenSpec.ofChange fnSmoothedWrong)

/-- 'laws.FnParts': WHATEVER THE INPUT: true; the input reads as it did. -/
def fnPartsSpec : ChangeSpec := { name := "fnParts", fn := fun _ => fun
  | [d1, d2] => { results := [.lit (.bool true)], args := [d1, d2] }
  | _ => none }
def fnPartsRow : OpenClaim := { program := "ytajfpjggdbifjaa", sum := "224a971fbf1165a30afd22f14650ea571cacb0aff9762fee20b03ad401c69d49", func := "loop.example/g01247/laws.FnParts", spec := "fnParts", inPlace := ["math.Float64bits", "math.Float64frombits"], unfollowed := true, recurses := true, apart := false }
def FnPartsSaid : Prop := fnPartsRow.holds Try.pinned (OpenSpec.ofChange fnPartsSpec)

/-- ITS FALSE NEIGHBOUR: 'it returns false'. Refute it at one input. -/
def fnPartsWrong : ChangeSpec := { name := "fnParts", fn := fun _ => fun
  | [d1, d2] => { results := [.lit (.bool false)], args := [d1, d2] }
  | _ => none }
def FnPartsWrongFalsely : Prop := fnPartsRow.holds Try.pinned (OpenSpec.ofChange fnPartsWrong)

/-- 'laws.FnFieldSums': WHATEVER THE INPUT: true; the input reads as it did. -/
def fnFieldSumsSpec : ChangeSpec := { name := "fnFieldSums", fn := fun _ => fun
  | [d1, d2] => { results := [.lit (.bool true)], args := [d1, d2] }
  | _ => none }
def fnFieldSumsRow : OpenClaim := { program := "ytajfpjggdbifjaa", sum := "224a971fbf1165a30afd22f14650ea571cacb0aff9762fee20b03ad401c69d49", func := "loop.example/g01247/laws.FnFieldSums", spec := "fnFieldSums", inPlace := ["math.sqrt"], unfollowed := true, recurses := true, apart := false }
def FnFieldSumsSaid : Prop := fnFieldSumsRow.holds Try.pinned (OpenSpec.ofChange fnFieldSumsSpec)

/-- ITS FALSE NEIGHBOUR: 'it returns false'. Refute it at one input. -/
def fnFieldSumsWrong : ChangeSpec := { name := "fnFieldSums", fn := fun _ => fun
  | [d1, d2] => { results := [.lit (.bool false)], args := [d1, d2] }
  | _ => none }
def FnFieldSumsWrongFalsely : Prop := fnFieldSumsRow.holds Try.pinned (OpenSpec.ofChange fnFieldSumsWrong)

/-- 'laws.FnExactSameMelt': WHATEVER THE INPUT: true; the input reads as it did. -/
def fnExactSameMeltSpec : ChangeSpec := { name := "fnExactSameMelt", fn := fun _ => fun
  | [d1, d2] => { results := [.lit (.bool true)], args := [d1, d2] }
  | _ => none }
def fnExactSameMeltRow : OpenClaim := { program := "ytajfpjggdbifjaa", sum := "224a971fbf1165a30afd22f14650ea571cacb0aff9762fee20b03ad401c69d49", func := "loop.example/g01247/laws.FnExactSameMelt", spec := "fnExactSameMelt", inPlace := ["math.Float32bits", "math.Float64bits"], unfollowed := true, recurses := true, apart := false }
def FnExactSameMeltSaid : Prop := fnExactSameMeltRow.holds Try.pinned (OpenSpec.ofChange fnExactSameMeltSpec)

/-- ITS FALSE NEIGHBOUR: 'it returns false'. Refute it at one input. -/
def fnExactSameMeltWrong : ChangeSpec := { name := "fnExactSameMelt", fn := fun _ => fun
  | [d1, d2] => { results := [.lit (.bool false)], args := [d1, d2] }
  | _ => none }
def FnExactSameMeltWrongFalsely : Prop := fnExactSameMeltRow.holds Try.pinned (OpenSpec.ofChange fnExactSameMeltWrong)

/-- 'laws.FnExactValidMelt': WHATEVER THE INPUT: true; the input reads as it did. -/
def fnExactValidMeltSpec : ChangeSpec := { name := "fnExactValidMelt", fn := fun _ => fun
  | [d] => { results := [.lit (.bool true)], args := [d] }
  | _ => none }
def fnExactValidMeltRow : OpenClaim := { program := "ytajfpjggdbifjaa", sum := "224a971fbf1165a30afd22f14650ea571cacb0aff9762fee20b03ad401c69d49", func := "loop.example/g01247/laws.FnExactValidMelt", spec := "fnExactValidMelt", inPlace := ["math.Float64bits", "math.Float64frombits"], unfollowed := true, recurses := true, apart := false }
def FnExactValidMeltSaid : Prop := fnExactValidMeltRow.holds Try.pinned (OpenSpec.ofChange fnExactValidMeltSpec)

/-- ITS FALSE NEIGHBOUR: 'it returns false'. Refute it at one input. -/
def fnExactValidMeltWrong : ChangeSpec := { name := "fnExactValidMelt", fn := fun _ => fun
  | [d] => { results := [.lit (.bool false)], args := [d] }
  | _ => none }
def FnExactValidMeltWrongFalsely : Prop := fnExactValidMeltRow.holds Try.pinned (OpenSpec.ofChange fnExactValidMeltWrong)

/-- 'laws.FnExactSolidIn': WHATEVER THE INPUT: true; the input reads as it did. -/
def fnExactSolidInSpec : ChangeSpec := { name := "fnExactSolidIn", fn := fun _ => fun
  | [d] => { results := [.lit (.bool true)], args := [d] }
  | _ => none }
def fnExactSolidInRow : OpenClaim := { program := "ytajfpjggdbifjaa", sum := "224a971fbf1165a30afd22f14650ea571cacb0aff9762fee20b03ad401c69d49", func := "loop.example/g01247/laws.FnExactSolidIn", spec := "fnExactSolidIn", inPlace := ["math.Float64bits", "math.Float64frombits"], unfollowed := true, recurses := true, apart := false }
def FnExactSolidInSaid : Prop := fnExactSolidInRow.holds Try.pinned (OpenSpec.ofChange fnExactSolidInSpec)

/-- ITS FALSE NEIGHBOUR: 'it returns false'. Refute it at one input. -/
def fnExactSolidInWrong : ChangeSpec := { name := "fnExactSolidIn", fn := fun _ => fun
  | [d] => { results := [.lit (.bool false)], args := [d] }
  | _ => none }
def FnExactSolidInWrongFalsely : Prop := fnExactSolidInRow.holds Try.pinned (OpenSpec.ofChange fnExactSolidInWrong)

/-- 'laws.FnExactKeptIn': WHATEVER THE INPUT: true; the input reads as it did. -/
def fnExactKeptInSpec : ChangeSpec := { name := "fnExactKeptIn", fn := fun _ => fun
  | [d] => { results := [.lit (.bool true)], args := [d] }
  | _ => none }
def fnExactKeptInRow : OpenClaim := { program := "ytajfpjggdbifjaa", sum := "224a971fbf1165a30afd22f14650ea571cacb0aff9762fee20b03ad401c69d49", func := "loop.example/g01247/laws.FnExactKeptIn", spec := "fnExactKeptIn", inPlace := ["math.Float64bits", "math.Float64frombits"], unfollowed := true, recurses := true, apart := false }
def FnExactKeptInSaid : Prop := fnExactKeptInRow.holds Try.pinned (OpenSpec.ofChange fnExactKeptInSpec)

/-- ITS FALSE NEIGHBOUR: 'it returns false'. Refute it at one input. -/
def fnExactKeptInWrong : ChangeSpec := { name := "fnExactKeptIn", fn := fun _ => fun
  | [d] => { results := [.lit (.bool false)], args := [d] }
  | _ => none }
def FnExactKeptInWrongFalsely : Prop := fnExactKeptInRow.holds Try.pinned (OpenSpec.ofChange fnExactKeptInWrong)

/-- 'laws.FnExactNewMelt': WHATEVER THE INPUT: true; the input reads as it did. -/
def fnExactNewMeltSpec : ChangeSpec := { name := "fnExactNewMelt", fn := fun _ => fun
  | [d1, d2, d3, d4] => { results := [.lit (.bool true)], args := [d1, d2, d3, d4] }
  | _ => none }
def fnExactNewMeltRow : OpenClaim := { program := "ytajfpjggdbifjaa", sum := "224a971fbf1165a30afd22f14650ea571cacb0aff9762fee20b03ad401c69d49", func := "loop.example/g01247/laws.FnExactNewMelt", spec := "fnExactNewMelt", inPlace := ["math.Float64bits", "math.Float64frombits"], unfollowed := true, recurses := true, apart := false }
def FnExactNewMeltSaid : Prop := fnExactNewMeltRow.holds Try.pinned (OpenSpec.ofChange fnExactNewMeltSpec)

/-- ITS FALSE NEIGHBOUR: 'it returns false'. Refute it at one input. -/
def fnExactNewMeltWrong : ChangeSpec := { name := "fnExactNewMelt", fn := fun _ => fun
  | [d1, d2, d3, d4] => { results := [.lit (.bool false)], args := [d1, d2, d3, d4] }
  | _ => none }
def FnExactNewMeltWrongFalsely : Prop := fnExactNewMeltRow.holds Try.pinned (OpenSpec.ofChange fnExactNewMeltWrong)

/-- 'laws.FnExactDriveAt': WHATEVER THE INPUT: true; the input reads as it did. -/
def fnExactDriveAtSpec : ChangeSpec := { name := "fnExactDriveAt", fn := fun _ => fun
  | [d1, d2, d3] => { results := [.lit (.bool true)], args := [d1, d2, d3] }
  | _ => none }
def fnExactDriveAtRow : OpenClaim := { program := "ytajfpjggdbifjaa", sum := "224a971fbf1165a30afd22f14650ea571cacb0aff9762fee20b03ad401c69d49", func := "loop.example/g01247/laws.FnExactDriveAt", spec := "fnExactDriveAt", inPlace := ["math.Float64bits", "math.Float64frombits"], unfollowed := true, recurses := true, apart := false }
def FnExactDriveAtSaid : Prop := fnExactDriveAtRow.holds Try.pinned (OpenSpec.ofChange fnExactDriveAtSpec)

/-- ITS FALSE NEIGHBOUR: 'it returns false'. Refute it at one input. -/
def fnExactDriveAtWrong : ChangeSpec := { name := "fnExactDriveAt", fn := fun _ => fun
  | [d1, d2, d3] => { results := [.lit (.bool false)], args := [d1, d2, d3] }
  | _ => none }
def FnExactDriveAtWrongFalsely : Prop := fnExactDriveAtRow.holds Try.pinned (OpenSpec.ofChange fnExactDriveAtWrong)

/-- 'laws.FnExactTipAlong': WHATEVER THE INPUT: true; the input reads as it did. -/
def fnExactTipAlongSpec : ChangeSpec := { name := "fnExactTipAlong", fn := fun _ => fun
  | [d1, d2, d3] => { results := [.lit (.bool true)], args := [d1, d2, d3] }
  | _ => none }
def fnExactTipAlongRow : OpenClaim := { program := "ytajfpjggdbifjaa", sum := "224a971fbf1165a30afd22f14650ea571cacb0aff9762fee20b03ad401c69d49", func := "loop.example/g01247/laws.FnExactTipAlong", spec := "fnExactTipAlong", inPlace := ["math.Float64bits", "math.Float64frombits"], unfollowed := true, recurses := true, apart := false }
def FnExactTipAlongSaid : Prop := fnExactTipAlongRow.holds Try.pinned (OpenSpec.ofChange fnExactTipAlongSpec)

/-- ITS FALSE NEIGHBOUR: 'it returns false'. Refute it at one input. -/
def fnExactTipAlongWrong : ChangeSpec := { name := "fnExactTipAlong", fn := fun _ => fun
  | [d1, d2, d3] => { results := [.lit (.bool false)], args := [d1, d2, d3] }
  | _ => none }
def FnExactTipAlongWrongFalsely : Prop := fnExactTipAlongRow.holds Try.pinned (OpenSpec.ofChange fnExactTipAlongWrong)

/-- 'laws.FnExactAlikeAt': WHATEVER THE INPUT: true; the input reads as it did. -/
def fnExactAlikeAtSpec : ChangeSpec := { name := "fnExactAlikeAt", fn := fun _ => fun
  | [d1, d2, d3] => { results := [.lit (.bool true)], args := [d1, d2, d3] }
  | _ => none }
def fnExactAlikeAtRow : OpenClaim := { program := "ytajfpjggdbifjaa", sum := "224a971fbf1165a30afd22f14650ea571cacb0aff9762fee20b03ad401c69d49", func := "loop.example/g01247/laws.FnExactAlikeAt", spec := "fnExactAlikeAt", unfollowed := true, recurses := true, apart := false }
def FnExactAlikeAtSaid : Prop := fnExactAlikeAtRow.holds Try.pinned (OpenSpec.ofChange fnExactAlikeAtSpec)

/-- ITS FALSE NEIGHBOUR: 'it returns false'. Refute it at one input. -/
def fnExactAlikeAtWrong : ChangeSpec := { name := "fnExactAlikeAt", fn := fun _ => fun
  | [d1, d2, d3] => { results := [.lit (.bool false)], args := [d1, d2, d3] }
  | _ => none }
def FnExactAlikeAtWrongFalsely : Prop := fnExactAlikeAtRow.holds Try.pinned (OpenSpec.ofChange fnExactAlikeAtWrong)

/- THE SECOND FORM. 'bulk': how many values and letters a reading holds, each counted each time it is reached (what is shared counts as often as it is met; a slice's spare places count too). A statement '..UptoSaid' is the law's where the arguments, and the package variables that the reading takes, are together of bulk at most 1048576: NARROWER than '..Said'. Prove '..Said' where nothing that the law and all that it calls make is longer than what came in: it says more and counts as full. Else prove '..UptoSaid'. A law counts once. -/
mutual
def uptoBulk {H : Type} : DataW H → Nat
  | .lit (.string bytes) => bytes.length + 1
  | .lit _ => 1
  | .nil => 1
  | .ptr d => uptoBulk d + 1
  | .slice elems spare => uptoBulkAll elems + uptoBulkAll spare + 1
  | .agg parts => uptoBulkAll parts + 1
  | .iface _ d => uptoBulk d + 1
  | .map entries => uptoBulkEntries entries + 1
  | .held _ => 1
def uptoBulkAll {H : Type} : List (DataW H) → Nat
  | [] => 0
  | d :: r => uptoBulk d + uptoBulkAll r
def uptoBulkEntries {H : Type} : List (Lit × DataW H) → Nat
  | [] => 0
  | x :: r => uptoBulkEntry x + uptoBulkEntries r
def uptoBulkEntry {H : Type} : Lit × DataW H → Nat
  | (.string bytes, d) => bytes.length + uptoBulk d + 1
  | (_, d) => uptoBulk d + 1
 end
def uptoSmall : (H : Type) → List (DataW H) → Bool := fun _ ds => decide (uptoBulkAll ds ≤ 1048576)
def OpenSpec.upto (s : _root_.Go.ChangeSpec) : _root_.Go.OpenSpec := { _root_.Go.OpenSpec.ofChange s with cond := some uptoSmall }

/-- 'laws.FnSmoothed', WHERE WHAT IT READS IS OF BULK AT MOST 1048576: true; the input reads as it did. -/
def fnSmoothedUptoRow : OpenClaim := { program := "ytajfpjggdbifjaa", sum := "224a971fbf1165a30afd22f14650ea571cacb0aff9762fee20b03ad401c69d49", func := "loop.example/g01247/laws.FnSmoothed", spec := "fnSmoothed", inPlace := ["math.Float64bits"], unfollowed := true, recurses := true, apart := false, narrowed := true }
def FnSmoothedUptoSaid : Prop := fnSmoothedUptoRow.holds Try.pinned (OpenSpec.upto fnSmoothedSpec)

/-- 'laws.FnParts', WHERE WHAT IT READS IS OF BULK AT MOST 1048576: true; the input reads as it did. -/
def fnPartsUptoRow : OpenClaim := { program := "ytajfpjggdbifjaa", sum := "224a971fbf1165a30afd22f14650ea571cacb0aff9762fee20b03ad401c69d49", func := "loop.example/g01247/laws.FnParts", spec := "fnParts", inPlace := ["math.Float64bits", "math.Float64frombits"], unfollowed := true, recurses := true, apart := false, narrowed := true }
def FnPartsUptoSaid : Prop := fnPartsUptoRow.holds Try.pinned (OpenSpec.upto fnPartsSpec)

/-- 'laws.FnFieldSums', WHERE WHAT IT READS IS OF BULK AT MOST 1048576: true; the input reads as it did. -/
def fnFieldSumsUptoRow : OpenClaim := { program := "ytajfpjggdbifjaa", sum := "224a971fbf1165a30afd22f14650ea571cacb0aff9762fee20b03ad401c69d49", func := "loop.example/g01247/laws.FnFieldSums", spec := "fnFieldSums", inPlace := ["math.sqrt"], unfollowed := true, recurses := true, apart := false, narrowed := true }
def FnFieldSumsUptoSaid : Prop := fnFieldSumsUptoRow.holds Try.pinned (OpenSpec.upto fnFieldSumsSpec)

/-- 'laws.FnExactSameMelt', WHERE WHAT IT READS IS OF BULK AT MOST 1048576: true; the input reads as it did. -/
def fnExactSameMeltUptoRow : OpenClaim := { program := "ytajfpjggdbifjaa", sum := "224a971fbf1165a30afd22f14650ea571cacb0aff9762fee20b03ad401c69d49", func := "loop.example/g01247/laws.FnExactSameMelt", spec := "fnExactSameMelt", inPlace := ["math.Float32bits", "math.Float64bits"], unfollowed := true, recurses := true, apart := false, narrowed := true }
def FnExactSameMeltUptoSaid : Prop := fnExactSameMeltUptoRow.holds Try.pinned (OpenSpec.upto fnExactSameMeltSpec)

/-- 'laws.FnExactValidMelt', WHERE WHAT IT READS IS OF BULK AT MOST 1048576: true; the input reads as it did. -/
def fnExactValidMeltUptoRow : OpenClaim := { program := "ytajfpjggdbifjaa", sum := "224a971fbf1165a30afd22f14650ea571cacb0aff9762fee20b03ad401c69d49", func := "loop.example/g01247/laws.FnExactValidMelt", spec := "fnExactValidMelt", inPlace := ["math.Float64bits", "math.Float64frombits"], unfollowed := true, recurses := true, apart := false, narrowed := true }
def FnExactValidMeltUptoSaid : Prop := fnExactValidMeltUptoRow.holds Try.pinned (OpenSpec.upto fnExactValidMeltSpec)

/-- 'laws.FnExactSolidIn', WHERE WHAT IT READS IS OF BULK AT MOST 1048576: true; the input reads as it did. -/
def fnExactSolidInUptoRow : OpenClaim := { program := "ytajfpjggdbifjaa", sum := "224a971fbf1165a30afd22f14650ea571cacb0aff9762fee20b03ad401c69d49", func := "loop.example/g01247/laws.FnExactSolidIn", spec := "fnExactSolidIn", inPlace := ["math.Float64bits", "math.Float64frombits"], unfollowed := true, recurses := true, apart := false, narrowed := true }
def FnExactSolidInUptoSaid : Prop := fnExactSolidInUptoRow.holds Try.pinned (OpenSpec.upto fnExactSolidInSpec)

/-- 'laws.FnExactKeptIn', WHERE WHAT IT READS IS OF BULK AT MOST 1048576: true; the input reads as it did. -/
def fnExactKeptInUptoRow : OpenClaim := { program := "ytajfpjggdbifjaa", sum := "224a971fbf1165a30afd22f14650ea571cacb0aff9762fee20b03ad401c69d49", func := "loop.example/g01247/laws.FnExactKeptIn", spec := "fnExactKeptIn", inPlace := ["math.Float64bits", "math.Float64frombits"], unfollowed := true, recurses := true, apart := false, narrowed := true }
def FnExactKeptInUptoSaid : Prop := fnExactKeptInUptoRow.holds Try.pinned (OpenSpec.upto fnExactKeptInSpec)

/-- 'laws.FnExactNewMelt', WHERE WHAT IT READS IS OF BULK AT MOST 1048576: true; the input reads as it did. -/
def fnExactNewMeltUptoRow : OpenClaim := { program := "ytajfpjggdbifjaa", sum := "224a971fbf1165a30afd22f14650ea571cacb0aff9762fee20b03ad401c69d49", func := "loop.example/g01247/laws.FnExactNewMelt", spec := "fnExactNewMelt", inPlace := ["math.Float64bits", "math.Float64frombits"], unfollowed := true, recurses := true, apart := false, narrowed := true }
def FnExactNewMeltUptoSaid : Prop := fnExactNewMeltUptoRow.holds Try.pinned (OpenSpec.upto fnExactNewMeltSpec)

/-- 'laws.FnExactDriveAt', WHERE WHAT IT READS IS OF BULK AT MOST 1048576: true; the input reads as it did. -/
def fnExactDriveAtUptoRow : OpenClaim := { program := "ytajfpjggdbifjaa", sum := "224a971fbf1165a30afd22f14650ea571cacb0aff9762fee20b03ad401c69d49", func := "loop.example/g01247/laws.FnExactDriveAt", spec := "fnExactDriveAt", inPlace := ["math.Float64bits", "math.Float64frombits"], unfollowed := true, recurses := true, apart := false, narrowed := true }
def FnExactDriveAtUptoSaid : Prop := fnExactDriveAtUptoRow.holds Try.pinned (OpenSpec.upto fnExactDriveAtSpec)

/-- 'laws.FnExactTipAlong', WHERE WHAT IT READS IS OF BULK AT MOST 1048576: true; the input reads as it did. -/
def fnExactTipAlongUptoRow : OpenClaim := { program := "ytajfpjggdbifjaa", sum := "224a971fbf1165a30afd22f14650ea571cacb0aff9762fee20b03ad401c69d49", func := "loop.example/g01247/laws.FnExactTipAlong", spec := "fnExactTipAlong", inPlace := ["math.Float64bits", "math.Float64frombits"], unfollowed := true, recurses := true, apart := false, narrowed := true }
def FnExactTipAlongUptoSaid : Prop := fnExactTipAlongUptoRow.holds Try.pinned (OpenSpec.upto fnExactTipAlongSpec)

/-- 'laws.FnExactAlikeAt', WHERE WHAT IT READS IS OF BULK AT MOST 1048576: true; the input reads as it did. -/
def fnExactAlikeAtUptoRow : OpenClaim := { program := "ytajfpjggdbifjaa", sum := "224a971fbf1165a30afd22f14650ea571cacb0aff9762fee20b03ad401c69d49", func := "loop.example/g01247/laws.FnExactAlikeAt", spec := "fnExactAlikeAt", unfollowed := true, recurses := true, apart := false, narrowed := true }
def FnExactAlikeAtUptoSaid : Prop := fnExactAlikeAtUptoRow.holds Try.pinned (OpenSpec.upto fnExactAlikeAtSpec)

end Rows
end Go.Proofs.Ytajfpjggdbifjaa
