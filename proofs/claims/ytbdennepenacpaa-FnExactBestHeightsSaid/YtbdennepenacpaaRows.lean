/-
  No cell of these rows narrows 'for every input' (looked for: loops, veiled, ifaces, maps, wideKeys, modest, calm, conditions, laid).
  DERIVED. THE GIVEN ROWS OF THIS SEAT. 12 by the template 'for every input the law returns true; each argument reads behind the call as it read before'; 0 by the template 'total and deterministic' (their statements: YtbdennepenacpaaTotals.lean).
  GIVEN WITH THE SEED: the statements are not yours to turn. If you find one false, say at which input.
  Laid BY PROGRAM, IN A SANDBOX (cutbox-rows.mjs): the forced cells as the released guide's own fill.sh prints them over the translation e85ccf517e6beb1e… (all of the seat's roots in one cut). By AI agents, Wed Nov 11 2026. No macro, syntax, notation, axiom, sorry.
-/
import Derived.Test.YtbdennepenacpaaChecked
import GoSem.Claim
import GoSem.ClaimJoined
import GoSem.ClaimMapViews
import Derived.JoinedTies
import Derived.KernelRfl
namespace Go.Proofs.Ytbdennepenacpaa
/- THE CELL 'sum', in the pinned program and in every row, IS THE sha256 OF THE DUMP (.gsa) THAT YtbdennepenacpaaProg.lean LOADS. Nothing in Lean hashes anything: it is a label: what it is worth is what the hold of that sum in a sandbox is worth. -/
noncomputable def Try.pinned : Pinned := { name := "ytbdennepenacpaa", sum := "e85ccf517e6beb1e5739643d15bd7f00b4c57c77c926a125aa8cc3094794a387", checked := Try.checked }
namespace Rows
def none {H : Type} : Left H := { results := [], args := [] }

/-- 'laws.FnExactSpreadOf': WHATEVER THE INPUT: true; the input reads as it did. -/
def fnExactSpreadOfSpec : ChangeSpec := { name := "fnExactSpreadOf", fn := fun _ => fun
  | [d] => { results := [.lit (.bool true)], args := [d] }
  | _ => none }
def fnExactSpreadOfRow : OpenClaim := { program := "ytbdennepenacpaa", sum := "e85ccf517e6beb1e5739643d15bd7f00b4c57c77c926a125aa8cc3094794a387", func := "loop.example/g01113/laws.FnExactSpreadOf", spec := "fnExactSpreadOf", apart := false }
def FnExactSpreadOfSaid : Prop := fnExactSpreadOfRow.holds Try.pinned (OpenSpec.ofChange fnExactSpreadOfSpec)

/-- ITS FALSE NEIGHBOUR: 'it returns false'. Refute it at one input. -/
def fnExactSpreadOfWrong : ChangeSpec := { name := "fnExactSpreadOf", fn := fun _ => fun
  | [d] => { results := [.lit (.bool false)], args := [d] }
  | _ => none }
def FnExactSpreadOfWrongFalsely : Prop := fnExactSpreadOfRow.holds Try.pinned (OpenSpec.ofChange fnExactSpreadOfWrong)

/-- 'laws.FnExactExcessOf': WHATEVER THE INPUT: true; the input reads as it did. -/
def fnExactExcessOfSpec : ChangeSpec := { name := "fnExactExcessOf", fn := fun _ => fun
  | [d] => { results := [.lit (.bool true)], args := [d] }
  | _ => none }
def fnExactExcessOfRow : OpenClaim := { program := "ytbdennepenacpaa", sum := "e85ccf517e6beb1e5739643d15bd7f00b4c57c77c926a125aa8cc3094794a387", func := "loop.example/g01113/laws.FnExactExcessOf", spec := "fnExactExcessOf", apart := false }
def FnExactExcessOfSaid : Prop := fnExactExcessOfRow.holds Try.pinned (OpenSpec.ofChange fnExactExcessOfSpec)

/-- ITS FALSE NEIGHBOUR: 'it returns false'. Refute it at one input. -/
def fnExactExcessOfWrong : ChangeSpec := { name := "fnExactExcessOf", fn := fun _ => fun
  | [d] => { results := [.lit (.bool false)], args := [d] }
  | _ => none }
def FnExactExcessOfWrongFalsely : Prop := fnExactExcessOfRow.holds Try.pinned (OpenSpec.ofChange fnExactExcessOfWrong)

/-- 'laws.FnExactRangeOf': WHATEVER THE INPUT: true; the input reads as it did. -/
def fnExactRangeOfSpec : ChangeSpec := { name := "fnExactRangeOf", fn := fun _ => fun
  | [d] => { results := [.lit (.bool true)], args := [d] }
  | _ => none }
def fnExactRangeOfRow : OpenClaim := { program := "ytbdennepenacpaa", sum := "e85ccf517e6beb1e5739643d15bd7f00b4c57c77c926a125aa8cc3094794a387", func := "loop.example/g01113/laws.FnExactRangeOf", spec := "fnExactRangeOf", apart := false }
def FnExactRangeOfSaid : Prop := fnExactRangeOfRow.holds Try.pinned (OpenSpec.ofChange fnExactRangeOfSpec)

/-- ITS FALSE NEIGHBOUR: 'it returns false'. Refute it at one input. -/
def fnExactRangeOfWrong : ChangeSpec := { name := "fnExactRangeOf", fn := fun _ => fun
  | [d] => { results := [.lit (.bool false)], args := [d] }
  | _ => none }
def FnExactRangeOfWrongFalsely : Prop := fnExactRangeOfRow.holds Try.pinned (OpenSpec.ofChange fnExactRangeOfWrong)

/-- 'laws.FnExactGiniOf': WHATEVER THE INPUT: true; the input reads as it did. -/
def fnExactGiniOfSpec : ChangeSpec := { name := "fnExactGiniOf", fn := fun _ => fun
  | [d] => { results := [.lit (.bool true)], args := [d] }
  | _ => none }
def fnExactGiniOfRow : OpenClaim := { program := "ytbdennepenacpaa", sum := "e85ccf517e6beb1e5739643d15bd7f00b4c57c77c926a125aa8cc3094794a387", func := "loop.example/g01113/laws.FnExactGiniOf", spec := "fnExactGiniOf", apart := false }
def FnExactGiniOfSaid : Prop := fnExactGiniOfRow.holds Try.pinned (OpenSpec.ofChange fnExactGiniOfSpec)

/-- ITS FALSE NEIGHBOUR: 'it returns false'. Refute it at one input. -/
def fnExactGiniOfWrong : ChangeSpec := { name := "fnExactGiniOf", fn := fun _ => fun
  | [d] => { results := [.lit (.bool false)], args := [d] }
  | _ => none }
def FnExactGiniOfWrongFalsely : Prop := fnExactGiniOfRow.holds Try.pinned (OpenSpec.ofChange fnExactGiniOfWrong)

/-- 'laws.FnExactTableOfThresholds': WHATEVER THE INPUT: true; the input reads as it did. -/
def fnExactTableOfThresholdsSpec : ChangeSpec := { name := "fnExactTableOfThresholds", fn := fun _ => fun
  | [d] => { results := [.lit (.bool true)], args := [d] }
  | _ => none }
def fnExactTableOfThresholdsRow : OpenClaim := { program := "ytbdennepenacpaa", sum := "e85ccf517e6beb1e5739643d15bd7f00b4c57c77c926a125aa8cc3094794a387", func := "loop.example/g01113/laws.FnExactTableOfThresholds", spec := "fnExactTableOfThresholds", apart := false }
def FnExactTableOfThresholdsSaid : Prop := fnExactTableOfThresholdsRow.holds Try.pinned (OpenSpec.ofChange fnExactTableOfThresholdsSpec)

/-- ITS FALSE NEIGHBOUR: 'it returns false'. Refute it at one input. -/
def fnExactTableOfThresholdsWrong : ChangeSpec := { name := "fnExactTableOfThresholds", fn := fun _ => fun
  | [d] => { results := [.lit (.bool false)], args := [d] }
  | _ => none }
def FnExactTableOfThresholdsWrongFalsely : Prop := fnExactTableOfThresholdsRow.holds Try.pinned (OpenSpec.ofChange fnExactTableOfThresholdsWrong)

/-- 'laws.FnExactWeightsOf': WHATEVER THE INPUT: true; the input reads as it did. -/
def fnExactWeightsOfSpec : ChangeSpec := { name := "fnExactWeightsOf", fn := fun _ => fun
  | [d] => { results := [.lit (.bool true)], args := [d] }
  | _ => none }
def fnExactWeightsOfRow : OpenClaim := { program := "ytbdennepenacpaa", sum := "e85ccf517e6beb1e5739643d15bd7f00b4c57c77c926a125aa8cc3094794a387", func := "loop.example/g01113/laws.FnExactWeightsOf", spec := "fnExactWeightsOf", apart := false }
def FnExactWeightsOfSaid : Prop := fnExactWeightsOfRow.holds Try.pinned (OpenSpec.ofChange fnExactWeightsOfSpec)

/-- ITS FALSE NEIGHBOUR: 'it returns false'. Refute it at one input. -/
def fnExactWeightsOfWrong : ChangeSpec := { name := "fnExactWeightsOf", fn := fun _ => fun
  | [d] => { results := [.lit (.bool false)], args := [d] }
  | _ => none }
def FnExactWeightsOfWrongFalsely : Prop := fnExactWeightsOfRow.holds Try.pinned (OpenSpec.ofChange fnExactWeightsOfWrong)

/-- 'laws.FnExactThresholdRefusal': WHATEVER THE INPUT: true; the input reads as it did. -/
def fnExactThresholdRefusalSpec : ChangeSpec := { name := "fnExactThresholdRefusal", fn := fun _ => fun
  | [d1, d2] => { results := [.lit (.bool true)], args := [d1, d2] }
  | _ => none }
def fnExactThresholdRefusalRow : OpenClaim := { program := "ytbdennepenacpaa", sum := "e85ccf517e6beb1e5739643d15bd7f00b4c57c77c926a125aa8cc3094794a387", func := "loop.example/g01113/laws.FnExactThresholdRefusal", spec := "fnExactThresholdRefusal", apart := false }
def FnExactThresholdRefusalSaid : Prop := fnExactThresholdRefusalRow.holds Try.pinned (OpenSpec.ofChange fnExactThresholdRefusalSpec)

/-- ITS FALSE NEIGHBOUR: 'it returns false'. Refute it at one input. -/
def fnExactThresholdRefusalWrong : ChangeSpec := { name := "fnExactThresholdRefusal", fn := fun _ => fun
  | [d1, d2] => { results := [.lit (.bool false)], args := [d1, d2] }
  | _ => none }
def FnExactThresholdRefusalWrongFalsely : Prop := fnExactThresholdRefusalRow.holds Try.pinned (OpenSpec.ofChange fnExactThresholdRefusalWrong)

/-- 'laws.FnExactLowerRefusal': WHATEVER THE INPUT: true; the input reads as it did. -/
def fnExactLowerRefusalSpec : ChangeSpec := { name := "fnExactLowerRefusal", fn := fun _ => fun
  | [d1, d2] => { results := [.lit (.bool true)], args := [d1, d2] }
  | _ => none }
def fnExactLowerRefusalRow : OpenClaim := { program := "ytbdennepenacpaa", sum := "e85ccf517e6beb1e5739643d15bd7f00b4c57c77c926a125aa8cc3094794a387", func := "loop.example/g01113/laws.FnExactLowerRefusal", spec := "fnExactLowerRefusal", apart := false }
def FnExactLowerRefusalSaid : Prop := fnExactLowerRefusalRow.holds Try.pinned (OpenSpec.ofChange fnExactLowerRefusalSpec)

/-- ITS FALSE NEIGHBOUR: 'it returns false'. Refute it at one input. -/
def fnExactLowerRefusalWrong : ChangeSpec := { name := "fnExactLowerRefusal", fn := fun _ => fun
  | [d1, d2] => { results := [.lit (.bool false)], args := [d1, d2] }
  | _ => none }
def FnExactLowerRefusalWrongFalsely : Prop := fnExactLowerRefusalRow.holds Try.pinned (OpenSpec.ofChange fnExactLowerRefusalWrong)

/-- 'laws.FnExactHeightGain': WHATEVER THE INPUT: true; the input reads as it did. -/
def fnExactHeightGainSpec : ChangeSpec := { name := "fnExactHeightGain", fn := fun _ => fun
  | [d1, d2, d3] => { results := [.lit (.bool true)], args := [d1, d2, d3] }
  | _ => none }
def fnExactHeightGainRow : OpenClaim := { program := "ytbdennepenacpaa", sum := "e85ccf517e6beb1e5739643d15bd7f00b4c57c77c926a125aa8cc3094794a387", func := "loop.example/g01113/laws.FnExactHeightGain", spec := "fnExactHeightGain", apart := false }
def FnExactHeightGainSaid : Prop := fnExactHeightGainRow.holds Try.pinned (OpenSpec.ofChange fnExactHeightGainSpec)

/-- ITS FALSE NEIGHBOUR: 'it returns false'. Refute it at one input. -/
def fnExactHeightGainWrong : ChangeSpec := { name := "fnExactHeightGain", fn := fun _ => fun
  | [d1, d2, d3] => { results := [.lit (.bool false)], args := [d1, d2, d3] }
  | _ => none }
def FnExactHeightGainWrongFalsely : Prop := fnExactHeightGainRow.holds Try.pinned (OpenSpec.ofChange fnExactHeightGainWrong)

/-- 'laws.FnExactLineDistance': WHATEVER THE INPUT: true; the input reads as it did. -/
def fnExactLineDistanceSpec : ChangeSpec := { name := "fnExactLineDistance", fn := fun _ => fun
  | [d1, d2] => { results := [.lit (.bool true)], args := [d1, d2] }
  | _ => none }
def fnExactLineDistanceRow : OpenClaim := { program := "ytbdennepenacpaa", sum := "e85ccf517e6beb1e5739643d15bd7f00b4c57c77c926a125aa8cc3094794a387", func := "loop.example/g01113/laws.FnExactLineDistance", spec := "fnExactLineDistance", apart := false }
def FnExactLineDistanceSaid : Prop := fnExactLineDistanceRow.holds Try.pinned (OpenSpec.ofChange fnExactLineDistanceSpec)

/-- ITS FALSE NEIGHBOUR: 'it returns false'. Refute it at one input. -/
def fnExactLineDistanceWrong : ChangeSpec := { name := "fnExactLineDistance", fn := fun _ => fun
  | [d1, d2] => { results := [.lit (.bool false)], args := [d1, d2] }
  | _ => none }
def FnExactLineDistanceWrongFalsely : Prop := fnExactLineDistanceRow.holds Try.pinned (OpenSpec.ofChange fnExactLineDistanceWrong)

/-- 'laws.FnExactBestHeights': WHATEVER THE INPUT: true; the input reads as it did. -/
def fnExactBestHeightsSpec : ChangeSpec := { name := "fnExactBestHeights", fn := fun _ => fun
  | [d1, d2] => { results := [.lit (.bool true)], args := [d1, d2] }
  | _ => none }
def fnExactBestHeightsRow : OpenClaim := { program := "ytbdennepenacpaa", sum := "e85ccf517e6beb1e5739643d15bd7f00b4c57c77c926a125aa8cc3094794a387", func := "loop.example/g01113/laws.FnExactBestHeights", spec := "fnExactBestHeights", apart := false }
def FnExactBestHeightsSaid : Prop := fnExactBestHeightsRow.holds Try.pinned (OpenSpec.ofChange fnExactBestHeightsSpec)

/-- ITS FALSE NEIGHBOUR: 'it returns false'. Refute it at one input. -/
def fnExactBestHeightsWrong : ChangeSpec := { name := "fnExactBestHeights", fn := fun _ => fun
  | [d1, d2] => { results := [.lit (.bool false)], args := [d1, d2] }
  | _ => none }
def FnExactBestHeightsWrongFalsely : Prop := fnExactBestHeightsRow.holds Try.pinned (OpenSpec.ofChange fnExactBestHeightsWrong)

/-- 'laws.FnNewtonsSums': WHATEVER THE INPUT: true; the input reads as it did. -/
def fnNewtonsSumsSpec : ChangeSpec := { name := "fnNewtonsSums", fn := fun _ => fun
  | [d1, d2] => { results := [.lit (.bool true)], args := [d1, d2] }
  | _ => none }
def fnNewtonsSumsRow : OpenClaim := { program := "ytbdennepenacpaa", sum := "e85ccf517e6beb1e5739643d15bd7f00b4c57c77c926a125aa8cc3094794a387", func := "loop.example/g01113/laws.FnNewtonsSums", spec := "fnNewtonsSums", recurses := true, apart := false }
def FnNewtonsSumsSaid : Prop := fnNewtonsSumsRow.holds Try.pinned (OpenSpec.ofChange fnNewtonsSumsSpec)

/-- ITS FALSE NEIGHBOUR: 'it returns false'. Refute it at one input. -/
def fnNewtonsSumsWrong : ChangeSpec := { name := "fnNewtonsSums", fn := fun _ => fun
  | [d1, d2] => { results := [.lit (.bool false)], args := [d1, d2] }
  | _ => none }
def FnNewtonsSumsWrongFalsely : Prop := fnNewtonsSumsRow.holds Try.pinned (OpenSpec.ofChange fnNewtonsSumsWrong)

/- THE SECOND FORM. 'bulk': how many values and letters a reading holds, each counted each time it is reached (what is shared counts as often as it is met; a slice's spare places count too). A statement '..UptoSaid' is the law's where the arguments, and the package variables that the reading takes, are together of bulk at most 1048576: NARROWER than '..Said'. Prove '..Said' where nothing that the law and all that it calls make is longer than what came in: it says more and counts as full. Else prove '..UptoSaid'. A law counts once. -/
mutual
def uptoBulk {H : Type} : DataW H → Nat
  | .lit (.string bytes) => bytes.length + 1
  | .lit _ => 1
  | .nil => 1
  | .ptr d => uptoBulk d + 1
  | .slice elems spare => uptoBulkAll elems + uptoBulkAll spare + 1
  | .agg parts => uptoBulkAll parts + 1
  | .iface _ d => uptoBulk d + 1
  | .map entries => uptoBulkEntries entries + 1
  | .held _ => 1
def uptoBulkAll {H : Type} : List (DataW H) → Nat
  | [] => 0
  | d :: r => uptoBulk d + uptoBulkAll r
def uptoBulkEntries {H : Type} : List (Lit × DataW H) → Nat
  | [] => 0
  | x :: r => uptoBulkEntry x + uptoBulkEntries r
def uptoBulkEntry {H : Type} : Lit × DataW H → Nat
  | (.string bytes, d) => bytes.length + uptoBulk d + 1
  | (_, d) => uptoBulk d + 1
 end
def uptoSmall : (H : Type) → List (DataW H) → Bool := fun _ ds => decide (uptoBulkAll ds ≤ 1048576)
def OpenSpec.upto (s : _root_.Go.ChangeSpec) : _root_.Go.OpenSpec := { _root_.Go.OpenSpec.ofChange s with cond := some uptoSmall }

/-- 'laws.FnExactSpreadOf', WHERE WHAT IT READS IS OF BULK AT MOST 1048576: true; the input reads as it did. -/
def fnExactSpreadOfUptoRow : OpenClaim := { program := "ytbdennepenacpaa", sum := "e85ccf517e6beb1e5739643d15bd7f00b4c57c77c926a125aa8cc3094794a387", func := "loop.example/g01113/laws.FnExactSpreadOf", spec := "fnExactSpreadOf", apart := false, narrowed := true }
def FnExactSpreadOfUptoSaid : Prop := fnExactSpreadOfUptoRow.holds Try.pinned (OpenSpec.upto fnExactSpreadOfSpec)

/-- 'laws.FnExactExcessOf', WHERE WHAT IT READS IS OF BULK AT MOST 1048576: true; the input reads as it did. -/
def fnExactExcessOfUptoRow : OpenClaim := { program := "ytbdennepenacpaa", sum := "e85ccf517e6beb1e5739643d15bd7f00b4c57c77c926a125aa8cc3094794a387", func := "loop.example/g01113/laws.FnExactExcessOf", spec := "fnExactExcessOf", apart := false, narrowed := true }
def FnExactExcessOfUptoSaid : Prop := fnExactExcessOfUptoRow.holds Try.pinned (OpenSpec.upto fnExactExcessOfSpec)

/-- 'laws.FnExactRangeOf', WHERE WHAT IT READS IS OF BULK AT MOST 1048576: true; the input reads as it did. -/
def fnExactRangeOfUptoRow : OpenClaim := { program := "ytbdennepenacpaa", sum := "e85ccf517e6beb1e5739643d15bd7f00b4c57c77c926a125aa8cc3094794a387", func := "loop.example/g01113/laws.FnExactRangeOf", spec := "fnExactRangeOf", apart := false, narrowed := true }
def FnExactRangeOfUptoSaid : Prop := fnExactRangeOfUptoRow.holds Try.pinned (OpenSpec.upto fnExactRangeOfSpec)

/-- 'laws.FnExactGiniOf', WHERE WHAT IT READS IS OF BULK AT MOST 1048576: true; the input reads as it did. -/
def fnExactGiniOfUptoRow : OpenClaim := { program := "ytbdennepenacpaa", sum := "e85ccf517e6beb1e5739643d15bd7f00b4c57c77c926a125aa8cc3094794a387", func := "loop.example/g01113/laws.FnExactGiniOf", spec := "fnExactGiniOf", apart := false, narrowed := true }
def FnExactGiniOfUptoSaid : Prop := fnExactGiniOfUptoRow.holds Try.pinned (OpenSpec.upto fnExactGiniOfSpec)

/-- 'laws.FnExactTableOfThresholds', WHERE WHAT IT READS IS OF BULK AT MOST 1048576: true; the input reads as it did. -/
def fnExactTableOfThresholdsUptoRow : OpenClaim := { program := "ytbdennepenacpaa", sum := "e85ccf517e6beb1e5739643d15bd7f00b4c57c77c926a125aa8cc3094794a387", func := "loop.example/g01113/laws.FnExactTableOfThresholds", spec := "fnExactTableOfThresholds", apart := false, narrowed := true }
def FnExactTableOfThresholdsUptoSaid : Prop := fnExactTableOfThresholdsUptoRow.holds Try.pinned (OpenSpec.upto fnExactTableOfThresholdsSpec)

/-- 'laws.FnExactWeightsOf', WHERE WHAT IT READS IS OF BULK AT MOST 1048576: true; the input reads as it did. -/
def fnExactWeightsOfUptoRow : OpenClaim := { program := "ytbdennepenacpaa", sum := "e85ccf517e6beb1e5739643d15bd7f00b4c57c77c926a125aa8cc3094794a387", func := "loop.example/g01113/laws.FnExactWeightsOf", spec := "fnExactWeightsOf", apart := false, narrowed := true }
def FnExactWeightsOfUptoSaid : Prop := fnExactWeightsOfUptoRow.holds Try.pinned (OpenSpec.upto fnExactWeightsOfSpec)

/-- 'laws.FnExactThresholdRefusal', WHERE WHAT IT READS IS OF BULK AT MOST 1048576: true; the input reads as it did. -/
def fnExactThresholdRefusalUptoRow : OpenClaim := { program := "ytbdennepenacpaa", sum := "e85ccf517e6beb1e5739643d15bd7f00b4c57c77c926a125aa8cc3094794a387", func := "loop.example/g01113/laws.FnExactThresholdRefusal", spec := "fnExactThresholdRefusal", apart := false, narrowed := true }
def FnExactThresholdRefusalUptoSaid : Prop := fnExactThresholdRefusalUptoRow.holds Try.pinned (OpenSpec.upto fnExactThresholdRefusalSpec)

/-- 'laws.FnExactLowerRefusal', WHERE WHAT IT READS IS OF BULK AT MOST 1048576: true; the input reads as it did. -/
def fnExactLowerRefusalUptoRow : OpenClaim := { program := "ytbdennepenacpaa", sum := "e85ccf517e6beb1e5739643d15bd7f00b4c57c77c926a125aa8cc3094794a387", func := "loop.example/g01113/laws.FnExactLowerRefusal", spec := "fnExactLowerRefusal", apart := false, narrowed := true }
def FnExactLowerRefusalUptoSaid : Prop := fnExactLowerRefusalUptoRow.holds Try.pinned (OpenSpec.upto fnExactLowerRefusalSpec)

/-- 'laws.FnExactHeightGain', WHERE WHAT IT READS IS OF BULK AT MOST 1048576: true; the input reads as it did. -/
def fnExactHeightGainUptoRow : OpenClaim := { program := "ytbdennepenacpaa", sum := "e85ccf517e6beb1e5739643d15bd7f00b4c57c77c926a125aa8cc3094794a387", func := "loop.example/g01113/laws.FnExactHeightGain", spec := "fnExactHeightGain", apart := false, narrowed := true }
def FnExactHeightGainUptoSaid : Prop := fnExactHeightGainUptoRow.holds Try.pinned (OpenSpec.upto fnExactHeightGainSpec)

/-- 'laws.FnExactLineDistance', WHERE WHAT IT READS IS OF BULK AT MOST 1048576: true; the input reads as it did. -/
def fnExactLineDistanceUptoRow : OpenClaim := { program := "ytbdennepenacpaa", sum := "e85ccf517e6beb1e5739643d15bd7f00b4c57c77c926a125aa8cc3094794a387", func := "loop.example/g01113/laws.FnExactLineDistance", spec := "fnExactLineDistance", apart := false, narrowed := true }
def FnExactLineDistanceUptoSaid : Prop := fnExactLineDistanceUptoRow.holds Try.pinned (OpenSpec.upto fnExactLineDistanceSpec)

/-- 'laws.FnExactBestHeights', WHERE WHAT IT READS IS OF BULK AT MOST 1048576: true; the input reads as it did. -/
def fnExactBestHeightsUptoRow : OpenClaim := { program := "ytbdennepenacpaa", sum := "e85ccf517e6beb1e5739643d15bd7f00b4c57c77c926a125aa8cc3094794a387", func := "loop.example/g01113/laws.FnExactBestHeights", spec := "fnExactBestHeights", apart := false, narrowed := true }
def FnExactBestHeightsUptoSaid : Prop := fnExactBestHeightsUptoRow.holds Try.pinned (OpenSpec.upto fnExactBestHeightsSpec)

/-- 'laws.FnNewtonsSums', WHERE WHAT IT READS IS OF BULK AT MOST 1048576: true; the input reads as it did. -/
def fnNewtonsSumsUptoRow : OpenClaim := { program := "ytbdennepenacpaa", sum := "e85ccf517e6beb1e5739643d15bd7f00b4c57c77c926a125aa8cc3094794a387", func := "loop.example/g01113/laws.FnNewtonsSums", spec := "fnNewtonsSums", recurses := true, apart := false, narrowed := true }
def FnNewtonsSumsUptoSaid : Prop := fnNewtonsSumsUptoRow.holds Try.pinned (OpenSpec.upto fnNewtonsSumsSpec)

end Rows
end Go.Proofs.Ytbdennepenacpaa
