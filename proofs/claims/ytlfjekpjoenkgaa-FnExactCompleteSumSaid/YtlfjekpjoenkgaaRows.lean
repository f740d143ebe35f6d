/-
  No cell of these rows narrows 'for every input' (looked for: loops, veiled, ifaces, maps, wideKeys, modest, calm, conditions, laid).
  DERIVED. THE GIVEN ROWS OF THIS SEAT. 7 by the template 'for every input the law returns true; each argument reads behind the call as it read before'; 0 by the template 'total and deterministic' (their statements: YtlfjekpjoenkgaaTotals.lean).
  GIVEN WITH THE SEED: the statements are not yours to turn. If you find one false, say at which input.
  Laid BY PROGRAM, IN A SANDBOX (cutbox-rows.mjs): the forced cells as the released guide's own fill.sh prints them over the translation 6f1ef70c37638d8e… (all of the seat's roots in one cut). By AI agents, Wed Nov 11 2026. No macro, syntax, notation, axiom, sorry.
-/
import Derived.Test.YtlfjekpjoenkgaaChecked
import GoSem.Claim
import GoSem.ClaimJoined
import GoSem.ClaimMapViews
import Derived.JoinedTies
import Derived.KernelRfl
namespace Go.Proofs.Ytlfjekpjoenkgaa
/- THE CELL 'sum', in the pinned program and in every row, IS THE sha256 OF THE DUMP (.gsa) THAT YtlfjekpjoenkgaaProg.lean LOADS. Nothing in Lean hashes anything: it is a label: what it is worth is what the hold of that sum in a sandbox is worth. -/
noncomputable def Try.pinned : Pinned := { name := "ytlfjekpjoenkgaa", sum := "6f1ef70c37638d8ebe5f73b6b4e5b6c274908b96089a44a46e1b6402e2e6a143", checked := Try.checked }
namespace Rows
def none {H : Type} : Left H := { results := [], args := [] }

/-- 'laws.FnExactAreHeights': WHATEVER THE INPUT: true; the input reads as it did. -/
def fnExactAreHeightsSpec : ChangeSpec := { name := "fnExactAreHeights", fn := fun _ => fun
  | [d] => { results := [.lit (.bool true)], args := [d] }
  | _ => none }
def fnExactAreHeightsRow : OpenClaim := { program := "ytlfjekpjoenkgaa", sum := "6f1ef70c37638d8ebe5f73b6b4e5b6c274908b96089a44a46e1b6402e2e6a143", func := "loop.example/g01113/laws.FnExactAreHeights", spec := "fnExactAreHeights", apart := false }
def FnExactAreHeightsSaid : Prop := fnExactAreHeightsRow.holds Try.pinned (OpenSpec.ofChange fnExactAreHeightsSpec)

/-- ITS FALSE NEIGHBOUR: 'it returns false'. Refute it at one input. -/
def fnExactAreHeightsWrong : ChangeSpec := { name := "fnExactAreHeights", fn := fun _ => fun
  | [d] => { results := [.lit (.bool false)], args := [d] }
  | _ => none }
def FnExactAreHeightsWrongFalsely : Prop := fnExactAreHeightsRow.holds Try.pinned (OpenSpec.ofChange fnExactAreHeightsWrong)

/-- 'laws.FnExactIsConvexTable': WHATEVER THE INPUT: true; the input reads as it did. -/
def fnExactIsConvexTableSpec : ChangeSpec := { name := "fnExactIsConvexTable", fn := fun _ => fun
  | [d] => { results := [.lit (.bool true)], args := [d] }
  | _ => none }
def fnExactIsConvexTableRow : OpenClaim := { program := "ytlfjekpjoenkgaa", sum := "6f1ef70c37638d8ebe5f73b6b4e5b6c274908b96089a44a46e1b6402e2e6a143", func := "loop.example/g01113/laws.FnExactIsConvexTable", spec := "fnExactIsConvexTable", apart := false }
def FnExactIsConvexTableSaid : Prop := fnExactIsConvexTableRow.holds Try.pinned (OpenSpec.ofChange fnExactIsConvexTableSpec)

/-- ITS FALSE NEIGHBOUR: 'it returns false'. Refute it at one input. -/
def fnExactIsConvexTableWrong : ChangeSpec := { name := "fnExactIsConvexTable", fn := fun _ => fun
  | [d] => { results := [.lit (.bool false)], args := [d] }
  | _ => none }
def FnExactIsConvexTableWrongFalsely : Prop := fnExactIsConvexTableRow.holds Try.pinned (OpenSpec.ofChange fnExactIsConvexTableWrong)

/-- 'laws.FnExactPowerSum': WHATEVER THE INPUT: true; the input reads as it did. -/
def fnExactPowerSumSpec : ChangeSpec := { name := "fnExactPowerSum", fn := fun _ => fun
  | [d1, d2] => { results := [.lit (.bool true)], args := [d1, d2] }
  | _ => none }
def fnExactPowerSumRow : OpenClaim := { program := "ytlfjekpjoenkgaa", sum := "6f1ef70c37638d8ebe5f73b6b4e5b6c274908b96089a44a46e1b6402e2e6a143", func := "loop.example/g01113/laws.FnExactPowerSum", spec := "fnExactPowerSum", apart := false }
def FnExactPowerSumSaid : Prop := fnExactPowerSumRow.holds Try.pinned (OpenSpec.ofChange fnExactPowerSumSpec)

/-- ITS FALSE NEIGHBOUR: 'it returns false'. Refute it at one input. -/
def fnExactPowerSumWrong : ChangeSpec := { name := "fnExactPowerSum", fn := fun _ => fun
  | [d1, d2] => { results := [.lit (.bool false)], args := [d1, d2] }
  | _ => none }
def FnExactPowerSumWrongFalsely : Prop := fnExactPowerSumRow.holds Try.pinned (OpenSpec.ofChange fnExactPowerSumWrong)

/-- 'laws.FnExactPairsOf': WHATEVER THE INPUT: true; the input reads as it did. -/
def fnExactPairsOfSpec : ChangeSpec := { name := "fnExactPairsOf", fn := fun _ => fun
  | [d] => { results := [.lit (.bool true)], args := [d] }
  | _ => none }
def fnExactPairsOfRow : OpenClaim := { program := "ytlfjekpjoenkgaa", sum := "6f1ef70c37638d8ebe5f73b6b4e5b6c274908b96089a44a46e1b6402e2e6a143", func := "loop.example/g01113/laws.FnExactPairsOf", spec := "fnExactPairsOf", apart := false }
def FnExactPairsOfSaid : Prop := fnExactPairsOfRow.holds Try.pinned (OpenSpec.ofChange fnExactPairsOfSpec)

/-- ITS FALSE NEIGHBOUR: 'it returns false'. Refute it at one input. -/
def fnExactPairsOfWrong : ChangeSpec := { name := "fnExactPairsOf", fn := fun _ => fun
  | [d] => { results := [.lit (.bool false)], args := [d] }
  | _ => none }
def FnExactPairsOfWrongFalsely : Prop := fnExactPairsOfRow.holds Try.pinned (OpenSpec.ofChange fnExactPairsOfWrong)

/-- 'laws.FnExactCompleteSum': WHATEVER THE INPUT: true; the input reads as it did. -/
def fnExactCompleteSumSpec : ChangeSpec := { name := "fnExactCompleteSum", fn := fun _ => fun
  | [d1, d2] => { results := [.lit (.bool true)], args := [d1, d2] }
  | _ => none }
def fnExactCompleteSumRow : OpenClaim := { program := "ytlfjekpjoenkgaa", sum := "6f1ef70c37638d8ebe5f73b6b4e5b6c274908b96089a44a46e1b6402e2e6a143", func := "loop.example/g01113/laws.FnExactCompleteSum", spec := "fnExactCompleteSum", recurses := true, apart := false }
def FnExactCompleteSumSaid : Prop := fnExactCompleteSumRow.holds Try.pinned (OpenSpec.ofChange fnExactCompleteSumSpec)

/-- ITS FALSE NEIGHBOUR: 'it returns false'. Refute it at one input. -/
def fnExactCompleteSumWrong : ChangeSpec := { name := "fnExactCompleteSum", fn := fun _ => fun
  | [d1, d2] => { results := [.lit (.bool false)], args := [d1, d2] }
  | _ => none }
def FnExactCompleteSumWrongFalsely : Prop := fnExactCompleteSumRow.holds Try.pinned (OpenSpec.ofChange fnExactCompleteSumWrong)

/-- 'laws.FnExactElementarySum': WHATEVER THE INPUT: true; the input reads as it did. -/
def fnExactElementarySumSpec : ChangeSpec := { name := "fnExactElementarySum", fn := fun _ => fun
  | [d1, d2] => { results := [.lit (.bool true)], args := [d1, d2] }
  | _ => none }
def fnExactElementarySumRow : OpenClaim := { program := "ytlfjekpjoenkgaa", sum := "6f1ef70c37638d8ebe5f73b6b4e5b6c274908b96089a44a46e1b6402e2e6a143", func := "loop.example/g01113/laws.FnExactElementarySum", spec := "fnExactElementarySum", recurses := true, apart := false }
def FnExactElementarySumSaid : Prop := fnExactElementarySumRow.holds Try.pinned (OpenSpec.ofChange fnExactElementarySumSpec)

/-- ITS FALSE NEIGHBOUR: 'it returns false'. Refute it at one input. -/
def fnExactElementarySumWrong : ChangeSpec := { name := "fnExactElementarySum", fn := fun _ => fun
  | [d1, d2] => { results := [.lit (.bool false)], args := [d1, d2] }
  | _ => none }
def FnExactElementarySumWrongFalsely : Prop := fnExactElementarySumRow.holds Try.pinned (OpenSpec.ofChange fnExactElementarySumWrong)

/-- 'laws.FnExactConcentrationOf': WHATEVER THE INPUT: true; the input reads as it did. -/
def fnExactConcentrationOfSpec : ChangeSpec := { name := "fnExactConcentrationOf", fn := fun _ => fun
  | [d] => { results := [.lit (.bool true)], args := [d] }
  | _ => none }
def fnExactConcentrationOfRow : OpenClaim := { program := "ytlfjekpjoenkgaa", sum := "6f1ef70c37638d8ebe5f73b6b4e5b6c274908b96089a44a46e1b6402e2e6a143", func := "loop.example/g01113/laws.FnExactConcentrationOf", spec := "fnExactConcentrationOf", apart := false }
def FnExactConcentrationOfSaid : Prop := fnExactConcentrationOfRow.holds Try.pinned (OpenSpec.ofChange fnExactConcentrationOfSpec)

/-- ITS FALSE NEIGHBOUR: 'it returns false'. Refute it at one input. -/
def fnExactConcentrationOfWrong : ChangeSpec := { name := "fnExactConcentrationOf", fn := fun _ => fun
  | [d] => { results := [.lit (.bool false)], args := [d] }
  | _ => none }
def FnExactConcentrationOfWrongFalsely : Prop := fnExactConcentrationOfRow.holds Try.pinned (OpenSpec.ofChange fnExactConcentrationOfWrong)

/- THE SECOND FORM. 'bulk': how many values and letters a reading holds, each counted each time it is reached (what is shared counts as often as it is met; a slice's spare places count too). A statement '..UptoSaid' is the law's where the arguments, and the package variables that the reading takes, are together of bulk at most 1048576: NARROWER than '..Said'. Prove '..Said' where nothing that the law and all that it calls make is longer than what came in: it says more and counts as full. Else prove '..UptoSaid'. A law counts once. -/
mutual
def uptoBulk {H : Type} : DataW H → Nat
  | .lit (.string bytes) => bytes.length + 1
  | .lit _ => 1
  | .nil => 1
  | .ptr d => uptoBulk d + 1
  | .slice elems spare => uptoBulkAll elems + uptoBulkAll spare + 1
  | .agg parts => uptoBulkAll parts + 1
  | .iface _ d => uptoBulk d + 1
  | .map entries => uptoBulkEntries entries + 1
  | .held _ => 1
def uptoBulkAll {H : Type} : List (DataW H) → Nat
  | [] => 0
  | d :: r => uptoBulk d + uptoBulkAll r
def uptoBulkEntries {H : Type} : List (Lit × DataW H) → Nat
  | [] => 0
  | x :: r => uptoBulkEntry x + uptoBulkEntries r
def uptoBulkEntry {H : Type} : Lit × DataW H → Nat
  | (.string bytes, d) => bytes.length + uptoBulk d + 1
  | (_, d) => uptoBulk d + 1
 end
def uptoSmall : (H : Type) → List (DataW H) → Bool := fun _ ds => decide (uptoBulkAll ds ≤ 1048576)
def OpenSpec.upto (s : _root_.Go.ChangeSpec) : _root_.Go.OpenSpec := { _root_.Go.OpenSpec.ofChange s with cond := some uptoSmall }

/-- 'laws.FnExactAreHeights', WHERE WHAT IT READS IS OF BULK AT MOST 1048576: true; the input reads as it did. -/
def fnExactAreHeightsUptoRow : OpenClaim := { program := "ytlfjekpjoenkgaa", sum := "6f1ef70c37638d8ebe5f73b6b4e5b6c274908b96089a44a46e1b6402e2e6a143", func := "loop.example/g01113/laws.FnExactAreHeights", spec := "fnExactAreHeights", apart := false, narrowed := true }
def FnExactAreHeightsUptoSaid : Prop := fnExactAreHeightsUptoRow.holds Try.pinned (OpenSpec.upto fnExactAreHeightsSpec)

/-- 'laws.FnExactIsConvexTable', WHERE WHAT IT READS IS OF BULK AT MOST 1048576: true; the input reads as it did. -/
def fnExactIsConvexTableUptoRow : OpenClaim := { program := "ytlfjekpjoenkgaa", sum := "6f1ef70c37638d8ebe5f73b6b4e5b6c274908b96089a44a46e1b6402e2e6a143", func := "loop.example/g01113/laws.FnExactIsConvexTable", spec := "fnExactIsConvexTable", apart := false, narrowed := true }
def FnExactIsConvexTableUptoSaid : Prop := fnExactIsConvexTableUptoRow.holds Try.pinned (OpenSpec.upto fnExactIsConvexTableSpec)

/-- 'laws.FnExactPowerSum', WHERE WHAT IT READS IS OF BULK AT MOST 1048576: true; the input reads as it did. -/
def fnExactPowerSumUptoRow : OpenClaim := { program := "ytlfjekpjoenkgaa", sum := "6f1ef70c37638d8ebe5f73b6b4e5b6c274908b96089a44a46e1b6402e2e6a143", func := "loop.example/g01113/laws.FnExactPowerSum", spec := "fnExactPowerSum", apart := false, narrowed := true }
def FnExactPowerSumUptoSaid : Prop := fnExactPowerSumUptoRow.holds Try.pinned (OpenSpec.upto fnExactPowerSumSpec)

/-- 'laws.FnExactPairsOf', WHERE WHAT IT READS IS OF BULK AT MOST 1048576: true; the input reads as it did. -/
def fnExactPairsOfUptoRow : OpenClaim := { program := "ytlfjekpjoenkgaa", sum := "6f1ef70c37638d8ebe5f73b6b4e5b6c274908b96089a44a46e1b6402e2e6a143", func := "loop.example/g01113/laws.FnExactPairsOf", spec := "fnExactPairsOf", apart := false, narrowed := true }
def FnExactPairsOfUptoSaid : Prop := fnExactPairsOfUptoRow.holds Try.pinned (OpenSpec.upto fnExactPairsOfSpec)

/-- 'laws.FnExactCompleteSum', WHERE WHAT IT READS IS OF BULK AT MOST 1048576: true; the input reads as it did. -/
def fnExactCompleteSumUptoRow : OpenClaim := { program := "ytlfjekpjoenkgaa", sum := "6f1ef70c37638d8ebe5f73b6b4e5b6c274908b96089a44a46e1b6402e2e6a143", func := "loop.example/g01113/laws.FnExactCompleteSum", spec := "fnExactCompleteSum", recurses := true, apart := false, narrowed := true }
def FnExactCompleteSumUptoSaid : Prop := fnExactCompleteSumUptoRow.holds Try.pinned (OpenSpec.upto fnExactCompleteSumSpec)

/-- 'laws.FnExactElementarySum', WHERE WHAT IT READS IS OF BULK AT MOST 1048576: true; the input reads as it did. -/
def fnExactElementarySumUptoRow : OpenClaim := { program := "ytlfjekpjoenkgaa", sum := "6f1ef70c37638d8ebe5f73b6b4e5b6c274908b96089a44a46e1b6402e2e6a143", func := "loop.example/g01113/laws.FnExactElementarySum", spec := "fnExactElementarySum", recurses := true, apart := false, narrowed := true }
def FnExactElementarySumUptoSaid : Prop := fnExactElementarySumUptoRow.holds Try.pinned (OpenSpec.upto fnExactElementarySumSpec)

/-- 'laws.FnExactConcentrationOf', WHERE WHAT IT READS IS OF BULK AT MOST 1048576: true; the input reads as it did. -/
def fnExactConcentrationOfUptoRow : OpenClaim := { program := "ytlfjekpjoenkgaa", sum := "6f1ef70c37638d8ebe5f73b6b4e5b6c274908b96089a44a46e1b6402e2e6a143", func := "loop.example/g01113/laws.FnExactConcentrationOf", spec := "fnExactConcentrationOf", apart := false, narrowed := true }
def FnExactConcentrationOfUptoSaid : Prop := fnExactConcentrationOfUptoRow.holds Try.pinned (OpenSpec.upto fnExactConcentrationOfSpec)

end Rows
end Go.Proofs.Ytlfjekpjoenkgaa
