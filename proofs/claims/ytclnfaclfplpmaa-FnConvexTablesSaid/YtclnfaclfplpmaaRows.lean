/-
  No cell of these rows narrows 'for every input' (looked for: loops, veiled, ifaces, maps, wideKeys, modest, calm, conditions, laid).
  DERIVED. THE GIVEN ROWS OF THIS SEAT. 12 by the template 'for every input the law returns true; each argument reads behind the call as it read before'; 0 by the template 'total and deterministic' (their statements: YtclnfaclfplpmaaTotals.lean).
  GIVEN WITH THE SEED: the statements are not yours to turn. If you find one false, say at which input.
  Laid BY PROGRAM, IN A SANDBOX (cutbox-rows.mjs): the forced cells as the released guide's own fill.sh prints them over the translation c7781dc280c9a36c… (all of the seat's roots in one cut). By AI agents, Wed Nov 11 2026. No macro, syntax, notation, axiom, sorry.
-/
import Derived.Test.YtclnfaclfplpmaaChecked
import GoSem.Claim
import GoSem.ClaimJoined
import GoSem.ClaimMapViews
import Derived.JoinedTies
import Derived.KernelRfl
namespace Go.Proofs.Ytclnfaclfplpmaa
/- THE CELL 'sum', in the pinned program and in every row, IS THE sha256 OF THE DUMP (.gsa) THAT YtclnfaclfplpmaaProg.lean LOADS. Nothing in Lean hashes anything: it is a label: what it is worth is what the hold of that sum in a sandbox is worth. -/
noncomputable def Try.pinned : Pinned := { name := "ytclnfaclfplpmaa", sum := "c7781dc280c9a36cb2e4d46be1f1a706b305ad2e616a60a1ab526ec1fdc08b56", checked := Try.checked }
namespace Rows
def none {H : Type} : Left H := { results := [], args := [] }

/-- 'laws.FnWeaklyBelow': WHATEVER THE INPUT: true; the input reads as it did. -/
def fnWeaklyBelowSpec : ChangeSpec := { name := "fnWeaklyBelow", fn := fun _ => fun
  | [d1, d2] => { results := [.lit (.bool true)], args := [d1, d2] }
  | _ => none }
def fnWeaklyBelowRow : OpenClaim := { program := "ytclnfaclfplpmaa", sum := "c7781dc280c9a36cb2e4d46be1f1a706b305ad2e616a60a1ab526ec1fdc08b56", func := "loop.example/g01113/laws.FnWeaklyBelow", spec := "fnWeaklyBelow", unfollowed := true, recurses := true, apart := false }
def FnWeaklyBelowSaid : Prop := fnWeaklyBelowRow.holds Try.pinned (OpenSpec.ofChange fnWeaklyBelowSpec)

/-- ITS FALSE NEIGHBOUR: 'it returns false'. Refute it at one input. -/
def fnWeaklyBelowWrong : ChangeSpec := { name := "fnWeaklyBelow", fn := fun _ => fun
  | [d1, d2] => { results := [.lit (.bool false)], args := [d1, d2] }
  | _ => none }
def FnWeaklyBelowWrongFalsely : Prop := fnWeaklyBelowRow.holds Try.pinned (OpenSpec.ofChange fnWeaklyBelowWrong)

/-- 'laws.FnThresholdsRefuse': WHATEVER THE INPUT: true; the input reads as it did. -/
def fnThresholdsRefuseSpec : ChangeSpec := { name := "fnThresholdsRefuse", fn := fun _ => fun
  | [d1, d2] => { results := [.lit (.bool true)], args := [d1, d2] }
  | _ => none }
def fnThresholdsRefuseRow : OpenClaim := { program := "ytclnfaclfplpmaa", sum := "c7781dc280c9a36cb2e4d46be1f1a706b305ad2e616a60a1ab526ec1fdc08b56", func := "loop.example/g01113/laws.FnThresholdsRefuse", spec := "fnThresholdsRefuse", unfollowed := true, recurses := true, apart := false }
def FnThresholdsRefuseSaid : Prop := fnThresholdsRefuseRow.holds Try.pinned (OpenSpec.ofChange fnThresholdsRefuseSpec)

/-- ITS FALSE NEIGHBOUR: 'it returns false'. Refute it at one input. -/
def fnThresholdsRefuseWrong : ChangeSpec := { name := "fnThresholdsRefuse", fn := fun _ => fun
  | [d1, d2] => { results := [.lit (.bool false)], args := [d1, d2] }
  | _ => none }
def FnThresholdsRefuseWrongFalsely : Prop := fnThresholdsRefuseRow.holds Try.pinned (OpenSpec.ofChange fnThresholdsRefuseWrong)

/-- 'laws.FnConvexTables': WHATEVER THE INPUT: true; the input reads as it did. -/
def fnConvexTablesSpec : ChangeSpec := { name := "fnConvexTables", fn := fun _ => fun
  | [d1, d2] => { results := [.lit (.bool true)], args := [d1, d2] }
  | _ => none }
def fnConvexTablesRow : OpenClaim := { program := "ytclnfaclfplpmaa", sum := "c7781dc280c9a36cb2e4d46be1f1a706b305ad2e616a60a1ab526ec1fdc08b56", func := "loop.example/g01113/laws.FnConvexTables", spec := "fnConvexTables", unfollowed := true, recurses := true, apart := false }
def FnConvexTablesSaid : Prop := fnConvexTablesRow.holds Try.pinned (OpenSpec.ofChange fnConvexTablesSpec)

/-- ITS FALSE NEIGHBOUR: 'it returns false'. Refute it at one input. -/
def fnConvexTablesWrong : ChangeSpec := { name := "fnConvexTables", fn := fun _ => fun
  | [d1, d2] => { results := [.lit (.bool false)], args := [d1, d2] }
  | _ => none }
def FnConvexTablesWrongFalsely : Prop := fnConvexTablesRow.holds Try.pinned (OpenSpec.ofChange fnConvexTablesWrong)

/-- 'laws.FnArrangements': WHATEVER THE INPUT: true; the input reads as it did. -/
def fnArrangementsSpec : ChangeSpec := { name := "fnArrangements", fn := fun _ => fun
  | [d1, d2] => { results := [.lit (.bool true)], args := [d1, d2] }
  | _ => none }
def fnArrangementsRow : OpenClaim := { program := "ytclnfaclfplpmaa", sum := "c7781dc280c9a36cb2e4d46be1f1a706b305ad2e616a60a1ab526ec1fdc08b56", func := "loop.example/g01113/laws.FnArrangements", spec := "fnArrangements", unfollowed := true, recurses := true, apart := false }
def FnArrangementsSaid : Prop := fnArrangementsRow.holds Try.pinned (OpenSpec.ofChange fnArrangementsSpec)

/-- ITS FALSE NEIGHBOUR: 'it returns false'. Refute it at one input. -/
def fnArrangementsWrong : ChangeSpec := { name := "fnArrangements", fn := fun _ => fun
  | [d1, d2] => { results := [.lit (.bool false)], args := [d1, d2] }
  | _ => none }
def FnArrangementsWrongFalsely : Prop := fnArrangementsRow.holds Try.pinned (OpenSpec.ofChange fnArrangementsWrong)

/-- 'laws.FnHeightsProve': WHATEVER THE INPUT: true; the input reads as it did. -/
def fnHeightsProveSpec : ChangeSpec := { name := "fnHeightsProve", fn := fun _ => fun
  | [d1, d2] => { results := [.lit (.bool true)], args := [d1, d2] }
  | _ => none }
def fnHeightsProveRow : OpenClaim := { program := "ytclnfaclfplpmaa", sum := "c7781dc280c9a36cb2e4d46be1f1a706b305ad2e616a60a1ab526ec1fdc08b56", func := "loop.example/g01113/laws.FnHeightsProve", spec := "fnHeightsProve", apart := false }
def FnHeightsProveSaid : Prop := fnHeightsProveRow.holds Try.pinned (OpenSpec.ofChange fnHeightsProveSpec)

/-- ITS FALSE NEIGHBOUR: 'it returns false'. Refute it at one input. -/
def fnHeightsProveWrong : ChangeSpec := { name := "fnHeightsProve", fn := fun _ => fun
  | [d1, d2] => { results := [.lit (.bool false)], args := [d1, d2] }
  | _ => none }
def FnHeightsProveWrongFalsely : Prop := fnHeightsProveRow.holds Try.pinned (OpenSpec.ofChange fnHeightsProveWrong)

/-- 'laws.FnMeasures': WHATEVER THE INPUT: true; the input reads as it did. -/
def fnMeasuresSpec : ChangeSpec := { name := "fnMeasures", fn := fun _ => fun
  | [d1, d2] => { results := [.lit (.bool true)], args := [d1, d2] }
  | _ => none }
def fnMeasuresRow : OpenClaim := { program := "ytclnfaclfplpmaa", sum := "c7781dc280c9a36cb2e4d46be1f1a706b305ad2e616a60a1ab526ec1fdc08b56", func := "loop.example/g01113/laws.FnMeasures", spec := "fnMeasures", unfollowed := true, recurses := true, apart := false }
def FnMeasuresSaid : Prop := fnMeasuresRow.holds Try.pinned (OpenSpec.ofChange fnMeasuresSpec)

/-- ITS FALSE NEIGHBOUR: 'it returns false'. Refute it at one input. -/
def fnMeasuresWrong : ChangeSpec := { name := "fnMeasures", fn := fun _ => fun
  | [d1, d2] => { results := [.lit (.bool false)], args := [d1, d2] }
  | _ => none }
def FnMeasuresWrongFalsely : Prop := fnMeasuresRow.holds Try.pinned (OpenSpec.ofChange fnMeasuresWrong)

/-- 'laws.FnShares': WHATEVER THE INPUT: true; the input reads as it did. -/
def fnSharesSpec : ChangeSpec := { name := "fnShares", fn := fun _ => fun
  | [d1, d2] => { results := [.lit (.bool true)], args := [d1, d2] }
  | _ => none }
def fnSharesRow : OpenClaim := { program := "ytclnfaclfplpmaa", sum := "c7781dc280c9a36cb2e4d46be1f1a706b305ad2e616a60a1ab526ec1fdc08b56", func := "loop.example/g01113/laws.FnShares", spec := "fnShares", unfollowed := true, recurses := true, apart := false }
def FnSharesSaid : Prop := fnSharesRow.holds Try.pinned (OpenSpec.ofChange fnSharesSpec)

/-- ITS FALSE NEIGHBOUR: 'it returns false'. Refute it at one input. -/
def fnSharesWrong : ChangeSpec := { name := "fnShares", fn := fun _ => fun
  | [d1, d2] => { results := [.lit (.bool false)], args := [d1, d2] }
  | _ => none }
def FnSharesWrongFalsely : Prop := fnSharesRow.holds Try.pinned (OpenSpec.ofChange fnSharesWrong)

/-- 'laws.FnRankedWeights': WHATEVER THE INPUT: true; the input reads as it did. -/
def fnRankedWeightsSpec : ChangeSpec := { name := "fnRankedWeights", fn := fun _ => fun
  | [d1, d2] => { results := [.lit (.bool true)], args := [d1, d2] }
  | _ => none }
def fnRankedWeightsRow : OpenClaim := { program := "ytclnfaclfplpmaa", sum := "c7781dc280c9a36cb2e4d46be1f1a706b305ad2e616a60a1ab526ec1fdc08b56", func := "loop.example/g01113/laws.FnRankedWeights", spec := "fnRankedWeights", unfollowed := true, recurses := true, apart := false }
def FnRankedWeightsSaid : Prop := fnRankedWeightsRow.holds Try.pinned (OpenSpec.ofChange fnRankedWeightsSpec)

/-- ITS FALSE NEIGHBOUR: 'it returns false'. Refute it at one input. -/
def fnRankedWeightsWrong : ChangeSpec := { name := "fnRankedWeights", fn := fun _ => fun
  | [d1, d2] => { results := [.lit (.bool false)], args := [d1, d2] }
  | _ => none }
def FnRankedWeightsWrongFalsely : Prop := fnRankedWeightsRow.holds Try.pinned (OpenSpec.ofChange fnRankedWeightsWrong)

/-- 'laws.FnGiftEffects': WHATEVER THE INPUT: true; the input reads as it did. -/
def fnGiftEffectsSpec : ChangeSpec := { name := "fnGiftEffects", fn := fun _ => fun
  | [d1, d2] => { results := [.lit (.bool true)], args := [d1, d2] }
  | _ => none }
def fnGiftEffectsRow : OpenClaim := { program := "ytclnfaclfplpmaa", sum := "c7781dc280c9a36cb2e4d46be1f1a706b305ad2e616a60a1ab526ec1fdc08b56", func := "loop.example/g01113/laws.FnGiftEffects", spec := "fnGiftEffects", unfollowed := true, recurses := true, apart := false }
def FnGiftEffectsSaid : Prop := fnGiftEffectsRow.holds Try.pinned (OpenSpec.ofChange fnGiftEffectsSpec)

/-- ITS FALSE NEIGHBOUR: 'it returns false'. Refute it at one input. -/
def fnGiftEffectsWrong : ChangeSpec := { name := "fnGiftEffects", fn := fun _ => fun
  | [d1, d2] => { results := [.lit (.bool false)], args := [d1, d2] }
  | _ => none }
def FnGiftEffectsWrongFalsely : Prop := fnGiftEffectsRow.holds Try.pinned (OpenSpec.ofChange fnGiftEffectsWrong)

/-- 'laws.FnMonotonePlans': WHATEVER THE INPUT: true; the input reads as it did. -/
def fnMonotonePlansSpec : ChangeSpec := { name := "fnMonotonePlans", fn := fun _ => fun
  | [d1, d2] => { results := [.lit (.bool true)], args := [d1, d2] }
  | _ => none }
def fnMonotonePlansRow : OpenClaim := { program := "ytclnfaclfplpmaa", sum := "c7781dc280c9a36cb2e4d46be1f1a706b305ad2e616a60a1ab526ec1fdc08b56", func := "loop.example/g01113/laws.FnMonotonePlans", spec := "fnMonotonePlans", unfollowed := true, recurses := true, apart := false }
def FnMonotonePlansSaid : Prop := fnMonotonePlansRow.holds Try.pinned (OpenSpec.ofChange fnMonotonePlansSpec)

/-- ITS FALSE NEIGHBOUR: 'it returns false'. Refute it at one input. -/
def fnMonotonePlansWrong : ChangeSpec := { name := "fnMonotonePlans", fn := fun _ => fun
  | [d1, d2] => { results := [.lit (.bool false)], args := [d1, d2] }
  | _ => none }
def FnMonotonePlansWrongFalsely : Prop := fnMonotonePlansRow.holds Try.pinned (OpenSpec.ofChange fnMonotonePlansWrong)

/-- 'laws.FnLoweringPlans': WHATEVER THE INPUT: true; the input reads as it did. -/
def fnLoweringPlansSpec : ChangeSpec := { name := "fnLoweringPlans", fn := fun _ => fun
  | [d1, d2] => { results := [.lit (.bool true)], args := [d1, d2] }
  | _ => none }
def fnLoweringPlansRow : OpenClaim := { program := "ytclnfaclfplpmaa", sum := "c7781dc280c9a36cb2e4d46be1f1a706b305ad2e616a60a1ab526ec1fdc08b56", func := "loop.example/g01113/laws.FnLoweringPlans", spec := "fnLoweringPlans", unfollowed := true, recurses := true, apart := false }
def FnLoweringPlansSaid : Prop := fnLoweringPlansRow.holds Try.pinned (OpenSpec.ofChange fnLoweringPlansSpec)

/-- ITS FALSE NEIGHBOUR: 'it returns false'. Refute it at one input. -/
def fnLoweringPlansWrong : ChangeSpec := { name := "fnLoweringPlans", fn := fun _ => fun
  | [d1, d2] => { results := [.lit (.bool false)], args := [d1, d2] }
  | _ => none }
def FnLoweringPlansWrongFalsely : Prop := fnLoweringPlansRow.holds Try.pinned (OpenSpec.ofChange fnLoweringPlansWrong)

/-- 'laws.FnUncrossing': WHATEVER THE INPUT: true; the input reads as it did. -/
def fnUncrossingSpec : ChangeSpec := { name := "fnUncrossing", fn := fun _ => fun
  | [d1, d2] => { results := [.lit (.bool true)], args := [d1, d2] }
  | _ => none }
def fnUncrossingRow : OpenClaim := { program := "ytclnfaclfplpmaa", sum := "c7781dc280c9a36cb2e4d46be1f1a706b305ad2e616a60a1ab526ec1fdc08b56", func := "loop.example/g01113/laws.FnUncrossing", spec := "fnUncrossing", unfollowed := true, recurses := true, apart := false }
def FnUncrossingSaid : Prop := fnUncrossingRow.holds Try.pinned (OpenSpec.ofChange fnUncrossingSpec)

/-- ITS FALSE NEIGHBOUR: 'it returns false'. Refute it at one input. -/
def fnUncrossingWrong : ChangeSpec := { name := "fnUncrossing", fn := fun _ => fun
  | [d1, d2] => { results := [.lit (.bool false)], args := [d1, d2] }
  | _ => none }
def FnUncrossingWrongFalsely : Prop := fnUncrossingRow.holds Try.pinned (OpenSpec.ofChange fnUncrossingWrong)

/- THE SECOND FORM. 'bulk': how many values and letters a reading holds, each counted each time it is reached (what is shared counts as often as it is met; a slice's spare places count too). A statement '..UptoSaid' is the law's where the arguments, and the package variables that the reading takes, are together of bulk at most 1048576: NARROWER than '..Said'. Prove '..Said' where nothing that the law and all that it calls make is longer than what came in: it says more and counts as full. Else prove '..UptoSaid'. A law counts once. -/
mutual
def uptoBulk {H : Type} : DataW H → Nat
  | .lit (.string bytes) => bytes.length + 1
  | .lit _ => 1
  | .nil => 1
  | .ptr d => uptoBulk d + 1
  | .slice elems spare => uptoBulkAll elems + uptoBulkAll spare + 1
  | .agg parts => uptoBulkAll parts + 1
  | .iface _ d => uptoBulk d + 1
  | .map entries => uptoBulkEntries entries + 1
  | .held _ => 1
def uptoBulkAll {H : Type} : List (DataW H) → Nat
  | [] => 0
  | d :: r => uptoBulk d + uptoBulkAll r
def uptoBulkEntries {H : Type} : List (Lit × DataW H) → Nat
  | [] => 0
  | x :: r => uptoBulkEntry x + uptoBulkEntries r
def uptoBulkEntry {H : Type} : Lit × DataW H → Nat
  | (.string bytes, d) => bytes.length + uptoBulk d + 1
  | (_, d) => uptoBulk d + 1
 end
def uptoSmall : (H : Type) → List (DataW H) → Bool := fun _ ds => decide (uptoBulkAll ds ≤ 1048576)
def OpenSpec.upto (s : _root_.Go.ChangeSpec) : _root_.Go.OpenSpec := { _root_.Go.OpenSpec.ofChange s with cond := some uptoSmall }

/-- 'laws.FnWeaklyBelow', WHERE WHAT IT READS IS OF BULK AT MOST 1048576: true; the input reads as it did. -/
def fnWeaklyBelowUptoRow : OpenClaim := { program := "ytclnfaclfplpmaa", sum := "c7781dc280c9a36cb2e4d46be1f1a706b305ad2e616a60a1ab526ec1fdc08b56", func := "loop.example/g01113/laws.FnWeaklyBelow", spec := "fnWeaklyBelow", unfollowed := true, recurses := true, apart := false, narrowed := true }
def FnWeaklyBelowUptoSaid : Prop := fnWeaklyBelowUptoRow.holds Try.pinned (OpenSpec.upto fnWeaklyBelowSpec)

/-- 'laws.FnThresholdsRefuse', WHERE WHAT IT READS IS OF BULK AT MOST 1048576: true; the input reads as it did. -/
def fnThresholdsRefuseUptoRow : OpenClaim := { program := "ytclnfaclfplpmaa", sum := "c7781dc280c9a36cb2e4d46be1f1a706b305ad2e616a60a1ab526ec1fdc08b56", func := "loop.example/g01113/laws.FnThresholdsRefuse", spec := "fnThresholdsRefuse", unfollowed := true, recurses := true, apart := false, narrowed := true }
def FnThresholdsRefuseUptoSaid : Prop := fnThresholdsRefuseUptoRow.holds Try.pinned (OpenSpec.upto fnThresholdsRefuseSpec)

/-- 'laws.FnConvexTables', WHERE WHAT IT READS IS OF BULK AT MOST 1048576: true; the input reads as it did. -/
def fnConvexTablesUptoRow : OpenClaim := { program := "ytclnfaclfplpmaa", sum := "c7781dc280c9a36cb2e4d46be1f1a706b305ad2e616a60a1ab526ec1fdc08b56", func := "loop.example/g01113/laws.FnConvexTables", spec := "fnConvexTables", unfollowed := true, recurses := true, apart := false, narrowed := true }
def FnConvexTablesUptoSaid : Prop := fnConvexTablesUptoRow.holds Try.pinned (OpenSpec.upto fnConvexTablesSpec)

/-- 'laws.FnArrangements', WHERE WHAT IT READS IS OF BULK AT MOST 1048576: true; the input reads as it did. -/
def fnArrangementsUptoRow : OpenClaim := { program := "ytclnfaclfplpmaa", sum := "c7781dc280c9a36cb2e4d46be1f1a706b305ad2e616a60a1ab526ec1fdc08b56", func := "loop.example/g01113/laws.FnArrangements", spec := "fnArrangements", unfollowed := true, recurses := true, apart := false, narrowed := true }
def FnArrangementsUptoSaid : Prop := fnArrangementsUptoRow.holds Try.pinned (OpenSpec.upto fnArrangementsSpec)

/-- 'laws.FnHeightsProve', WHERE WHAT IT READS IS OF BULK AT MOST 1048576: true; the input reads as it did. -/
def fnHeightsProveUptoRow : OpenClaim := { program := "ytclnfaclfplpmaa", sum := "c7781dc280c9a36cb2e4d46be1f1a706b305ad2e616a60a1ab526ec1fdc08b56", func := "loop.example/g01113/laws.FnHeightsProve", spec := "fnHeightsProve", apart := false, narrowed := true }
def FnHeightsProveUptoSaid : Prop := fnHeightsProveUptoRow.holds Try.pinned (OpenSpec.upto fnHeightsProveSpec)

/-- 'laws.FnMeasures', WHERE WHAT IT READS IS OF BULK AT MOST 1048576: true; the input reads as it did. -/
def fnMeasuresUptoRow : OpenClaim := { program := "ytclnfaclfplpmaa", sum := "c7781dc280c9a36cb2e4d46be1f1a706b305ad2e616a60a1ab526ec1fdc08b56", func := "loop.example/g01113/laws.FnMeasures", spec := "fnMeasures", unfollowed := true, recurses := true, apart := false, narrowed := true }
def FnMeasuresUptoSaid : Prop := fnMeasuresUptoRow.holds Try.pinned (OpenSpec.upto fnMeasuresSpec)

/-- 'laws.FnShares', WHERE WHAT IT READS IS OF BULK AT MOST 1048576: true; the input reads as it did. -/
def fnSharesUptoRow : OpenClaim := { program := "ytclnfaclfplpmaa", sum := "c7781dc280c9a36cb2e4d46be1f1a706b305ad2e616a60a1ab526ec1fdc08b56", func := "loop.example/g01113/laws.FnShares", spec := "fnShares", unfollowed := true, recurses := true, apart := false, narrowed := true }
def FnSharesUptoSaid : Prop := fnSharesUptoRow.holds Try.pinned (OpenSpec.upto fnSharesSpec)

/-- 'laws.FnRankedWeights', WHERE WHAT IT READS IS OF BULK AT MOST 1048576: true; the input reads as it did. -/
def fnRankedWeightsUptoRow : OpenClaim := { program := "ytclnfaclfplpmaa", sum := "c7781dc280c9a36cb2e4d46be1f1a706b305ad2e616a60a1ab526ec1fdc08b56", func := "loop.example/g01113/laws.FnRankedWeights", spec := "fnRankedWeights", unfollowed := true, recurses := true, apart := false, narrowed := true }
def FnRankedWeightsUptoSaid : Prop := fnRankedWeightsUptoRow.holds Try.pinned (OpenSpec.upto fnRankedWeightsSpec)

/-- 'laws.FnGiftEffects', WHERE WHAT IT READS IS OF BULK AT MOST 1048576: true; the input reads as it did. -/
def fnGiftEffectsUptoRow : OpenClaim := { program := "ytclnfaclfplpmaa", sum := "c7781dc280c9a36cb2e4d46be1f1a706b305ad2e616a60a1ab526ec1fdc08b56", func := "loop.example/g01113/laws.FnGiftEffects", spec := "fnGiftEffects", unfollowed := true, recurses := true, apart := false, narrowed := true }
def FnGiftEffectsUptoSaid : Prop := fnGiftEffectsUptoRow.holds Try.pinned (OpenSpec.upto fnGiftEffectsSpec)

/-- 'laws.FnMonotonePlans', WHERE WHAT IT READS IS OF BULK AT MOST 1048576: true; the input reads as it did. -/
def fnMonotonePlansUptoRow : OpenClaim := { program := "ytclnfaclfplpmaa", sum := "c7781dc280c9a36cb2e4d46be1f1a706b305ad2e616a60a1ab526ec1fdc08b56", func := "loop.example/g01113/laws.FnMonotonePlans", spec := "fnMonotonePlans", unfollowed := true, recurses := true, apart := false, narrowed := true }
def FnMonotonePlansUptoSaid : Prop := fnMonotonePlansUptoRow.holds Try.pinned (OpenSpec.upto fnMonotonePlansSpec)

/-- 'laws.FnLoweringPlans', WHERE WHAT IT READS IS OF BULK AT MOST 1048576: true; the input reads as it did. -/
def fnLoweringPlansUptoRow : OpenClaim := { program := "ytclnfaclfplpmaa", sum := "c7781dc280c9a36cb2e4d46be1f1a706b305ad2e616a60a1ab526ec1fdc08b56", func := "loop.example/g01113/laws.FnLoweringPlans", spec := "fnLoweringPlans", unfollowed := true, recurses := true, apart := false, narrowed := true }
def FnLoweringPlansUptoSaid : Prop := fnLoweringPlansUptoRow.holds Try.pinned (OpenSpec.upto fnLoweringPlansSpec)

/-- 'laws.FnUncrossing', WHERE WHAT IT READS IS OF BULK AT MOST 1048576: true; the input reads as it did. -/
def fnUncrossingUptoRow : OpenClaim := { program := "ytclnfaclfplpmaa", sum := "c7781dc280c9a36cb2e4d46be1f1a706b305ad2e616a60a1ab526ec1fdc08b56", func := "loop.example/g01113/laws.FnUncrossing", spec := "fnUncrossing", unfollowed := true, recurses := true, apart := false, narrowed := true }
def FnUncrossingUptoSaid : Prop := fnUncrossingUptoRow.holds Try.pinned (OpenSpec.upto fnUncrossingSpec)

end Rows
end Go.Proofs.Ytclnfaclfplpmaa
