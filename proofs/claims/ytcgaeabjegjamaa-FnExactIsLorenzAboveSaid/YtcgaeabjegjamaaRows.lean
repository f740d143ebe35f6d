/-
  No cell of these rows narrows 'for every input' (looked for: loops, veiled, ifaces, maps, wideKeys, modest, calm, conditions, laid).
  DERIVED. THE GIVEN ROWS OF THIS SEAT. 12 by the template 'for every input the law returns true; each argument reads behind the call as it read before'; 0 by the template 'total and deterministic' (their statements: YtcgaeabjegjamaaTotals.lean).
  GIVEN WITH THE SEED: the statements are not yours to turn. If you find one false, say at which input.
  Laid BY PROGRAM, IN A SANDBOX (cutbox-rows.mjs): the forced cells as the released guide's own fill.sh prints them over the translation 69039ca054fb1cd5… (all of the seat's roots in one cut). By AI agents, Wed Nov 11 2026. No macro, syntax, notation, axiom, sorry.
-/
import Derived.Test.YtcgaeabjegjamaaChecked
import GoSem.Claim
import GoSem.ClaimJoined
import GoSem.ClaimMapViews
import Derived.JoinedTies
import Derived.KernelRfl
namespace Go.Proofs.Ytcgaeabjegjamaa
/- THE CELL 'sum', in the pinned program and in every row, IS THE sha256 OF THE DUMP (.gsa) THAT YtcgaeabjegjamaaProg.lean LOADS. Nothing in Lean hashes anything: it is a label: what it is worth is what the hold of that sum in a sandbox is worth. -/
noncomputable def Try.pinned : Pinned := { name := "ytcgaeabjegjamaa", sum := "69039ca054fb1cd55ee578a4f2bfbc82241b64ce1540af46ca34fa3bce19cce3", checked := Try.checked }
namespace Rows
def none {H : Type} : Left H := { results := [], args := [] }

/-- 'laws.FnExactRangeOf': WHATEVER THE INPUT: true; the input reads as it did. -/
def fnExactRangeOfSpec : ChangeSpec := { name := "fnExactRangeOf", fn := fun _ => fun
  | [d] => { results := [.lit (.bool true)], args := [d] }
  | _ => none }
def fnExactRangeOfRow : OpenClaim := { program := "ytcgaeabjegjamaa", sum := "69039ca054fb1cd55ee578a4f2bfbc82241b64ce1540af46ca34fa3bce19cce3", func := "loop.example/g01113/laws.FnExactRangeOf", spec := "fnExactRangeOf", apart := false }
def FnExactRangeOfSaid : Prop := fnExactRangeOfRow.holds Try.pinned (OpenSpec.ofChange fnExactRangeOfSpec)

/-- ITS FALSE NEIGHBOUR: 'it returns false'. Refute it at one input. -/
def fnExactRangeOfWrong : ChangeSpec := { name := "fnExactRangeOf", fn := fun _ => fun
  | [d] => { results := [.lit (.bool false)], args := [d] }
  | _ => none }
def FnExactRangeOfWrongFalsely : Prop := fnExactRangeOfRow.holds Try.pinned (OpenSpec.ofChange fnExactRangeOfWrong)

/-- 'laws.FnExactSignsOf': WHATEVER THE INPUT: true; the input reads as it did. -/
def fnExactSignsOfSpec : ChangeSpec := { name := "fnExactSignsOf", fn := fun _ => fun
  | [d1, d2] => { results := [.lit (.bool true)], args := [d1, d2] }
  | _ => none }
def fnExactSignsOfRow : OpenClaim := { program := "ytcgaeabjegjamaa", sum := "69039ca054fb1cd55ee578a4f2bfbc82241b64ce1540af46ca34fa3bce19cce3", func := "loop.example/g01113/laws.FnExactSignsOf", spec := "fnExactSignsOf", apart := false }
def FnExactSignsOfSaid : Prop := fnExactSignsOfRow.holds Try.pinned (OpenSpec.ofChange fnExactSignsOfSpec)

/-- ITS FALSE NEIGHBOUR: 'it returns false'. Refute it at one input. -/
def fnExactSignsOfWrong : ChangeSpec := { name := "fnExactSignsOf", fn := fun _ => fun
  | [d1, d2] => { results := [.lit (.bool false)], args := [d1, d2] }
  | _ => none }
def FnExactSignsOfWrongFalsely : Prop := fnExactSignsOfRow.holds Try.pinned (OpenSpec.ofChange fnExactSignsOfWrong)

/-- 'laws.FnExactTwiceMedian': WHATEVER THE INPUT: true; the input reads as it did. -/
def fnExactTwiceMedianSpec : ChangeSpec := { name := "fnExactTwiceMedian", fn := fun _ => fun
  | [d] => { results := [.lit (.bool true)], args := [d] }
  | _ => none }
def fnExactTwiceMedianRow : OpenClaim := { program := "ytcgaeabjegjamaa", sum := "69039ca054fb1cd55ee578a4f2bfbc82241b64ce1540af46ca34fa3bce19cce3", func := "loop.example/g01113/laws.FnExactTwiceMedian", spec := "fnExactTwiceMedian", unfollowed := true, recurses := true, apart := false }
def FnExactTwiceMedianSaid : Prop := fnExactTwiceMedianRow.holds Try.pinned (OpenSpec.ofChange fnExactTwiceMedianSpec)

/-- ITS FALSE NEIGHBOUR: 'it returns false'. Refute it at one input. -/
def fnExactTwiceMedianWrong : ChangeSpec := { name := "fnExactTwiceMedian", fn := fun _ => fun
  | [d] => { results := [.lit (.bool false)], args := [d] }
  | _ => none }
def FnExactTwiceMedianWrongFalsely : Prop := fnExactTwiceMedianRow.holds Try.pinned (OpenSpec.ofChange fnExactTwiceMedianWrong)

/-- 'laws.FnExactGreatestArranged': WHATEVER THE INPUT: true; the input reads as it did. -/
def fnExactGreatestArrangedSpec : ChangeSpec := { name := "fnExactGreatestArranged", fn := fun _ => fun
  | [d1, d2] => { results := [.lit (.bool true)], args := [d1, d2] }
  | _ => none }
def fnExactGreatestArrangedRow : OpenClaim := { program := "ytcgaeabjegjamaa", sum := "69039ca054fb1cd55ee578a4f2bfbc82241b64ce1540af46ca34fa3bce19cce3", func := "loop.example/g01113/laws.FnExactGreatestArranged", spec := "fnExactGreatestArranged", unfollowed := true, recurses := true, apart := false }
def FnExactGreatestArrangedSaid : Prop := fnExactGreatestArrangedRow.holds Try.pinned (OpenSpec.ofChange fnExactGreatestArrangedSpec)

/-- ITS FALSE NEIGHBOUR: 'it returns false'. Refute it at one input. -/
def fnExactGreatestArrangedWrong : ChangeSpec := { name := "fnExactGreatestArranged", fn := fun _ => fun
  | [d1, d2] => { results := [.lit (.bool false)], args := [d1, d2] }
  | _ => none }
def FnExactGreatestArrangedWrongFalsely : Prop := fnExactGreatestArrangedRow.holds Try.pinned (OpenSpec.ofChange fnExactGreatestArrangedWrong)

/-- 'laws.FnExactTopShare': WHATEVER THE INPUT: true; the input reads as it did. -/
def fnExactTopShareSpec : ChangeSpec := { name := "fnExactTopShare", fn := fun _ => fun
  | [d1, d2] => { results := [.lit (.bool true)], args := [d1, d2] }
  | _ => none }
def fnExactTopShareRow : OpenClaim := { program := "ytcgaeabjegjamaa", sum := "69039ca054fb1cd55ee578a4f2bfbc82241b64ce1540af46ca34fa3bce19cce3", func := "loop.example/g01113/laws.FnExactTopShare", spec := "fnExactTopShare", unfollowed := true, recurses := true, apart := false }
def FnExactTopShareSaid : Prop := fnExactTopShareRow.holds Try.pinned (OpenSpec.ofChange fnExactTopShareSpec)

/-- ITS FALSE NEIGHBOUR: 'it returns false'. Refute it at one input. -/
def fnExactTopShareWrong : ChangeSpec := { name := "fnExactTopShare", fn := fun _ => fun
  | [d1, d2] => { results := [.lit (.bool false)], args := [d1, d2] }
  | _ => none }
def FnExactTopShareWrongFalsely : Prop := fnExactTopShareRow.holds Try.pinned (OpenSpec.ofChange fnExactTopShareWrong)

/-- 'laws.FnExactRankSum': WHATEVER THE INPUT: true; the input reads as it did. -/
def fnExactRankSumSpec : ChangeSpec := { name := "fnExactRankSum", fn := fun _ => fun
  | [d1, d2] => { results := [.lit (.bool true)], args := [d1, d2] }
  | _ => none }
def fnExactRankSumRow : OpenClaim := { program := "ytcgaeabjegjamaa", sum := "69039ca054fb1cd55ee578a4f2bfbc82241b64ce1540af46ca34fa3bce19cce3", func := "loop.example/g01113/laws.FnExactRankSum", spec := "fnExactRankSum", unfollowed := true, recurses := true, apart := false }
def FnExactRankSumSaid : Prop := fnExactRankSumRow.holds Try.pinned (OpenSpec.ofChange fnExactRankSumSpec)

/-- ITS FALSE NEIGHBOUR: 'it returns false'. Refute it at one input. -/
def fnExactRankSumWrong : ChangeSpec := { name := "fnExactRankSum", fn := fun _ => fun
  | [d1, d2] => { results := [.lit (.bool false)], args := [d1, d2] }
  | _ => none }
def FnExactRankSumWrongFalsely : Prop := fnExactRankSumRow.holds Try.pinned (OpenSpec.ofChange fnExactRankSumWrong)

/-- 'laws.FnExactPoorestSum': WHATEVER THE INPUT: true; the input reads as it did. -/
def fnExactPoorestSumSpec : ChangeSpec := { name := "fnExactPoorestSum", fn := fun _ => fun
  | [d1, d2] => { results := [.lit (.bool true)], args := [d1, d2] }
  | _ => none }
def fnExactPoorestSumRow : OpenClaim := { program := "ytcgaeabjegjamaa", sum := "69039ca054fb1cd55ee578a4f2bfbc82241b64ce1540af46ca34fa3bce19cce3", func := "loop.example/g01113/laws.FnExactPoorestSum", spec := "fnExactPoorestSum", unfollowed := true, recurses := true, apart := false }
def FnExactPoorestSumSaid : Prop := fnExactPoorestSumRow.holds Try.pinned (OpenSpec.ofChange fnExactPoorestSumSpec)

/-- ITS FALSE NEIGHBOUR: 'it returns false'. Refute it at one input. -/
def fnExactPoorestSumWrong : ChangeSpec := { name := "fnExactPoorestSum", fn := fun _ => fun
  | [d1, d2] => { results := [.lit (.bool false)], args := [d1, d2] }
  | _ => none }
def FnExactPoorestSumWrongFalsely : Prop := fnExactPoorestSumRow.holds Try.pinned (OpenSpec.ofChange fnExactPoorestSumWrong)

/-- 'laws.FnExactLorenzOf': WHATEVER THE INPUT: true; the input reads as it did. -/
def fnExactLorenzOfSpec : ChangeSpec := { name := "fnExactLorenzOf", fn := fun _ => fun
  | [d] => { results := [.lit (.bool true)], args := [d] }
  | _ => none }
def fnExactLorenzOfRow : OpenClaim := { program := "ytcgaeabjegjamaa", sum := "69039ca054fb1cd55ee578a4f2bfbc82241b64ce1540af46ca34fa3bce19cce3", func := "loop.example/g01113/laws.FnExactLorenzOf", spec := "fnExactLorenzOf", unfollowed := true, recurses := true, apart := false }
def FnExactLorenzOfSaid : Prop := fnExactLorenzOfRow.holds Try.pinned (OpenSpec.ofChange fnExactLorenzOfSpec)

/-- ITS FALSE NEIGHBOUR: 'it returns false'. Refute it at one input. -/
def fnExactLorenzOfWrong : ChangeSpec := { name := "fnExactLorenzOf", fn := fun _ => fun
  | [d] => { results := [.lit (.bool false)], args := [d] }
  | _ => none }
def FnExactLorenzOfWrongFalsely : Prop := fnExactLorenzOfRow.holds Try.pinned (OpenSpec.ofChange fnExactLorenzOfWrong)

/-- 'laws.FnExactIsLorenzAbove': WHATEVER THE INPUT: true; the input reads as it did. -/
def fnExactIsLorenzAboveSpec : ChangeSpec := { name := "fnExactIsLorenzAbove", fn := fun _ => fun
  | [d1, d2] => { results := [.lit (.bool true)], args := [d1, d2] }
  | _ => none }
def fnExactIsLorenzAboveRow : OpenClaim := { program := "ytcgaeabjegjamaa", sum := "69039ca054fb1cd55ee578a4f2bfbc82241b64ce1540af46ca34fa3bce19cce3", func := "loop.example/g01113/laws.FnExactIsLorenzAbove", spec := "fnExactIsLorenzAbove", unfollowed := true, recurses := true, apart := false }
def FnExactIsLorenzAboveSaid : Prop := fnExactIsLorenzAboveRow.holds Try.pinned (OpenSpec.ofChange fnExactIsLorenzAboveSpec)

/-- ITS FALSE NEIGHBOUR: 'it returns false'. Refute it at one input. -/
def fnExactIsLorenzAboveWrong : ChangeSpec := { name := "fnExactIsLorenzAbove", fn := fun _ => fun
  | [d1, d2] => { results := [.lit (.bool false)], args := [d1, d2] }
  | _ => none }
def FnExactIsLorenzAboveWrongFalsely : Prop := fnExactIsLorenzAboveRow.holds Try.pinned (OpenSpec.ofChange fnExactIsLorenzAboveWrong)

/-- 'laws.FnExactRefusingWeights': WHATEVER THE INPUT: true; the input reads as it did. -/
def fnExactRefusingWeightsSpec : ChangeSpec := { name := "fnExactRefusingWeights", fn := fun _ => fun
  | [d1, d2] => { results := [.lit (.bool true)], args := [d1, d2] }
  | _ => none }
def fnExactRefusingWeightsRow : OpenClaim := { program := "ytcgaeabjegjamaa", sum := "69039ca054fb1cd55ee578a4f2bfbc82241b64ce1540af46ca34fa3bce19cce3", func := "loop.example/g01113/laws.FnExactRefusingWeights", spec := "fnExactRefusingWeights", unfollowed := true, recurses := true, apart := false }
def FnExactRefusingWeightsSaid : Prop := fnExactRefusingWeightsRow.holds Try.pinned (OpenSpec.ofChange fnExactRefusingWeightsSpec)

/-- ITS FALSE NEIGHBOUR: 'it returns false'. Refute it at one input. -/
def fnExactRefusingWeightsWrong : ChangeSpec := { name := "fnExactRefusingWeights", fn := fun _ => fun
  | [d1, d2] => { results := [.lit (.bool false)], args := [d1, d2] }
  | _ => none }
def FnExactRefusingWeightsWrongFalsely : Prop := fnExactRefusingWeightsRow.holds Try.pinned (OpenSpec.ofChange fnExactRefusingWeightsWrong)

/-- 'laws.FnExactUncross': WHATEVER THE INPUT: true; the input reads as it did. -/
def fnExactUncrossSpec : ChangeSpec := { name := "fnExactUncross", fn := fun _ => fun
  | [d] => { results := [.lit (.bool true)], args := [d] }
  | _ => none }
def fnExactUncrossRow : OpenClaim := { program := "ytcgaeabjegjamaa", sum := "69039ca054fb1cd55ee578a4f2bfbc82241b64ce1540af46ca34fa3bce19cce3", func := "loop.example/g01113/laws.FnExactUncross", spec := "fnExactUncross", unfollowed := true, recurses := true, apart := false }
def FnExactUncrossSaid : Prop := fnExactUncrossRow.holds Try.pinned (OpenSpec.ofChange fnExactUncrossSpec)

/-- ITS FALSE NEIGHBOUR: 'it returns false'. Refute it at one input. -/
def fnExactUncrossWrong : ChangeSpec := { name := "fnExactUncross", fn := fun _ => fun
  | [d] => { results := [.lit (.bool false)], args := [d] }
  | _ => none }
def FnExactUncrossWrongFalsely : Prop := fnExactUncrossRow.holds Try.pinned (OpenSpec.ofChange fnExactUncrossWrong)

/-- 'laws.FnExactGluePlans': WHATEVER THE INPUT: true; the input reads as it did. -/
def fnExactGluePlansSpec : ChangeSpec := { name := "fnExactGluePlans", fn := fun _ => fun
  | [d1, d2] => { results := [.lit (.bool true)], args := [d1, d2] }
  | _ => none }
def fnExactGluePlansRow : OpenClaim := { program := "ytcgaeabjegjamaa", sum := "69039ca054fb1cd55ee578a4f2bfbc82241b64ce1540af46ca34fa3bce19cce3", func := "loop.example/g01113/laws.FnExactGluePlans", spec := "fnExactGluePlans", unfollowed := true, recurses := true, apart := false }
def FnExactGluePlansSaid : Prop := fnExactGluePlansRow.holds Try.pinned (OpenSpec.ofChange fnExactGluePlansSpec)

/-- ITS FALSE NEIGHBOUR: 'it returns false'. Refute it at one input. -/
def fnExactGluePlansWrong : ChangeSpec := { name := "fnExactGluePlans", fn := fun _ => fun
  | [d1, d2] => { results := [.lit (.bool false)], args := [d1, d2] }
  | _ => none }
def FnExactGluePlansWrongFalsely : Prop := fnExactGluePlansRow.holds Try.pinned (OpenSpec.ofChange fnExactGluePlansWrong)

/- THE SECOND FORM. 'bulk': how many values and letters a reading holds, each counted each time it is reached (what is shared counts as often as it is met; a slice's spare places count too). A statement '..UptoSaid' is the law's where the arguments, and the package variables that the reading takes, are together of bulk at most 1048576: NARROWER than '..Said'. Prove '..Said' where nothing that the law and all that it calls make is longer than what came in: it says more and counts as full. Else prove '..UptoSaid'. A law counts once. -/
mutual
def uptoBulk {H : Type} : DataW H → Nat
  | .lit (.string bytes) => bytes.length + 1
  | .lit _ => 1
  | .nil => 1
  | .ptr d => uptoBulk d + 1
  | .slice elems spare => uptoBulkAll elems + uptoBulkAll spare + 1
  | .agg parts => uptoBulkAll parts + 1
  | .iface _ d => uptoBulk d + 1
  | .map entries => uptoBulkEntries entries + 1
  | .held _ => 1
def uptoBulkAll {H : Type} : List (DataW H) → Nat
  | [] => 0
  | d :: r => uptoBulk d + uptoBulkAll r
def uptoBulkEntries {H : Type} : List (Lit × DataW H) → Nat
  | [] => 0
  | x :: r => uptoBulkEntry x + uptoBulkEntries r
def uptoBulkEntry {H : Type} : Lit × DataW H → Nat
  | (.string bytes, d) => bytes.length + uptoBulk d + 1
  | (_, d) => uptoBulk d + 1
 end
def uptoSmall : (H : Type) → List (DataW H) → Bool := fun _ ds => decide (uptoBulkAll ds ≤ 1048576)
def OpenSpec.upto (s : _root_.Go.ChangeSpec) : _root_.Go.OpenSpec := { _root_.Go.OpenSpec.ofChange s with cond := some uptoSmall }

/-- 'laws.FnExactRangeOf', WHERE WHAT IT READS IS OF BULK AT MOST 1048576: true; the input reads as it did. -/
def fnExactRangeOfUptoRow : OpenClaim := { program := "ytcgaeabjegjamaa", sum := "69039ca054fb1cd55ee578a4f2bfbc82241b64ce1540af46ca34fa3bce19cce3", func := "loop.example/g01113/laws.FnExactRangeOf", spec := "fnExactRangeOf", apart := false, narrowed := true }
def FnExactRangeOfUptoSaid : Prop := fnExactRangeOfUptoRow.holds Try.pinned (OpenSpec.upto fnExactRangeOfSpec)

/-- 'laws.FnExactSignsOf', WHERE WHAT IT READS IS OF BULK AT MOST 1048576: true; the input reads as it did. -/
def fnExactSignsOfUptoRow : OpenClaim := { program := "ytcgaeabjegjamaa", sum := "69039ca054fb1cd55ee578a4f2bfbc82241b64ce1540af46ca34fa3bce19cce3", func := "loop.example/g01113/laws.FnExactSignsOf", spec := "fnExactSignsOf", apart := false, narrowed := true }
def FnExactSignsOfUptoSaid : Prop := fnExactSignsOfUptoRow.holds Try.pinned (OpenSpec.upto fnExactSignsOfSpec)

/-- 'laws.FnExactTwiceMedian', WHERE WHAT IT READS IS OF BULK AT MOST 1048576: true; the input reads as it did. -/
def fnExactTwiceMedianUptoRow : OpenClaim := { program := "ytcgaeabjegjamaa", sum := "69039ca054fb1cd55ee578a4f2bfbc82241b64ce1540af46ca34fa3bce19cce3", func := "loop.example/g01113/laws.FnExactTwiceMedian", spec := "fnExactTwiceMedian", unfollowed := true, recurses := true, apart := false, narrowed := true }
def FnExactTwiceMedianUptoSaid : Prop := fnExactTwiceMedianUptoRow.holds Try.pinned (OpenSpec.upto fnExactTwiceMedianSpec)

/-- 'laws.FnExactGreatestArranged', WHERE WHAT IT READS IS OF BULK AT MOST 1048576: true; the input reads as it did. -/
def fnExactGreatestArrangedUptoRow : OpenClaim := { program := "ytcgaeabjegjamaa", sum := "69039ca054fb1cd55ee578a4f2bfbc82241b64ce1540af46ca34fa3bce19cce3", func := "loop.example/g01113/laws.FnExactGreatestArranged", spec := "fnExactGreatestArranged", unfollowed := true, recurses := true, apart := false, narrowed := true }
def FnExactGreatestArrangedUptoSaid : Prop := fnExactGreatestArrangedUptoRow.holds Try.pinned (OpenSpec.upto fnExactGreatestArrangedSpec)

/-- 'laws.FnExactTopShare', WHERE WHAT IT READS IS OF BULK AT MOST 1048576: true; the input reads as it did. -/
def fnExactTopShareUptoRow : OpenClaim := { program := "ytcgaeabjegjamaa", sum := "69039ca054fb1cd55ee578a4f2bfbc82241b64ce1540af46ca34fa3bce19cce3", func := "loop.example/g01113/laws.FnExactTopShare", spec := "fnExactTopShare", unfollowed := true, recurses := true, apart := false, narrowed := true }
def FnExactTopShareUptoSaid : Prop := fnExactTopShareUptoRow.holds Try.pinned (OpenSpec.upto fnExactTopShareSpec)

/-- 'laws.FnExactRankSum', WHERE WHAT IT READS IS OF BULK AT MOST 1048576: true; the input reads as it did. -/
def fnExactRankSumUptoRow : OpenClaim := { program := "ytcgaeabjegjamaa", sum := "69039ca054fb1cd55ee578a4f2bfbc82241b64ce1540af46ca34fa3bce19cce3", func := "loop.example/g01113/laws.FnExactRankSum", spec := "fnExactRankSum", unfollowed := true, recurses := true, apart := false, narrowed := true }
def FnExactRankSumUptoSaid : Prop := fnExactRankSumUptoRow.holds Try.pinned (OpenSpec.upto fnExactRankSumSpec)

/-- 'laws.FnExactPoorestSum', WHERE WHAT IT READS IS OF BULK AT MOST 1048576: true; the input reads as it did. -/
def fnExactPoorestSumUptoRow : OpenClaim := { program := "ytcgaeabjegjamaa", sum := "69039ca054fb1cd55ee578a4f2bfbc82241b64ce1540af46ca34fa3bce19cce3", func := "loop.example/g01113/laws.FnExactPoorestSum", spec := "fnExactPoorestSum", unfollowed := true, recurses := true, apart := false, narrowed := true }
def FnExactPoorestSumUptoSaid : Prop := fnExactPoorestSumUptoRow.holds Try.pinned (OpenSpec.upto fnExactPoorestSumSpec)

/-- 'laws.FnExactLorenzOf', WHERE WHAT IT READS IS OF BULK AT MOST 1048576: true; the input reads as it did. -/
def fnExactLorenzOfUptoRow : OpenClaim := { program := "ytcgaeabjegjamaa", sum := "69039ca054fb1cd55ee578a4f2bfbc82241b64ce1540af46ca34fa3bce19cce3", func := "loop.example/g01113/laws.FnExactLorenzOf", spec := "fnExactLorenzOf", unfollowed := true, recurses := true, apart := false, narrowed := true }
def FnExactLorenzOfUptoSaid : Prop := fnExactLorenzOfUptoRow.holds Try.pinned (OpenSpec.upto fnExactLorenzOfSpec)

/-- 'laws.FnExactIsLorenzAbove', WHERE WHAT IT READS IS OF BULK AT MOST 1048576: true; the input reads as it did. -/
def fnExactIsLorenzAboveUptoRow : OpenClaim := { program := "ytcgaeabjegjamaa", sum := "69039ca054fb1cd55ee578a4f2bfbc82241b64ce1540af46ca34fa3bce19cce3", func := "loop.example/g01113/laws.FnExactIsLorenzAbove", spec := "fnExactIsLorenzAbove", unfollowed := true, recurses := true, apart := false, narrowed := true }
def FnExactIsLorenzAboveUptoSaid : Prop := fnExactIsLorenzAboveUptoRow.holds Try.pinned (OpenSpec.upto fnExactIsLorenzAboveSpec)

/-- 'laws.FnExactRefusingWeights', WHERE WHAT IT READS IS OF BULK AT MOST 1048576: true; the input reads as it did. -/
def fnExactRefusingWeightsUptoRow : OpenClaim := { program := "ytcgaeabjegjamaa", sum := "69039ca054fb1cd55ee578a4f2bfbc82241b64ce1540af46ca34fa3bce19cce3", func := "loop.example/g01113/laws.FnExactRefusingWeights", spec := "fnExactRefusingWeights", unfollowed := true, recurses := true, apart := false, narrowed := true }
def FnExactRefusingWeightsUptoSaid : Prop := fnExactRefusingWeightsUptoRow.holds Try.pinned (OpenSpec.upto fnExactRefusingWeightsSpec)

/-- 'laws.FnExactUncross', WHERE WHAT IT READS IS OF BULK AT MOST 1048576: true; the input reads as it did. -/
def fnExactUncrossUptoRow : OpenClaim := { program := "ytcgaeabjegjamaa", sum := "69039ca054fb1cd55ee578a4f2bfbc82241b64ce1540af46ca34fa3bce19cce3", func := "loop.example/g01113/laws.FnExactUncross", spec := "fnExactUncross", unfollowed := true, recurses := true, apart := false, narrowed := true }
def FnExactUncrossUptoSaid : Prop := fnExactUncrossUptoRow.holds Try.pinned (OpenSpec.upto fnExactUncrossSpec)

/-- 'laws.FnExactGluePlans', WHERE WHAT IT READS IS OF BULK AT MOST 1048576: true; the input reads as it did. -/
def fnExactGluePlansUptoRow : OpenClaim := { program := "ytcgaeabjegjamaa", sum := "69039ca054fb1cd55ee578a4f2bfbc82241b64ce1540af46ca34fa3bce19cce3", func := "loop.example/g01113/laws.FnExactGluePlans", spec := "fnExactGluePlans", unfollowed := true, recurses := true, apart := false, narrowed := true }
def FnExactGluePlansUptoSaid : Prop := fnExactGluePlansUptoRow.holds Try.pinned (OpenSpec.upto fnExactGluePlansSpec)

end Rows
end Go.Proofs.Ytcgaeabjegjamaa
