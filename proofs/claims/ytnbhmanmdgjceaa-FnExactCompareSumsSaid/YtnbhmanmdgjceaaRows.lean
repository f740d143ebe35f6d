/-
  No cell of these rows narrows 'for every input' (looked for: loops, veiled, ifaces, maps, wideKeys, modest, calm, conditions, laid).
  DERIVED. THE GIVEN ROWS OF THIS SEAT. 12 by the template 'for every input the law returns true; each argument reads behind the call as it read before'; 0 by the template 'total and deterministic' (their statements: YtnbhmanmdgjceaaTotals.lean).
  GIVEN WITH THE SEED: the statements are not yours to turn. If you find one false, say at which input.
  Laid BY PROGRAM, IN A SANDBOX (cutbox-rows.mjs): the forced cells as the released guide's own fill.sh prints them over the translation 2a396afd8264ef5e… (all of the seat's roots in one cut). By AI agents, Wed Nov 11 2026. No macro, syntax, notation, axiom, sorry.
-/
import Derived.Test.YtnbhmanmdgjceaaChecked
import GoSem.Claim
import GoSem.ClaimJoined
import GoSem.ClaimMapViews
import Derived.JoinedTies
import Derived.KernelRfl
namespace Go.Proofs.Ytnbhmanmdgjceaa
/- THE CELL 'sum', in the pinned program and in every row, IS THE sha256 OF THE DUMP (.gsa) THAT YtnbhmanmdgjceaaProg.lean LOADS. Nothing in Lean hashes anything: it is a label: what it is worth is what the hold of that sum in a sandbox is worth. -/
noncomputable def Try.pinned : Pinned := { name := "ytnbhmanmdgjceaa", sum := "2a396afd8264ef5ebbda18c2d25553a7dad9220be1f268f938e410d3a6e5db11", checked := Try.checked }
namespace Rows
def none {H : Type} : Left H := { results := [], args := [] }

/-- 'laws.FnExactPlanCost': WHATEVER THE INPUT: true; the input reads as it did. -/
def fnExactPlanCostSpec : ChangeSpec := { name := "fnExactPlanCost", fn := fun _ => fun
  | [d] => { results := [.lit (.bool true)], args := [d] }
  | _ => none }
def fnExactPlanCostRow : OpenClaim := { program := "ytnbhmanmdgjceaa", sum := "2a396afd8264ef5ebbda18c2d25553a7dad9220be1f268f938e410d3a6e5db11", func := "loop.example/g01113/laws.FnExactPlanCost", spec := "fnExactPlanCost", unfollowed := true, recurses := true, apart := false }
def FnExactPlanCostSaid : Prop := fnExactPlanCostRow.holds Try.pinned (OpenSpec.ofChange fnExactPlanCostSpec)

/-- ITS FALSE NEIGHBOUR: 'it returns false'. Refute it at one input. -/
def fnExactPlanCostWrong : ChangeSpec := { name := "fnExactPlanCost", fn := fun _ => fun
  | [d] => { results := [.lit (.bool false)], args := [d] }
  | _ => none }
def FnExactPlanCostWrongFalsely : Prop := fnExactPlanCostRow.holds Try.pinned (OpenSpec.ofChange fnExactPlanCostWrong)

/-- 'laws.FnExactIsLowering': WHATEVER THE INPUT: true; the input reads as it did. -/
def fnExactIsLoweringSpec : ChangeSpec := { name := "fnExactIsLowering", fn := fun _ => fun
  | [d] => { results := [.lit (.bool true)], args := [d] }
  | _ => none }
def fnExactIsLoweringRow : OpenClaim := { program := "ytnbhmanmdgjceaa", sum := "2a396afd8264ef5ebbda18c2d25553a7dad9220be1f268f938e410d3a6e5db11", func := "loop.example/g01113/laws.FnExactIsLowering", spec := "fnExactIsLowering", unfollowed := true, recurses := true, apart := false }
def FnExactIsLoweringSaid : Prop := fnExactIsLoweringRow.holds Try.pinned (OpenSpec.ofChange fnExactIsLoweringSpec)

/-- ITS FALSE NEIGHBOUR: 'it returns false'. Refute it at one input. -/
def fnExactIsLoweringWrong : ChangeSpec := { name := "fnExactIsLowering", fn := fun _ => fun
  | [d] => { results := [.lit (.bool false)], args := [d] }
  | _ => none }
def FnExactIsLoweringWrongFalsely : Prop := fnExactIsLoweringRow.holds Try.pinned (OpenSpec.ofChange fnExactIsLoweringWrong)

/-- 'laws.FnExactSymmetricSum': WHATEVER THE INPUT: true; the input reads as it did. -/
def fnExactSymmetricSumSpec : ChangeSpec := { name := "fnExactSymmetricSum", fn := fun _ => fun
  | [d1, d2] => { results := [.lit (.bool true)], args := [d1, d2] }
  | _ => none }
def fnExactSymmetricSumRow : OpenClaim := { program := "ytnbhmanmdgjceaa", sum := "2a396afd8264ef5ebbda18c2d25553a7dad9220be1f268f938e410d3a6e5db11", func := "loop.example/g01113/laws.FnExactSymmetricSum", spec := "fnExactSymmetricSum", unfollowed := true, recurses := true, apart := false }
def FnExactSymmetricSumSaid : Prop := fnExactSymmetricSumRow.holds Try.pinned (OpenSpec.ofChange fnExactSymmetricSumSpec)

/-- ITS FALSE NEIGHBOUR: 'it returns false'. Refute it at one input. -/
def fnExactSymmetricSumWrong : ChangeSpec := { name := "fnExactSymmetricSum", fn := fun _ => fun
  | [d1, d2] => { results := [.lit (.bool false)], args := [d1, d2] }
  | _ => none }
def FnExactSymmetricSumWrongFalsely : Prop := fnExactSymmetricSumRow.holds Try.pinned (OpenSpec.ofChange fnExactSymmetricSumWrong)

/-- 'laws.FnExactIsMonotone': WHATEVER THE INPUT: true; the input reads as it did. -/
def fnExactIsMonotoneSpec : ChangeSpec := { name := "fnExactIsMonotone", fn := fun _ => fun
  | [d] => { results := [.lit (.bool true)], args := [d] }
  | _ => none }
def fnExactIsMonotoneRow : OpenClaim := { program := "ytnbhmanmdgjceaa", sum := "2a396afd8264ef5ebbda18c2d25553a7dad9220be1f268f938e410d3a6e5db11", func := "loop.example/g01113/laws.FnExactIsMonotone", spec := "fnExactIsMonotone", unfollowed := true, recurses := true, apart := false }
def FnExactIsMonotoneSaid : Prop := fnExactIsMonotoneRow.holds Try.pinned (OpenSpec.ofChange fnExactIsMonotoneSpec)

/-- ITS FALSE NEIGHBOUR: 'it returns false'. Refute it at one input. -/
def fnExactIsMonotoneWrong : ChangeSpec := { name := "fnExactIsMonotone", fn := fun _ => fun
  | [d] => { results := [.lit (.bool false)], args := [d] }
  | _ => none }
def FnExactIsMonotoneWrongFalsely : Prop := fnExactIsMonotoneRow.holds Try.pinned (OpenSpec.ofChange fnExactIsMonotoneWrong)

/-- 'laws.FnExactCompareSums': WHATEVER THE INPUT: true; the input reads as it did. -/
def fnExactCompareSumsSpec : ChangeSpec := { name := "fnExactCompareSums", fn := fun _ => fun
  | [d1, d2, d3] => { results := [.lit (.bool true)], args := [d1, d2, d3] }
  | _ => none }
def fnExactCompareSumsRow : OpenClaim := { program := "ytnbhmanmdgjceaa", sum := "2a396afd8264ef5ebbda18c2d25553a7dad9220be1f268f938e410d3a6e5db11", func := "loop.example/g01113/laws.FnExactCompareSums", spec := "fnExactCompareSums", unfollowed := true, recurses := true, apart := false }
def FnExactCompareSumsSaid : Prop := fnExactCompareSumsRow.holds Try.pinned (OpenSpec.ofChange fnExactCompareSumsSpec)

/-- ITS FALSE NEIGHBOUR: 'it returns false'. Refute it at one input. -/
def fnExactCompareSumsWrong : ChangeSpec := { name := "fnExactCompareSums", fn := fun _ => fun
  | [d1, d2, d3] => { results := [.lit (.bool false)], args := [d1, d2, d3] }
  | _ => none }
def FnExactCompareSumsWrongFalsely : Prop := fnExactCompareSumsRow.holds Try.pinned (OpenSpec.ofChange fnExactCompareSumsWrong)

/-- 'laws.FnExactTurnPlan': WHATEVER THE INPUT: true; the input reads as it did. -/
def fnExactTurnPlanSpec : ChangeSpec := { name := "fnExactTurnPlan", fn := fun _ => fun
  | [d] => { results := [.lit (.bool true)], args := [d] }
  | _ => none }
def fnExactTurnPlanRow : OpenClaim := { program := "ytnbhmanmdgjceaa", sum := "2a396afd8264ef5ebbda18c2d25553a7dad9220be1f268f938e410d3a6e5db11", func := "loop.example/g01113/laws.FnExactTurnPlan", spec := "fnExactTurnPlan", unfollowed := true, recurses := true, apart := false }
def FnExactTurnPlanSaid : Prop := fnExactTurnPlanRow.holds Try.pinned (OpenSpec.ofChange fnExactTurnPlanSpec)

/-- ITS FALSE NEIGHBOUR: 'it returns false'. Refute it at one input. -/
def fnExactTurnPlanWrong : ChangeSpec := { name := "fnExactTurnPlan", fn := fun _ => fun
  | [d] => { results := [.lit (.bool false)], args := [d] }
  | _ => none }
def FnExactTurnPlanWrongFalsely : Prop := fnExactTurnPlanRow.holds Try.pinned (OpenSpec.ofChange fnExactTurnPlanWrong)

/-- 'laws.FnExactGiftTerms': WHATEVER THE INPUT: true; the input reads as it did. -/
def fnExactGiftTermsSpec : ChangeSpec := { name := "fnExactGiftTerms", fn := fun _ => fun
  | [d1, d2, d3] => { results := [.lit (.bool true)], args := [d1, d2, d3] }
  | _ => none }
def fnExactGiftTermsRow : OpenClaim := { program := "ytnbhmanmdgjceaa", sum := "2a396afd8264ef5ebbda18c2d25553a7dad9220be1f268f938e410d3a6e5db11", func := "loop.example/g01113/laws.FnExactGiftTerms", spec := "fnExactGiftTerms", unfollowed := true, recurses := true, apart := false }
def FnExactGiftTermsSaid : Prop := fnExactGiftTermsRow.holds Try.pinned (OpenSpec.ofChange fnExactGiftTermsSpec)

/-- ITS FALSE NEIGHBOUR: 'it returns false'. Refute it at one input. -/
def fnExactGiftTermsWrong : ChangeSpec := { name := "fnExactGiftTerms", fn := fun _ => fun
  | [d1, d2, d3] => { results := [.lit (.bool false)], args := [d1, d2, d3] }
  | _ => none }
def FnExactGiftTermsWrongFalsely : Prop := fnExactGiftTermsRow.holds Try.pinned (OpenSpec.ofChange fnExactGiftTermsWrong)

/-- 'laws.FnExactMonotonePlan': WHATEVER THE INPUT: true; the input reads as it did. -/
def fnExactMonotonePlanSpec : ChangeSpec := { name := "fnExactMonotonePlan", fn := fun _ => fun
  | [d1, d2] => { results := [.lit (.bool true)], args := [d1, d2] }
  | _ => none }
def fnExactMonotonePlanRow : OpenClaim := { program := "ytnbhmanmdgjceaa", sum := "2a396afd8264ef5ebbda18c2d25553a7dad9220be1f268f938e410d3a6e5db11", func := "loop.example/g01113/laws.FnExactMonotonePlan", spec := "fnExactMonotonePlan", unfollowed := true, recurses := true, apart := false }
def FnExactMonotonePlanSaid : Prop := fnExactMonotonePlanRow.holds Try.pinned (OpenSpec.ofChange fnExactMonotonePlanSpec)

/-- ITS FALSE NEIGHBOUR: 'it returns false'. Refute it at one input. -/
def fnExactMonotonePlanWrong : ChangeSpec := { name := "fnExactMonotonePlan", fn := fun _ => fun
  | [d1, d2] => { results := [.lit (.bool false)], args := [d1, d2] }
  | _ => none }
def FnExactMonotonePlanWrongFalsely : Prop := fnExactMonotonePlanRow.holds Try.pinned (OpenSpec.ofChange fnExactMonotonePlanWrong)

/-- 'laws.FnExactIsPlan': WHATEVER THE INPUT: true; the input reads as it did. -/
def fnExactIsPlanSpec : ChangeSpec := { name := "fnExactIsPlan", fn := fun _ => fun
  | [d1, d2, d3] => { results := [.lit (.bool true)], args := [d1, d2, d3] }
  | _ => none }
def fnExactIsPlanRow : OpenClaim := { program := "ytnbhmanmdgjceaa", sum := "2a396afd8264ef5ebbda18c2d25553a7dad9220be1f268f938e410d3a6e5db11", func := "loop.example/g01113/laws.FnExactIsPlan", spec := "fnExactIsPlan", unfollowed := true, recurses := true, apart := false }
def FnExactIsPlanSaid : Prop := fnExactIsPlanRow.holds Try.pinned (OpenSpec.ofChange fnExactIsPlanSpec)

/-- ITS FALSE NEIGHBOUR: 'it returns false'. Refute it at one input. -/
def fnExactIsPlanWrong : ChangeSpec := { name := "fnExactIsPlan", fn := fun _ => fun
  | [d1, d2, d3] => { results := [.lit (.bool false)], args := [d1, d2, d3] }
  | _ => none }
def FnExactIsPlanWrongFalsely : Prop := fnExactIsPlanRow.holds Try.pinned (OpenSpec.ofChange fnExactIsPlanWrong)

/-- 'laws.FnExactCrossingOf': WHATEVER THE INPUT: true; the input reads as it did. -/
def fnExactCrossingOfSpec : ChangeSpec := { name := "fnExactCrossingOf", fn := fun _ => fun
  | [d] => { results := [.lit (.bool true)], args := [d] }
  | _ => none }
def fnExactCrossingOfRow : OpenClaim := { program := "ytnbhmanmdgjceaa", sum := "2a396afd8264ef5ebbda18c2d25553a7dad9220be1f268f938e410d3a6e5db11", func := "loop.example/g01113/laws.FnExactCrossingOf", spec := "fnExactCrossingOf", unfollowed := true, recurses := true, apart := false }
def FnExactCrossingOfSaid : Prop := fnExactCrossingOfRow.holds Try.pinned (OpenSpec.ofChange fnExactCrossingOfSpec)

/-- ITS FALSE NEIGHBOUR: 'it returns false'. Refute it at one input. -/
def fnExactCrossingOfWrong : ChangeSpec := { name := "fnExactCrossingOf", fn := fun _ => fun
  | [d] => { results := [.lit (.bool false)], args := [d] }
  | _ => none }
def FnExactCrossingOfWrongFalsely : Prop := fnExactCrossingOfRow.holds Try.pinned (OpenSpec.ofChange fnExactCrossingOfWrong)

/-- 'laws.FnExactGiftEffects': WHATEVER THE INPUT: true; the input reads as it did. -/
def fnExactGiftEffectsSpec : ChangeSpec := { name := "fnExactGiftEffects", fn := fun _ => fun
  | [d1, d2, d3] => { results := [.lit (.bool true)], args := [d1, d2, d3] }
  | _ => none }
def fnExactGiftEffectsRow : OpenClaim := { program := "ytnbhmanmdgjceaa", sum := "2a396afd8264ef5ebbda18c2d25553a7dad9220be1f268f938e410d3a6e5db11", func := "loop.example/g01113/laws.FnExactGiftEffects", spec := "fnExactGiftEffects", apart := false }
def FnExactGiftEffectsSaid : Prop := fnExactGiftEffectsRow.holds Try.pinned (OpenSpec.ofChange fnExactGiftEffectsSpec)

/-- ITS FALSE NEIGHBOUR: 'it returns false'. Refute it at one input. -/
def fnExactGiftEffectsWrong : ChangeSpec := { name := "fnExactGiftEffects", fn := fun _ => fun
  | [d1, d2, d3] => { results := [.lit (.bool false)], args := [d1, d2, d3] }
  | _ => none }
def FnExactGiftEffectsWrongFalsely : Prop := fnExactGiftEffectsRow.holds Try.pinned (OpenSpec.ofChange fnExactGiftEffectsWrong)

/-- 'laws.FnExactLoweringPlan': WHATEVER THE INPUT: true; the input reads as it did. -/
def fnExactLoweringPlanSpec : ChangeSpec := { name := "fnExactLoweringPlan", fn := fun _ => fun
  | [d1, d2] => { results := [.lit (.bool true)], args := [d1, d2] }
  | _ => none }
def fnExactLoweringPlanRow : OpenClaim := { program := "ytnbhmanmdgjceaa", sum := "2a396afd8264ef5ebbda18c2d25553a7dad9220be1f268f938e410d3a6e5db11", func := "loop.example/g01113/laws.FnExactLoweringPlan", spec := "fnExactLoweringPlan", unfollowed := true, recurses := true, apart := false }
def FnExactLoweringPlanSaid : Prop := fnExactLoweringPlanRow.holds Try.pinned (OpenSpec.ofChange fnExactLoweringPlanSpec)

/-- ITS FALSE NEIGHBOUR: 'it returns false'. Refute it at one input. -/
def fnExactLoweringPlanWrong : ChangeSpec := { name := "fnExactLoweringPlan", fn := fun _ => fun
  | [d1, d2] => { results := [.lit (.bool false)], args := [d1, d2] }
  | _ => none }
def FnExactLoweringPlanWrongFalsely : Prop := fnExactLoweringPlanRow.holds Try.pinned (OpenSpec.ofChange fnExactLoweringPlanWrong)

/- THE SECOND FORM. 'bulk': how many values and letters a reading holds, each counted each time it is reached (what is shared counts as often as it is met; a slice's spare places count too). A statement '..UptoSaid' is the law's where the arguments, and the package variables that the reading takes, are together of bulk at most 1048576: NARROWER than '..Said'. Prove '..Said' where nothing that the law and all that it calls make is longer than what came in: it says more and counts as full. Else prove '..UptoSaid'. A law counts once. -/
mutual
def uptoBulk {H : Type} : DataW H → Nat
  | .lit (.string bytes) => bytes.length + 1
  | .lit _ => 1
  | .nil => 1
  | .ptr d => uptoBulk d + 1
  | .slice elems spare => uptoBulkAll elems + uptoBulkAll spare + 1
  | .agg parts => uptoBulkAll parts + 1
  | .iface _ d => uptoBulk d + 1
  | .map entries => uptoBulkEntries entries + 1
  | .held _ => 1
def uptoBulkAll {H : Type} : List (DataW H) → Nat
  | [] => 0
  | d :: r => uptoBulk d + uptoBulkAll r
def uptoBulkEntries {H : Type} : List (Lit × DataW H) → Nat
  | [] => 0
  | x :: r => uptoBulkEntry x + uptoBulkEntries r
def uptoBulkEntry {H : Type} : Lit × DataW H → Nat
  | (.string bytes, d) => bytes.length + uptoBulk d + 1
  | (_, d) => uptoBulk d + 1
 end
def uptoSmall : (H : Type) → List (DataW H) → Bool := fun _ ds => decide (uptoBulkAll ds ≤ 1048576)
def OpenSpec.upto (s : _root_.Go.ChangeSpec) : _root_.Go.OpenSpec := { _root_.Go.OpenSpec.ofChange s with cond := some uptoSmall }

/-- 'laws.FnExactPlanCost', WHERE WHAT IT READS IS OF BULK AT MOST 1048576: true; the input reads as it did. -/
def fnExactPlanCostUptoRow : OpenClaim := { program := "ytnbhmanmdgjceaa", sum := "2a396afd8264ef5ebbda18c2d25553a7dad9220be1f268f938e410d3a6e5db11", func := "loop.example/g01113/laws.FnExactPlanCost", spec := "fnExactPlanCost", unfollowed := true, recurses := true, apart := false, narrowed := true }
def FnExactPlanCostUptoSaid : Prop := fnExactPlanCostUptoRow.holds Try.pinned (OpenSpec.upto fnExactPlanCostSpec)

/-- 'laws.FnExactIsLowering', WHERE WHAT IT READS IS OF BULK AT MOST 1048576: true; the input reads as it did. -/
def fnExactIsLoweringUptoRow : OpenClaim := { program := "ytnbhmanmdgjceaa", sum := "2a396afd8264ef5ebbda18c2d25553a7dad9220be1f268f938e410d3a6e5db11", func := "loop.example/g01113/laws.FnExactIsLowering", spec := "fnExactIsLowering", unfollowed := true, recurses := true, apart := false, narrowed := true }
def FnExactIsLoweringUptoSaid : Prop := fnExactIsLoweringUptoRow.holds Try.pinned (OpenSpec.upto fnExactIsLoweringSpec)

/-- 'laws.FnExactSymmetricSum', WHERE WHAT IT READS IS OF BULK AT MOST 1048576: true; the input reads as it did. -/
def fnExactSymmetricSumUptoRow : OpenClaim := { program := "ytnbhmanmdgjceaa", sum := "2a396afd8264ef5ebbda18c2d25553a7dad9220be1f268f938e410d3a6e5db11", func := "loop.example/g01113/laws.FnExactSymmetricSum", spec := "fnExactSymmetricSum", unfollowed := true, recurses := true, apart := false, narrowed := true }
def FnExactSymmetricSumUptoSaid : Prop := fnExactSymmetricSumUptoRow.holds Try.pinned (OpenSpec.upto fnExactSymmetricSumSpec)

/-- 'laws.FnExactIsMonotone', WHERE WHAT IT READS IS OF BULK AT MOST 1048576: true; the input reads as it did. -/
def fnExactIsMonotoneUptoRow : OpenClaim := { program := "ytnbhmanmdgjceaa", sum := "2a396afd8264ef5ebbda18c2d25553a7dad9220be1f268f938e410d3a6e5db11", func := "loop.example/g01113/laws.FnExactIsMonotone", spec := "fnExactIsMonotone", unfollowed := true, recurses := true, apart := false, narrowed := true }
def FnExactIsMonotoneUptoSaid : Prop := fnExactIsMonotoneUptoRow.holds Try.pinned (OpenSpec.upto fnExactIsMonotoneSpec)

/-- 'laws.FnExactCompareSums', WHERE WHAT IT READS IS OF BULK AT MOST 1048576: true; the input reads as it did. -/
def fnExactCompareSumsUptoRow : OpenClaim := { program := "ytnbhmanmdgjceaa", sum := "2a396afd8264ef5ebbda18c2d25553a7dad9220be1f268f938e410d3a6e5db11", func := "loop.example/g01113/laws.FnExactCompareSums", spec := "fnExactCompareSums", unfollowed := true, recurses := true, apart := false, narrowed := true }
def FnExactCompareSumsUptoSaid : Prop := fnExactCompareSumsUptoRow.holds Try.pinned (OpenSpec.upto fnExactCompareSumsSpec)

/-- 'laws.FnExactTurnPlan', WHERE WHAT IT READS IS OF BULK AT MOST 1048576: true; the input reads as it did. -/
def fnExactTurnPlanUptoRow : OpenClaim := { program := "ytnbhmanmdgjceaa", sum := "2a396afd8264ef5ebbda18c2d25553a7dad9220be1f268f938e410d3a6e5db11", func := "loop.example/g01113/laws.FnExactTurnPlan", spec := "fnExactTurnPlan", unfollowed := true, recurses := true, apart := false, narrowed := true }
def FnExactTurnPlanUptoSaid : Prop := fnExactTurnPlanUptoRow.holds Try.pinned (OpenSpec.upto fnExactTurnPlanSpec)

/-- 'laws.FnExactGiftTerms', WHERE WHAT IT READS IS OF BULK AT MOST 1048576: true; the input reads as it did. -/
def fnExactGiftTermsUptoRow : OpenClaim := { program := "ytnbhmanmdgjceaa", sum := "2a396afd8264ef5ebbda18c2d25553a7dad9220be1f268f938e410d3a6e5db11", func := "loop.example/g01113/laws.FnExactGiftTerms", spec := "fnExactGiftTerms", unfollowed := true, recurses := true, apart := false, narrowed := true }
def FnExactGiftTermsUptoSaid : Prop := fnExactGiftTermsUptoRow.holds Try.pinned (OpenSpec.upto fnExactGiftTermsSpec)

/-- 'laws.FnExactMonotonePlan', WHERE WHAT IT READS IS OF BULK AT MOST 1048576: true; the input reads as it did. -/
def fnExactMonotonePlanUptoRow : OpenClaim := { program := "ytnbhmanmdgjceaa", sum := "2a396afd8264ef5ebbda18c2d25553a7dad9220be1f268f938e410d3a6e5db11", func := "loop.example/g01113/laws.FnExactMonotonePlan", spec := "fnExactMonotonePlan", unfollowed := true, recurses := true, apart := false, narrowed := true }
def FnExactMonotonePlanUptoSaid : Prop := fnExactMonotonePlanUptoRow.holds Try.pinned (OpenSpec.upto fnExactMonotonePlanSpec)

/-- 'laws.FnExactIsPlan', WHERE WHAT IT READS IS OF BULK AT MOST 1048576: true; the input reads as it did. -/
def fnExactIsPlanUptoRow : OpenClaim := { program := "ytnbhmanmdgjceaa", sum := "2a396afd8264ef5ebbda18c2d25553a7dad9220be1f268f938e410d3a6e5db11", func := "loop.example/g01113/laws.FnExactIsPlan", spec := "fnExactIsPlan", unfollowed := true, recurses := true, apart := false, narrowed := true }
def FnExactIsPlanUptoSaid : Prop := fnExactIsPlanUptoRow.holds Try.pinned (OpenSpec.upto fnExactIsPlanSpec)

/-- 'laws.FnExactCrossingOf', WHERE WHAT IT READS IS OF BULK AT MOST 1048576: true; the input reads as it did. -/
def fnExactCrossingOfUptoRow : OpenClaim := { program := "ytnbhmanmdgjceaa", sum := "2a396afd8264ef5ebbda18c2d25553a7dad9220be1f268f938e410d3a6e5db11", func := "loop.example/g01113/laws.FnExactCrossingOf", spec := "fnExactCrossingOf", unfollowed := true, recurses := true, apart := false, narrowed := true }
def FnExactCrossingOfUptoSaid : Prop := fnExactCrossingOfUptoRow.holds Try.pinned (OpenSpec.upto fnExactCrossingOfSpec)

/-- 'laws.FnExactGiftEffects', WHERE WHAT IT READS IS OF BULK AT MOST 1048576: true; the input reads as it did. -/
def fnExactGiftEffectsUptoRow : OpenClaim := { program := "ytnbhmanmdgjceaa", sum := "2a396afd8264ef5ebbda18c2d25553a7dad9220be1f268f938e410d3a6e5db11", func := "loop.example/g01113/laws.FnExactGiftEffects", spec := "fnExactGiftEffects", apart := false, narrowed := true }
def FnExactGiftEffectsUptoSaid : Prop := fnExactGiftEffectsUptoRow.holds Try.pinned (OpenSpec.upto fnExactGiftEffectsSpec)

/-- 'laws.FnExactLoweringPlan', WHERE WHAT IT READS IS OF BULK AT MOST 1048576: true; the input reads as it did. -/
def fnExactLoweringPlanUptoRow : OpenClaim := { program := "ytnbhmanmdgjceaa", sum := "2a396afd8264ef5ebbda18c2d25553a7dad9220be1f268f938e410d3a6e5db11", func := "loop.example/g01113/laws.FnExactLoweringPlan", spec := "fnExactLoweringPlan", unfollowed := true, recurses := true, apart := false, narrowed := true }
def FnExactLoweringPlanUptoSaid : Prop := fnExactLoweringPlanUptoRow.holds Try.pinned (OpenSpec.upto fnExactLoweringPlanSpec)

end Rows
end Go.Proofs.Ytnbhmanmdgjceaa
