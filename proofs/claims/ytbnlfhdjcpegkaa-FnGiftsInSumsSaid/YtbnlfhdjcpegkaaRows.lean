/-
  No cell of these rows narrows 'for every input' (looked for: loops, veiled, ifaces, maps, wideKeys, modest, calm, conditions, laid).
  DERIVED. THE GIVEN ROWS OF THIS SEAT. 8 by the template 'for every input the law returns true; each argument reads behind the call as it read before'; 0 by the template 'total and deterministic' (their statements: YtbnlfhdjcpegkaaTotals.lean).
  GIVEN WITH THE SEED: the statements are not yours to turn. If you find one false, say at which input.
  Laid BY PROGRAM, IN A SANDBOX (cutbox-rows.mjs): the forced cells as the released guide's own fill.sh prints them over the translation ba66f89b5c9f1d6b… (all of the seat's roots in one cut). By AI agents, Wed Nov 11 2026. No macro, syntax, notation, axiom, sorry.
-/
import Derived.Test.YtbnlfhdjcpegkaaChecked
import GoSem.Claim
import GoSem.ClaimJoined
import GoSem.ClaimMapViews
import Derived.JoinedTies
import Derived.KernelRfl
namespace Go.Proofs.Ytbnlfhdjcpegkaa
/- THE CELL 'sum', in the pinned program and in every row, IS THE sha256 OF THE DUMP (.gsa) THAT YtbnlfhdjcpegkaaProg.lean LOADS. Nothing in Lean hashes anything: it is a label: what it is worth is what the hold of that sum in a sandbox is worth. -/
noncomputable def Try.pinned : Pinned := { name := "ytbnlfhdjcpegkaa", sum := "ba66f89b5c9f1d6b5b30054da0a5720378ce662cd1130ef05860d71a701d2b37", checked := Try.checked }
namespace Rows
def none {H : Type} : Left H := { results := [], args := [] }

/-- 'laws.FnExactTurnPlan': WHATEVER THE INPUT: true; the input reads as it did. -/
def fnExactTurnPlanSpec : ChangeSpec := { name := "fnExactTurnPlan", fn := fun _ => fun
  | [d] => { results := [.lit (.bool true)], args := [d] }
  | _ => none }
def fnExactTurnPlanRow : OpenClaim := { program := "ytbnlfhdjcpegkaa", sum := "ba66f89b5c9f1d6b5b30054da0a5720378ce662cd1130ef05860d71a701d2b37", func := "loop.example/g01113/laws.FnExactTurnPlan", spec := "fnExactTurnPlan", unfollowed := true, recurses := true, apart := false }
def FnExactTurnPlanSaid : Prop := fnExactTurnPlanRow.holds Try.pinned (OpenSpec.ofChange fnExactTurnPlanSpec)

/-- ITS FALSE NEIGHBOUR: 'it returns false'. Refute it at one input. -/
def fnExactTurnPlanWrong : ChangeSpec := { name := "fnExactTurnPlan", fn := fun _ => fun
  | [d] => { results := [.lit (.bool false)], args := [d] }
  | _ => none }
def FnExactTurnPlanWrongFalsely : Prop := fnExactTurnPlanRow.holds Try.pinned (OpenSpec.ofChange fnExactTurnPlanWrong)

/-- 'laws.FnExactCrossingOf': WHATEVER THE INPUT: true; the input reads as it did. -/
def fnExactCrossingOfSpec : ChangeSpec := { name := "fnExactCrossingOf", fn := fun _ => fun
  | [d] => { results := [.lit (.bool true)], args := [d] }
  | _ => none }
def fnExactCrossingOfRow : OpenClaim := { program := "ytbnlfhdjcpegkaa", sum := "ba66f89b5c9f1d6b5b30054da0a5720378ce662cd1130ef05860d71a701d2b37", func := "loop.example/g01113/laws.FnExactCrossingOf", spec := "fnExactCrossingOf", unfollowed := true, recurses := true, apart := false }
def FnExactCrossingOfSaid : Prop := fnExactCrossingOfRow.holds Try.pinned (OpenSpec.ofChange fnExactCrossingOfSpec)

/-- ITS FALSE NEIGHBOUR: 'it returns false'. Refute it at one input. -/
def fnExactCrossingOfWrong : ChangeSpec := { name := "fnExactCrossingOf", fn := fun _ => fun
  | [d] => { results := [.lit (.bool false)], args := [d] }
  | _ => none }
def FnExactCrossingOfWrongFalsely : Prop := fnExactCrossingOfRow.holds Try.pinned (OpenSpec.ofChange fnExactCrossingOfWrong)

/-- 'laws.FnExactMonotonePlan': WHATEVER THE INPUT: true; the input reads as it did. -/
def fnExactMonotonePlanSpec : ChangeSpec := { name := "fnExactMonotonePlan", fn := fun _ => fun
  | [d1, d2] => { results := [.lit (.bool true)], args := [d1, d2] }
  | _ => none }
def fnExactMonotonePlanRow : OpenClaim := { program := "ytbnlfhdjcpegkaa", sum := "ba66f89b5c9f1d6b5b30054da0a5720378ce662cd1130ef05860d71a701d2b37", func := "loop.example/g01113/laws.FnExactMonotonePlan", spec := "fnExactMonotonePlan", unfollowed := true, recurses := true, apart := false }
def FnExactMonotonePlanSaid : Prop := fnExactMonotonePlanRow.holds Try.pinned (OpenSpec.ofChange fnExactMonotonePlanSpec)

/-- ITS FALSE NEIGHBOUR: 'it returns false'. Refute it at one input. -/
def fnExactMonotonePlanWrong : ChangeSpec := { name := "fnExactMonotonePlan", fn := fun _ => fun
  | [d1, d2] => { results := [.lit (.bool false)], args := [d1, d2] }
  | _ => none }
def FnExactMonotonePlanWrongFalsely : Prop := fnExactMonotonePlanRow.holds Try.pinned (OpenSpec.ofChange fnExactMonotonePlanWrong)

/-- 'laws.FnExactLoweringPlan': WHATEVER THE INPUT: true; the input reads as it did. -/
def fnExactLoweringPlanSpec : ChangeSpec := { name := "fnExactLoweringPlan", fn := fun _ => fun
  | [d1, d2] => { results := [.lit (.bool true)], args := [d1, d2] }
  | _ => none }
def fnExactLoweringPlanRow : OpenClaim := { program := "ytbnlfhdjcpegkaa", sum := "ba66f89b5c9f1d6b5b30054da0a5720378ce662cd1130ef05860d71a701d2b37", func := "loop.example/g01113/laws.FnExactLoweringPlan", spec := "fnExactLoweringPlan", unfollowed := true, recurses := true, apart := false }
def FnExactLoweringPlanSaid : Prop := fnExactLoweringPlanRow.holds Try.pinned (OpenSpec.ofChange fnExactLoweringPlanSpec)

/-- ITS FALSE NEIGHBOUR: 'it returns false'. Refute it at one input. -/
def fnExactLoweringPlanWrong : ChangeSpec := { name := "fnExactLoweringPlan", fn := fun _ => fun
  | [d1, d2] => { results := [.lit (.bool false)], args := [d1, d2] }
  | _ => none }
def FnExactLoweringPlanWrongFalsely : Prop := fnExactLoweringPlanRow.holds Try.pinned (OpenSpec.ofChange fnExactLoweringPlanWrong)

/-- 'laws.FnExactUncross': WHATEVER THE INPUT: true; the input reads as it did. -/
def fnExactUncrossSpec : ChangeSpec := { name := "fnExactUncross", fn := fun _ => fun
  | [d] => { results := [.lit (.bool true)], args := [d] }
  | _ => none }
def fnExactUncrossRow : OpenClaim := { program := "ytbnlfhdjcpegkaa", sum := "ba66f89b5c9f1d6b5b30054da0a5720378ce662cd1130ef05860d71a701d2b37", func := "loop.example/g01113/laws.FnExactUncross", spec := "fnExactUncross", unfollowed := true, recurses := true, apart := false }
def FnExactUncrossSaid : Prop := fnExactUncrossRow.holds Try.pinned (OpenSpec.ofChange fnExactUncrossSpec)

/-- ITS FALSE NEIGHBOUR: 'it returns false'. Refute it at one input. -/
def fnExactUncrossWrong : ChangeSpec := { name := "fnExactUncross", fn := fun _ => fun
  | [d] => { results := [.lit (.bool false)], args := [d] }
  | _ => none }
def FnExactUncrossWrongFalsely : Prop := fnExactUncrossRow.holds Try.pinned (OpenSpec.ofChange fnExactUncrossWrong)

/-- 'laws.FnExactGluePlans': WHATEVER THE INPUT: true; the input reads as it did. -/
def fnExactGluePlansSpec : ChangeSpec := { name := "fnExactGluePlans", fn := fun _ => fun
  | [d1, d2] => { results := [.lit (.bool true)], args := [d1, d2] }
  | _ => none }
def fnExactGluePlansRow : OpenClaim := { program := "ytbnlfhdjcpegkaa", sum := "ba66f89b5c9f1d6b5b30054da0a5720378ce662cd1130ef05860d71a701d2b37", func := "loop.example/g01113/laws.FnExactGluePlans", spec := "fnExactGluePlans", unfollowed := true, recurses := true, apart := false }
def FnExactGluePlansSaid : Prop := fnExactGluePlansRow.holds Try.pinned (OpenSpec.ofChange fnExactGluePlansSpec)

/-- ITS FALSE NEIGHBOUR: 'it returns false'. Refute it at one input. -/
def fnExactGluePlansWrong : ChangeSpec := { name := "fnExactGluePlans", fn := fun _ => fun
  | [d1, d2] => { results := [.lit (.bool false)], args := [d1, d2] }
  | _ => none }
def FnExactGluePlansWrongFalsely : Prop := fnExactGluePlansRow.holds Try.pinned (OpenSpec.ofChange fnExactGluePlansWrong)

/-- 'laws.FnExactGiftTerms': WHATEVER THE INPUT: true; the input reads as it did. -/
def fnExactGiftTermsSpec : ChangeSpec := { name := "fnExactGiftTerms", fn := fun _ => fun
  | [d1, d2, d3] => { results := [.lit (.bool true)], args := [d1, d2, d3] }
  | _ => none }
def fnExactGiftTermsRow : OpenClaim := { program := "ytbnlfhdjcpegkaa", sum := "ba66f89b5c9f1d6b5b30054da0a5720378ce662cd1130ef05860d71a701d2b37", func := "loop.example/g01113/laws.FnExactGiftTerms", spec := "fnExactGiftTerms", unfollowed := true, recurses := true, apart := false }
def FnExactGiftTermsSaid : Prop := fnExactGiftTermsRow.holds Try.pinned (OpenSpec.ofChange fnExactGiftTermsSpec)

/-- ITS FALSE NEIGHBOUR: 'it returns false'. Refute it at one input. -/
def fnExactGiftTermsWrong : ChangeSpec := { name := "fnExactGiftTerms", fn := fun _ => fun
  | [d1, d2, d3] => { results := [.lit (.bool false)], args := [d1, d2, d3] }
  | _ => none }
def FnExactGiftTermsWrongFalsely : Prop := fnExactGiftTermsRow.holds Try.pinned (OpenSpec.ofChange fnExactGiftTermsWrong)

/-- 'laws.FnGiftsInSums': WHATEVER THE INPUT: true; the input reads as it did. -/
def fnGiftsInSumsSpec : ChangeSpec := { name := "fnGiftsInSums", fn := fun _ => fun
  | [d1, d2] => { results := [.lit (.bool true)], args := [d1, d2] }
  | _ => none }
def fnGiftsInSumsRow : OpenClaim := { program := "ytbnlfhdjcpegkaa", sum := "ba66f89b5c9f1d6b5b30054da0a5720378ce662cd1130ef05860d71a701d2b37", func := "loop.example/g01113/laws.FnGiftsInSums", spec := "fnGiftsInSums", unfollowed := true, recurses := true, apart := false }
def FnGiftsInSumsSaid : Prop := fnGiftsInSumsRow.holds Try.pinned (OpenSpec.ofChange fnGiftsInSumsSpec)

/-- ITS FALSE NEIGHBOUR: 'it returns false'. Refute it at one input. -/
def fnGiftsInSumsWrong : ChangeSpec := { name := "fnGiftsInSums", fn := fun _ => fun
  | [d1, d2] => { results := [.lit (.bool false)], args := [d1, d2] }
  | _ => none }
def FnGiftsInSumsWrongFalsely : Prop := fnGiftsInSumsRow.holds Try.pinned (OpenSpec.ofChange fnGiftsInSumsWrong)

/- THE SECOND FORM. 'bulk': how many values and letters a reading holds, each counted each time it is reached (what is shared counts as often as it is met; a slice's spare places count too). A statement '..UptoSaid' is the law's where the arguments, and the package variables that the reading takes, are together of bulk at most 1048576: NARROWER than '..Said'. Prove '..Said' where nothing that the law and all that it calls make is longer than what came in: it says more and counts as full. Else prove '..UptoSaid'. A law counts once. -/
mutual
def uptoBulk {H : Type} : DataW H → Nat
  | .lit (.string bytes) => bytes.length + 1
  | .lit _ => 1
  | .nil => 1
  | .ptr d => uptoBulk d + 1
  | .slice elems spare => uptoBulkAll elems + uptoBulkAll spare + 1
  | .agg parts => uptoBulkAll parts + 1
  | .iface _ d => uptoBulk d + 1
  | .map entries => uptoBulkEntries entries + 1
  | .held _ => 1
def uptoBulkAll {H : Type} : List (DataW H) → Nat
  | [] => 0
  | d :: r => uptoBulk d + uptoBulkAll r
def uptoBulkEntries {H : Type} : List (Lit × DataW H) → Nat
  | [] => 0
  | x :: r => uptoBulkEntry x + uptoBulkEntries r
def uptoBulkEntry {H : Type} : Lit × DataW H → Nat
  | (.string bytes, d) => bytes.length + uptoBulk d + 1
  | (_, d) => uptoBulk d + 1
 end
def uptoSmall : (H : Type) → List (DataW H) → Bool := fun _ ds => decide (uptoBulkAll ds ≤ 1048576)
def OpenSpec.upto (s : _root_.Go.ChangeSpec) : _root_.Go.OpenSpec := { _root_.Go.OpenSpec.ofChange s with cond := some uptoSmall }

/-- 'laws.FnExactTurnPlan', WHERE WHAT IT READS IS OF BULK AT MOST 1048576: true; the input reads as it did. -/
def fnExactTurnPlanUptoRow : OpenClaim := { program := "ytbnlfhdjcpegkaa", sum := "ba66f89b5c9f1d6b5b30054da0a5720378ce662cd1130ef05860d71a701d2b37", func := "loop.example/g01113/laws.FnExactTurnPlan", spec := "fnExactTurnPlan", unfollowed := true, recurses := true, apart := false, narrowed := true }
def FnExactTurnPlanUptoSaid : Prop := fnExactTurnPlanUptoRow.holds Try.pinned (OpenSpec.upto fnExactTurnPlanSpec)

/-- 'laws.FnExactCrossingOf', WHERE WHAT IT READS IS OF BULK AT MOST 1048576: true; the input reads as it did. -/
def fnExactCrossingOfUptoRow : OpenClaim := { program := "ytbnlfhdjcpegkaa", sum := "ba66f89b5c9f1d6b5b30054da0a5720378ce662cd1130ef05860d71a701d2b37", func := "loop.example/g01113/laws.FnExactCrossingOf", spec := "fnExactCrossingOf", unfollowed := true, recurses := true, apart := false, narrowed := true }
def FnExactCrossingOfUptoSaid : Prop := fnExactCrossingOfUptoRow.holds Try.pinned (OpenSpec.upto fnExactCrossingOfSpec)

/-- 'laws.FnExactMonotonePlan', WHERE WHAT IT READS IS OF BULK AT MOST 1048576: true; the input reads as it did. -/
def fnExactMonotonePlanUptoRow : OpenClaim := { program := "ytbnlfhdjcpegkaa", sum := "ba66f89b5c9f1d6b5b30054da0a5720378ce662cd1130ef05860d71a701d2b37", func := "loop.example/g01113/laws.FnExactMonotonePlan", spec := "fnExactMonotonePlan", unfollowed := true, recurses := true, apart := false, narrowed := true }
def FnExactMonotonePlanUptoSaid : Prop := fnExactMonotonePlanUptoRow.holds Try.pinned (OpenSpec.upto fnExactMonotonePlanSpec)

/-- 'laws.FnExactLoweringPlan', WHERE WHAT IT READS IS OF BULK AT MOST 1048576: true; the input reads as it did. -/
def fnExactLoweringPlanUptoRow : OpenClaim := { program := "ytbnlfhdjcpegkaa", sum := "ba66f89b5c9f1d6b5b30054da0a5720378ce662cd1130ef05860d71a701d2b37", func := "loop.example/g01113/laws.FnExactLoweringPlan", spec := "fnExactLoweringPlan", unfollowed := true, recurses := true, apart := false, narrowed := true }
def FnExactLoweringPlanUptoSaid : Prop := fnExactLoweringPlanUptoRow.holds Try.pinned (OpenSpec.upto fnExactLoweringPlanSpec)

/-- 'laws.FnExactUncross', WHERE WHAT IT READS IS OF BULK AT MOST 1048576: true; the input reads as it did. -/
def fnExactUncrossUptoRow : OpenClaim := { program := "ytbnlfhdjcpegkaa", sum := "ba66f89b5c9f1d6b5b30054da0a5720378ce662cd1130ef05860d71a701d2b37", func := "loop.example/g01113/laws.FnExactUncross", spec := "fnExactUncross", unfollowed := true, recurses := true, apart := false, narrowed := true }
def FnExactUncrossUptoSaid : Prop := fnExactUncrossUptoRow.holds Try.pinned (OpenSpec.upto fnExactUncrossSpec)

/-- 'laws.FnExactGluePlans', WHERE WHAT IT READS IS OF BULK AT MOST 1048576: true; the input reads as it did. -/
def fnExactGluePlansUptoRow : OpenClaim := { program := "ytbnlfhdjcpegkaa", sum := "ba66f89b5c9f1d6b5b30054da0a5720378ce662cd1130ef05860d71a701d2b37", func := "loop.example/g01113/laws.FnExactGluePlans", spec := "fnExactGluePlans", unfollowed := true, recurses := true, apart := false, narrowed := true }
def FnExactGluePlansUptoSaid : Prop := fnExactGluePlansUptoRow.holds Try.pinned (OpenSpec.upto fnExactGluePlansSpec)

/-- 'laws.FnExactGiftTerms', WHERE WHAT IT READS IS OF BULK AT MOST 1048576: true; the input reads as it did. -/
def fnExactGiftTermsUptoRow : OpenClaim := { program := "ytbnlfhdjcpegkaa", sum := "ba66f89b5c9f1d6b5b30054da0a5720378ce662cd1130ef05860d71a701d2b37", func := "loop.example/g01113/laws.FnExactGiftTerms", spec := "fnExactGiftTerms", unfollowed := true, recurses := true, apart := false, narrowed := true }
def FnExactGiftTermsUptoSaid : Prop := fnExactGiftTermsUptoRow.holds Try.pinned (OpenSpec.upto fnExactGiftTermsSpec)

/-- 'laws.FnGiftsInSums', WHERE WHAT IT READS IS OF BULK AT MOST 1048576: true; the input reads as it did. -/
def fnGiftsInSumsUptoRow : OpenClaim := { program := "ytbnlfhdjcpegkaa", sum := "ba66f89b5c9f1d6b5b30054da0a5720378ce662cd1130ef05860d71a701d2b37", func := "loop.example/g01113/laws.FnGiftsInSums", spec := "fnGiftsInSums", unfollowed := true, recurses := true, apart := false, narrowed := true }
def FnGiftsInSumsUptoSaid : Prop := fnGiftsInSumsUptoRow.holds Try.pinned (OpenSpec.upto fnGiftsInSumsSpec)

end Rows
end Go.Proofs.Ytbnlfhdjcpegkaa
