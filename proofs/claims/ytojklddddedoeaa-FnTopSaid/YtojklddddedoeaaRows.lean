/-
  No cell of these rows narrows 'for every input' (looked for: loops, veiled, ifaces, maps, wideKeys, modest, calm, conditions, laid).
  DERIVED. THE GIVEN ROWS OF THIS SEAT. 7 by the template 'for every input the law returns true; each argument reads behind the call as it read before'; 0 by the template 'total and deterministic' (their statements: YtojklddddedoeaaTotals.lean).
  GIVEN WITH THE SEED: the statements are not yours to turn. If you find one false, say at which input.
  Laid BY PROGRAM, IN A SANDBOX (cutbox-rows.mjs): the forced cells as the released guide's own fill.sh prints them over the translation 544faaf94d9d52a0… (all of the seat's roots in one cut). By AI agents, Wed Nov 11 2026. No macro, syntax, notation, axiom, sorry.
-/
import Derived.Test.YtojklddddedoeaaChecked
import GoSem.Claim
import GoSem.ClaimJoined
import GoSem.ClaimMapViews
import Derived.JoinedTies
import Derived.KernelRfl
namespace Go.Proofs.Ytojklddddedoeaa
/- THE CELL 'sum', in the pinned program and in every row, IS THE sha256 OF THE DUMP (.gsa) THAT YtojklddddedoeaaProg.lean LOADS. Nothing in Lean hashes anything: it is a label: what it is worth is what the hold of that sum in a sandbox is worth. -/
noncomputable def Try.pinned : Pinned := { name := "ytojklddddedoeaa", sum := "544faaf94d9d52a005527207a3044d221d158e66438dbac76fdd04b3b8f88416", checked := Try.checked }
namespace Rows
def none {H : Type} : Left H := { results := [], args := [] }

/-- 'laws.FnMonotonePlans': WHATEVER THE INPUT: true; the input reads as it did. -/
def fnMonotonePlansSpec : ChangeSpec := { name := "fnMonotonePlans", fn := fun _ => fun
  | [d1, d2] => { results := [.lit (.bool true)], args := [d1, d2] }
  | _ => none }
def fnMonotonePlansRow : OpenClaim := { program := "ytojklddddedoeaa", sum := "544faaf94d9d52a005527207a3044d221d158e66438dbac76fdd04b3b8f88416", func := "loop.example/g01113/laws.FnMonotonePlans", spec := "fnMonotonePlans", unfollowed := true, recurses := true, apart := false }
def FnMonotonePlansSaid : Prop := fnMonotonePlansRow.holds Try.pinned (OpenSpec.ofChange fnMonotonePlansSpec)

/-- ITS FALSE NEIGHBOUR: 'it returns false'. Refute it at one input. -/
def fnMonotonePlansWrong : ChangeSpec := { name := "fnMonotonePlans", fn := fun _ => fun
  | [d1, d2] => { results := [.lit (.bool false)], args := [d1, d2] }
  | _ => none }
def FnMonotonePlansWrongFalsely : Prop := fnMonotonePlansRow.holds Try.pinned (OpenSpec.ofChange fnMonotonePlansWrong)

/-- 'laws.FnUncrossing': WHATEVER THE INPUT: true; the input reads as it did. -/
def fnUncrossingSpec : ChangeSpec := { name := "fnUncrossing", fn := fun _ => fun
  | [d1, d2] => { results := [.lit (.bool true)], args := [d1, d2] }
  | _ => none }
def fnUncrossingRow : OpenClaim := { program := "ytojklddddedoeaa", sum := "544faaf94d9d52a005527207a3044d221d158e66438dbac76fdd04b3b8f88416", func := "loop.example/g01113/laws.FnUncrossing", spec := "fnUncrossing", unfollowed := true, recurses := true, apart := false }
def FnUncrossingSaid : Prop := fnUncrossingRow.holds Try.pinned (OpenSpec.ofChange fnUncrossingSpec)

/-- ITS FALSE NEIGHBOUR: 'it returns false'. Refute it at one input. -/
def fnUncrossingWrong : ChangeSpec := { name := "fnUncrossing", fn := fun _ => fun
  | [d1, d2] => { results := [.lit (.bool false)], args := [d1, d2] }
  | _ => none }
def FnUncrossingWrongFalsely : Prop := fnUncrossingRow.holds Try.pinned (OpenSpec.ofChange fnUncrossingWrong)

/-- 'laws.FnGluedPlans': WHATEVER THE INPUT: true; the input reads as it did. -/
def fnGluedPlansSpec : ChangeSpec := { name := "fnGluedPlans", fn := fun _ => fun
  | [d1, d2] => { results := [.lit (.bool true)], args := [d1, d2] }
  | _ => none }
def fnGluedPlansRow : OpenClaim := { program := "ytojklddddedoeaa", sum := "544faaf94d9d52a005527207a3044d221d158e66438dbac76fdd04b3b8f88416", func := "loop.example/g01113/laws.FnGluedPlans", spec := "fnGluedPlans", unfollowed := true, recurses := true, apart := false }
def FnGluedPlansSaid : Prop := fnGluedPlansRow.holds Try.pinned (OpenSpec.ofChange fnGluedPlansSpec)

/-- ITS FALSE NEIGHBOUR: 'it returns false'. Refute it at one input. -/
def fnGluedPlansWrong : ChangeSpec := { name := "fnGluedPlans", fn := fun _ => fun
  | [d1, d2] => { results := [.lit (.bool false)], args := [d1, d2] }
  | _ => none }
def FnGluedPlansWrongFalsely : Prop := fnGluedPlansRow.holds Try.pinned (OpenSpec.ofChange fnGluedPlansWrong)

/-- 'laws.FnLoweringPlans': WHATEVER THE INPUT: true; the input reads as it did. -/
def fnLoweringPlansSpec : ChangeSpec := { name := "fnLoweringPlans", fn := fun _ => fun
  | [d1, d2] => { results := [.lit (.bool true)], args := [d1, d2] }
  | _ => none }
def fnLoweringPlansRow : OpenClaim := { program := "ytojklddddedoeaa", sum := "544faaf94d9d52a005527207a3044d221d158e66438dbac76fdd04b3b8f88416", func := "loop.example/g01113/laws.FnLoweringPlans", spec := "fnLoweringPlans", unfollowed := true, recurses := true, apart := false }
def FnLoweringPlansSaid : Prop := fnLoweringPlansRow.holds Try.pinned (OpenSpec.ofChange fnLoweringPlansSpec)

/-- ITS FALSE NEIGHBOUR: 'it returns false'. Refute it at one input. -/
def fnLoweringPlansWrong : ChangeSpec := { name := "fnLoweringPlans", fn := fun _ => fun
  | [d1, d2] => { results := [.lit (.bool false)], args := [d1, d2] }
  | _ => none }
def FnLoweringPlansWrongFalsely : Prop := fnLoweringPlansRow.holds Try.pinned (OpenSpec.ofChange fnLoweringPlansWrong)

/-- 'laws.FnMuirheadsOrder': WHATEVER THE INPUT: true; the input reads as it did. -/
def fnMuirheadsOrderSpec : ChangeSpec := { name := "fnMuirheadsOrder", fn := fun _ => fun
  | [d1, d2] => { results := [.lit (.bool true)], args := [d1, d2] }
  | _ => none }
def fnMuirheadsOrderRow : OpenClaim := { program := "ytojklddddedoeaa", sum := "544faaf94d9d52a005527207a3044d221d158e66438dbac76fdd04b3b8f88416", func := "loop.example/g01113/laws.FnMuirheadsOrder", spec := "fnMuirheadsOrder", unfollowed := true, recurses := true, apart := false }
def FnMuirheadsOrderSaid : Prop := fnMuirheadsOrderRow.holds Try.pinned (OpenSpec.ofChange fnMuirheadsOrderSpec)

/-- ITS FALSE NEIGHBOUR: 'it returns false'. Refute it at one input. -/
def fnMuirheadsOrderWrong : ChangeSpec := { name := "fnMuirheadsOrder", fn := fun _ => fun
  | [d1, d2] => { results := [.lit (.bool false)], args := [d1, d2] }
  | _ => none }
def FnMuirheadsOrderWrongFalsely : Prop := fnMuirheadsOrderRow.holds Try.pinned (OpenSpec.ofChange fnMuirheadsOrderWrong)

/-- 'laws.FnMeasures': WHATEVER THE INPUT: true; the input reads as it did. -/
def fnMeasuresSpec : ChangeSpec := { name := "fnMeasures", fn := fun _ => fun
  | [d1, d2] => { results := [.lit (.bool true)], args := [d1, d2] }
  | _ => none }
def fnMeasuresRow : OpenClaim := { program := "ytojklddddedoeaa", sum := "544faaf94d9d52a005527207a3044d221d158e66438dbac76fdd04b3b8f88416", func := "loop.example/g01113/laws.FnMeasures", spec := "fnMeasures", unfollowed := true, recurses := true, apart := false }
def FnMeasuresSaid : Prop := fnMeasuresRow.holds Try.pinned (OpenSpec.ofChange fnMeasuresSpec)

/-- ITS FALSE NEIGHBOUR: 'it returns false'. Refute it at one input. -/
def fnMeasuresWrong : ChangeSpec := { name := "fnMeasures", fn := fun _ => fun
  | [d1, d2] => { results := [.lit (.bool false)], args := [d1, d2] }
  | _ => none }
def FnMeasuresWrongFalsely : Prop := fnMeasuresRow.holds Try.pinned (OpenSpec.ofChange fnMeasuresWrong)

/-- 'laws.FnTop': WHATEVER THE INPUT: true; the input reads as it did. -/
def fnTopSpec : ChangeSpec := { name := "fnTop", fn := fun _ => fun
  | [d1, d2] => { results := [.lit (.bool true)], args := [d1, d2] }
  | _ => none }
def fnTopRow : OpenClaim := { program := "ytojklddddedoeaa", sum := "544faaf94d9d52a005527207a3044d221d158e66438dbac76fdd04b3b8f88416", func := "loop.example/g01113/laws.FnTop", spec := "fnTop", unfollowed := true, recurses := true, apart := false }
def FnTopSaid : Prop := fnTopRow.holds Try.pinned (OpenSpec.ofChange fnTopSpec)

/-- ITS FALSE NEIGHBOUR: 'it returns false'. Refute it at one input. -/
def fnTopWrong : ChangeSpec := { name := "fnTop", fn := fun _ => fun
  | [d1, d2] => { results := [.lit (.bool false)], args := [d1, d2] }
  | _ => none }
def FnTopWrongFalsely : Prop := fnTopRow.holds Try.pinned (OpenSpec.ofChange fnTopWrong)

/- THE SECOND FORM. 'bulk': how many values and letters a reading holds, each counted each time it is reached (what is shared counts as often as it is met; a slice's spare places count too). A statement '..UptoSaid' is the law's where the arguments, and the package variables that the reading takes, are together of bulk at most 1048576: NARROWER than '..Said'. Prove '..Said' where nothing that the law and all that it calls make is longer than what came in: it says more and counts as full. Else prove '..UptoSaid'. A law counts once. -/
mutual
def uptoBulk {H : Type} : DataW H → Nat
  | .lit (.string bytes) => bytes.length + 1
  | .lit _ => 1
  | .nil => 1
  | .ptr d => uptoBulk d + 1
  | .slice elems spare => uptoBulkAll elems + uptoBulkAll spare + 1
  | .agg parts => uptoBulkAll parts + 1
  | .iface _ d => uptoBulk d + 1
  | .map entries => uptoBulkEntries entries + 1
  | .held _ => 1
def uptoBulkAll {H : Type} : List (DataW H) → Nat
  | [] => 0
  | d :: r => uptoBulk d + uptoBulkAll r
def uptoBulkEntries {H : Type} : List (Lit × DataW H) → Nat
  | [] => 0
  | x :: r => uptoBulkEntry x + uptoBulkEntries r
def uptoBulkEntry {H : Type} : Lit × DataW H → Nat
  | (.string bytes, d) => bytes.length + uptoBulk d + 1
  | (_, d) => uptoBulk d + 1
 end
def uptoSmall : (H : Type) → List (DataW H) → Bool := fun _ ds => decide (uptoBulkAll ds ≤ 1048576)
def OpenSpec.upto (s : _root_.Go.ChangeSpec) : _root_.Go.OpenSpec := { _root_.Go.OpenSpec.ofChange s with cond := some uptoSmall }

/-- 'laws.FnMonotonePlans', WHERE WHAT IT READS IS OF BULK AT MOST 1048576: true; the input reads as it did. -/
def fnMonotonePlansUptoRow : OpenClaim := { program := "ytojklddddedoeaa", sum := "544faaf94d9d52a005527207a3044d221d158e66438dbac76fdd04b3b8f88416", func := "loop.example/g01113/laws.FnMonotonePlans", spec := "fnMonotonePlans", unfollowed := true, recurses := true, apart := false, narrowed := true }
def FnMonotonePlansUptoSaid : Prop := fnMonotonePlansUptoRow.holds Try.pinned (OpenSpec.upto fnMonotonePlansSpec)

/-- 'laws.FnUncrossing', WHERE WHAT IT READS IS OF BULK AT MOST 1048576: true; the input reads as it did. -/
def fnUncrossingUptoRow : OpenClaim := { program := "ytojklddddedoeaa", sum := "544faaf94d9d52a005527207a3044d221d158e66438dbac76fdd04b3b8f88416", func := "loop.example/g01113/laws.FnUncrossing", spec := "fnUncrossing", unfollowed := true, recurses := true, apart := false, narrowed := true }
def FnUncrossingUptoSaid : Prop := fnUncrossingUptoRow.holds Try.pinned (OpenSpec.upto fnUncrossingSpec)

/-- 'laws.FnGluedPlans', WHERE WHAT IT READS IS OF BULK AT MOST 1048576: true; the input reads as it did. -/
def fnGluedPlansUptoRow : OpenClaim := { program := "ytojklddddedoeaa", sum := "544faaf94d9d52a005527207a3044d221d158e66438dbac76fdd04b3b8f88416", func := "loop.example/g01113/laws.FnGluedPlans", spec := "fnGluedPlans", unfollowed := true, recurses := true, apart := false, narrowed := true }
def FnGluedPlansUptoSaid : Prop := fnGluedPlansUptoRow.holds Try.pinned (OpenSpec.upto fnGluedPlansSpec)

/-- 'laws.FnLoweringPlans', WHERE WHAT IT READS IS OF BULK AT MOST 1048576: true; the input reads as it did. -/
def fnLoweringPlansUptoRow : OpenClaim := { program := "ytojklddddedoeaa", sum := "544faaf94d9d52a005527207a3044d221d158e66438dbac76fdd04b3b8f88416", func := "loop.example/g01113/laws.FnLoweringPlans", spec := "fnLoweringPlans", unfollowed := true, recurses := true, apart := false, narrowed := true }
def FnLoweringPlansUptoSaid : Prop := fnLoweringPlansUptoRow.holds Try.pinned (OpenSpec.upto fnLoweringPlansSpec)

/-- 'laws.FnMuirheadsOrder', WHERE WHAT IT READS IS OF BULK AT MOST 1048576: true; the input reads as it did. -/
def fnMuirheadsOrderUptoRow : OpenClaim := { program := "ytojklddddedoeaa", sum := "544faaf94d9d52a005527207a3044d221d158e66438dbac76fdd04b3b8f88416", func := "loop.example/g01113/laws.FnMuirheadsOrder", spec := "fnMuirheadsOrder", unfollowed := true, recurses := true, apart := false, narrowed := true }
def FnMuirheadsOrderUptoSaid : Prop := fnMuirheadsOrderUptoRow.holds Try.pinned (OpenSpec.upto fnMuirheadsOrderSpec)

/-- 'laws.FnMeasures', WHERE WHAT IT READS IS OF BULK AT MOST 1048576: true; the input reads as it did. -/
def fnMeasuresUptoRow : OpenClaim := { program := "ytojklddddedoeaa", sum := "544faaf94d9d52a005527207a3044d221d158e66438dbac76fdd04b3b8f88416", func := "loop.example/g01113/laws.FnMeasures", spec := "fnMeasures", unfollowed := true, recurses := true, apart := false, narrowed := true }
def FnMeasuresUptoSaid : Prop := fnMeasuresUptoRow.holds Try.pinned (OpenSpec.upto fnMeasuresSpec)

/-- 'laws.FnTop', WHERE WHAT IT READS IS OF BULK AT MOST 1048576: true; the input reads as it did. -/
def fnTopUptoRow : OpenClaim := { program := "ytojklddddedoeaa", sum := "544faaf94d9d52a005527207a3044d221d158e66438dbac76fdd04b3b8f88416", func := "loop.example/g01113/laws.FnTop", spec := "fnTop", unfollowed := true, recurses := true, apart := false, narrowed := true }
def FnTopUptoSaid : Prop := fnTopUptoRow.holds Try.pinned (OpenSpec.upto fnTopSpec)

end Rows
end Go.Proofs.Ytojklddddedoeaa
