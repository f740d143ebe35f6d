/-
  No cell of these rows narrows 'for every input' (looked for: loops, veiled, ifaces, maps, wideKeys, modest, calm, conditions, laid).
  DERIVED. THE GIVEN ROWS OF THIS SEAT. 5 by the template 'for every input the law returns true; each argument reads behind the call as it read before'; 0 by the template 'total and deterministic' (their statements: YtbbioadebhnfiaaTotals.lean).
  GIVEN WITH THE SEED: the statements are not yours to turn. If you find one false, say at which input.
  Laid BY PROGRAM, IN A SANDBOX (cutbox-rows.mjs): the forced cells as the released guide's own fill.sh prints them over the translation dcf43ac55c1b9d3a… (all of the seat's roots in one cut). By AI agents, Wed Nov 11 2026. No macro, syntax, notation, axiom, sorry.
-/
import Derived.Test.YtbbioadebhnfiaaChecked
import GoSem.Claim
import GoSem.ClaimJoined
import GoSem.ClaimMapViews
import Derived.JoinedTies
import Derived.KernelRfl
namespace Go.Proofs.Ytbbioadebhnfiaa
/- THE CELL 'sum', in the pinned program and in every row, IS THE sha256 OF THE DUMP (.gsa) THAT YtbbioadebhnfiaaProg.lean LOADS. Nothing in Lean hashes anything: it is a label: what it is worth is what the hold of that sum in a sandbox is worth. -/
noncomputable def Try.pinned : Pinned := { name := "ytbbioadebhnfiaa", sum := "dcf43ac55c1b9d3a719280e17f38b0a492b26995636c857f74c4340e094c2ce1", checked := Try.checked }
namespace Rows
def none {H : Type} : Left H := { results := [], args := [] }

/-- 'laws.FnNewtonsSums': WHATEVER THE INPUT: true; the input reads as it did. -/
def fnNewtonsSumsSpec : ChangeSpec := { name := "fnNewtonsSums", fn := fun _ => fun
  | [d1, d2] => { results := [.lit (.bool true)], args := [d1, d2] }
  | _ => none }
def fnNewtonsSumsRow : OpenClaim := { program := "ytbbioadebhnfiaa", sum := "dcf43ac55c1b9d3a719280e17f38b0a492b26995636c857f74c4340e094c2ce1", func := "loop.example/g01113/laws.FnNewtonsSums", spec := "fnNewtonsSums", recurses := true, apart := false }
def FnNewtonsSumsSaid : Prop := fnNewtonsSumsRow.holds Try.pinned (OpenSpec.ofChange fnNewtonsSumsSpec)

/-- ITS FALSE NEIGHBOUR: 'it returns false'. Refute it at one input. -/
def fnNewtonsSumsWrong : ChangeSpec := { name := "fnNewtonsSums", fn := fun _ => fun
  | [d1, d2] => { results := [.lit (.bool false)], args := [d1, d2] }
  | _ => none }
def FnNewtonsSumsWrongFalsely : Prop := fnNewtonsSumsRow.holds Try.pinned (OpenSpec.ofChange fnNewtonsSumsWrong)

/-- 'laws.FnExactGiftEffects': WHATEVER THE INPUT: true; the input reads as it did. -/
def fnExactGiftEffectsSpec : ChangeSpec := { name := "fnExactGiftEffects", fn := fun _ => fun
  | [d1, d2, d3] => { results := [.lit (.bool true)], args := [d1, d2, d3] }
  | _ => none }
def fnExactGiftEffectsRow : OpenClaim := { program := "ytbbioadebhnfiaa", sum := "dcf43ac55c1b9d3a719280e17f38b0a492b26995636c857f74c4340e094c2ce1", func := "loop.example/g01113/laws.FnExactGiftEffects", spec := "fnExactGiftEffects", apart := false }
def FnExactGiftEffectsSaid : Prop := fnExactGiftEffectsRow.holds Try.pinned (OpenSpec.ofChange fnExactGiftEffectsSpec)

/-- ITS FALSE NEIGHBOUR: 'it returns false'. Refute it at one input. -/
def fnExactGiftEffectsWrong : ChangeSpec := { name := "fnExactGiftEffects", fn := fun _ => fun
  | [d1, d2, d3] => { results := [.lit (.bool false)], args := [d1, d2, d3] }
  | _ => none }
def FnExactGiftEffectsWrongFalsely : Prop := fnExactGiftEffectsRow.holds Try.pinned (OpenSpec.ofChange fnExactGiftEffectsWrong)

/-- 'laws.FnExactRefusingWeights': WHATEVER THE INPUT: true; the input reads as it did. -/
def fnExactRefusingWeightsSpec : ChangeSpec := { name := "fnExactRefusingWeights", fn := fun _ => fun
  | [d1, d2] => { results := [.lit (.bool true)], args := [d1, d2] }
  | _ => none }
def fnExactRefusingWeightsRow : OpenClaim := { program := "ytbbioadebhnfiaa", sum := "dcf43ac55c1b9d3a719280e17f38b0a492b26995636c857f74c4340e094c2ce1", func := "loop.example/g01113/laws.FnExactRefusingWeights", spec := "fnExactRefusingWeights", unfollowed := true, recurses := true, apart := false }
def FnExactRefusingWeightsSaid : Prop := fnExactRefusingWeightsRow.holds Try.pinned (OpenSpec.ofChange fnExactRefusingWeightsSpec)

/-- ITS FALSE NEIGHBOUR: 'it returns false'. Refute it at one input. -/
def fnExactRefusingWeightsWrong : ChangeSpec := { name := "fnExactRefusingWeights", fn := fun _ => fun
  | [d1, d2] => { results := [.lit (.bool false)], args := [d1, d2] }
  | _ => none }
def FnExactRefusingWeightsWrongFalsely : Prop := fnExactRefusingWeightsRow.holds Try.pinned (OpenSpec.ofChange fnExactRefusingWeightsWrong)

/-- 'laws.FnExactPoorestSum': WHATEVER THE INPUT: true; the input reads as it did. -/
def fnExactPoorestSumSpec : ChangeSpec := { name := "fnExactPoorestSum", fn := fun _ => fun
  | [d1, d2] => { results := [.lit (.bool true)], args := [d1, d2] }
  | _ => none }
def fnExactPoorestSumRow : OpenClaim := { program := "ytbbioadebhnfiaa", sum := "dcf43ac55c1b9d3a719280e17f38b0a492b26995636c857f74c4340e094c2ce1", func := "loop.example/g01113/laws.FnExactPoorestSum", spec := "fnExactPoorestSum", unfollowed := true, recurses := true, apart := false }
def FnExactPoorestSumSaid : Prop := fnExactPoorestSumRow.holds Try.pinned (OpenSpec.ofChange fnExactPoorestSumSpec)

/-- ITS FALSE NEIGHBOUR: 'it returns false'. Refute it at one input. -/
def fnExactPoorestSumWrong : ChangeSpec := { name := "fnExactPoorestSum", fn := fun _ => fun
  | [d1, d2] => { results := [.lit (.bool false)], args := [d1, d2] }
  | _ => none }
def FnExactPoorestSumWrongFalsely : Prop := fnExactPoorestSumRow.holds Try.pinned (OpenSpec.ofChange fnExactPoorestSumWrong)

/-- 'laws.FnExactLorenzOf': WHATEVER THE INPUT: true; the input reads as it did. -/
def fnExactLorenzOfSpec : ChangeSpec := { name := "fnExactLorenzOf", fn := fun _ => fun
  | [d] => { results := [.lit (.bool true)], args := [d] }
  | _ => none }
def fnExactLorenzOfRow : OpenClaim := { program := "ytbbioadebhnfiaa", sum := "dcf43ac55c1b9d3a719280e17f38b0a492b26995636c857f74c4340e094c2ce1", func := "loop.example/g01113/laws.FnExactLorenzOf", spec := "fnExactLorenzOf", unfollowed := true, recurses := true, apart := false }
def FnExactLorenzOfSaid : Prop := fnExactLorenzOfRow.holds Try.pinned (OpenSpec.ofChange fnExactLorenzOfSpec)

/-- ITS FALSE NEIGHBOUR: 'it returns false'. Refute it at one input. -/
def fnExactLorenzOfWrong : ChangeSpec := { name := "fnExactLorenzOf", fn := fun _ => fun
  | [d] => { results := [.lit (.bool false)], args := [d] }
  | _ => none }
def FnExactLorenzOfWrongFalsely : Prop := fnExactLorenzOfRow.holds Try.pinned (OpenSpec.ofChange fnExactLorenzOfWrong)

/- THE SECOND FORM. 'bulk': how many values and letters a reading holds, each counted each time it is reached (what is shared counts as often as it is met; a slice's spare places count too). A statement '..UptoSaid' is the law's where the arguments, and the package variables that the reading takes, are together of bulk at most 1048576: NARROWER than '..Said'. Prove '..Said' where nothing that the law and all that it calls make is longer than what came in: it says more and counts as full. Else prove '..UptoSaid'. A law counts once. -/
mutual
def uptoBulk {H : Type} : DataW H → Nat
  | .lit (.string bytes) => bytes.length + 1
  | .lit _ => 1
  | .nil => 1
  | .ptr d => uptoBulk d + 1
  | .slice elems spare => uptoBulkAll elems + uptoBulkAll spare + 1
  | .agg parts => uptoBulkAll parts + 1
  | .iface _ d => uptoBulk d + 1
  | .map entries => uptoBulkEntries entries + 1
  | .held _ => 1
def uptoBulkAll {H : Type} : List (DataW H) → Nat
  | [] => 0
  | d :: r => uptoBulk d + uptoBulkAll r
def uptoBulkEntries {H : Type} : List (Lit × DataW H) → Nat
  | [] => 0
  | x :: r => uptoBulkEntry x + uptoBulkEntries r
def uptoBulkEntry {H : Type} : Lit × DataW H → Nat
  | (.string bytes, d) => bytes.length + uptoBulk d + 1
  | (_, d) => uptoBulk d + 1
 end
def uptoSmall : (H : Type) → List (DataW H) → Bool := fun _ ds => decide (uptoBulkAll ds ≤ 1048576)
def OpenSpec.upto (s : _root_.Go.ChangeSpec) : _root_.Go.OpenSpec := { _root_.Go.OpenSpec.ofChange s with cond := some uptoSmall }

/-- 'laws.FnNewtonsSums', WHERE WHAT IT READS IS OF BULK AT MOST 1048576: true; the input reads as it did. -/
def fnNewtonsSumsUptoRow : OpenClaim := { program := "ytbbioadebhnfiaa", sum := "dcf43ac55c1b9d3a719280e17f38b0a492b26995636c857f74c4340e094c2ce1", func := "loop.example/g01113/laws.FnNewtonsSums", spec := "fnNewtonsSums", recurses := true, apart := false, narrowed := true }
def FnNewtonsSumsUptoSaid : Prop := fnNewtonsSumsUptoRow.holds Try.pinned (OpenSpec.upto fnNewtonsSumsSpec)

/-- 'laws.FnExactGiftEffects', WHERE WHAT IT READS IS OF BULK AT MOST 1048576: true; the input reads as it did. -/
def fnExactGiftEffectsUptoRow : OpenClaim := { program := "ytbbioadebhnfiaa", sum := "dcf43ac55c1b9d3a719280e17f38b0a492b26995636c857f74c4340e094c2ce1", func := "loop.example/g01113/laws.FnExactGiftEffects", spec := "fnExactGiftEffects", apart := false, narrowed := true }
def FnExactGiftEffectsUptoSaid : Prop := fnExactGiftEffectsUptoRow.holds Try.pinned (OpenSpec.upto fnExactGiftEffectsSpec)

/-- 'laws.FnExactRefusingWeights', WHERE WHAT IT READS IS OF BULK AT MOST 1048576: true; the input reads as it did. -/
def fnExactRefusingWeightsUptoRow : OpenClaim := { program := "ytbbioadebhnfiaa", sum := "dcf43ac55c1b9d3a719280e17f38b0a492b26995636c857f74c4340e094c2ce1", func := "loop.example/g01113/laws.FnExactRefusingWeights", spec := "fnExactRefusingWeights", unfollowed := true, recurses := true, apart := false, narrowed := true }
def FnExactRefusingWeightsUptoSaid : Prop := fnExactRefusingWeightsUptoRow.holds Try.pinned (OpenSpec.upto fnExactRefusingWeightsSpec)

/-- 'laws.FnExactPoorestSum', WHERE WHAT IT READS IS OF BULK AT MOST 1048576: true; the input reads as it did. -/
def fnExactPoorestSumUptoRow : OpenClaim := { program := "ytbbioadebhnfiaa", sum := "dcf43ac55c1b9d3a719280e17f38b0a492b26995636c857f74c4340e094c2ce1", func := "loop.example/g01113/laws.FnExactPoorestSum", spec := "fnExactPoorestSum", unfollowed := true, recurses := true, apart := false, narrowed := true }
def FnExactPoorestSumUptoSaid : Prop := fnExactPoorestSumUptoRow.holds Try.pinned (OpenSpec.upto fnExactPoorestSumSpec)

/-- 'laws.FnExactLorenzOf', WHERE WHAT IT READS IS OF BULK AT MOST 1048576: true; the input reads as it did. -/
def fnExactLorenzOfUptoRow : OpenClaim := { program := "ytbbioadebhnfiaa", sum := "dcf43ac55c1b9d3a719280e17f38b0a492b26995636c857f74c4340e094c2ce1", func := "loop.example/g01113/laws.FnExactLorenzOf", spec := "fnExactLorenzOf", unfollowed := true, recurses := true, apart := false, narrowed := true }
def FnExactLorenzOfUptoSaid : Prop := fnExactLorenzOfUptoRow.holds Try.pinned (OpenSpec.upto fnExactLorenzOfSpec)

end Rows
end Go.Proofs.Ytbbioadebhnfiaa
