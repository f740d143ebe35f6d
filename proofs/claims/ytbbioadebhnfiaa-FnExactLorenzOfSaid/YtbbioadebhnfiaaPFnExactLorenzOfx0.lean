/- For each Go function that the law uses, a Lean function with the same answers and a proof that its call comes to them; the conditions stand in each theorem. (Written by a program of this session, turned from the print of the kit.) -/
import Derived.Test.YtbbioadebhnfiaaProg
import Derived.Below
import Derived.Deep.Draws
import Derived.Deep.AppendLies
import Derived.Maps.AppendAt
import Derived.OwnWalk
import Derived.Laws.BytesArg
import Derived.Laws.MakeOwn
import Derived.Laws.OwnMore
import Derived.Deep.OwnRows
import Derived.Tactics
import Derived.Lib.ConvBytes
import Derived.Laws.Slices
import Derived.WalkKit
import Derived.KernelRfl
import Derived.RowKit3
import Derived.Deep.LoopGhost
import Derived.Deep.QuietTactic
import Derived.BigQuiet
import Derived.WideLaws
import Derived.Deep.DeepCutAuto
import Derived.Deep.CutBlock
import Derived.Deep.RegionHeld3
import Derived.Laws.Rows
import Derived.Lib.AppendStr
import Derived.ArgAppend
import Derived.Laws.IdiomCopy
import Derived.OrdersHeld
import Derived.Laws.BitsLemmas
import Derived.RowKit
import Derived.LoopIn
import Derived.LoopNIn
import Derived.Maps.AppendAt
import Derived.OwnWalkIn
import Derived.RangeFuncBound
import Derived.RangeFuncBox
import Derived.RangeFuncCalls
import Derived.RangeFuncLeaves
import Derived.RangeFuncNested
import Derived.Shelf.Abstract
import Derived.Shelf.Slices.In.SortNone
import Derived.Shelf.Sort.Plain
import Derived.Sort.OwnSortedInts
import Derived.TacticsInMore
import Derived.WalkKit
import Derived.Test.YtbbioadebhnfiaaWWords
import Derived.Test.YtbbioadebhnfiaaWLast
import Derived.Test.YtbbioadebhnfiaaWTab
import Derived.Test.YtbbioadebhnfiaaWFour
import Derived.Test.YtbbioadebhnfiaaWQPut
import Derived.Test.YtbbioadebhnfiaaWApart
import Derived.Test.YtbbioadebhnfiaaWArr
import Derived.Test.YtbbioadebhnfiaaWZeros
import Derived.Test.YtbbioadebhnfiaaWFoot
import Derived.Test.YtbbioadebhnfiaaWKept
import Derived.Test.YtbbioadebhnfiaaWShare
import Derived.Test.YtbbioadebhnfiaaWN
import Derived.Test.YtbbioadebhnfiaaWFootNe
import Derived.Test.YtbbioadebhnfiaaWAt
import Derived.Test.YtbbioadebhnfiaaWEqStruct
import Derived.Test.YtbbioadebhnfiaaWRepsOne
import Derived.Test.YtbbioadebhnfiaaWInv
import Derived.Test.YtbbioadebhnfiaaWInvWords
import Derived.Test.YtbbioadebhnfiaaWGuard
import Derived.Test.YtbbioadebhnfiaaWNEv
import Derived.Test.YtbbioadebhnfiaaWMore
namespace Go.Proofs.Ytbbioadebhnfiaa.PFnExactLorenzOf
open Go.RowKit Go.Proofs.YtbbioadebhnfiaaW.PrintWords Go.Proofs.YtbbioadebhnfiaaW.PrintLast Go.Proofs.YtbbioadebhnfiaaW.PrintMore
attribute [local go_sem] max2_int min2_int max_two min_two max_three min_three max_four min_four   -- for this text's walks alone
set_option linter.unusedVariables false
set_option linter.unusedSimpArgs false



def errW : Option Int → Value
  | none => .nilIface
  | some c => .iface 0 (.int .i64 c)
theorem errW_none : errW none = .nilIface := rfl
theorem errW_some (c : Int) : errW (some c) = .iface 0 (.int .i64 c) := rfl

theorem info3 : (Try.prog.info? 3).map (fun i => (i.zero, i.size, i.bytes)) = some (some (.int .i64 0), 1, 8) := by kernel_rfl
-- the values' own types

end Go.Proofs.Ytbbioadebhnfiaa.PFnExactLorenzOf
