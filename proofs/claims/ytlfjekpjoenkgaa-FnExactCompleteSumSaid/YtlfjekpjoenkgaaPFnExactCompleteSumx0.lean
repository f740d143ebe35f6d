-- Written by a program of this session (the kit's print, turned).
import Derived.Test.YtlfjekpjoenkgaaProg
import Derived.Below
import Derived.Deep.Draws
import Derived.Deep.AppendLies
import Derived.Maps.AppendAt
import Derived.OwnWalk
import Derived.Laws.BytesArg
import Derived.Laws.MakeOwn
import Derived.Laws.OwnMore
import Derived.Deep.OwnRows
import Derived.Tactics
import Derived.Lib.ConvBytes
import Derived.Laws.Slices
import Derived.WalkKit
import Derived.KernelRfl
import Derived.RowKit3
import Derived.Deep.LoopGhost
import Derived.Deep.QuietTactic
import Derived.BigQuiet
import Derived.WideLaws
import Derived.Deep.DeepCutAuto
import Derived.Deep.CutBlock
import Derived.Deep.RegionHeld3
import Derived.Laws.Rows
import Derived.Lib.AppendStr
import Derived.ArgAppend
import Derived.Laws.IdiomCopy
import Derived.OrdersHeld
import Derived.Laws.BitsLemmas
import Derived.RowKit
import Derived.Test.YtlfjekpjoenkgaaWWords
import Derived.Test.YtlfjekpjoenkgaaWLast
import Derived.Test.YtlfjekpjoenkgaaWTab
import Derived.Test.YtlfjekpjoenkgaaWFour
import Derived.Test.YtlfjekpjoenkgaaWQPut
import Derived.Test.YtlfjekpjoenkgaaWApart
import Derived.Test.YtlfjekpjoenkgaaWArr
import Derived.Test.YtlfjekpjoenkgaaWZeros
import Derived.Test.YtlfjekpjoenkgaaWFoot
import Derived.Test.YtlfjekpjoenkgaaWKept
import Derived.Test.YtlfjekpjoenkgaaWShare
import Derived.Test.YtlfjekpjoenkgaaWN
import Derived.Test.YtlfjekpjoenkgaaWFootNe
import Derived.Test.YtlfjekpjoenkgaaWAt
import Derived.Test.YtlfjekpjoenkgaaWEqStruct
import Derived.Test.YtlfjekpjoenkgaaWRepsOne
import Derived.Test.YtlfjekpjoenkgaaWInv
import Derived.Test.YtlfjekpjoenkgaaWInvWords
import Derived.Test.YtlfjekpjoenkgaaWGuard
import Derived.Test.YtlfjekpjoenkgaaWNEv
import Derived.Test.YtlfjekpjoenkgaaWMore
namespace Go.Proofs.Ytlfjekpjoenkgaa.PFnExactCompleteSum
open Go.RowKit Go.Proofs.YtlfjekpjoenkgaaW.PrintWords Go.Proofs.YtlfjekpjoenkgaaW.PrintLast Go.Proofs.YtlfjekpjoenkgaaW.PrintMore
attribute [local go_sem] max2_int min2_int max_two min_two max_three min_three max_four min_four   -- for this text's walks alone
set_option linter.unusedVariables false
set_option linter.unusedSimpArgs false



def errW : Option Int → Value
  | none => .nilIface
  | some c => .iface 0 (.int .i64 c)
theorem errW_none : errW none = .nilIface := rfl
theorem errW_some (c : Int) : errW (some c) = .iface 0 (.int .i64 c) := rfl

theorem info3 : (Try.prog.info? 3).map (fun i => (i.zero, i.size, i.bytes)) = some (some (.int .i64 0), 1, 8) := by kernel_rfl
-- the values' own types

end Go.Proofs.Ytlfjekpjoenkgaa.PFnExactCompleteSum
