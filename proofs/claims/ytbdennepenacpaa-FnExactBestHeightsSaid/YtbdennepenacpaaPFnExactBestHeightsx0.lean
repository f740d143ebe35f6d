-- Written by a program of this session (the kit's print, turned).
import Derived.Test.YtbdennepenacpaaProg
import Derived.Below
import Derived.Deep.Draws
import Derived.Deep.AppendLies
import Derived.Maps.AppendAt
import Derived.OwnWalk
import Derived.Laws.BytesArg
import Derived.Laws.MakeOwn
import Derived.Laws.OwnMore
import Derived.Deep.OwnRows
import Derived.Tactics
import Derived.Lib.ConvBytes
import Derived.Laws.Slices
import Derived.WalkKit
import Derived.KernelRfl
import Derived.RowKit3
import Derived.Deep.LoopGhost
import Derived.Deep.QuietTactic
import Derived.BigQuiet
import Derived.WideLaws
import Derived.Deep.DeepCutAuto
import Derived.Deep.CutBlock
import Derived.Deep.RegionHeld3
import Derived.Laws.Rows
import Derived.Lib.AppendStr
import Derived.ArgAppend
import Derived.Laws.IdiomCopy
import Derived.OrdersHeld
import Derived.Laws.BitsLemmas
import Derived.RowKit
import Derived.Test.YtbdennepenacpaaWWords
import Derived.Test.YtbdennepenacpaaWLast
import Derived.Test.YtbdennepenacpaaWTab
import Derived.Test.YtbdennepenacpaaWFour
import Derived.Test.YtbdennepenacpaaWQPut
import Derived.Test.YtbdennepenacpaaWApart
import Derived.Test.YtbdennepenacpaaWArr
import Derived.Test.YtbdennepenacpaaWZeros
import Derived.Test.YtbdennepenacpaaWFoot
import Derived.Test.YtbdennepenacpaaWKept
import Derived.Test.YtbdennepenacpaaWShare
import Derived.Test.YtbdennepenacpaaWN
import Derived.Test.YtbdennepenacpaaWFootNe
import Derived.Test.YtbdennepenacpaaWAt
import Derived.Test.YtbdennepenacpaaWEqStruct
import Derived.Test.YtbdennepenacpaaWRepsOne
import Derived.Test.YtbdennepenacpaaWInv
import Derived.Test.YtbdennepenacpaaWInvWords
import Derived.Test.YtbdennepenacpaaWGuard
import Derived.Test.YtbdennepenacpaaWNEv
import Derived.Test.YtbdennepenacpaaWMore
namespace Go.Proofs.Ytbdennepenacpaa.PFnExactBestHeights
open Go.RowKit Go.Proofs.YtbdennepenacpaaW.PrintWords Go.Proofs.YtbdennepenacpaaW.PrintLast Go.Proofs.YtbdennepenacpaaW.PrintMore
attribute [local go_sem] max2_int min2_int max_two min_two max_three min_three max_four min_four   -- for this text's walks alone
set_option linter.unusedVariables false
set_option linter.unusedSimpArgs false



def errW : Option Int → Value
  | none => .nilIface
  | some c => .iface 0 (.int .i64 c)
theorem errW_none : errW none = .nilIface := rfl
theorem errW_some (c : Int) : errW (some c) = .iface 0 (.int .i64 c) := rfl

theorem info3 : (Try.prog.info? 3).map (fun i => (i.zero, i.size, i.bytes)) = some (some (.int .i64 0), 1, 8) := by kernel_rfl
-- the values' own types

end Go.Proofs.Ytbdennepenacpaa.PFnExactBestHeights
