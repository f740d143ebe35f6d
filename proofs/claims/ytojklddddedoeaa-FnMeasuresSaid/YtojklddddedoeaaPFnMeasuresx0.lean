/- For each Go function that the law uses, a Lean function with the same answers and a proof that its call comes to them; the conditions stand in each theorem. (Written by a program of this session, turned from the print of the kit.) -/
import Derived.Test.YtojklddddedoeaaProg
import Derived.Below
import Derived.Deep.Draws
import Derived.Deep.AppendLies
import Derived.Maps.AppendAt
import Derived.OwnWalk
import Derived.Laws.BytesArg
import Derived.Laws.MakeOwn
import Derived.Laws.OwnMore
import Derived.Deep.OwnRows
import Derived.Tactics
import Derived.Lib.ConvBytes
import Derived.Laws.Slices
import Derived.WalkKit
import Derived.KernelRfl
import Derived.RowKit3
import Derived.Deep.LoopGhost
import Derived.Deep.QuietTactic
import Derived.BigQuiet
import Derived.WideLaws
import Derived.Deep.DeepCutAuto
import Derived.Deep.CutBlock
import Derived.Deep.RegionHeld3
import Derived.Laws.Rows
import Derived.Lib.AppendStr
import Derived.ArgAppend
import Derived.Laws.IdiomCopy
import Derived.OrdersHeld
import Derived.Laws.BitsLemmas
import Derived.RowKit
import Derived.Test.YtojklddddedoeaaTFnMeasuresWords
import Derived.Test.YtojklddddedoeaaTFnMeasuresLast
import Derived.Test.YtojklddddedoeaaTFnMeasuresTab
import Derived.Test.YtojklddddedoeaaTFnMeasuresFour
import Derived.Test.YtojklddddedoeaaTFnMeasuresQPut
import Derived.Test.YtojklddddedoeaaTFnMeasuresApart
import Derived.Test.YtojklddddedoeaaTFnMeasuresArr
import Derived.Test.YtojklddddedoeaaTFnMeasuresZeros
import Derived.Test.YtojklddddedoeaaTFnMeasuresFoot
import Derived.Test.YtojklddddedoeaaTFnMeasuresKept
import Derived.Test.YtojklddddedoeaaTFnMeasuresShare
import Derived.Test.YtojklddddedoeaaTFnMeasuresN
import Derived.Test.YtojklddddedoeaaTFnMeasuresFootNe
import Derived.Test.YtojklddddedoeaaTFnMeasuresAt
import Derived.Test.YtojklddddedoeaaTFnMeasuresEqStruct
import Derived.Test.YtojklddddedoeaaTFnMeasuresRepsOne
import Derived.Test.YtojklddddedoeaaTFnMeasuresInv
import Derived.Test.YtojklddddedoeaaTFnMeasuresInvWords
import Derived.Test.YtojklddddedoeaaTFnMeasuresGuard
import Derived.Test.YtojklddddedoeaaTFnMeasuresNEv
import Derived.Test.YtojklddddedoeaaTFnMeasuresMore
namespace Go.Proofs.Ytojklddddedoeaa.PFnMeasures
open Go.RowKit Go.Proofs.YtojklddddedoeaaW.PrintWords Go.Proofs.YtojklddddedoeaaW.PrintLast Go.Proofs.YtojklddddedoeaaW.PrintMore
attribute [local go_sem] max2_int min2_int max_two min_two max_three min_three max_four min_four   -- for this text's walks alone
set_option linter.unusedVariables false
set_option linter.unusedSimpArgs false



def errW : Option Int → Value
 | none => .nilIface
 | some c => .iface 0 (.int .i64 c)
theorem errW_none : errW none = .nilIface := rfl
theorem errW_some (c : Int) : errW (some c) = .iface 0 (.int .i64 c) := rfl

theorem info3 : (Try.prog.info? 3).map (fun i => (i.zero, i.size, i.bytes)) = some (some (.int .i64 0), 1, 8) := by kernel_rfl
-- the values' own types

end Go.Proofs.Ytojklddddedoeaa.PFnMeasures
-- SLIM
