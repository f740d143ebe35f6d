/- For each Go function that the law uses, a Lean function with the same answers and a proof that its call comes to them; the conditions stand in each theorem. (Written by a program of this session, turned from the print of the kit.) -/
import Derived.Test.YtclnfaclfplpmaaProg
import Derived.Below
import Derived.Deep.Draws
import Derived.Deep.AppendLies
import Derived.Maps.AppendAt
import Derived.OwnWalk
import Derived.Laws.BytesArg
import Derived.Laws.MakeOwn
import Derived.Laws.OwnMore
import Derived.Deep.OwnRows
import Derived.Tactics
import Derived.Lib.ConvBytes
import Derived.Laws.Slices
import Derived.WalkKit
import Derived.KernelRfl
import Derived.RowKit3
import Derived.Deep.LoopGhost
import Derived.Deep.QuietTactic
import Derived.BigQuiet
import Derived.WideLaws
import Derived.Deep.DeepCutAuto
import Derived.Deep.CutBlock
import Derived.Deep.RegionHeld3
import Derived.Laws.Rows
import Derived.Lib.AppendStr
import Derived.ArgAppend
import Derived.Laws.IdiomCopy
import Derived.OrdersHeld
import Derived.Laws.BitsLemmas
import Derived.RowKit
import Derived.Test.YtclnfaclfplpmaaTFnConvexTablesWords
import Derived.Test.YtclnfaclfplpmaaTFnConvexTablesLast
import Derived.Test.YtclnfaclfplpmaaTFnConvexTablesTab
import Derived.Test.YtclnfaclfplpmaaTFnConvexTablesFour
import Derived.Test.YtclnfaclfplpmaaTFnConvexTablesQPut
import Derived.Test.YtclnfaclfplpmaaTFnConvexTablesApart
import Derived.Test.YtclnfaclfplpmaaTFnConvexTablesArr
import Derived.Test.YtclnfaclfplpmaaTFnConvexTablesZeros
import Derived.Test.YtclnfaclfplpmaaTFnConvexTablesFoot
import Derived.Test.YtclnfaclfplpmaaTFnConvexTablesKept
import Derived.Test.YtclnfaclfplpmaaTFnConvexTablesShare
import Derived.Test.YtclnfaclfplpmaaTFnConvexTablesN
import Derived.Test.YtclnfaclfplpmaaTFnConvexTablesFootNe
import Derived.Test.YtclnfaclfplpmaaTFnConvexTablesAt
import Derived.Test.YtclnfaclfplpmaaTFnConvexTablesEqStruct
import Derived.Test.YtclnfaclfplpmaaTFnConvexTablesRepsOne
import Derived.Test.YtclnfaclfplpmaaTFnConvexTablesInv
import Derived.Test.YtclnfaclfplpmaaTFnConvexTablesInvWords
import Derived.Test.YtclnfaclfplpmaaTFnConvexTablesGuard
import Derived.Test.YtclnfaclfplpmaaTFnConvexTablesNEv
import Derived.Test.YtclnfaclfplpmaaTFnConvexTablesMore
namespace Go.Proofs.Ytclnfaclfplpmaa.PFnConvexTables
open Go.RowKit Go.Proofs.YtclnfaclfplpmaaW.PrintWords Go.Proofs.YtclnfaclfplpmaaW.PrintLast Go.Proofs.YtclnfaclfplpmaaW.PrintMore
attribute [local go_sem] max2_int min2_int max_two min_two max_three min_three max_four min_four   -- for this text's walks alone
set_option linter.unusedVariables false
set_option linter.unusedSimpArgs false



def errW : Option Int → Value
  | none => .nilIface
  | some c => .iface 0 (.int .i64 c)
theorem errW_none : errW none = .nilIface := rfl
theorem errW_some (c : Int) : errW (some c) = .iface 0 (.int .i64 c) := rfl

theorem info3 : (Try.prog.info? 3).map (fun i => (i.zero, i.size, i.bytes)) = some (some (.int .i64 0), 1, 8) := by kernel_rfl
-- the values' own types

end Go.Proofs.Ytclnfaclfplpmaa.PFnConvexTables
