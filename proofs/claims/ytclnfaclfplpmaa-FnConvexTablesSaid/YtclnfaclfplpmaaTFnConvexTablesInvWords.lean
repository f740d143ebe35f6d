/- Words of the kit's print, those of them that this law uses. -/
import Derived.Test.YtclnfaclfplpmaaTFnConvexTablesInv
import Derived.Test.YtclnfaclfplpmaaTFnConvexTablesFootNe
namespace Go.Proofs.YtclnfaclfplpmaaW.PrintWords
open Go.RowKit
end Go.Proofs.YtclnfaclfplpmaaW.PrintWords
namespace Go.Proofs.YtclnfaclfplpmaaW.PrintLast
end Go.Proofs.YtclnfaclfplpmaaW.PrintLast
