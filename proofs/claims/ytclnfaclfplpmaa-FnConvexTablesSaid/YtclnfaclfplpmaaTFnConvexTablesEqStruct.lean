/- Words of the kit's print, those of them that this law uses. -/
import Derived.Test.YtclnfaclfplpmaaTFnConvexTablesWords
import Derived.Laws.StructEq
namespace Go.Proofs.YtclnfaclfplpmaaW.PrintWords
open Go.RowKit
end Go.Proofs.YtclnfaclfplpmaaW.PrintWords
