/- Words of the kit's print, those of them that this law uses. -/
import Derived.Test.YtclnfaclfplpmaaTFnConvexTablesTab
namespace Go.Proofs.YtclnfaclfplpmaaW.PrintLast
end Go.Proofs.YtclnfaclfplpmaaW.PrintLast
