/- Words of the kit's print, those of them that this law uses. -/
import Derived.Test.YtclnfaclfplpmaaTFnConvexTablesApart
import Derived.Test.YtclnfaclfplpmaaTFnConvexTablesArr
namespace Go.Proofs.YtclnfaclfplpmaaW.PrintWords
open Go.RowKit
namespace Kd
end Kd
end Go.Proofs.YtclnfaclfplpmaaW.PrintWords
