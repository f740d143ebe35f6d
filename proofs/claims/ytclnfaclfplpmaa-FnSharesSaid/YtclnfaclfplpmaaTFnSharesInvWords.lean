/- Words of the kit's print, those of them that this law uses. -/
import Derived.Test.YtclnfaclfplpmaaTFnSharesInv
import Derived.Test.YtclnfaclfplpmaaTFnSharesFootNe
namespace Go.Proofs.YtclnfaclfplpmaaW.PrintWords
open Go.RowKit
end Go.Proofs.YtclnfaclfplpmaaW.PrintWords
namespace Go.Proofs.YtclnfaclfplpmaaW.PrintLast
end Go.Proofs.YtclnfaclfplpmaaW.PrintLast
