/- Words of the kit's print, those of them that this law uses. -/
import Derived.Test.YtojklddddedoeaaTFnTopWords
import Derived.Laws.StructEq
namespace Go.Proofs.YtojklddddedoeaaW.PrintWords
open Go.RowKit
end Go.Proofs.YtojklddddedoeaaW.PrintWords
