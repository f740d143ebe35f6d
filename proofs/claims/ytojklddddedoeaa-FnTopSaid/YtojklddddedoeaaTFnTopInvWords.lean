/- Words of the kit's print, those of them that this law uses. -/
import Derived.Test.YtojklddddedoeaaTFnTopInv
import Derived.Test.YtojklddddedoeaaTFnTopFootNe
namespace Go.Proofs.YtojklddddedoeaaW.PrintWords
open Go.RowKit
end Go.Proofs.YtojklddddedoeaaW.PrintWords
namespace Go.Proofs.YtojklddddedoeaaW.PrintLast
end Go.Proofs.YtojklddddedoeaaW.PrintLast
