/- Words of the kit's print, those of them that this law uses. -/
import Derived.Test.YtojklddddedoeaaTFnTopTab
namespace Go.Proofs.YtojklddddedoeaaW.PrintLast
end Go.Proofs.YtojklddddedoeaaW.PrintLast
