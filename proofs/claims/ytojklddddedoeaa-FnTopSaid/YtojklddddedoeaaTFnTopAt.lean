/- Words of the kit's print, those of them that this law uses. -/
import Derived.Test.YtojklddddedoeaaTFnTopFootNe
namespace Go.Proofs.YtojklddddedoeaaW.PrintWords
open Go.RowKit
namespace Kd
end Kd
end Go.Proofs.YtojklddddedoeaaW.PrintWords
