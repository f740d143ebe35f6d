/- Words of the kit's print, those of them that this law uses. -/
import Derived.Test.YtclnfaclfplpmaaTFnGiftEffectsTab
namespace Go.Proofs.YtclnfaclfplpmaaW.PrintLast
def up (b : Nat → Bool) (i : Nat) : Nat → Bool := fun j => if j = i then true else b j
end Go.Proofs.YtclnfaclfplpmaaW.PrintLast
