/-
The plain law of FnExactMakeArray, proved in YtdhfdepnleioiaaDoorArrMakeLaw: the function that the walk prints returns true for every input.
-/
import Derived.Test.YtdhfdepnleioiaaDoorArrMakeLaw
namespace Go.Proofs.YtdhfdepnleioiaaDoor.Pure
open Go.Proofs.YtdhfdepnleioiaaDoor.PA
theorem FnExactMakeArray : MakePure := law_MakeArray
end Go.Proofs.YtdhfdepnleioiaaDoor.Pure
