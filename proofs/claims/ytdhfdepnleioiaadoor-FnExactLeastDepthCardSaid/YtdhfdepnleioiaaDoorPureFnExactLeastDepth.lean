/-
The plain law of FnExactLeastDepth, proved in YtdhfdepnleioiaaDoorArrValid: the function that the walk prints returns true for every input.
-/
import Derived.Test.YtdhfdepnleioiaaDoorArrValid
namespace Go.Proofs.YtdhfdepnleioiaaDoor.Pure
open Go.Proofs.YtdhfdepnleioiaaDoor.PA
theorem FnExactLeastDepth : laws_FnExactLeastDepth.Pure := law_LeastDepth
end Go.Proofs.YtdhfdepnleioiaaDoor.Pure
