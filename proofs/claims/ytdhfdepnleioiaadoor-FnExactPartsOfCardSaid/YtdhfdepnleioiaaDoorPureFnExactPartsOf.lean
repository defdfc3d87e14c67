/-
The plain law of FnExactPartsOf, proved in YtdhfdepnleioiaaDoorArrParts: the function that the walk prints returns true for every input.
-/
import Derived.Test.YtdhfdepnleioiaaDoorArrParts
namespace Go.Proofs.YtdhfdepnleioiaaDoor.Pure
open Go.Proofs.YtdhfdepnleioiaaDoor.PA
theorem FnExactPartsOf : laws_FnExactPartsOf.Pure := law_PartsOf
end Go.Proofs.YtdhfdepnleioiaaDoor.Pure
