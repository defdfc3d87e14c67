/-
The plain law of FnExactLengthOf, proved in YtdhfdepnleioiaaDoorArrParts: the function that the walk prints returns true for every input.
-/
import Derived.Test.YtdhfdepnleioiaaDoorArrParts
namespace Go.Proofs.YtdhfdepnleioiaaDoor.Pure
open Go.Proofs.YtdhfdepnleioiaaDoor.PA
theorem FnExactLengthOf : laws_FnExactLengthOf.Pure := law_LengthOf
end Go.Proofs.YtdhfdepnleioiaaDoor.Pure
