/-
The plain law of FnExactArrayValid, proved in YtdhfdepnleioiaaDoorArrValid: the function that the walk prints returns true for every input.
-/
import Derived.Test.YtdhfdepnleioiaaDoorArrValid
namespace Go.Proofs.YtdhfdepnleioiaaDoor.Pure
open Go.Proofs.YtdhfdepnleioiaaDoor.PA
theorem FnExactArrayValid : laws_FnExactArrayValid.Pure := law_ArrayValid
end Go.Proofs.YtdhfdepnleioiaaDoor.Pure
