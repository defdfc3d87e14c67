/-
The plain law of FnExactInputsValid, proved in YtdhfdepnleioiaaDoorArrValid: the function that the walk prints returns true for every input.
-/
import Derived.Test.YtdhfdepnleioiaaDoorArrValid
namespace Go.Proofs.YtdhfdepnleioiaaDoor.Pure
open Go.Proofs.YtdhfdepnleioiaaDoor.PA
theorem FnExactInputsValid : laws_FnExactInputsValid.Pure := law_InputsValid
end Go.Proofs.YtdhfdepnleioiaaDoor.Pure
