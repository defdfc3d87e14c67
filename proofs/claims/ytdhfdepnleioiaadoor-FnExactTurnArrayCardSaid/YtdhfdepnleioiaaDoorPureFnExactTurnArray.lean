/-
The plain law of FnExactTurnArray, proved in YtdhfdepnleioiaaDoorArrTurn: the function that the walk prints returns true for every input.
-/
import Derived.Test.YtdhfdepnleioiaaDoorArrTurn
namespace Go.Proofs.YtdhfdepnleioiaaDoor.Pure
open Go.Proofs.YtdhfdepnleioiaaDoor.PA
theorem FnExactTurnArray : laws_FnExactTurnArray.Pure := law_TurnArray
end Go.Proofs.YtdhfdepnleioiaaDoor.Pure
