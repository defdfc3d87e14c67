/-
The plain law of FnExactJoinArrays, proved in YtdhfdepnleioiaaDoorArrJoin: the function that the walk prints returns true for every input.
-/
import Derived.Test.YtdhfdepnleioiaaDoorArrJoin
namespace Go.Proofs.YtdhfdepnleioiaaDoor.Pure
open Go.Proofs.YtdhfdepnleioiaaDoor.PA
theorem FnExactJoinArrays : laws_FnExactJoinArrays.Pure := law_JoinArrays
end Go.Proofs.YtdhfdepnleioiaaDoor.Pure
