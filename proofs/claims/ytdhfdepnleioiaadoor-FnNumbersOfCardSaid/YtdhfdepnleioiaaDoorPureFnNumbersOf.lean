/-
The plain law of FnNumbersOf, proved in YtdhfdepnleioiaaDoorArrNumDraw: the function that the walk prints returns true for every input.
-/
import Derived.Test.YtdhfdepnleioiaaDoorArrNumDraw
namespace Go.Proofs.YtdhfdepnleioiaaDoor.Pure
open Go.Proofs.YtdhfdepnleioiaaDoor.PA
theorem FnNumbersOf : laws_FnNumbersOf.Pure := law_FnNumbersOf
end Go.Proofs.YtdhfdepnleioiaaDoor.Pure
