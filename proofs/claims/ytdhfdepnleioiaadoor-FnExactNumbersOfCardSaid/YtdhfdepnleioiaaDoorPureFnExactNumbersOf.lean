/-
The plain law of FnExactNumbersOf, proved in YtdhfdepnleioiaaDoorArrNums: the function that the walk prints returns true for every input.
-/
import Derived.Test.YtdhfdepnleioiaaDoorArrNums
namespace Go.Proofs.YtdhfdepnleioiaaDoor.Pure
open Go.Proofs.YtdhfdepnleioiaaDoor.PA
theorem FnExactNumbersOf : laws_FnExactNumbersOf.Pure := law_NumbersOf
end Go.Proofs.YtdhfdepnleioiaaDoor.Pure
