/-
The plain law of FnExactFlattenOnce, proved in YtdhfdepnleioiaaDoorArrFlat: the function that the walk prints returns true for every input.
-/
import Derived.Test.YtdhfdepnleioiaaDoorArrFlat
namespace Go.Proofs.YtdhfdepnleioiaaDoor.Pure
open Go.Proofs.YtdhfdepnleioiaaDoor.PA
theorem FnExactFlattenOnce : laws_FnExactFlattenOnce.Pure := law_FlattenOnce
end Go.Proofs.YtdhfdepnleioiaaDoor.Pure
