/-
The plain law of FnNumbers, proved in YtibjofpgbcbloaaDoorFmtDraw: the function that the walk prints returns true for every input.
-/
import Derived.Test.YtibjofpgbcbloaaDoorFmtDraw
namespace Go.Proofs.YtibjofpgbcbloaaDoor.Pure
open Go.Proofs.YtibjofpgbcbloaaDoor.PA
theorem FnNumbers : laws_FnNumbers.Pure := law_FnNumbers
end Go.Proofs.YtibjofpgbcbloaaDoor.Pure
