/-
The plain law of FnExactFormatNumbers, proved in YtibjofpgbcbloaaDoorFmtLaw: the function that the walk prints returns true for every input.
-/
import Derived.Test.YtibjofpgbcbloaaDoorFmtLaw
namespace Go.Proofs.YtibjofpgbcbloaaDoor.Pure
open Go.Proofs.YtibjofpgbcbloaaDoor.PA
theorem FnExactFormatNumbers : laws_FnExactFormatNumbers.Pure := law_FormatNumbers
end Go.Proofs.YtibjofpgbcbloaaDoor.Pure
