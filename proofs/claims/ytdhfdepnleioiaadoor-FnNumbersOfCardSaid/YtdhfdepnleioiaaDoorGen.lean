/-
Reading a list of numbers at a place, beside the laws on texts of arrays.
-/
import Derived.Test.YtdhfdepnleioiaaDoorArrText
namespace Go.Proofs.YtdhfdepnleioiaaDoor.PA
open Go Go.RowKit Go.Proofs.YtdhfdepnleioiaaDoorW.PrintWords

theorem rd_get (l : List Int) (i : Nat) (h : i < l.length) : rd l (i : Int) = l[i] := by
  unfold rd
  simp [List.getD_eq_getElem?_getD, h]
end Go.Proofs.YtdhfdepnleioiaaDoor.PA
