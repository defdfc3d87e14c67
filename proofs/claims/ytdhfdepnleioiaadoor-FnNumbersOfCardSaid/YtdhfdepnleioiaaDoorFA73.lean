/-
Printed by wip/tools/pp.py and pack.py: the printed walk of function 73 (strconv_Itoa): what it computes, and that a call of it in the model gives just that.
-/
import Derived.Test.YtdhfdepnleioiaaDoorFA0
import Derived.Lib.AppendIntMem
import Derived.Test.YtdhfdepnleioiaaDoorShelf
namespace Go.Proofs.YtdhfdepnleioiaaDoor.PA
open Go.RowKit Go.Proofs.YtdhfdepnleioiaaDoorW.PrintWords Go.Proofs.YtdhfdepnleioiaaDoorW.PrintLast Go.Proofs.YtdhfdepnleioiaaDoorW.PrintMore
attribute [local go_sem] max2_int min2_int max_two min_two max_three min_three max_four min_four   -- for this text's walks alone
set_option linter.unusedVariables false
set_option linter.unusedSimpArgs false
/-! ### strconv_Itoa: function 73 -/
/-- strconv.Itoa, told by the shelf's contract: the decimal numeral of an int. -/
def strconv_Itoa.f (a0 : Int) : Option (ByteArray) := if -9223372036854775808 ≤ a0 then (if a0 ≤ 9223372036854775807 then (some ⟨(Lib.itoa a0).toArray⟩) else none) else none
theorem strconv_Itoa.calls (a0 : Int) (r : ByteArray) (w : World) (hT : Tabs w) (h : strconv_Itoa.f a0 = some r) :
    Calls Tryd.prog 73 #[.int .i64 a0] w fun e w' => e = .returned (.string r) ∧ Below w.heap.size w w' := by
  unfold strconv_Itoa.f at h
  by_cases h0 : -9223372036854775808 ≤ a0
  · rw [if_pos h0] at h
    by_cases h1 : a0 ≤ 9223372036854775807
    · rw [if_pos h1] at h
      obtain rfl := Option.some.inj h
      refine (Tryd.strconv_Itoa a0 h0 h1 w hT.pow).mono ?_
      rintro e w' ⟨rfl, k, os, rfl⟩
      exact ⟨rfl, Lib.below_grow _ _ (Nat.le_refl _) _ _⟩
    · rw [if_neg h1] at h
      cases h
  · rw [if_neg h0] at h
    cases h
end Go.Proofs.YtdhfdepnleioiaaDoor.PA
