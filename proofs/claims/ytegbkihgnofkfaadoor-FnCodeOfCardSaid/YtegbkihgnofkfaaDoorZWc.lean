/-
Texts Wc to Wc of the work.
-/
import Derived.Test.YtegbkihgnofkfaaDoorZWb
import Derived.Test.YtegbkihgnofkfaaDoorZWq
/-
Terms: the depth of what they give: the implementation, signs with two parts, digits, terms.
-/
namespace Go.Proofs.YtegbkihgnofkfaaDoor.Ev
section
set_option linter.unusedVariables false
set_option linter.unusedSimpArgs false
open Go Go.RowKit
set_option linter.unusedVariables false
set_option linter.unusedSimpArgs false
set_option maxHeartbeats 4000000 in
theorem signTwo_ev (s : UInt8) (hs : isTwo s = true) (d e : Int) : EE 89 [S [s], .s false 2 [N d, N e]] = some (N (sTwo s d e)) := by
  refine EE_plain T_signDepth (by decide) (Nat.le_of_ble_eq_true rfl) rfl ?_
  rw [show opt 89 = [] from rfl]
  simp only [bodyOf, Tryd.f89, SA]
  by_cases h0 : d < 0
  · have hr : sTwo s d e = -1 := by
      unfold sTwo
      repeat' split
      all_goals omega
    simp only [hr, h0, TMA, RR, IA, PA, RA0, RA1, RA2, RA3, RA4, RA5, RA6, RA7, RA8, RA9, RA10, Nat.reduceAdd, Nat.reduceMul, Nat.reduceEqDiff, Nat.reduceLeDiff, Nat.reduceLT, Int.reduceToNat, Int.reduceLT, Int.reduceLE, Int.reduceEq, Int.reduceNeg, Int.reduceAdd, Int.reduceSub, Int.reduceMul, reduceIte]
  by_cases he : e = 0
  case neg =>
    have hr : sTwo s d e = -1 := by
      unfold sTwo
      repeat' split
      all_goals omega
    simp only [hr, h0, he, TMA, RR, IA, PA, RA0, RA1, RA2, RA3, RA4, RA5, RA6, RA7, RA8, RA9, RA10, Nat.reduceAdd, Nat.reduceMul, Nat.reduceEqDiff, Nat.reduceLeDiff, Nat.reduceLT, Int.reduceToNat, Int.reduceLT, Int.reduceLE, Int.reduceEq, Int.reduceNeg, Int.reduceAdd, Int.reduceSub, Int.reduceMul, reduceIte]
  subst he
  by_cases h64 : s = 64
  · subst h64
    have hco : EE 86 [S [43, 42, 94, 45, 61, 60], S [64]] = some (B false) := contains_ev [43, 42, 94, 45, 61, 60] 64
    by_cases h1 : d = 1 <;> simp only [h0, h1, hco, sTwo, and_true, and_false, true_and, false_and, TMA, RR, IA, PA, RA0, RA1, RA2, RA3, RA4, RA5, RA6, RA7, RA8, RA9, RA10, Nat.reduceAdd, Nat.reduceMul, Nat.reduceEqDiff, Nat.reduceLeDiff, Nat.reduceLT, Int.reduceToNat, Int.reduceLT, Int.reduceLE, Int.reduceEq, Int.reduceNeg, Int.reduceAdd, Int.reduceSub, Int.reduceMul, reduceIte]
  · have hco : EE 86 [S [43, 42, 94, 45, 61, 60], S [s]] = some (B true) := by
      have h2 : s = 43 ∨ s = 42 ∨ s = 94 ∨ s = 45 ∨ s = 61 ∨ s = 60 ∨ s = 64 := by simpa [isTwo] using hs
      have := contains_ev [43, 42, 94, 45, 61, 60] s
      rw [this]
      rcases h2 with rfl | rfl | rfl | rfl | rfl | rfl | rfl <;> first | rfl | exact absurd rfl h64
    by_cases h1 : d = 0 <;> simp only [h0, h1, hco, h64, sTwo, and_true, and_false, true_and, false_and, TMA, RR, IA, PA, RA0, RA1, RA2, RA3, RA4, RA5, RA6, RA7, RA8, RA9, RA10, Nat.reduceAdd, Nat.reduceMul, Nat.reduceEqDiff, Nat.reduceLeDiff, Nat.reduceLT, Int.reduceToNat, Int.reduceLT, Int.reduceLE, Int.reduceEq, Int.reduceNeg, Int.reduceAdd, Int.reduceSub, Int.reduceMul, reduceIte]
end
end Go.Proofs.YtegbkihgnofkfaaDoor.Ev
