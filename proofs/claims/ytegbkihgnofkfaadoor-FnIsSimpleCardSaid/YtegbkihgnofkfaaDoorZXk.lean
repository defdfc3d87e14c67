/-
Texts Xk to Xk of the work.
-/
import Derived.Test.YtegbkihgnofkfaaDoorZXh
/-
Simplifying: the implementation's rule for a sign with one part; the rule of any term.
-/
namespace Go.Proofs.YtegbkihgnofkfaaDoor.Ev
section
set_option linter.unusedVariables false
set_option linter.unusedSimpArgs false
open Go Go.RowKit
set_option linter.unusedVariables false
set_option linter.unusedSimpArgs false
set_option maxHeartbeats 8000000 in
theorem rule_one0 (ex : Bool) (s : UInt8) {a : AV} {x : T} (hp : IsP a x) (hw : WF (.one s x)) (h82 : ¬ sg x = 82) (h91 : ¬ sg x = 91) : ∃ r, EE 74 [.p [S [s], S [], .s ex 1 [a]]] = some r ∧ RuleR r (ruleT (.one s x)) := by
  have hrun : ∀ y, (evC II EE (withOpt [oBox 57, oReg 8] pf) MX (strip (bodyOf Tryd.f74)) (St.init [.p [S [s], S [], .s ex 1 [a]]])).bind (resK II Tryd.f74.results.toList) = some y → EE 74 [.p [S [s], S [], .s ex 1 [a]]] = some y := fun y h => EE_plain T_rule (by decide) (Nat.le_of_ble_eq_true rfl) (by simp only [closedL, closed, hp.closed, Bool.and_self]) (by rw [opt_rule]; exact h)
  have hco := contains_ev [83, 77, 78] s
  have hcc : ([83, 77, 78] : List UInt8).contains s = decide (s = 83 ∨ s = 77 ∨ s = 78) := by
    rw [Bool.eq_iff_iff]
    simp
  rw [hcc] at hco
  clear hcc
  have hc1 := hp.closed
  have pt1 := hp.ptr
  have hR : ruleT (.one s x) = none := by
    show oneM s x = none
    cases x with
    | one q z => rw [oneM, if_neg (show ¬ q = 82 from h82)]
    | loop q w A B => rw [oneM, if_neg (fun h => h91 (show sg (.loop q w A B) = 91 from h.1))]
    | _ => rfl
  rw [hR]
  obtain ⟨v1, e1, m1, c1, hf1⟩ := hp.form
  rw [hf1] at hc1 pt1 hrun ⊢
  simp only [closed] at hc1
  refine ⟨_, hrun _ ?_, rfl⟩
  have n7882 : ¬ ((78 : UInt8) = 82) := by decide
  by_cases s82 : s = 82
  · subst s82
    have n3 : ¬ ((82 : UInt8) = 83 ∨ (82 : UInt8) = 77 ∨ (82 : UInt8) = 78) := by decide
    have n8278 : ¬ ((82 : UInt8) = 78) := by decide
    rw [decide_eq_false n3] at hco
    simp only [bodyOf, Tryd.f74, SA]
    simp only [hco, hc1, pt1, isLoop, h82, h91, n3, n8278, TMA, RR, IA, PA, RA0, RA1, RA2, RA3, RA4, RA5, RA6, RA7, RA8, RA9, RA10, Nat.reduceAdd, Nat.reduceMul, Nat.reduceEqDiff, Nat.reduceLeDiff, Nat.reduceLT, Int.reduceToNat, Int.reduceLT, Int.reduceLE, Int.reduceEq, Int.reduceNeg, Int.reduceAdd, Int.reduceSub, Int.reduceMul, reduceIte]
  · by_cases s3 : s = 83 ∨ s = 77 ∨ s = 78
    · rw [decide_eq_true s3] at hco
      by_cases s78 : s = 78
      · subst s78
        clear s82 s3
        simp only [bodyOf, Tryd.f74, SA]
        simp only [hco, hc1, pt1, isLoop, h82, h91, n7882, TMA, RR, IA, PA, RA0, RA1, RA2, RA3, RA4, RA5, RA6, RA7, RA8, RA9, RA10, Nat.reduceAdd, Nat.reduceMul, Nat.reduceEqDiff, Nat.reduceLeDiff, Nat.reduceLT, Int.reduceToNat, Int.reduceLT, Int.reduceLE, Int.reduceEq, Int.reduceNeg, Int.reduceAdd, Int.reduceSub, Int.reduceMul, reduceIte]
      · simp only [bodyOf, Tryd.f74, SA]
        simp only [hco, hc1, pt1, isLoop, h82, h91, s82, s3, s78, n7882, TMA, RR, IA, PA, RA0, RA1, RA2, RA3, RA4, RA5, RA6, RA7, RA8, RA9, RA10, Nat.reduceAdd, Nat.reduceMul, Nat.reduceEqDiff, Nat.reduceLeDiff, Nat.reduceLT, Int.reduceToNat, Int.reduceLT, Int.reduceLE, Int.reduceEq, Int.reduceNeg, Int.reduceAdd, Int.reduceSub, Int.reduceMul, reduceIte]
    · rw [decide_eq_false s3] at hco
      have s78 : ¬ s = 78 := fun h => s3 (.inr (.inr h))
      simp only [bodyOf, Tryd.f74, SA]
      simp only [hco, hc1, pt1, isLoop, h82, h91, s82, s3, s78, n7882, TMA, RR, IA, PA, RA0, RA1, RA2, RA3, RA4, RA5, RA6, RA7, RA8, RA9, RA10, Nat.reduceAdd, Nat.reduceMul, Nat.reduceEqDiff, Nat.reduceLeDiff, Nat.reduceLT, Int.reduceToNat, Int.reduceLT, Int.reduceLE, Int.reduceEq, Int.reduceNeg, Int.reduceAdd, Int.reduceSub, Int.reduceMul, reduceIte]
end
end Go.Proofs.YtegbkihgnofkfaaDoor.Ev
