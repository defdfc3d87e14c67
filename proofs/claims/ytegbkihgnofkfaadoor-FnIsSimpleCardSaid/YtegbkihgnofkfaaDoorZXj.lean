/-
Texts Xj to Xj of the work.
-/
import Derived.Test.YtegbkihgnofkfaaDoorZXh
/-
Simplifying: the implementation's rule for a sign with one part; the rule of any term.
-/
namespace Go.Proofs.YtegbkihgnofkfaaDoor.Ev
section
set_option linter.unusedVariables false
set_option linter.unusedSimpArgs false
open Go Go.RowKit
set_option linter.unusedVariables false
set_option linter.unusedSimpArgs false
theorem cut_p1 (e : Bool) (a b : AV) : cut 1 (.s e 2 [a, b]) none (some (.v (.int .i64 1))) = some (.s false 1 [a]) := by cases e <;> rfl
set_option maxHeartbeats 8000000 in
theorem rule_one91 (ex : Bool) (s : UInt8) {a : AV} {x : T} (hp : IsP a x) (hw : WF (.one s x)) (h91 : sg x = 91) : ∃ r, EE 74 [.p [S [s], S [], .s ex 1 [a]]] = some r ∧ RuleR r (ruleT (.one s x)) := by
  have hrun : ∀ y, (evC II EE (withOpt [oBox 57, oReg 8] pf) MX (strip (bodyOf Tryd.f74)) (St.init [.p [S [s], S [], .s ex 1 [a]]])).bind (resK II Tryd.f74.results.toList) = some y → EE 74 [.p [S [s], S [], .s ex 1 [a]]] = some y := fun y h => EE_plain T_rule (by decide) (Nat.le_of_ble_eq_true rfl) (by simp only [closedL, closed, hp.closed, Bool.and_self]) (by rw [opt_rule]; exact h)
  have hco := contains_ev [83, 77, 78] s
  have hcc : ([83, 77, 78] : List UInt8).contains s = decide (s = 83 ∨ s = 77 ∨ s = 78) := by
    rw [Bool.eq_iff_iff]
    simp
  rw [hcc] at hco
  clear hcc
  have hc1 := hp.closed
  have pt1 := hp.ptr
  obtain ⟨w, A, B, rfl⟩ := sg_91 hw.2 h91
  have n82 : ¬ ((91 : UInt8) = 82) := by decide
  cases hp with
  | loop e2 _ _ ha hb =>
    rename_i a1 b1
    have ca := ha.closed
    have cb := hb.closed
    by_cases s78 : s = 78
    · subst s78
      rw [decide_eq_true (.inr (.inr rfl))] at hco
      have hR : ruleT (.one 78 (.loop 91 w A B)) = some (5, .one 78 A) := by
        simp only [ruleT, oneM, and_self, if_true]
      rw [hR]
      have hq : ∀ e, IsP (.p [S [78], S [], .s e 1 [a1]]) (.one 78 A) := fun e => .one e 78 ha
      have n7882 : ¬ ((78 : UInt8) = 82) := by decide
      have g5 : ∀ σ e, giveAll σ [.v (.int .i64 5), .p [S [78], S [], .s e 1 [a1]]] = some (.t [.v (.int .i64 5), .p [S [78], S [], .s e 1 [a1]]]) := fun σ e => give_two rfl (hq e).closed
      refine ⟨.t [N 5, .p [S [78], S [], .s false 1 [a1]]], hrun _ ?_, _, rfl, hq false⟩
      simp only [bodyOf, Tryd.f74, SA]
      simp only [hco, hc1, pt1, isLoop, ca, cb, n82, n7882, g5, cut_p1, TMA, RR, IA, PA, RA0, RA1, RA2, RA3, RA4, RA5, RA6, RA7, RA8, RA9, RA10, Nat.reduceAdd, Nat.reduceMul, Nat.reduceEqDiff, Nat.reduceLeDiff, Nat.reduceLT, Int.reduceToNat, Int.reduceLT, Int.reduceLE, Int.reduceEq, Int.reduceNeg, Int.reduceAdd, Int.reduceSub, Int.reduceMul, reduceIte]
    · have hR : ruleT (.one s (.loop 91 w A B)) = none := by
        simp only [ruleT, oneM, s78, and_false, if_false]
      rw [hR]
      refine ⟨_, hrun _ ?_, rfl⟩
      by_cases s82 : s = 82
      · subst s82
        have n3 : ¬ ((82 : UInt8) = 83 ∨ (82 : UInt8) = 77 ∨ (82 : UInt8) = 78) := by decide
        rw [decide_eq_false n3] at hco
        simp only [bodyOf, Tryd.f74, SA]
        simp only [hco, hc1, pt1, isLoop, ca, cb, n82, s78, n3, TMA, RR, IA, PA, RA0, RA1, RA2, RA3, RA4, RA5, RA6, RA7, RA8, RA9, RA10, Nat.reduceAdd, Nat.reduceMul, Nat.reduceEqDiff, Nat.reduceLeDiff, Nat.reduceLT, Int.reduceToNat, Int.reduceLT, Int.reduceLE, Int.reduceEq, Int.reduceNeg, Int.reduceAdd, Int.reduceSub, Int.reduceMul, reduceIte]
      · by_cases s3 : s = 83 ∨ s = 77 ∨ s = 78
        · rw [decide_eq_true s3] at hco
          simp only [bodyOf, Tryd.f74, SA]
          simp only [hco, hc1, pt1, isLoop, ca, cb, n82, s78, s82, s3, TMA, RR, IA, PA, RA0, RA1, RA2, RA3, RA4, RA5, RA6, RA7, RA8, RA9, RA10, Nat.reduceAdd, Nat.reduceMul, Nat.reduceEqDiff, Nat.reduceLeDiff, Nat.reduceLT, Int.reduceToNat, Int.reduceLT, Int.reduceLE, Int.reduceEq, Int.reduceNeg, Int.reduceAdd, Int.reduceSub, Int.reduceMul, reduceIte]
        · rw [decide_eq_false s3] at hco
          simp only [bodyOf, Tryd.f74, SA]
          simp only [hco, hc1, pt1, isLoop, ca, cb, n82, s78, s82, s3, TMA, RR, IA, PA, RA0, RA1, RA2, RA3, RA4, RA5, RA6, RA7, RA8, RA9, RA10, Nat.reduceAdd, Nat.reduceMul, Nat.reduceEqDiff, Nat.reduceLeDiff, Nat.reduceLT, Int.reduceToNat, Int.reduceLT, Int.reduceLE, Int.reduceEq, Int.reduceNeg, Int.reduceAdd, Int.reduceSub, Int.reduceMul, reduceIte]
end
end Go.Proofs.YtegbkihgnofkfaaDoor.Ev
