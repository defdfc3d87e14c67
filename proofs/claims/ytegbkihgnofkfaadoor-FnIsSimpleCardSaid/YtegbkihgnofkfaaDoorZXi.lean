/-
Texts Xi to Xi of the work.
-/
import Derived.Test.YtegbkihgnofkfaaDoorZXh
/-
Simplifying: the implementation's rule for a sign with one part; the rule of any term.
-/
namespace Go.Proofs.YtegbkihgnofkfaaDoor.Ev
section
set_option linter.unusedVariables false
set_option linter.unusedSimpArgs false
open Go Go.RowKit
set_option linter.unusedVariables false
set_option linter.unusedSimpArgs false
set_option maxHeartbeats 8000000 in
theorem rule_one82 (ex : Bool) (s : UInt8) {a : AV} {x : T} (hp : IsP a x) (hw : WF (.one s x)) (h82 : sg x = 82) : ∃ r, EE 74 [.p [S [s], S [], .s ex 1 [a]]] = some r ∧ RuleR r (ruleT (.one s x)) := by
  have hrun : ∀ y, (evC II EE (withOpt [oBox 57, oReg 8] pf) MX (strip (bodyOf Tryd.f74)) (St.init [.p [S [s], S [], .s ex 1 [a]]])).bind (resK II Tryd.f74.results.toList) = some y → EE 74 [.p [S [s], S [], .s ex 1 [a]]] = some y := fun y h => EE_plain T_rule (by decide) (Nat.le_of_ble_eq_true rfl) (by simp only [closedL, closed, hp.closed, Bool.and_self]) (by rw [opt_rule]; exact h)
  have hco := contains_ev [83, 77, 78] s
  have hcc : ([83, 77, 78] : List UInt8).contains s = decide (s = 83 ∨ s = 77 ∨ s = 78) := by
    rw [Bool.eq_iff_iff]
    simp
  rw [hcc] at hco
  clear hcc
  have hc1 := hp.closed
  have pt1 := hp.ptr
  obtain ⟨z, rfl⟩ := sg_82 hw.2 h82
  have n91 : ¬ ((82 : UInt8) = 91) := by decide
  cases hp with
  | one e2 _ hz =>
    rename_i b
    have cz := hz.closed
    by_cases s82 : s = 82
    · subst s82
      have g3 : ∀ σ, giveAll σ [.v (.int .i64 3), b] = some (.t [.v (.int .i64 3), b]) := fun σ => give_two rfl cz
      refine ⟨.t [N 3, b], hrun _ ?_, b, rfl, hz⟩
      simp only [bodyOf, Tryd.f74, SA]
      simp only [hco, hc1, pt1, isLoop, cz, g3, TMA, RR, IA, PA, RA0, RA1, RA2, RA3, RA4, RA5, RA6, RA7, RA8, RA9, RA10, Nat.reduceAdd, Nat.reduceMul, Nat.reduceEqDiff, Nat.reduceLeDiff, Nat.reduceLT, Int.reduceToNat, Int.reduceLT, Int.reduceLE, Int.reduceEq, Int.reduceNeg, Int.reduceAdd, Int.reduceSub, Int.reduceMul, reduceIte]
    · by_cases s3 : s = 83 ∨ s = 77 ∨ s = 78
      · rw [decide_eq_true s3] at hco
        have hR : ruleT (.one s (.one 82 z)) = some (3, .one s z) := by
          simp only [ruleT, oneM, s82, s3, if_true, if_false]
        rw [hR]
        have hq : IsP (.p [S [s], S [], .s e2 1 [b]]) (.one s z) := .one e2 s hz
        have g3 : ∀ σ, giveAll σ [.v (.int .i64 3), .p [S [s], S [], .s e2 1 [b]]] = some (.t [.v (.int .i64 3), .p [S [s], S [], .s e2 1 [b]]]) := fun σ => give_two rfl hq.closed
        refine ⟨.t [N 3, .p [S [s], S [], .s e2 1 [b]]], hrun _ ?_, _, rfl, hq⟩
        simp only [bodyOf, Tryd.f74, SA]
        simp only [hco, hc1, pt1, isLoop, cz, s82, s3, n91, g3, TMA, RR, IA, PA, RA0, RA1, RA2, RA3, RA4, RA5, RA6, RA7, RA8, RA9, RA10, Nat.reduceAdd, Nat.reduceMul, Nat.reduceEqDiff, Nat.reduceLeDiff, Nat.reduceLT, Int.reduceToNat, Int.reduceLT, Int.reduceLE, Int.reduceEq, Int.reduceNeg, Int.reduceAdd, Int.reduceSub, Int.reduceMul, reduceIte]
      · rw [decide_eq_false s3] at hco
        have s78 : ¬ s = 78 := fun h => s3 (.inr (.inr h))
        have hR : ruleT (.one s (.one 82 z)) = none := by
          simp only [ruleT, oneM, s82, s3, if_true, if_false]
        rw [hR]
        refine ⟨_, hrun _ ?_, rfl⟩
        simp only [bodyOf, Tryd.f74, SA]
        simp only [hco, hc1, pt1, isLoop, cz, s82, s3, s78, n91, TMA, RR, IA, PA, RA0, RA1, RA2, RA3, RA4, RA5, RA6, RA7, RA8, RA9, RA10, Nat.reduceAdd, Nat.reduceMul, Nat.reduceEqDiff, Nat.reduceLeDiff, Nat.reduceLT, Int.reduceToNat, Int.reduceLT, Int.reduceLE, Int.reduceEq, Int.reduceNeg, Int.reduceAdd, Int.reduceSub, Int.reduceMul, reduceIte]
end
end Go.Proofs.YtegbkihgnofkfaaDoor.Ev
