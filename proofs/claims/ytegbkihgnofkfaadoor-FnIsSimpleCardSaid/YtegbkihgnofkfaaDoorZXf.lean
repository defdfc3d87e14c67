/-
Texts Xf to Xf of the work.
-/
import Derived.Test.YtegbkihgnofkfaaDoorZXe
/-
Simplifying: the implementation's rule for a sign between two parts that are not both digits.
-/
namespace Go.Proofs.YtegbkihgnofkfaaDoor.Ev
section
set_option linter.unusedVariables false
set_option linter.unusedSimpArgs false
open Go Go.RowKit
set_option linter.unusedVariables false
set_option linter.unusedSimpArgs false
set_option maxHeartbeats 8000000 in
theorem rule_two0 (ex : Bool) (s : UInt8) {a b : AV} {x y : T} (hp : IsP a x) (kp : IsP b y) (hw : WF (.two s x y)) (hnd : ¬ (¬ s = 64 ∧ isDigT x = true ∧ isDigT y = true)) : ∃ r, EE 74 [.p [S [s], S [], .s ex 2 [a, b]]] = some r ∧ RuleR r (ruleT (.two s x y)) := by
  have hlo := loop_is (.two ex s hp kp)
  have hd1 := digit_is hp hw.2.1
  have hd2 := digit_is kp hw.2.2
  have hcl : closedL [.p [S [s], S [], .s ex 2 [a, b]]] = true := by simp only [closedL, closed, hp.closed, kp.closed, Bool.and_self]
  have hrun : ∀ y, (evC II EE (withOpt [oBox 57, oReg 8] pf) MX (strip (bodyOf Tryd.f74)) (St.init [.p [S [s], S [], .s ex 2 [a, b]]])).bind (resK II Tryd.f74.results.toList) = some y → EE 74 [.p [S [s], S [], .s ex 2 [a, b]]] = some y := fun y h => EE_plain T_rule (by decide) (Nat.le_of_ble_eq_true rfl) hcl (by rw [opt_rule]; exact h)
  obtain ⟨v1, e1, m1, c1, hf1⟩ := hp.form
  obtain ⟨v2, e2, m2, c2, hf2⟩ := kp.form
  have hc1 := hp.closed
  have hc2 := kp.closed
  have pt1 := hp.ptr
  have pt2 := kp.ptr
  have g1 := fun σ => give_rule (σ := σ) 2 hp
  have g2 := fun σ => give_rule (σ := σ) 2 kp
  rw [hf1] at hlo hd1 hc1 pt1 g1 hrun ⊢
  rw [hf2] at hlo hd2 hc2 pt2 g2 hrun ⊢
  simp only [closed] at hc1 hc2
  by_cases h64 : s = 64
  · subst h64
    have hR : ruleT (.two 64 x y) = none := by
      have e1 : foldM 64 x y = none := by
        unfold foldM
        split
        · rw [if_pos rfl]
        · rfl
      have e2 : neuM 64 x y = none := by
        unfold neuM n1 n2
        simp
      simp only [ruleT, e1, e2, Option.map_none]
    rw [hR]
    refine ⟨_, hrun _ ?_, rfl⟩
    simp only [bodyOf, Tryd.f74, SA]
    have n43 : ¬ ((64 : UInt8) = 43) := by decide
    have n94 : ¬ ((64 : UInt8) = 94) := by decide
    have n42 : ¬ ((64 : UInt8) = 42) := by decide
    have n45 : ¬ ((64 : UInt8) = 45) := by decide
    simp only [hlo, hd1, hd2, hc1, hc2, pt1, pt2, isLoop, beq_pair, str_add11, n43, n94, n42, n45, TMA, RR, IA, PA, RA0, RA1, RA2, RA3, RA4, RA5, RA6, RA7, RA8, RA9, RA10, Nat.reduceAdd, Nat.reduceMul, Nat.reduceEqDiff, Nat.reduceLeDiff, Nat.reduceLT, Int.reduceToNat, Int.reduceLT, Int.reduceLE, Int.reduceEq, Int.reduceNeg, Int.reduceAdd, Int.reduceSub, Int.reduceMul, reduceIte]
  have nfold : ¬ (isDigT x = true ∧ isDigT y = true) → foldM s x y = none := by
    intro h
    unfold foldM
    split
    · exact absurd ⟨rfl, rfl⟩ h
    · rfl
  cases dx : isDigT x with
  | false =>
    rw [dx] at hd1
    obtain ⟨p48, p49⟩ := not_dig hw.2.1 dx
    have e1 : n1 (sg x) s = false := by simp [n1, p48, p49]
    have hR : ruleT (.two s x y) = if n2 (sg y) s = true then some (2, x) else none := by
      simp only [ruleT, nfold (by rw [dx]; simp), neuM, e1, Bool.false_eq_true, if_false]
      split <;> rfl
    rw [hR]
    clear hR nfold
    unfold n2
    cases k1 : (decide (s = 43) && decide (sg y = 48)) with
    | true =>
      refine ⟨_, hrun _ ?_, _, rfl, hf1 ▸ hp⟩
      simp only [bodyOf, Tryd.f74, SA]
      simp only [hlo, hd1, hd2, hc1, hc2, pt1, pt2, isLoop, beq_pair, str_add11, h64, p48, p49, g1, k1, TMA, RR, IA, PA, RA0, RA1, RA2, RA3, RA4, RA5, RA6, RA7, RA8, RA9, RA10, Nat.reduceAdd, Nat.reduceMul, Nat.reduceEqDiff, Nat.reduceLeDiff, Nat.reduceLT, Int.reduceToNat, Int.reduceLT, Int.reduceLE, Int.reduceEq, Int.reduceNeg, Int.reduceAdd, Int.reduceSub, Int.reduceMul, reduceIte]
    | false =>
      cases k2 : (decide (s = 94) && decide (sg y = 48)) with
      | true =>
        refine ⟨_, hrun _ ?_, _, rfl, hf1 ▸ hp⟩
        simp only [bodyOf, Tryd.f74, SA]
        simp only [hlo, hd1, hd2, hc1, hc2, pt1, pt2, isLoop, beq_pair, str_add11, h64, p48, p49, g1, k1, k2, TMA, RR, IA, PA, RA0, RA1, RA2, RA3, RA4, RA5, RA6, RA7, RA8, RA9, RA10, Nat.reduceAdd, Nat.reduceMul, Nat.reduceEqDiff, Nat.reduceLeDiff, Nat.reduceLT, Int.reduceToNat, Int.reduceLT, Int.reduceLE, Int.reduceEq, Int.reduceNeg, Int.reduceAdd, Int.reduceSub, Int.reduceMul, reduceIte]
      | false =>
        cases k3 : (decide (s = 42) && decide (sg y = 49)) with
        | true =>
          refine ⟨_, hrun _ ?_, _, rfl, hf1 ▸ hp⟩
          simp only [bodyOf, Tryd.f74, SA]
          simp only [hlo, hd1, hd2, hc1, hc2, pt1, pt2, isLoop, beq_pair, str_add11, h64, p48, p49, g1, k1, k2, k3, TMA, RR, IA, PA, RA0, RA1, RA2, RA3, RA4, RA5, RA6, RA7, RA8, RA9, RA10, Nat.reduceAdd, Nat.reduceMul, Nat.reduceEqDiff, Nat.reduceLeDiff, Nat.reduceLT, Int.reduceToNat, Int.reduceLT, Int.reduceLE, Int.reduceEq, Int.reduceNeg, Int.reduceAdd, Int.reduceSub, Int.reduceMul, reduceIte]
        | false =>
          cases k4 : (decide (s = 45) && decide (sg y = 48)) with
          | true =>
            refine ⟨_, hrun _ ?_, _, rfl, hf1 ▸ hp⟩
            simp only [bodyOf, Tryd.f74, SA]
            simp only [hlo, hd1, hd2, hc1, hc2, pt1, pt2, isLoop, beq_pair, str_add11, h64, p48, p49, g1, k1, k2, k3, k4, TMA, RR, IA, PA, RA0, RA1, RA2, RA3, RA4, RA5, RA6, RA7, RA8, RA9, RA10, Nat.reduceAdd, Nat.reduceMul, Nat.reduceEqDiff, Nat.reduceLeDiff, Nat.reduceLT, Int.reduceToNat, Int.reduceLT, Int.reduceLE, Int.reduceEq, Int.reduceNeg, Int.reduceAdd, Int.reduceSub, Int.reduceMul, reduceIte]
          | false =>
            refine ⟨_, hrun _ ?_, rfl⟩
            simp only [bodyOf, Tryd.f74, SA]
            simp only [hlo, hd1, hd2, hc1, hc2, pt1, pt2, isLoop, beq_pair, str_add11, h64, p48, p49, g1, k1, k2, k3, k4, TMA, RR, IA, PA, RA0, RA1, RA2, RA3, RA4, RA5, RA6, RA7, RA8, RA9, RA10, Nat.reduceAdd, Nat.reduceMul, Nat.reduceEqDiff, Nat.reduceLeDiff, Nat.reduceLT, Int.reduceToNat, Int.reduceLT, Int.reduceLE, Int.reduceEq, Int.reduceNeg, Int.reduceAdd, Int.reduceSub, Int.reduceMul, reduceIte]
  | true =>
    rw [dx] at hd1
    cases dy : isDigT y with
    | false =>
      rw [dy] at hd2
      obtain ⟨q48, q49⟩ := not_dig hw.2.2 dy
      have e1 : n2 (sg y) s = false := by simp [n2, q48, q49]
      have hR : ruleT (.two s x y) = if n1 (sg x) s = true then some (2, y) else none := by
        simp only [ruleT, nfold (by rw [dy]; simp), neuM, e1, Bool.false_eq_true, if_false]
        split <;> rfl
      rw [hR]
      clear hR nfold
      unfold n1
      cases k1 : (decide (sg x = 48) && decide (s = 43)) with
      | true =>
        refine ⟨_, hrun _ ?_, _, rfl, hf2 ▸ kp⟩
        simp only [bodyOf, Tryd.f74, SA]
        simp only [hlo, hd1, hd2, hc1, hc2, pt1, pt2, isLoop, beq_pair, str_add11, h64, q48, q49, g2, k1, TMA, RR, IA, PA, RA0, RA1, RA2, RA3, RA4, RA5, RA6, RA7, RA8, RA9, RA10, Nat.reduceAdd, Nat.reduceMul, Nat.reduceEqDiff, Nat.reduceLeDiff, Nat.reduceLT, Int.reduceToNat, Int.reduceLT, Int.reduceLE, Int.reduceEq, Int.reduceNeg, Int.reduceAdd, Int.reduceSub, Int.reduceMul, reduceIte]
      | false =>
        cases k2 : (decide (sg x = 48) && decide (s = 94)) with
        | true =>
          refine ⟨_, hrun _ ?_, _, rfl, hf2 ▸ kp⟩
          simp only [bodyOf, Tryd.f74, SA]
          simp only [hlo, hd1, hd2, hc1, hc2, pt1, pt2, isLoop, beq_pair, str_add11, h64, q48, q49, g2, k1, k2, TMA, RR, IA, PA, RA0, RA1, RA2, RA3, RA4, RA5, RA6, RA7, RA8, RA9, RA10, Nat.reduceAdd, Nat.reduceMul, Nat.reduceEqDiff, Nat.reduceLeDiff, Nat.reduceLT, Int.reduceToNat, Int.reduceLT, Int.reduceLE, Int.reduceEq, Int.reduceNeg, Int.reduceAdd, Int.reduceSub, Int.reduceMul, reduceIte]
        | false =>
          cases k3 : (decide (sg x = 49) && decide (s = 42)) with
          | true =>
            refine ⟨_, hrun _ ?_, _, rfl, hf2 ▸ kp⟩
            simp only [bodyOf, Tryd.f74, SA]
            simp only [hlo, hd1, hd2, hc1, hc2, pt1, pt2, isLoop, beq_pair, str_add11, h64, q48, q49, g2, k1, k2, k3, TMA, RR, IA, PA, RA0, RA1, RA2, RA3, RA4, RA5, RA6, RA7, RA8, RA9, RA10, Nat.reduceAdd, Nat.reduceMul, Nat.reduceEqDiff, Nat.reduceLeDiff, Nat.reduceLT, Int.reduceToNat, Int.reduceLT, Int.reduceLE, Int.reduceEq, Int.reduceNeg, Int.reduceAdd, Int.reduceSub, Int.reduceMul, reduceIte]
          | false =>
            refine ⟨_, hrun _ ?_, rfl⟩
            simp only [bodyOf, Tryd.f74, SA]
            simp only [hlo, hd1, hd2, hc1, hc2, pt1, pt2, isLoop, beq_pair, str_add11, h64, q48, q49, g2, k1, k2, k3, TMA, RR, IA, PA, RA0, RA1, RA2, RA3, RA4, RA5, RA6, RA7, RA8, RA9, RA10, Nat.reduceAdd, Nat.reduceMul, Nat.reduceEqDiff, Nat.reduceLeDiff, Nat.reduceLT, Int.reduceToNat, Int.reduceLT, Int.reduceLE, Int.reduceEq, Int.reduceNeg, Int.reduceAdd, Int.reduceSub, Int.reduceMul, reduceIte]
    | true =>
      exact absurd ⟨h64, dx, dy⟩ hnd
end
end Go.Proofs.YtegbkihgnofkfaaDoor.Ev
