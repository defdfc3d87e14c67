/-
Texts Xh to Xh of the work.
-/
import Derived.Test.YtegbkihgnofkfaaDoorZXe
/-
Simplifying: the implementation's rule for loops and for signs with one part.
-/
namespace Go.Proofs.YtegbkihgnofkfaaDoor.Ev
section
set_option linter.unusedVariables false
set_option linter.unusedSimpArgs false
open Go Go.RowKit
set_option linter.unusedVariables false
set_option linter.unusedSimpArgs false
theorem k4 : ((4 : Nat) : Int) = 4 := rfl
theorem k6 : ((6 : Nat) : Int) = 6 := rfl
theorem sg_82 {x : T} (hw : WF x) (h : sg x = 82) : ∃ z, x = .one 82 z := by
  cases x with
  | dig c => exfalso; have h : c = 82 := h; have hw : isDig c = true := hw; rw [h] at hw; revert hw; decide
  | var c => exfalso; have h : c = 82 := h; have hw : isVar c = true := hw; rw [h] at hw; revert hw; decide
  | one s z => exact ⟨z, by rw [show s = 82 from h]⟩
  | two s a b => exfalso; have h : s = 82 := h; have hw := hw.1; rw [h] at hw; revert hw; decide
  | loop s v a b => exfalso; have h : s = 82 := h; rcases hw.1 with e | e <;> rw [h] at e <;> revert e <;> decide
theorem sg_91 {x : T} (hw : WF x) (h : sg x = 91) : ∃ w a b, x = .loop 91 w a b := by
  cases x with
  | dig c => exfalso; have h : c = 91 := h; have hw : isDig c = true := hw; rw [h] at hw; revert hw; decide
  | var c => exfalso; have h : c = 91 := h; have hw : isVar c = true := hw; rw [h] at hw; revert hw; decide
  | one s z => exfalso; have h : s = 91 := h; have hw := hw.1; rw [h] at hw; revert hw; decide
  | two s a b => exfalso; have h : s = 91 := h; have hw := hw.1; rw [h] at hw; revert hw; decide
  | loop s v a b => exact ⟨v, a, b, by rw [show s = 91 from h]⟩
set_option maxHeartbeats 8000000 in
theorem rule_loop (ex : Bool) (s v : UInt8) {a b : AV} {x y : T} (hp : IsP a x) (kp : IsP b y) (hw : WF (.loop s v x y)) (hl : (textT (.loop s v x y)).length ≤ 1000000) : ∃ r, EE 74 [.p [S [s], S [v], .s ex 2 [a, b]]] = some r ∧ RuleR r (ruleT (.loop s v x y)) := by
  have hlo := loop_is (.loop ex s v hp kp)
  have hd2 := digit_is kp hw.2.2.2
  simp only [textT, List.length_cons, List.length_append, List.length_nil] at hl
  have hcl : closedL [.p [S [s], S [v], .s ex 2 [a, b]]] = true := by simp only [closedL, closed, hp.closed, kp.closed, Bool.and_self]
  have hrun : ∀ y, (evC II EE (withOpt [oBox 57, oReg 8] pf) MX (strip (bodyOf Tryd.f74)) (St.init [.p [S [s], S [v], .s ex 2 [a, b]]])).bind (resK II Tryd.f74.results.toList) = some y → EE 74 [.p [S [s], S [v], .s ex 2 [a, b]]] = some y := fun y h => EE_plain T_rule (by decide) (Nat.le_of_ble_eq_true rfl) hcl (by rw [opt_rule]; exact h)
  have hc1 := hp.closed
  have pt1 := hp.ptr
  obtain ⟨v2, e2, m2, c2, hf2⟩ := kp.form
  have hc2 := kp.closed
  have pt2 := kp.ptr
  have g1 : ∀ σ, giveAll σ [.v (.int .i64 4), a] = some (.t [.v (.int .i64 4), a]) := fun σ => give_two rfl hp.closed
  rcases hw.1 with rfl | rfl
  · have n123 : ¬ ((91 : UInt8) = 123) := by decide
    by_cases hv : sg y = v
    · have hR : ruleT (.loop 91 v x y) = some (4, x) := by simp only [ruleT, loopM, if_true, hv, decide_true]
      rw [hR]
      subst hv
      rw [hf2] at hlo hd2 hc2 pt2 hrun ⊢
      simp only [closed] at hc2
      refine ⟨_, hrun _ ?_, _, rfl, hp⟩
      simp only [bodyOf, Tryd.f74, SA]
      simp only [hlo, hd2, hc1, hc2, pt1, pt2, isLoop, n123, g1, k4, k6, TMA, RR, IA, PA, RA0, RA1, RA2, RA3, RA4, RA5, RA6, RA7, RA8, RA9, RA10, Nat.reduceAdd, Nat.reduceMul, Nat.reduceEqDiff, Nat.reduceLeDiff, Nat.reduceLT, Int.reduceToNat, Int.reduceLT, Int.reduceLE, Int.reduceEq, Int.reduceNeg, Int.reduceAdd, Int.reduceSub, Int.reduceMul, reduceIte]
    · have hR : ruleT (.loop 91 v x y) = (fuseM 91 v x y).map fun t => (6, t) := by simp only [ruleT, loopM, if_true, hv, decide_false, Bool.false_eq_true, if_false]
      rw [hR]
      by_cases h91 : sg x = 91
      · obtain ⟨w, A, B, rfl⟩ := sg_91 hw.2.2.1 h91
        have hx := hw.2.2.1
        cases hp with
        | loop ex2 _ _ ha hb =>
          simp only [textT, List.length_cons, List.length_append, List.length_nil] at hl
          obtain ⟨r, hr, hpr⟩ := fuses_ev ex ex2 v w ha hb kp hx.2.2.1 hx.2.2.2 hw.2.2.2 (by omega) (by omega)
          have hfu : fuseM 91 v (.loop 91 w A B) y = fuM v w A B y := by simp only [fuseM, and_self, if_true]
          rw [hfu]
          have ca := ha.closed
          have cb := hb.closed
          rw [hf2] at hlo hd2 hc2 pt2 hr hrun ⊢
          simp only [closed] at hc2 hc1
          cases hq : fuM v w A B y with
          | none =>
            rw [hq] at hpr
            obtain rfl : r = nilP := hpr
            refine ⟨_, hrun _ ?_, rfl⟩
            simp only [bodyOf, Tryd.f74, SA]
            simp only [hlo, hd2, hc1, hc2, pt1, pt2, isLoop, hv, n123, hr, ca, cb, pure_nil, TMA, RR, IA, PA, RA0, RA1, RA2, RA3, RA4, RA5, RA6, RA7, RA8, RA9, RA10, Nat.reduceAdd, Nat.reduceMul, Nat.reduceEqDiff, Nat.reduceLeDiff, Nat.reduceLT, Int.reduceToNat, Int.reduceLT, Int.reduceLE, Int.reduceEq, Int.reduceNeg, Int.reduceAdd, Int.reduceSub, Int.reduceMul, reduceIte]
          | some t' =>
            rw [hq] at hpr
            have hpr : IsP r t' := hpr
            have q1 := hpr.ptr
            have q4 := fun σ => pure_is (σ := σ) hpr
            have g6 : ∀ σ, giveAll σ [.v (.int .i64 6), r] = some (.t [.v (.int .i64 6), r]) := fun σ => give_two rfl hpr.closed
            refine ⟨_, hrun _ ?_, _, rfl, hpr⟩
            simp only [bodyOf, Tryd.f74, SA]
            simp only [hlo, hd2, hc1, hc2, pt1, pt2, isLoop, hv, n123, hr, ca, cb, q1, q4, g6, k4, k6, TMA, RR, IA, PA, RA0, RA1, RA2, RA3, RA4, RA5, RA6, RA7, RA8, RA9, RA10, Nat.reduceAdd, Nat.reduceMul, Nat.reduceEqDiff, Nat.reduceLeDiff, Nat.reduceLT, Int.reduceToNat, Int.reduceLT, Int.reduceLE, Int.reduceEq, Int.reduceNeg, Int.reduceAdd, Int.reduceSub, Int.reduceMul, reduceIte]
      · have hfu : fuseM 91 v x y = none := by
          cases x with
          | loop q w A B => rw [fuseM, if_neg (fun h => h91 h.2)]
          | _ => rfl
        rw [hfu]
        obtain ⟨v1, e1, m1, c1, hf1⟩ := hp.form
        have hr := fuses_none ex v hp kp (sg x) v1 _ hf1 h91
        rw [hf2] at hlo hd2 hc2 pt2 hr hrun ⊢
        simp only [closed] at hc2
        refine ⟨_, hrun _ ?_, rfl⟩
        simp only [bodyOf, Tryd.f74, SA]
        simp only [hlo, hd2, hc1, hc2, pt1, pt2, isLoop, hv, n123, hr, pure_nil, TMA, RR, IA, PA, RA0, RA1, RA2, RA3, RA4, RA5, RA6, RA7, RA8, RA9, RA10, Nat.reduceAdd, Nat.reduceMul, Nat.reduceEqDiff, Nat.reduceLeDiff, Nat.reduceLT, Int.reduceToNat, Int.reduceLT, Int.reduceLE, Int.reduceEq, Int.reduceNeg, Int.reduceAdd, Int.reduceSub, Int.reduceMul, reduceIte]
  · have n91 : ¬ ((123 : UInt8) = 91) := by decide
    have hr := fuses_brace ex v hp kp
    have hfu : fuseM 123 v x y = none := by
      unfold fuseM
      split
      · rw [if_neg (fun h => n91 h.1)]
      · rfl
    have hR : ruleT (.loop 123 v x y) = if (isDigT y && !decide (sg y = 48)) = true then some (4, x) else none := by
      simp only [ruleT, loopM, n91, if_false, hfu, Option.map_none]
    rw [hR]
    rw [hf2] at hlo hd2 hc2 pt2 hr hrun ⊢
    simp only [closed] at hc2
    cases dy : isDigT y with
    | false =>
      rw [dy] at hd2
      refine ⟨_, hrun _ ?_, rfl⟩
      simp only [bodyOf, Tryd.f74, SA]
      simp only [hlo, hd2, hc1, hc2, pt1, pt2, isLoop, n91, hr, pure_nil, TMA, RR, IA, PA, RA0, RA1, RA2, RA3, RA4, RA5, RA6, RA7, RA8, RA9, RA10, Nat.reduceAdd, Nat.reduceMul, Nat.reduceEqDiff, Nat.reduceLeDiff, Nat.reduceLT, Int.reduceToNat, Int.reduceLT, Int.reduceLE, Int.reduceEq, Int.reduceNeg, Int.reduceAdd, Int.reduceSub, Int.reduceMul, reduceIte]
    | true =>
      rw [dy] at hd2
      by_cases h48 : sg y = 48
      · rw [h48] at hd2 hr hlo hc2 pt2 hrun ⊢
        refine ⟨_, hrun _ ?_, rfl⟩
        simp only [bodyOf, Tryd.f74, SA]
        simp only [hlo, hd2, hc1, hc2, pt1, pt2, isLoop, n91, hr, pure_nil, TMA, RR, IA, PA, RA0, RA1, RA2, RA3, RA4, RA5, RA6, RA7, RA8, RA9, RA10, Nat.reduceAdd, Nat.reduceMul, Nat.reduceEqDiff, Nat.reduceLeDiff, Nat.reduceLT, Int.reduceToNat, Int.reduceLT, Int.reduceLE, Int.reduceEq, Int.reduceNeg, Int.reduceAdd, Int.reduceSub, Int.reduceMul, reduceIte]
      · simp only [h48, decide_false, Bool.not_false, Bool.and_self, if_true]
        refine ⟨_, hrun _ ?_, _, rfl, hp⟩
        simp only [bodyOf, Tryd.f74, SA]
        simp only [hlo, hd2, hc1, hc2, pt1, pt2, isLoop, n91, h48, g1, k4, k6, TMA, RR, IA, PA, RA0, RA1, RA2, RA3, RA4, RA5, RA6, RA7, RA8, RA9, RA10, Nat.reduceAdd, Nat.reduceMul, Nat.reduceEqDiff, Nat.reduceLeDiff, Nat.reduceLT, Int.reduceToNat, Int.reduceLT, Int.reduceLE, Int.reduceEq, Int.reduceNeg, Int.reduceAdd, Int.reduceSub, Int.reduceMul, reduceIte]
end
end Go.Proofs.YtegbkihgnofkfaaDoor.Ev
