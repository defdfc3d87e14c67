/-
Texts Xb to Xb of the work.
-/
import Derived.Test.YtegbkihgnofkfaaDoorZXa
/-
Simplifying: does a variable stand free within a loop's second part: the implementation.
-/
namespace Go.Proofs.YtegbkihgnofkfaaDoor.Ev
section
set_option linter.unusedVariables false
set_option linter.unusedSimpArgs false
open Go Go.RowKit
set_option linter.unusedVariables false
set_option linter.unusedSimpArgs false
/-- Does a variable stand, not bound, within a second part of a loop? -/
def lf (v : UInt8) : T → Bool
  | .dig _ => false
  | .var _ => false
  | .one _ x => lf v x
  | .two _ x y => lf v x || lf v y
  | .loop _ w x y => lf v x || (if w = v then false else decide (0 < fr v y) || lf v y)
theorem T_loopedFree : TT 130 = some (Tryd.f130, bodyOf Tryd.f130) := by kernel_rfl
set_option maxHeartbeats 4000000 in
theorem loopedFree_ev {a : AV} {t : T} (hp : IsP a t) : WF t → (textT t).length ≤ 1000000 → ∀ v, EE 130 [a, S [v]] = some (B (lf v t)) := by
  induction hp with
  | dig ex c =>
    intro hw hl v
    have hl := loop_is (.dig ex c)
    refine EE_few 3 T_loopedFree (by decide) (Nat.le_of_ble_eq_true rfl) rfl ?_
    rw [show opt 130 = [] from rfl]
    simp only [bodyOf, Tryd.f130, SA]
    simp only [hl, isLoop, lf, rounds_rd, TMA, RR, IA, PA, RA0, RA1, RA2, RA3, RA4, RA5, RA6, RA7, RA8, RA9, RA10, Nat.reduceAdd, Nat.reduceMul, Nat.reduceEqDiff, Nat.reduceLeDiff, Nat.reduceLT, Int.reduceToNat, Int.reduceLT, Int.reduceLE, Int.reduceEq, Int.reduceNeg, Int.reduceAdd, Int.reduceSub, Int.reduceMul, reduceIte]
  | var ex c =>
    intro hw hl v
    have hl := loop_is (.var ex c)
    refine EE_few 3 T_loopedFree (by decide) (Nat.le_of_ble_eq_true rfl) rfl ?_
    rw [show opt 130 = [] from rfl]
    simp only [bodyOf, Tryd.f130, SA]
    simp only [hl, isLoop, lf, rounds_rd, TMA, RR, IA, PA, RA0, RA1, RA2, RA3, RA4, RA5, RA6, RA7, RA8, RA9, RA10, Nat.reduceAdd, Nat.reduceMul, Nat.reduceEqDiff, Nat.reduceLeDiff, Nat.reduceLT, Int.reduceToNat, Int.reduceLT, Int.reduceLE, Int.reduceEq, Int.reduceNeg, Int.reduceAdd, Int.reduceSub, Int.reduceMul, reduceIte]
  | @one ex s a x hp ih =>
    intro hw hl v
    simp only [textT, List.length_cons] at hl
    have hlo := loop_is (.one ex s hp)
    have hx := ih hw.2 (by omega) v
    refine EE_few 3 T_loopedFree (by decide) (Nat.le_of_ble_eq_true rfl) (by simp only [closedL, closed, hp.closed, Bool.and_self]) ?_
    rw [show opt 130 = [] from rfl]
    simp only [bodyOf, Tryd.f130, SA]
    cases hq : lf v x <;> simp only [hlo, hx, hq, hp.closed, rounds_rd, isLoop, lf, TMA, RR, IA, PA, RA0, RA1, RA2, RA3, RA4, RA5, RA6, RA7, RA8, RA9, RA10, Nat.reduceAdd, Nat.reduceMul, Nat.reduceEqDiff, Nat.reduceLeDiff, Nat.reduceLT, Int.reduceToNat, Int.reduceLT, Int.reduceLE, Int.reduceEq, Int.reduceNeg, Int.reduceAdd, Int.reduceSub, Int.reduceMul, reduceIte]
  | @two ex s a b x y hp kp ihx ihy =>
    intro hw hl v
    simp only [textT, List.length_cons, List.length_append, List.length_nil] at hl
    have hlo := loop_is (.two ex s hp kp)
    have hx := ihx hw.2.1 (by omega) v
    have hy := ihy hw.2.2 (by omega) v
    refine EE_few 3 T_loopedFree (by decide) (Nat.le_of_ble_eq_true rfl) (by simp only [closedL, closed, hp.closed, kp.closed, Bool.and_self]) ?_
    rw [show opt 130 = [] from rfl]
    simp only [bodyOf, Tryd.f130, SA]
    cases hq : lf v x <;> cases hr : lf v y <;> simp only [hlo, hx, hy, hq, hr, hp.closed, kp.closed, rounds_rd, isLoop, lf, TMA, RR, IA, PA, RA0, RA1, RA2, RA3, RA4, RA5, RA6, RA7, RA8, RA9, RA10, Nat.reduceAdd, Nat.reduceMul, Nat.reduceEqDiff, Nat.reduceLeDiff, Nat.reduceLT, Int.reduceToNat, Int.reduceLT, Int.reduceLE, Int.reduceEq, Int.reduceNeg, Int.reduceAdd, Int.reduceSub, Int.reduceMul, reduceIte]
  | @loop ex s w a b x y hp kp ihx ihy =>
    intro hw hl v
    simp only [textT, List.length_cons, List.length_append, List.length_nil] at hl
    have hlo := loop_is (.loop ex s w hp kp)
    have hx := ihx hw.2.2.1 (by omega) v
    have hy := ihy hw.2.2.2 (by omega) v
    obtain ⟨m, hm, hg⟩ := free_ev kp hw.2.2.2 (by omega)
    have hg := hg v
    refine EE_few 3 T_loopedFree (by decide) (Nat.le_of_ble_eq_true rfl) (by simp only [closedL, closed, hp.closed, kp.closed, Bool.and_self]) ?_
    rw [show opt 130 = [] from rfl]
    simp only [bodyOf, Tryd.f130, SA]
    by_cases hwv : w = v
    · subst hwv
      cases hq : lf w x <;> simp only [hlo, hx, hq, hp.closed, kp.closed, rounds_rd, isLoop, lf, TMA, RR, IA, PA, RA0, RA1, RA2, RA3, RA4, RA5, RA6, RA7, RA8, RA9, RA10, Nat.reduceAdd, Nat.reduceMul, Nat.reduceEqDiff, Nat.reduceLeDiff, Nat.reduceLT, Int.reduceToNat, Int.reduceLT, Int.reduceLE, Int.reduceEq, Int.reduceNeg, Int.reduceAdd, Int.reduceSub, Int.reduceMul, reduceIte]
    · by_cases hf : 0 < fr v y
      · have hf2 : (0 : Int) < (fr v y : Int) := by omega
        cases hq : lf v x <;> simp only [hlo, hx, hy, hm, hg, hf, hf2, hwv, hq, pureK_m, hp.closed, kp.closed, rounds_rd, isLoop, lf, TMA, RR, IA, PA, RA0, RA1, RA2, RA3, RA4, RA5, RA6, RA7, RA8, RA9, RA10, Nat.reduceAdd, Nat.reduceMul, Nat.reduceEqDiff, Nat.reduceLeDiff, Nat.reduceLT, Int.reduceToNat, Int.reduceLT, Int.reduceLE, Int.reduceEq, Int.reduceNeg, Int.reduceAdd, Int.reduceSub, Int.reduceMul, reduceIte]
      · have hf2 : ¬ (0 : Int) < (fr v y : Int) := by omega
        cases hq : lf v x <;> cases hr : lf v y <;> simp only [hlo, hx, hy, hm, hg, hf, hf2, hwv, hq, hr, pureK_m, hp.closed, kp.closed, rounds_rd, isLoop, lf, TMA, RR, IA, PA, RA0, RA1, RA2, RA3, RA4, RA5, RA6, RA7, RA8, RA9, RA10, Nat.reduceAdd, Nat.reduceMul, Nat.reduceEqDiff, Nat.reduceLeDiff, Nat.reduceLT, Int.reduceToNat, Int.reduceLT, Int.reduceLE, Int.reduceEq, Int.reduceNeg, Int.reduceAdd, Int.reduceSub, Int.reduceMul, reduceIte]
end
end Go.Proofs.YtegbkihgnofkfaaDoor.Ev
