/-
FlatSteps: both sides, and the law's code.
-/
import Derived.Test.YtibjofpgbcbloaaTg
namespace Go.Proofs.Ytibjofpgbcbloaa.Ev
open Go Go.RowKit
set_option linter.unusedVariables false
set_option linter.unusedSimpArgs false

theorem T_l9Steps : TT 22 = some (Try.f22, bodyOf Try.f22) := by kernel_rfl
theorem l9Steps_ev (t : T) (hw : WF t) (hb : (listT t).length ≤ 1000000) : EE 22 [.a (encN t)] = some (N (listT t).length) := by
  refine EE_plain T_l9Steps (by decide) (Nat.le_of_ble_eq_true rfl) (by simp only [closedL, closed, encN_closed, Bool.and_self]) ?_
  rw [show opt 22 = [] from rfl]
  simp only [bodyOf, Try.f22, SA]
  have h := l7List_ev t hw hb
  simp only [Nat.le_refl, TMA, RR, IA, PA, RA0, RA1, RA2, RA3, RA4, RA5, RA6, RA7, RA8, RA9, Nat.reduceAdd, Nat.reduceMul, Nat.reduceEqDiff, Nat.reduceLeDiff, Nat.reduceLT, Int.reduceToNat, Int.reduceLT, Int.reduceLE, Int.reduceEq, Int.reduceNeg, Int.reduceAdd, Int.reduceSub, Int.reduceMul, reduceIte]
  rw [h]
  unfold resL
  cases leafT t
  · simp only [TMA, RR, IA, PA, RA0, RA1, RA2, RA3, RA4, RA5, RA6, RA7, RA8, RA9, Nat.reduceAdd, Nat.reduceMul, Nat.reduceEqDiff, Nat.reduceLeDiff, Nat.reduceLT, Int.reduceToNat, Int.reduceLT, Int.reduceLE, Int.reduceEq, Int.reduceNeg, Int.reduceAdd, Int.reduceSub, Int.reduceMul, reduceIte]
  · simp only [TMA, RR, IA, PA, RA0, RA1, RA2, RA3, RA4, RA5, RA6, RA7, RA8, RA9, Nat.reduceAdd, Nat.reduceMul, Nat.reduceEqDiff, Nat.reduceLeDiff, Nat.reduceLT, Int.reduceToNat, Int.reduceLT, Int.reduceLE, Int.reduceEq, Int.reduceNeg, Int.reduceAdd, Int.reduceSub, Int.reduceMul, reduceIte]
def stepsM (t : List UInt8) : Int := match rdT t with | some x => ((listT x).length : Int) | none => -1
theorem T_specFlatSteps : TT 13 = some (Try.f13, bodyOf Try.f13) := by kernel_rfl
theorem specFlatSteps_ev (t : List UInt8) (hl : t.length < 4611686018427387904) : EE 13 [S t] = some (N (stepsM t)) := by
  refine EE_plain T_specFlatSteps (by decide) (Nat.le_of_ble_eq_true rfl) (by rfl) ?_
  rw [show opt 13 = [] from rfl]
  simp only [bodyOf, Try.f13, SA]
  have h := l5Read_ev t hl
  simp only [TMA, RR, IA, PA, RA0, RA1, RA2, RA3, RA4, RA5, RA6, RA7, RA8, RA9, Nat.reduceAdd, Nat.reduceMul, Nat.reduceEqDiff, Nat.reduceLeDiff, Nat.reduceLT, Int.reduceToNat, Int.reduceLT, Int.reduceLE, Int.reduceEq, Int.reduceNeg, Int.reduceAdd, Int.reduceSub, Int.reduceMul, reduceIte]
  rw [h]
  unfold stepsM
  cases hq : rdT t with
  | none => simp only [zc, TMA, RR, IA, PA, RA0, RA1, RA2, RA3, RA4, RA5, RA6, RA7, RA8, RA9, Nat.reduceAdd, Nat.reduceMul, Nat.reduceEqDiff, Nat.reduceLeDiff, Nat.reduceLT, Int.reduceToNat, Int.reduceLT, Int.reduceLE, Int.reduceEq, Int.reduceNeg, Int.reduceAdd, Int.reduceSub, Int.reduceMul, reduceIte]
  | some x =>
    have hw := rdT_wf hq
    simp only [Nat.le_refl, TMA, RR, IA, PA, RA0, RA1, RA2, RA3, RA4, RA5, RA6, RA7, RA8, RA9, Nat.reduceAdd, Nat.reduceMul, Nat.reduceEqDiff, Nat.reduceLeDiff, Nat.reduceLT, Int.reduceToNat, Int.reduceLT, Int.reduceLE, Int.reduceEq, Int.reduceNeg, Int.reduceAdd, Int.reduceSub, Int.reduceMul, reduceIte]
    rw [l9Steps_ev x hw.1 (by omega)]
    simp only [TMA, RR, IA, PA, RA0, RA1, RA2, RA3, RA4, RA5, RA6, RA7, RA8, RA9, Nat.reduceAdd, Nat.reduceMul, Nat.reduceEqDiff, Nat.reduceLeDiff, Nat.reduceLT, Int.reduceToNat, Int.reduceLT, Int.reduceLE, Int.reduceEq, Int.reduceNeg, Int.reduceAdd, Int.reduceSub, Int.reduceMul, reduceIte]
theorem T_implFlatSteps : TT 14 = some (Try.f14, bodyOf Try.f14) := by kernel_rfl
theorem implFlatSteps_ev (t : List UInt8) (hl : t.length < 4611686018427387904) : EE 14 [S t] = some (N (stepsM t)) := by
  refine EE_plain T_implFlatSteps (by decide) (Nat.le_of_ble_eq_true rfl) (by rfl) ?_
  rw [show opt 14 = [] from rfl]
  simp only [bodyOf, Try.f14, SA]
  have h := termOf_ev t hl
  simp only [TMA, RR, IA, PA, RA0, RA1, RA2, RA3, RA4, RA5, RA6, RA7, RA8, RA9, Nat.reduceAdd, Nat.reduceMul, Nat.reduceEqDiff, Nat.reduceLeDiff, Nat.reduceLT, Int.reduceToNat, Int.reduceLT, Int.reduceLE, Int.reduceEq, Int.reduceNeg, Int.reduceAdd, Int.reduceSub, Int.reduceMul, reduceIte]
  rw [h]
  unfold stepsM
  cases hq : rdT t with
  | none => simp only [TMA, RR, IA, PA, RA0, RA1, RA2, RA3, RA4, RA5, RA6, RA7, RA8, RA9, Nat.reduceAdd, Nat.reduceMul, Nat.reduceEqDiff, Nat.reduceLeDiff, Nat.reduceLT, Int.reduceToNat, Int.reduceLT, Int.reduceLE, Int.reduceEq, Int.reduceNeg, Int.reduceAdd, Int.reduceSub, Int.reduceMul, reduceIte]
  | some x =>
    have hw := rdT_wf hq
    have had : ∀ σ key, adopt σ key (encP x) = some (encP x, σ) := fun σ key => by
      have := encP_closed x
      cases x <;> exact adopt_p this
    simp only [had, TMA, RR, IA, PA, RA0, RA1, RA2, RA3, RA4, RA5, RA6, RA7, RA8, RA9, Nat.reduceAdd, Nat.reduceMul, Nat.reduceEqDiff, Nat.reduceLeDiff, Nat.reduceLT, Int.reduceToNat, Int.reduceLT, Int.reduceLE, Int.reduceEq, Int.reduceNeg, Int.reduceAdd, Int.reduceSub, Int.reduceMul, reduceIte]
    rw [instructions_ev x hw.1 (by omega)]
    simp only [TMA, RR, IA, PA, RA0, RA1, RA2, RA3, RA4, RA5, RA6, RA7, RA8, RA9, Nat.reduceAdd, Nat.reduceMul, Nat.reduceEqDiff, Nat.reduceLeDiff, Nat.reduceLT, Int.reduceToNat, Int.reduceLT, Int.reduceLE, Int.reduceEq, Int.reduceNeg, Int.reduceAdd, Int.reduceSub, Int.reduceMul, reduceIte]
theorem T_law : TT 5 = some (Try.f5, bodyOf Try.f5) := by kernel_rfl
/-- The law's code gives true. -/
theorem law_ev (t : List UInt8) : EE 5 [S t] = some (B true) := by
  refine EE_plain T_law (by decide) (Nat.le_of_ble_eq_true rfl) (by rfl) ?_
  rw [show opt 5 = [] from rfl]
  simp only [bodyOf, Try.f5, SA]
  by_cases h : (1048576 : Int) < (t.length : Int)
  · simp only [h, TMA, RR, IA, PA, RA0, RA1, RA2, RA3, RA4, RA5, RA6, RA7, RA8, RA9, Nat.reduceAdd, Nat.reduceMul, Nat.reduceEqDiff, Nat.reduceLeDiff, Nat.reduceLT, Int.reduceToNat, Int.reduceLT, Int.reduceLE, Int.reduceEq, Int.reduceNeg, Int.reduceAdd, Int.reduceSub, Int.reduceMul, reduceIte]
  · simp only [h, specFlatSteps_ev t (by omega), implFlatSteps_ev t (by omega), TMA, RR, IA, PA, RA0, RA1, RA2, RA3, RA4, RA5, RA6, RA7, RA8, RA9, Nat.reduceAdd, Nat.reduceMul, Nat.reduceEqDiff, Nat.reduceLeDiff, Nat.reduceLT, Int.reduceToNat, Int.reduceLT, Int.reduceLE, Int.reduceEq, Int.reduceNeg, Int.reduceAdd, Int.reduceSub, Int.reduceMul, reduceIte]
end Go.Proofs.Ytibjofpgbcbloaa.Ev
