/-
Texts Zj to Zj of the work.
-/
import Derived.Test.YtegbkihgnofkfaaDoorZZf
/-
Simplifying to the end: how often each rule was used: both sides.
-/
namespace Go.Proofs.YtegbkihgnofkfaaDoor.Ev
section
set_option linter.unusedVariables false
set_option linter.unusedSimpArgs false
open Go Go.RowKit
set_option linter.unusedVariables false
set_option linter.unusedSimpArgs false
theorem adopt_ob2 (σ : Sto) (key : Nat) {E sz n : Nat} {cs : List AV} (b : Bool) (h : closedL cs = true) : adopt σ key (.t [.o E sz n cs, B b]) = some (.t [.w key 0 n, B b], upd σ key (some (.row E sz n cs))) := adopt_t2 _ _ (adopt1_o h) rfl
theorem adopt_sn (σ : Sto) (key : Nat) (b : Bool) : adopt σ key (.t [.s true 0 [], B b]) = some (.t [.s true 0 [], B b], σ) := adopt_two rfl rfl
theorem T_implCountRules : TT 32 = some (Tryd.f32, bodyOf Tryd.f32) := by kernel_rfl
theorem T_specCountRules : TT 33 = some (Tryd.f33, bodyOf Tryd.f33) := by kernel_rfl
def cntV (t : List UInt8) : AV := match rdT t with
  | some x => .t [.o 3 1 7 (ints (doneX x).2), B true]
  | none => .t [.s true 0 [], B false]
theorem give_sbn {σ : Sto} (b : Bool) : giveAll σ [.s true 0 [], B b] = some (.t [.s true 0 [], B b]) := giveAll_two rfl
set_option maxHeartbeats 4000000 in
theorem implCount_ev (t : List UInt8) (hl : t.length < 4611686018427387904) : EE 32 [S t] = some (cntV t) := by
  have h := termOf_ev t hl
  refine EE_plain T_implCountRules (by decide) (Nat.le_of_ble_eq_true rfl) rfl ?_
  rw [show opt 32 = [] from rfl]
  simp only [bodyOf, Tryd.f32, SA]
  unfold cntV
  cases hr : rdT t with
  | none =>
    rw [hr] at h
    simp only [h, hr, adopt_nilPX, give_sbn, TMA, RR, IA, PA, RA0, RA1, RA2, RA3, RA4, RA5, RA6, RA7, RA8, RA9, RA10, Nat.reduceAdd, Nat.reduceMul, Nat.reduceEqDiff, Nat.reduceLeDiff, Nat.reduceLT, Int.reduceToNat, Int.reduceLT, Int.reduceLE, Int.reduceEq, Int.reduceNeg, Int.reduceAdd, Int.reduceSub, Int.reduceMul, reduceIte]
  | some x =>
    rw [hr] at h
    obtain ⟨ps, pb, e1, e2, e3, e4, e5⟩ := doneI_ev hr
    simp only at h
    rw [e1] at h
    simp only [h, e2, e3, hr, TMA, RR, IA, PA, RA0, RA1, RA2, RA3, RA4, RA5, RA6, RA7, RA8, RA9, RA10, Nat.reduceAdd, Nat.reduceMul, Nat.reduceEqDiff, Nat.reduceLeDiff, Nat.reduceLT, Int.reduceToNat, Int.reduceLT, Int.reduceLE, Int.reduceEq, Int.reduceNeg, Int.reduceAdd, Int.reduceSub, Int.reduceMul, reduceIte]
    rw [call2_L ((withOpt_nil_lo (by decide)).trans rfl), callL_pr (cs := ints c0) (by rfl) (ints_closed _) e2 e4 rfl (fun σ key => by rw [adopt_ptr, if_pos e3])]
    simp only [e5, e2, e3, TMA, RR, IA, PA, RA0, RA1, RA2, RA3, RA4, RA5, RA6, RA7, RA8, RA9, RA10, Nat.reduceAdd, Nat.reduceMul, Nat.reduceEqDiff, Nat.reduceLeDiff, Nat.reduceLT, Int.reduceToNat, Int.reduceLT, Int.reduceLE, Int.reduceEq, Int.reduceNeg, Int.reduceAdd, Int.reduceSub, Int.reduceMul, reduceIte]
    exact giveAll_wc (by simp only [upd, if_true]) (ints_closed _) rfl
set_option maxHeartbeats 4000000 in
theorem specCount_ev (t : List UInt8) (hl : t.length < 4611686018427387904) : EE 33 [S t] = some (cntV t) := by
  have h := l10Done_ev t hl
  refine EE_plain T_specCountRules (by decide) (Nat.le_of_ble_eq_true rfl) rfl ?_
  rw [show opt 33 = [] from rfl]
  simp only [bodyOf, Tryd.f33, SA]
  unfold doneV at h
  unfold cntV
  cases hr : rdT t with
  | none =>
    rw [hr] at h
    simp only [h, hr, adopt_undone, give_sbn, TMA, RR, IA, PA, RA0, RA1, RA2, RA3, RA4, RA5, RA6, RA7, RA8, RA9, RA10, Nat.reduceAdd, Nat.reduceMul, Nat.reduceEqDiff, Nat.reduceLeDiff, Nat.reduceLT, Int.reduceToNat, Int.reduceLT, Int.reduceLE, Int.reduceEq, Int.reduceNeg, Int.reduceAdd, Int.reduceSub, Int.reduceMul, reduceIte]
  | some x =>
    rw [hr] at h
    simp only [h, hr, adopt_done _ _ (ints_closed _), TMA, RR, IA, PA, RA0, RA1, RA2, RA3, RA4, RA5, RA6, RA7, RA8, RA9, RA10, Nat.reduceAdd, Nat.reduceMul, Nat.reduceEqDiff, Nat.reduceLeDiff, Nat.reduceLT, Int.reduceToNat, Int.reduceLT, Int.reduceLE, Int.reduceEq, Int.reduceNeg, Int.reduceAdd, Int.reduceSub, Int.reduceMul, reduceIte]
    exact giveAll_wc (by simp only [upd, if_true]) (ints_closed _) rfl
end
end Go.Proofs.YtegbkihgnofkfaaDoor.Ev
