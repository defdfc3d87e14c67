/-
Texts Tg to Tg of the work.
-/
import Derived.Test.YtegbkihgnofkfaaGreatDoorZTe
/-
The instructions of a term in the reference; the law of FlatSteps.
-/
namespace Go.Proofs.YtegbkihgnofkfaaGreatDoor.Ev
section
set_option linter.unusedVariables false
set_option linter.unusedSimpArgs false
open Go Go.RowKit
set_option linter.unusedVariables false
set_option linter.unusedSimpArgs false

def leafT : T → Bool
  | .dig _ => true
  | .var _ => true
  | _ => false
/-- The reference's list: a leaf's lies in a slice made at once. -/
def resL (t : T) : AV := if leafT t = true then .s true (listT t).length (strs (listT t)) else .o 9 1 (listT t).length (strs (listT t))
theorem leaf_len {t : T} (h : leafT t = true) : ∃ c, listT t = [[c]] := by cases t <;> simp_all [leafT, listT]
theorem resL_leaf {t : T} (h : leafT t = true) : resL t = .s true (listT t).length (strs (listT t)) := if_pos h
theorem resL_node {t : T} (h : leafT t = false) : resL t = .o 9 1 (listT t).length (strs (listT t)) := if_neg (by simp [h])

theorem T_l7List : TT 41 = some (Tryz.f41, bodyOf Tryz.f41) := by kernel_rfl
theorem opt_l7List : opt 41 = [oBox 66, oReg 11] := rfl
set_option maxHeartbeats 4000000 in
theorem l7List_ev : ∀ t, WF t → (listT t).length ≤ 1000000 → EE 41 [.a (encN t)] = some (resL t) := by
  intro t
  induction t with
  | dig c =>
    intro hw hb
    refine EE_plain T_l7List (by decide) (Nat.le_of_ble_eq_true rfl) (by simp only [closedL, closed, encN_closed, Bool.and_self]) ?_
    rw [opt_l7List]
    simp only [bodyOf, Tryz.f41, SA]
    simp only [encN, TMA, RR, IA, PA, RA0, RA1, RA2, RA3, RA4, RA5, RA6, RA7, RA8, RA9, RA10, Nat.reduceAdd, Nat.reduceMul, Nat.reduceEqDiff, Nat.reduceLeDiff, Nat.reduceLT, Int.reduceToNat, Int.reduceLT, Int.reduceLE, Int.reduceEq, Int.reduceNeg, Int.reduceAdd, Int.reduceSub, Int.reduceMul, reduceIte]
    rfl
  | var c =>
    intro hw hb
    refine EE_plain T_l7List (by decide) (Nat.le_of_ble_eq_true rfl) (by simp only [closedL, closed, encN_closed, Bool.and_self]) ?_
    rw [opt_l7List]
    simp only [bodyOf, Tryz.f41, SA]
    simp only [encN, TMA, RR, IA, PA, RA0, RA1, RA2, RA3, RA4, RA5, RA6, RA7, RA8, RA9, RA10, Nat.reduceAdd, Nat.reduceMul, Nat.reduceEqDiff, Nat.reduceLeDiff, Nat.reduceLT, Int.reduceToNat, Int.reduceLT, Int.reduceLE, Int.reduceEq, Int.reduceNeg, Int.reduceAdd, Int.reduceSub, Int.reduceMul, reduceIte]
    rfl
  | one s x ih =>
    intro hw hb
    refine EE_plain T_l7List (by decide) (Nat.le_of_ble_eq_true rfl) (by simp only [closedL, closed, encN_closed, Bool.and_self]) ?_
    rw [opt_l7List]
    simp only [bodyOf, Tryz.f41, SA]
    simp only [listT, List.length_append, List.length_cons, List.length_nil] at hb
    have hx := ih hw.2 (by omega)
    simp only [encN, TMA, RR, IA, PA, RA0, RA1, RA2, RA3, RA4, RA5, RA6, RA7, RA8, RA9, RA10, Nat.reduceAdd, Nat.reduceMul, Nat.reduceEqDiff, Nat.reduceLeDiff, Nat.reduceLT, Int.reduceToNat, Int.reduceLT, Int.reduceLE, Int.reduceEq, Int.reduceNeg, Int.reduceAdd, Int.reduceSub, Int.reduceMul, reduceIte]
    cases hlf : leafT x with
    | true =>
      rw [resL_leaf hlf] at hx
      simp only [hx, TMA, RR, IA, PA, RA0, RA1, RA2, RA3, RA4, RA5, RA6, RA7, RA8, RA9, RA10, Nat.reduceAdd, Nat.reduceMul, Nat.reduceEqDiff, Nat.reduceLeDiff, Nat.reduceLT, Int.reduceToNat, Int.reduceLT, Int.reduceLE, Int.reduceEq, Int.reduceNeg, Int.reduceAdd, Int.reduceSub, Int.reduceMul, reduceIte]
      rw [app_s (by decide) rfl rfl (by simp only [strs_len, Nat.mul_one]) (by omega) (by omega) (.inl (by decide))]
      simp only [strs_one, strs_append, RR, IA, PA, RA0, RA1, RA2, RA3, RA4, RA5, RA6, RA7, RA8, RA9, RA10, Nat.reduceAdd, Nat.reduceMul, Nat.reduceEqDiff, Nat.reduceLeDiff, Nat.reduceLT, Int.reduceToNat, Int.reduceLT, Int.reduceLE, Int.reduceEq, Int.reduceNeg, Int.reduceAdd, Int.reduceSub, Int.reduceMul, reduceIte]
      rw [give_row (by rfl) (strs_closed _)]
      simp only [resL, leafT, listT, List.length_append, List.length_cons, List.length_nil, Bool.false_eq_true, if_false]
    | false =>
      rw [resL_node hlf] at hx
      simp only [hx, TMA, RR, IA, PA, RA0, RA1, RA2, RA3, RA4, RA5, RA6, RA7, RA8, RA9, RA10, Nat.reduceAdd, Nat.reduceMul, Nat.reduceEqDiff, Nat.reduceLeDiff, Nat.reduceLT, Int.reduceToNat, Int.reduceLT, Int.reduceLE, Int.reduceEq, Int.reduceNeg, Int.reduceAdd, Int.reduceSub, Int.reduceMul, reduceIte]
      rw [app_w (by rfl) (by decide) rfl rfl (by simp only [strs_len, Nat.mul_one]) (by omega) (by omega) (by decide)]
      simp only [strs_one, strs_append, RR, IA, PA, RA0, RA1, RA2, RA3, RA4, RA5, RA6, RA7, RA8, RA9, RA10, Nat.reduceAdd, Nat.reduceMul, Nat.reduceEqDiff, Nat.reduceLeDiff, Nat.reduceLT, Int.reduceToNat, Int.reduceLT, Int.reduceLE, Int.reduceEq, Int.reduceNeg, Int.reduceAdd, Int.reduceSub, Int.reduceMul, reduceIte]
      rw [give_row (by rfl) (strs_closed _)]
      simp only [resL, leafT, listT, List.length_append, List.length_cons, List.length_nil, Bool.false_eq_true, if_false]
  | two s x y ihx ihy =>
    intro hw hb
    refine EE_plain T_l7List (by decide) (Nat.le_of_ble_eq_true rfl) (by simp only [closedL, closed, encN_closed, Bool.and_self]) ?_
    rw [opt_l7List]
    simp only [bodyOf, Tryz.f41, SA]
    simp only [listT, List.length_append, List.length_cons, List.length_nil] at hb
    have hx := ihx hw.2.1 (by omega)
    have hy := ihy hw.2.2 (by omega)
    have fin : ∀ (σ : Sto) (id : Nat), σ id = some (.row 9 1 ((listT x).length + (listT y).length + 1) (strs (listT x ++ listT y ++ [[s]]))) → giveAll σ [.w id 0 ((listT x).length + (listT y).length + 1)] = some (resL (.two s x y)) := by
      intro σ id h
      rw [give_row h (strs_closed _)]
      simp only [resL, leafT, listT, List.length_append, List.length_cons, List.length_nil, Bool.false_eq_true, if_false]
    have hyl : (listT y).length ≠ 0 := by cases y <;> simp [listT]
    simp only [encN, TMA, RR, IA, PA, RA0, RA1, RA2, RA3, RA4, RA5, RA6, RA7, RA8, RA9, RA10, Nat.reduceAdd, Nat.reduceMul, Nat.reduceEqDiff, Nat.reduceLeDiff, Nat.reduceLT, Int.reduceToNat, Int.reduceLT, Int.reduceLE, Int.reduceEq, Int.reduceNeg, Int.reduceAdd, Int.reduceSub, Int.reduceMul, reduceIte]
    cases hlf : leafT x
    case' true =>
      rw [resL_leaf hlf] at hx
      simp only [hx, TMA, RR, IA, PA, RA0, RA1, RA2, RA3, RA4, RA5, RA6, RA7, RA8, RA9, RA10, Nat.reduceAdd, Nat.reduceMul, Nat.reduceEqDiff, Nat.reduceLeDiff, Nat.reduceLT, Int.reduceToNat, Int.reduceLT, Int.reduceLE, Int.reduceEq, Int.reduceNeg, Int.reduceAdd, Int.reduceSub, Int.reduceMul, reduceIte]
    case' false =>
      rw [resL_node hlf] at hx
      simp only [hx, TMA, RR, IA, PA, RA0, RA1, RA2, RA3, RA4, RA5, RA6, RA7, RA8, RA9, RA10, Nat.reduceAdd, Nat.reduceMul, Nat.reduceEqDiff, Nat.reduceLeDiff, Nat.reduceLT, Int.reduceToNat, Int.reduceLT, Int.reduceLE, Int.reduceEq, Int.reduceNeg, Int.reduceAdd, Int.reduceSub, Int.reduceMul, reduceIte]
    all_goals
      cases hlf2 : leafT y
      case' true =>
        rw [resL_leaf hlf2] at hy
      case' false =>
        rw [resL_node hlf2] at hy
      all_goals
        simp only [hy, scW_row, TMA, RR, IA, PA, RA0, RA1, RA2, RA3, RA4, RA5, RA6, RA7, RA8, RA9, RA10, Nat.reduceAdd, Nat.reduceMul, Nat.reduceEqDiff, Nat.reduceLeDiff, Nat.reduceLT, Int.reduceToNat, Int.reduceLT, Int.reduceLE, Int.reduceEq, Int.reduceNeg, Int.reduceAdd, Int.reduceSub, Int.reduceMul, reduceIte]
        first
          | rw [app_s (by decide) (by simp only [strs_len, Nat.mul_one]) (strs_leaf _) (by simp only [strs_len, Nat.mul_one]) (by omega) (by omega) (.inl hyl)]
          | rw [app_w (by rfl) (by decide) (by simp only [strs_len, Nat.mul_one]) (strs_leaf _) (by simp only [strs_len, Nat.mul_one]) (by omega) (by omega) (by decide)]
        simp only [strs_append, TMA, RR, IA, PA, RA0, RA1, RA2, RA3, RA4, RA5, RA6, RA7, RA8, RA9, RA10, Nat.reduceAdd, Nat.reduceMul, Nat.reduceEqDiff, Nat.reduceLeDiff, Nat.reduceLT, Int.reduceToNat, Int.reduceLT, Int.reduceLE, Int.reduceEq, Int.reduceNeg, Int.reduceAdd, Int.reduceSub, Int.reduceMul, reduceIte]
        rw [app_w (by rfl) (by decide) rfl rfl (by simp only [strs_len, List.length_append, Nat.mul_one]) (by omega) (by omega) (by decide)]
        simp only [strs_one, strs_append, RR, IA, PA, RA0, RA1, RA2, RA3, RA4, RA5, RA6, RA7, RA8, RA9, RA10, Nat.reduceAdd, Nat.reduceMul, Nat.reduceEqDiff, Nat.reduceLeDiff, Nat.reduceLT, Int.reduceToNat, Int.reduceLT, Int.reduceLE, Int.reduceEq, Int.reduceNeg, Int.reduceAdd, Int.reduceSub, Int.reduceMul, reduceIte]
        exact fin _ _ (by rfl)
  | loop s v x y ihx ihy =>
    intro hw hb
    refine EE_plain T_l7List (by decide) (Nat.le_of_ble_eq_true rfl) (by simp only [closedL, closed, encN_closed, Bool.and_self]) ?_
    rw [opt_l7List]
    simp only [bodyOf, Tryz.f41, SA]
    simp only [listT, List.length_append, List.length_cons, List.length_nil] at hb
    have hx := ihx hw.2.2.1 (by omega)
    have hy := ihy hw.2.2.2 (by omega)
    have fin : ∀ (σ : Sto) (id : Nat), σ id = some (.row 9 1 ((listT x).length + 1 + (listT y).length + 1) (strs (listT x ++ [[s, v]] ++ listT y ++ [[s + 2]]))) → giveAll σ [.w id 0 ((listT x).length + 1 + (listT y).length + 1)] = some (resL (.loop s v x y)) := by
      intro σ id h
      rw [give_row h (strs_closed _)]
      simp only [resL, leafT, listT, List.length_append, List.length_cons, List.length_nil, Bool.false_eq_true, if_false, Nat.zero_add]
    have hyl : (listT y).length ≠ 0 := by cases y <;> simp [listT]
    have hv0 : ¬ ((v.toNat : Int) = 0) := by
      have := hw.2.1
      simp only [isLV, Bool.and_eq_true, decide_eq_true_iff] at this
      omega
    have hs2 : IntKind.u8.wrap ((s.toNat : Int) + 2) = ((s + 2).toNat : Int) := by rcases hw.1 with h | h <;> rw [h] <;> rfl
    simp only [encN, TMA, RR, IA, PA, RA0, RA1, RA2, RA3, RA4, RA5, RA6, RA7, RA8, RA9, RA10, Nat.reduceAdd, Nat.reduceMul, Nat.reduceEqDiff, Nat.reduceLeDiff, Nat.reduceLT, Int.reduceToNat, Int.reduceLT, Int.reduceLE, Int.reduceEq, Int.reduceNeg, Int.reduceAdd, Int.reduceSub, Int.reduceMul, reduceIte]
    cases hlf : leafT x
    case' true =>
      rw [resL_leaf hlf] at hx
      simp only [hx, hv0, str_add, TMA, RR, IA, PA, RA0, RA1, RA2, RA3, RA4, RA5, RA6, RA7, RA8, RA9, RA10, Nat.reduceAdd, Nat.reduceMul, Nat.reduceEqDiff, Nat.reduceLeDiff, Nat.reduceLT, Int.reduceToNat, Int.reduceLT, Int.reduceLE, Int.reduceEq, Int.reduceNeg, Int.reduceAdd, Int.reduceSub, Int.reduceMul, reduceIte]
    case' false =>
      rw [resL_node hlf] at hx
      simp only [hx, hv0, str_add, TMA, RR, IA, PA, RA0, RA1, RA2, RA3, RA4, RA5, RA6, RA7, RA8, RA9, RA10, Nat.reduceAdd, Nat.reduceMul, Nat.reduceEqDiff, Nat.reduceLeDiff, Nat.reduceLT, Int.reduceToNat, Int.reduceLT, Int.reduceLE, Int.reduceEq, Int.reduceNeg, Int.reduceAdd, Int.reduceSub, Int.reduceMul, reduceIte]
    all_goals
      first
        | rw [app_s (by decide) rfl rfl (by simp only [strs_len, Nat.mul_one]) (by omega) (by omega) (.inl (by decide))]
        | rw [app_w (by rfl) (by decide) rfl rfl (by simp only [strs_len, Nat.mul_one]) (by omega) (by omega) (by decide)]
      cases hlf2 : leafT y
      case' true =>
        rw [resL_leaf hlf2] at hy
      case' false =>
        rw [resL_node hlf2] at hy
      all_goals
        simp only [hy, strs_one, strs_append, scW_row, TMA, RR, IA, PA, RA0, RA1, RA2, RA3, RA4, RA5, RA6, RA7, RA8, RA9, RA10, Nat.reduceAdd, Nat.reduceMul, Nat.reduceEqDiff, Nat.reduceLeDiff, Nat.reduceLT, Int.reduceToNat, Int.reduceLT, Int.reduceLE, Int.reduceEq, Int.reduceNeg, Int.reduceAdd, Int.reduceSub, Int.reduceMul, reduceIte]
        rw [app_w (by rfl) (by decide) (by simp only [strs_len, Nat.mul_one]) (strs_leaf _) (by simp only [strs_len, List.length_append, List.length_cons, List.length_nil, Nat.zero_add, Nat.mul_one]) (by omega) (by omega) (by decide)]
        simp only [hs2, strs_append, TMA, RR, IA, PA, RA0, RA1, RA2, RA3, RA4, RA5, RA6, RA7, RA8, RA9, RA10, Nat.reduceAdd, Nat.reduceMul, Nat.reduceEqDiff, Nat.reduceLeDiff, Nat.reduceLT, Int.reduceToNat, Int.reduceLT, Int.reduceLE, Int.reduceEq, Int.reduceNeg, Int.reduceAdd, Int.reduceSub, Int.reduceMul, reduceIte]
        rw [app_w (by rfl) (by decide) rfl rfl (by simp only [strs_len, List.length_append, List.length_cons, List.length_nil, Nat.zero_add, Nat.mul_one]) (by omega) (by omega) (by decide)]
        simp only [strs_one, strs_append, RR, IA, PA, RA0, RA1, RA2, RA3, RA4, RA5, RA6, RA7, RA8, RA9, RA10, Nat.reduceAdd, Nat.reduceMul, Nat.reduceEqDiff, Nat.reduceLeDiff, Nat.reduceLT, Int.reduceToNat, Int.reduceLT, Int.reduceLE, Int.reduceEq, Int.reduceNeg, Int.reduceAdd, Int.reduceSub, Int.reduceMul, reduceIte]
        exact fin _ _ (by rfl)
end
end Go.Proofs.YtegbkihgnofkfaaGreatDoor.Ev
