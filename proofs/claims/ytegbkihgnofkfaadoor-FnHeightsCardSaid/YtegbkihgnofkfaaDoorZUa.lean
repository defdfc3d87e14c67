/-
Texts Ua to Ua of the work.
-/
import Derived.Test.YtegbkihgnofkfaaDoorZTn
/-
Code: kinds of instructions.
-/
namespace Go.Proofs.YtegbkihgnofkfaaDoor.Ev
section
set_option linter.unusedVariables false
set_option linter.unusedSimpArgs false
open Go Go.RowKit
set_option linter.unusedVariables false
set_option linter.unusedSimpArgs false

/-- What an instruction is: begin of a loop. -/
def begM (l : List UInt8) : Bool := match l with
  | [a, _] => decide (a = 91) || decide (a = 123)
  | _ => false
def endM (l : List UInt8) : Bool := match l with
  | [a] => decide (a = 93) || decide (a = 125)
  | _ => false
def arM (l : List UInt8) : Int := match l with
  | [a] => if isOne a = true then 1 else if isTwo a = true then 2 else 0
  | _ => 0
theorem T_begins : TT 53 = some (Tryd.f53, bodyOf Tryd.f53) := by kernel_rfl
theorem begins_ev (l : List UInt8) : EE 53 [S l] = some (B (begM l)) := by
  refine EE_plain T_begins (by decide) (Nat.le_of_ble_eq_true rfl) rfl ?_
  rw [show opt 53 = [] from rfl]
  simp only [bodyOf, Tryd.f53, SA]
  rcases l with _ | ⟨a, _ | ⟨b, _ | ⟨d, l⟩⟩⟩
  · simp only [begM, IA, PA, RA0, RA1, RA2, RA3, RA4, RA5, RA6, RA7, RA8, RA9, RA10, Nat.reduceAdd, Nat.reduceMul, Nat.reduceEqDiff, Nat.reduceLeDiff, Nat.reduceLT, Int.reduceToNat, Int.reduceLT, Int.reduceLE, Int.reduceEq, Int.reduceNeg, Int.reduceAdd, Int.reduceSub, Int.reduceMul, reduceIte]
  · simp only [begM, IA, PA, RA0, RA1, RA2, RA3, RA4, RA5, RA6, RA7, RA8, RA9, RA10, Nat.reduceAdd, Nat.reduceMul, Nat.reduceEqDiff, Nat.reduceLeDiff, Nat.reduceLT, Int.reduceToNat, Int.reduceLT, Int.reduceLE, Int.reduceEq, Int.reduceNeg, Int.reduceAdd, Int.reduceSub, Int.reduceMul, reduceIte]
  · have e1 : decide ((a.toNat : Int) = 91) = decide (a = 91) := eq_nat a 91
    have e2 : decide ((a.toNat : Int) = 123) = decide (a = 123) := eq_nat a 123
    simp only [begM]
    generalize hx : decide (a = 91) = x
    generalize hy : decide (a = 123) = y
    cases x <;> simp only [e1, e2, hx, hy, IA, PA, RA0, RA1, RA2, RA3, RA4, RA5, RA6, RA7, RA8, RA9, RA10, Nat.reduceAdd, Nat.reduceMul, Nat.reduceEqDiff, Nat.reduceLeDiff, Nat.reduceLT, Int.reduceToNat, Int.reduceLT, Int.reduceLE, Int.reduceEq, Int.reduceNeg, Int.reduceAdd, Int.reduceSub, Int.reduceMul, reduceIte]
  · have : ¬ (((l.length + 1 + 1 + 1 : Nat) : Int) = 2) := by omega
    simp only [begM, this, IA, PA, RA0, RA1, RA2, RA3, RA4, RA5, RA6, RA7, RA8, RA9, RA10, Nat.reduceAdd, Nat.reduceMul, Nat.reduceEqDiff, Nat.reduceLeDiff, Nat.reduceLT, Int.reduceToNat, Int.reduceLT, Int.reduceLE, Int.reduceEq, Int.reduceNeg, Int.reduceAdd, Int.reduceSub, Int.reduceMul, reduceIte]
theorem T_isEnd : TT 54 = some (Tryd.f54, bodyOf Tryd.f54) := by kernel_rfl
theorem isEnd_ev (l : List UInt8) : EE 54 [S l] = some (B (endM l)) := by
  refine EE_plain T_isEnd (by decide) (Nat.le_of_ble_eq_true rfl) rfl ?_
  rw [show opt 54 = [] from rfl]
  simp only [bodyOf, Tryd.f54, SA]
  rcases l with _ | ⟨a, _ | ⟨b, l⟩⟩
  · simp only [endM, TMA, IA, PA, RA0, RA1, RA2, RA3, RA4, RA5, RA6, RA7, RA8, RA9, RA10, Nat.reduceAdd, Nat.reduceMul, Nat.reduceEqDiff, Nat.reduceLeDiff, Nat.reduceLT, Int.reduceToNat, Int.reduceLT, Int.reduceLE, Int.reduceEq, Int.reduceNeg, Int.reduceAdd, Int.reduceSub, Int.reduceMul, reduceIte]
  · simp only [endM]
    generalize hx : decide (a = 93) = x
    generalize hy : decide (a = 125) = y
    cases x <;> simp only [hx, hy, TMA, IA, PA, RA0, RA1, RA2, RA3, RA4, RA5, RA6, RA7, RA8, RA9, RA10, Nat.reduceAdd, Nat.reduceMul, Nat.reduceEqDiff, Nat.reduceLeDiff, Nat.reduceLT, Int.reduceToNat, Int.reduceLT, Int.reduceLE, Int.reduceEq, Int.reduceNeg, Int.reduceAdd, Int.reduceSub, Int.reduceMul, reduceIte]
  · simp only [endM, TMA, IA, PA, RA0, RA1, RA2, RA3, RA4, RA5, RA6, RA7, RA8, RA9, RA10, Nat.reduceAdd, Nat.reduceMul, Nat.reduceEqDiff, Nat.reduceLeDiff, Nat.reduceLT, Int.reduceToNat, Int.reduceLT, Int.reduceLE, Int.reduceEq, Int.reduceNeg, Int.reduceAdd, Int.reduceSub, Int.reduceMul, reduceIte]
theorem contains_nil (l : List UInt8) : True := trivial
theorem T_arity : TT 55 = some (Tryd.f55, bodyOf Tryd.f55) := by kernel_rfl
/-- Of an instruction of one byte. -/
theorem arity_ev (a : UInt8) : EE 55 [S [a]] = some (N (arM [a])) := by
  refine EE_plain T_arity (by decide) (Nat.le_of_ble_eq_true rfl) rfl ?_
  rw [show opt 55 = [] from rfl]
  simp only [bodyOf, Tryd.f55, SA]
  have h1 : [83, 77, 73, 78, 82, 67, 80].contains a = isOne a := rfl
  have h2 : [43, 42, 94, 45, 61, 60, 64].contains a = isTwo a := rfl
  simp only [arM]
  cases hx : isOne a <;> cases hy : isTwo a <;> simp only [contains_ev, h1, h2, hx, hy, TMA, IA, PA, RA0, RA1, RA2, RA3, RA4, RA5, RA6, RA7, RA8, RA9, RA10, Nat.reduceAdd, Nat.reduceMul, Nat.reduceEqDiff, Nat.reduceLeDiff, Nat.reduceLT, Int.reduceToNat, Int.reduceLT, Int.reduceLE, Int.reduceEq, Int.reduceNeg, Int.reduceAdd, Int.reduceSub, Int.reduceMul, reduceIte]

/-- The reference's kind of an instruction. -/
def kindM (l : List UInt8) : UInt8 := match l with
  | [a, b] => if (decide (a = 91) || decide (a = 123)) && isLV b then 91 else 0
  | [a] => if isDig a || isVar a then 97 else if isOne a then 83 else if isTwo a then 43 else if decide (a = 93) || decide (a = 125) then 93 else 0
  | _ => 0
theorem T_l7Kind : TT 114 = some (Tryd.f114, bodyOf Tryd.f114) := by kernel_rfl
set_option maxHeartbeats 4000000 in
theorem l7Kind_ev (l : List UInt8) : EE 114 [S l] = some (U (kindM l)) := by
  refine EE_plain T_l7Kind (by decide) (Nat.le_of_ble_eq_true rfl) rfl ?_
  rw [show opt 114 = [] from rfl]
  simp only [bodyOf, Tryd.f114, SA]
  rcases l with _ | ⟨a, _ | ⟨b, _ | ⟨d, l⟩⟩⟩
  · simp only [kindM, IA, PA, RA0, RA1, RA2, RA3, RA4, RA5, RA6, RA7, RA8, RA9, RA10, Nat.reduceAdd, Nat.reduceMul, Nat.reduceEqDiff, Nat.reduceLeDiff, Nat.reduceLT, Int.reduceToNat, Int.reduceLT, Int.reduceLE, Int.reduceEq, Int.reduceNeg, Int.reduceAdd, Int.reduceSub, Int.reduceMul, reduceIte]
    rfl
  · have e97 : decide ((a.toNat : Int) = 97) = decide (a = 97) := eq_nat a 97
    have e98 : decide ((a.toNat : Int) = 98) = decide (a = 98) := eq_nat a 98
    have e93 : decide ((a.toNat : Int) = 93) = decide (a = 93) := eq_nat a 93
    have e125 : decide ((a.toNat : Int) = 125) = decide (a = 125) := eq_nat a 125
    simp only [kindM, isVar_cases]
    simp only [l1In_ev, in_dig, in_lv, wrap_u8, e97, e98, IA, PA, RA0, RA1, RA2, RA3, RA4, RA5, RA6, RA7, RA8, RA9, RA10, Nat.reduceAdd, Nat.reduceMul, Nat.reduceEqDiff, Nat.reduceLeDiff, Nat.reduceLT, Int.reduceToNat, Int.reduceLT, Int.reduceLE, Int.reduceEq, Int.reduceNeg, Int.reduceAdd, Int.reduceSub, Int.reduceMul, reduceIte]
    generalize hd : isDig a = d
    generalize hx : decide (a = 97) = x
    generalize hy : decide (a = 98) = y
    generalize hz : isLV a = z
    have hone : [83, 77, 73, 78, 82, 67, 80].contains a = isOne a := rfl
    have htwo : [43, 42, 94, 45, 61, 60, 64].contains a = isTwo a := rfl
    generalize h1 : isOne a = o1 at hone
    generalize h2 : isTwo a = o2 at htwo
    generalize h3 : decide (a = 93) = o3 at e93
    generalize h4 : decide (a = 125) = o4 at e125
    cases d
    case true =>
      simp only [l1In_ev, in_dig, in_lv, wrap_u8, e97, e98, hd, hx, hy, hz, IA, PA, RA0, RA1, RA2, RA3, RA4, RA5, RA6, RA7, RA8, RA9, RA10, Nat.reduceAdd, Nat.reduceMul, Nat.reduceEqDiff, Nat.reduceLeDiff, Nat.reduceLT, Int.reduceToNat, Int.reduceLT, Int.reduceLE, Int.reduceEq, Int.reduceNeg, Int.reduceAdd, Int.reduceSub, Int.reduceMul, reduceIte]
      rfl
    cases x
    case true =>
      simp only [l1In_ev, in_dig, in_lv, wrap_u8, e97, e98, hd, hx, hy, hz, IA, PA, RA0, RA1, RA2, RA3, RA4, RA5, RA6, RA7, RA8, RA9, RA10, Nat.reduceAdd, Nat.reduceMul, Nat.reduceEqDiff, Nat.reduceLeDiff, Nat.reduceLT, Int.reduceToNat, Int.reduceLT, Int.reduceLE, Int.reduceEq, Int.reduceNeg, Int.reduceAdd, Int.reduceSub, Int.reduceMul, reduceIte]
      rfl
    cases y
    case true =>
      simp only [l1In_ev, in_dig, in_lv, wrap_u8, e97, e98, hd, hx, hy, hz, IA, PA, RA0, RA1, RA2, RA3, RA4, RA5, RA6, RA7, RA8, RA9, RA10, Nat.reduceAdd, Nat.reduceMul, Nat.reduceEqDiff, Nat.reduceLeDiff, Nat.reduceLT, Int.reduceToNat, Int.reduceLT, Int.reduceLE, Int.reduceEq, Int.reduceNeg, Int.reduceAdd, Int.reduceSub, Int.reduceMul, reduceIte]
      rfl
    cases z
    case true =>
      simp only [l1In_ev, in_dig, in_lv, wrap_u8, e97, e98, hd, hx, hy, hz, IA, PA, RA0, RA1, RA2, RA3, RA4, RA5, RA6, RA7, RA8, RA9, RA10, Nat.reduceAdd, Nat.reduceMul, Nat.reduceEqDiff, Nat.reduceLeDiff, Nat.reduceLT, Int.reduceToNat, Int.reduceLT, Int.reduceLE, Int.reduceEq, Int.reduceNeg, Int.reduceAdd, Int.reduceSub, Int.reduceMul, reduceIte]
      rfl
    simp only [l1In_ev, in_dig, in_lv, wrap_u8, e97, e98, hd, hx, hy, hz, IA, PA, RA0, RA1, RA2, RA3, RA4, RA5, RA6, RA7, RA8, RA9, RA10, Nat.reduceAdd, Nat.reduceMul, Nat.reduceEqDiff, Nat.reduceLeDiff, Nat.reduceLT, Int.reduceToNat, Int.reduceLT, Int.reduceLE, Int.reduceEq, Int.reduceNeg, Int.reduceAdd, Int.reduceSub, Int.reduceMul, reduceIte]
    rw [l13Find_ev _ a (by decide)]
    cases o1
    · simp only [findFrom_has, hone, IA, PA, RA0, RA1, RA2, RA3, RA4, RA5, RA6, RA7, RA8, RA9, RA10, Nat.reduceAdd, Nat.reduceMul, Nat.reduceEqDiff, Nat.reduceLeDiff, Nat.reduceLT, Int.reduceToNat, Int.reduceLT, Int.reduceLE, Int.reduceEq, Int.reduceNeg, Int.reduceAdd, Int.reduceSub, Int.reduceMul, reduceIte]
      rw [l13Find_ev _ a (by decide)]
      cases o2
      · cases o3
        · cases o4 <;> simp only [findFrom_has, htwo, e93, e125, h3, h4, IA, PA, RA0, RA1, RA2, RA3, RA4, RA5, RA6, RA7, RA8, RA9, RA10, Nat.reduceAdd, Nat.reduceMul, Nat.reduceEqDiff, Nat.reduceLeDiff, Nat.reduceLT, Int.reduceToNat, Int.reduceLT, Int.reduceLE, Int.reduceEq, Int.reduceNeg, Int.reduceAdd, Int.reduceSub, Int.reduceMul, reduceIte] <;> rfl
        · simp only [findFrom_has, htwo, e93, e125, h3, h4, IA, PA, RA0, RA1, RA2, RA3, RA4, RA5, RA6, RA7, RA8, RA9, RA10, Nat.reduceAdd, Nat.reduceMul, Nat.reduceEqDiff, Nat.reduceLeDiff, Nat.reduceLT, Int.reduceToNat, Int.reduceLT, Int.reduceLE, Int.reduceEq, Int.reduceNeg, Int.reduceAdd, Int.reduceSub, Int.reduceMul, reduceIte]
          rfl
      · simp only [findFrom_has, htwo, IA, PA, RA0, RA1, RA2, RA3, RA4, RA5, RA6, RA7, RA8, RA9, RA10, Nat.reduceAdd, Nat.reduceMul, Nat.reduceEqDiff, Nat.reduceLeDiff, Nat.reduceLT, Int.reduceToNat, Int.reduceLT, Int.reduceLE, Int.reduceEq, Int.reduceNeg, Int.reduceAdd, Int.reduceSub, Int.reduceMul, reduceIte]
        rfl
    · simp only [findFrom_has, hone, IA, PA, RA0, RA1, RA2, RA3, RA4, RA5, RA6, RA7, RA8, RA9, RA10, Nat.reduceAdd, Nat.reduceMul, Nat.reduceEqDiff, Nat.reduceLeDiff, Nat.reduceLT, Int.reduceToNat, Int.reduceLT, Int.reduceLE, Int.reduceEq, Int.reduceNeg, Int.reduceAdd, Int.reduceSub, Int.reduceMul, reduceIte]
      rfl
  · have e1 : decide ((a.toNat : Int) = 91) = decide (a = 91) := eq_nat a 91
    have e2 : decide ((a.toNat : Int) = 123) = decide (a = 123) := eq_nat a 123
    simp only [kindM]
    generalize hx : decide (a = 91) = x
    generalize hy : decide (a = 123) = y
    generalize hz : isLV b = z
    cases x <;> cases y <;> cases z <;> simp only [l1In_ev, in_lv, wrap_u8, e1, e2, hx, hy, hz, IA, PA, RA0, RA1, RA2, RA3, RA4, RA5, RA6, RA7, RA8, RA9, RA10, Nat.reduceAdd, Nat.reduceMul, Nat.reduceEqDiff, Nat.reduceLeDiff, Nat.reduceLT, Int.reduceToNat, Int.reduceLT, Int.reduceLE, Int.reduceEq, Int.reduceNeg, Int.reduceAdd, Int.reduceSub, Int.reduceMul, reduceIte] <;> rfl
  · have h1 : ¬ (((l.length + 1 + 1 + 1 : Nat) : Int) = 2) := by omega
    have h2 : ¬ (((l.length + 1 + 1 + 1 : Nat) : Int) = 1) := by omega
    simp only [kindM, h1, h2, IA, PA, RA0, RA1, RA2, RA3, RA4, RA5, RA6, RA7, RA8, RA9, RA10, Nat.reduceAdd, Nat.reduceMul, Nat.reduceEqDiff, Nat.reduceLeDiff, Nat.reduceLT, Int.reduceToNat, Int.reduceLT, Int.reduceLE, Int.reduceEq, Int.reduceNeg, Int.reduceAdd, Int.reduceSub, Int.reduceMul, reduceIte]
    rfl
end
end Go.Proofs.YtegbkihgnofkfaaDoor.Ev
