/-
Texts Ua to Ud of the work.
-/
import Derived.Test.YtegbkihgnofkfaaGreatDoorZTn
import Derived.Test.YtegbkihgnofkfaaGreatDoorZTg
import Derived.Lib.Join
import Derived.Test.YtegbkihgnofkfaaGreatDoorZE4
import Derived.Lib.IndexLaws
/-
Code: kinds of instructions.
-/
namespace Go.Proofs.YtegbkihgnofkfaaGreatDoor.Ev
section
set_option linter.unusedVariables false
set_option linter.unusedSimpArgs false
open Go Go.RowKit
set_option linter.unusedVariables false
set_option linter.unusedSimpArgs false

/-- What an instruction is: begin of a loop. -/
def begM (l : List UInt8) : Bool := match l with
  | [a, _] => decide (a = 91) || decide (a = 123)
  | _ => false
def endM (l : List UInt8) : Bool := match l with
  | [a] => decide (a = 93) || decide (a = 125)
  | _ => false
def arM (l : List UInt8) : Int := match l with
  | [a] => if isOne a = true then 1 else if isTwo a = true then 2 else 0
  | _ => 0
theorem T_begins : TT 15 = some (Tryz.f15, bodyOf Tryz.f15) := by kernel_rfl
theorem begins_ev (l : List UInt8) : EE 15 [S l] = some (B (begM l)) := by
  refine EE_plain T_begins (by decide) (Nat.le_of_ble_eq_true rfl) rfl ?_
  rw [show opt 15 = [] from rfl]
  simp only [bodyOf, Tryz.f15, SA]
  rcases l with _ | ⟨a, _ | ⟨b, _ | ⟨d, l⟩⟩⟩
  · simp only [begM, IA, PA, RA0, RA1, RA2, RA3, RA4, RA5, RA6, RA7, RA8, RA9, RA10, Nat.reduceAdd, Nat.reduceMul, Nat.reduceEqDiff, Nat.reduceLeDiff, Nat.reduceLT, Int.reduceToNat, Int.reduceLT, Int.reduceLE, Int.reduceEq, Int.reduceNeg, Int.reduceAdd, Int.reduceSub, Int.reduceMul, reduceIte]
  · simp only [begM, IA, PA, RA0, RA1, RA2, RA3, RA4, RA5, RA6, RA7, RA8, RA9, RA10, Nat.reduceAdd, Nat.reduceMul, Nat.reduceEqDiff, Nat.reduceLeDiff, Nat.reduceLT, Int.reduceToNat, Int.reduceLT, Int.reduceLE, Int.reduceEq, Int.reduceNeg, Int.reduceAdd, Int.reduceSub, Int.reduceMul, reduceIte]
  · have e1 : decide ((a.toNat : Int) = 91) = decide (a = 91) := eq_nat a 91
    have e2 : decide ((a.toNat : Int) = 123) = decide (a = 123) := eq_nat a 123
    simp only [begM]
    generalize hx : decide (a = 91) = x
    generalize hy : decide (a = 123) = y
    cases x <;> simp only [e1, e2, hx, hy, IA, PA, RA0, RA1, RA2, RA3, RA4, RA5, RA6, RA7, RA8, RA9, RA10, Nat.reduceAdd, Nat.reduceMul, Nat.reduceEqDiff, Nat.reduceLeDiff, Nat.reduceLT, Int.reduceToNat, Int.reduceLT, Int.reduceLE, Int.reduceEq, Int.reduceNeg, Int.reduceAdd, Int.reduceSub, Int.reduceMul, reduceIte]
  · have : ¬ (((l.length + 1 + 1 + 1 : Nat) : Int) = 2) := by omega
    simp only [begM, this, IA, PA, RA0, RA1, RA2, RA3, RA4, RA5, RA6, RA7, RA8, RA9, RA10, Nat.reduceAdd, Nat.reduceMul, Nat.reduceEqDiff, Nat.reduceLeDiff, Nat.reduceLT, Int.reduceToNat, Int.reduceLT, Int.reduceLE, Int.reduceEq, Int.reduceNeg, Int.reduceAdd, Int.reduceSub, Int.reduceMul, reduceIte]
theorem T_isEnd : TT 38 = some (Tryz.f38, bodyOf Tryz.f38) := by kernel_rfl
theorem isEnd_ev (l : List UInt8) : EE 38 [S l] = some (B (endM l)) := by
  refine EE_plain T_isEnd (by decide) (Nat.le_of_ble_eq_true rfl) rfl ?_
  rw [show opt 38 = [] from rfl]
  simp only [bodyOf, Tryz.f38, SA]
  rcases l with _ | ⟨a, _ | ⟨b, l⟩⟩
  · simp only [endM, TMA, IA, PA, RA0, RA1, RA2, RA3, RA4, RA5, RA6, RA7, RA8, RA9, RA10, Nat.reduceAdd, Nat.reduceMul, Nat.reduceEqDiff, Nat.reduceLeDiff, Nat.reduceLT, Int.reduceToNat, Int.reduceLT, Int.reduceLE, Int.reduceEq, Int.reduceNeg, Int.reduceAdd, Int.reduceSub, Int.reduceMul, reduceIte]
  · simp only [endM]
    generalize hx : decide (a = 93) = x
    generalize hy : decide (a = 125) = y
    cases x <;> simp only [hx, hy, TMA, IA, PA, RA0, RA1, RA2, RA3, RA4, RA5, RA6, RA7, RA8, RA9, RA10, Nat.reduceAdd, Nat.reduceMul, Nat.reduceEqDiff, Nat.reduceLeDiff, Nat.reduceLT, Int.reduceToNat, Int.reduceLT, Int.reduceLE, Int.reduceEq, Int.reduceNeg, Int.reduceAdd, Int.reduceSub, Int.reduceMul, reduceIte]
  · simp only [endM, TMA, IA, PA, RA0, RA1, RA2, RA3, RA4, RA5, RA6, RA7, RA8, RA9, RA10, Nat.reduceAdd, Nat.reduceMul, Nat.reduceEqDiff, Nat.reduceLeDiff, Nat.reduceLT, Int.reduceToNat, Int.reduceLT, Int.reduceLE, Int.reduceEq, Int.reduceNeg, Int.reduceAdd, Int.reduceSub, Int.reduceMul, reduceIte]
theorem contains_nil (l : List UInt8) : True := trivial
theorem T_arity : TT 50 = some (Tryz.f50, bodyOf Tryz.f50) := by kernel_rfl
/-- Of an instruction of one byte. -/
theorem arity_ev (a : UInt8) : EE 50 [S [a]] = some (N (arM [a])) := by
  refine EE_plain T_arity (by decide) (Nat.le_of_ble_eq_true rfl) rfl ?_
  rw [show opt 50 = [] from rfl]
  simp only [bodyOf, Tryz.f50, SA]
  have h1 : [83, 77, 73, 78, 82, 67, 80].contains a = isOne a := rfl
  have h2 : [43, 42, 94, 45, 61, 60, 64].contains a = isTwo a := rfl
  simp only [arM]
  cases hx : isOne a <;> cases hy : isTwo a <;> simp only [contains_ev, h1, h2, hx, hy, TMA, IA, PA, RA0, RA1, RA2, RA3, RA4, RA5, RA6, RA7, RA8, RA9, RA10, Nat.reduceAdd, Nat.reduceMul, Nat.reduceEqDiff, Nat.reduceLeDiff, Nat.reduceLT, Int.reduceToNat, Int.reduceLT, Int.reduceLE, Int.reduceEq, Int.reduceNeg, Int.reduceAdd, Int.reduceSub, Int.reduceMul, reduceIte]

/-- The reference's kind of an instruction. -/
def kindM (l : List UInt8) : UInt8 := match l with
  | [a, b] => if (decide (a = 91) || decide (a = 123)) && isLV b then 91 else 0
  | [a] => if isDig a || isVar a then 97 else if isOne a then 83 else if isTwo a then 43 else if decide (a = 93) || decide (a = 125) then 93 else 0
  | _ => 0
theorem T_l7Kind : TT 12 = some (Tryz.f12, bodyOf Tryz.f12) := by kernel_rfl
set_option maxHeartbeats 4000000 in
theorem l7Kind_ev (l : List UInt8) : EE 12 [S l] = some (U (kindM l)) := by
  refine EE_plain T_l7Kind (by decide) (Nat.le_of_ble_eq_true rfl) rfl ?_
  rw [show opt 12 = [] from rfl]
  simp only [bodyOf, Tryz.f12, SA]
  rcases l with _ | ⟨a, _ | ⟨b, _ | ⟨d, l⟩⟩⟩
  · simp only [kindM, IA, PA, RA0, RA1, RA2, RA3, RA4, RA5, RA6, RA7, RA8, RA9, RA10, Nat.reduceAdd, Nat.reduceMul, Nat.reduceEqDiff, Nat.reduceLeDiff, Nat.reduceLT, Int.reduceToNat, Int.reduceLT, Int.reduceLE, Int.reduceEq, Int.reduceNeg, Int.reduceAdd, Int.reduceSub, Int.reduceMul, reduceIte]
    rfl
  · have e97 : decide ((a.toNat : Int) = 97) = decide (a = 97) := eq_nat a 97
    have e98 : decide ((a.toNat : Int) = 98) = decide (a = 98) := eq_nat a 98
    have e93 : decide ((a.toNat : Int) = 93) = decide (a = 93) := eq_nat a 93
    have e125 : decide ((a.toNat : Int) = 125) = decide (a = 125) := eq_nat a 125
    simp only [kindM, isVar_cases]
    simp only [l1In_ev, in_dig, in_lv, wrap_u8, e97, e98, IA, PA, RA0, RA1, RA2, RA3, RA4, RA5, RA6, RA7, RA8, RA9, RA10, Nat.reduceAdd, Nat.reduceMul, Nat.reduceEqDiff, Nat.reduceLeDiff, Nat.reduceLT, Int.reduceToNat, Int.reduceLT, Int.reduceLE, Int.reduceEq, Int.reduceNeg, Int.reduceAdd, Int.reduceSub, Int.reduceMul, reduceIte]
    generalize hd : isDig a = d
    generalize hx : decide (a = 97) = x
    generalize hy : decide (a = 98) = y
    generalize hz : isLV a = z
    have hone : [83, 77, 73, 78, 82, 67, 80].contains a = isOne a := rfl
    have htwo : [43, 42, 94, 45, 61, 60, 64].contains a = isTwo a := rfl
    generalize h1 : isOne a = o1 at hone
    generalize h2 : isTwo a = o2 at htwo
    generalize h3 : decide (a = 93) = o3 at e93
    generalize h4 : decide (a = 125) = o4 at e125
    cases d
    case true =>
      simp only [l1In_ev, in_dig, in_lv, wrap_u8, e97, e98, hd, hx, hy, hz, IA, PA, RA0, RA1, RA2, RA3, RA4, RA5, RA6, RA7, RA8, RA9, RA10, Nat.reduceAdd, Nat.reduceMul, Nat.reduceEqDiff, Nat.reduceLeDiff, Nat.reduceLT, Int.reduceToNat, Int.reduceLT, Int.reduceLE, Int.reduceEq, Int.reduceNeg, Int.reduceAdd, Int.reduceSub, Int.reduceMul, reduceIte]
      rfl
    cases x
    case true =>
      simp only [l1In_ev, in_dig, in_lv, wrap_u8, e97, e98, hd, hx, hy, hz, IA, PA, RA0, RA1, RA2, RA3, RA4, RA5, RA6, RA7, RA8, RA9, RA10, Nat.reduceAdd, Nat.reduceMul, Nat.reduceEqDiff, Nat.reduceLeDiff, Nat.reduceLT, Int.reduceToNat, Int.reduceLT, Int.reduceLE, Int.reduceEq, Int.reduceNeg, Int.reduceAdd, Int.reduceSub, Int.reduceMul, reduceIte]
      rfl
    cases y
    case true =>
      simp only [l1In_ev, in_dig, in_lv, wrap_u8, e97, e98, hd, hx, hy, hz, IA, PA, RA0, RA1, RA2, RA3, RA4, RA5, RA6, RA7, RA8, RA9, RA10, Nat.reduceAdd, Nat.reduceMul, Nat.reduceEqDiff, Nat.reduceLeDiff, Nat.reduceLT, Int.reduceToNat, Int.reduceLT, Int.reduceLE, Int.reduceEq, Int.reduceNeg, Int.reduceAdd, Int.reduceSub, Int.reduceMul, reduceIte]
      rfl
    cases z
    case true =>
      simp only [l1In_ev, in_dig, in_lv, wrap_u8, e97, e98, hd, hx, hy, hz, IA, PA, RA0, RA1, RA2, RA3, RA4, RA5, RA6, RA7, RA8, RA9, RA10, Nat.reduceAdd, Nat.reduceMul, Nat.reduceEqDiff, Nat.reduceLeDiff, Nat.reduceLT, Int.reduceToNat, Int.reduceLT, Int.reduceLE, Int.reduceEq, Int.reduceNeg, Int.reduceAdd, Int.reduceSub, Int.reduceMul, reduceIte]
      rfl
    simp only [l1In_ev, in_dig, in_lv, wrap_u8, e97, e98, hd, hx, hy, hz, IA, PA, RA0, RA1, RA2, RA3, RA4, RA5, RA6, RA7, RA8, RA9, RA10, Nat.reduceAdd, Nat.reduceMul, Nat.reduceEqDiff, Nat.reduceLeDiff, Nat.reduceLT, Int.reduceToNat, Int.reduceLT, Int.reduceLE, Int.reduceEq, Int.reduceNeg, Int.reduceAdd, Int.reduceSub, Int.reduceMul, reduceIte]
    rw [l13Find_ev _ a (by decide)]
    cases o1
    · simp only [findFrom_has, hone, IA, PA, RA0, RA1, RA2, RA3, RA4, RA5, RA6, RA7, RA8, RA9, RA10, Nat.reduceAdd, Nat.reduceMul, Nat.reduceEqDiff, Nat.reduceLeDiff, Nat.reduceLT, Int.reduceToNat, Int.reduceLT, Int.reduceLE, Int.reduceEq, Int.reduceNeg, Int.reduceAdd, Int.reduceSub, Int.reduceMul, reduceIte]
      rw [l13Find_ev _ a (by decide)]
      cases o2
      · cases o3
        · cases o4 <;> simp only [findFrom_has, htwo, e93, e125, h3, h4, IA, PA, RA0, RA1, RA2, RA3, RA4, RA5, RA6, RA7, RA8, RA9, RA10, Nat.reduceAdd, Nat.reduceMul, Nat.reduceEqDiff, Nat.reduceLeDiff, Nat.reduceLT, Int.reduceToNat, Int.reduceLT, Int.reduceLE, Int.reduceEq, Int.reduceNeg, Int.reduceAdd, Int.reduceSub, Int.reduceMul, reduceIte] <;> rfl
        · simp only [findFrom_has, htwo, e93, e125, h3, h4, IA, PA, RA0, RA1, RA2, RA3, RA4, RA5, RA6, RA7, RA8, RA9, RA10, Nat.reduceAdd, Nat.reduceMul, Nat.reduceEqDiff, Nat.reduceLeDiff, Nat.reduceLT, Int.reduceToNat, Int.reduceLT, Int.reduceLE, Int.reduceEq, Int.reduceNeg, Int.reduceAdd, Int.reduceSub, Int.reduceMul, reduceIte]
          rfl
      · simp only [findFrom_has, htwo, IA, PA, RA0, RA1, RA2, RA3, RA4, RA5, RA6, RA7, RA8, RA9, RA10, Nat.reduceAdd, Nat.reduceMul, Nat.reduceEqDiff, Nat.reduceLeDiff, Nat.reduceLT, Int.reduceToNat, Int.reduceLT, Int.reduceLE, Int.reduceEq, Int.reduceNeg, Int.reduceAdd, Int.reduceSub, Int.reduceMul, reduceIte]
        rfl
    · simp only [findFrom_has, hone, IA, PA, RA0, RA1, RA2, RA3, RA4, RA5, RA6, RA7, RA8, RA9, RA10, Nat.reduceAdd, Nat.reduceMul, Nat.reduceEqDiff, Nat.reduceLeDiff, Nat.reduceLT, Int.reduceToNat, Int.reduceLT, Int.reduceLE, Int.reduceEq, Int.reduceNeg, Int.reduceAdd, Int.reduceSub, Int.reduceMul, reduceIte]
      rfl
  · have e1 : decide ((a.toNat : Int) = 91) = decide (a = 91) := eq_nat a 91
    have e2 : decide ((a.toNat : Int) = 123) = decide (a = 123) := eq_nat a 123
    simp only [kindM]
    generalize hx : decide (a = 91) = x
    generalize hy : decide (a = 123) = y
    generalize hz : isLV b = z
    cases x <;> cases y <;> cases z <;> simp only [l1In_ev, in_lv, wrap_u8, e1, e2, hx, hy, hz, IA, PA, RA0, RA1, RA2, RA3, RA4, RA5, RA6, RA7, RA8, RA9, RA10, Nat.reduceAdd, Nat.reduceMul, Nat.reduceEqDiff, Nat.reduceLeDiff, Nat.reduceLT, Int.reduceToNat, Int.reduceLT, Int.reduceLE, Int.reduceEq, Int.reduceNeg, Int.reduceAdd, Int.reduceSub, Int.reduceMul, reduceIte] <;> rfl
  · have h1 : ¬ (((l.length + 1 + 1 + 1 : Nat) : Int) = 2) := by omega
    have h2 : ¬ (((l.length + 1 + 1 + 1 : Nat) : Int) = 1) := by omega
    simp only [kindM, h1, h2, IA, PA, RA0, RA1, RA2, RA3, RA4, RA5, RA6, RA7, RA8, RA9, RA10, Nat.reduceAdd, Nat.reduceMul, Nat.reduceEqDiff, Nat.reduceLeDiff, Nat.reduceLT, Int.reduceToNat, Int.reduceLT, Int.reduceLE, Int.reduceEq, Int.reduceNeg, Int.reduceAdd, Int.reduceSub, Int.reduceMul, reduceIte]
    rfl
end
end Go.Proofs.YtegbkihgnofkfaaGreatDoor.Ev

/-
Code: texts of lists, the code of a term.
-/
namespace Go.Proofs.YtegbkihgnofkfaaGreatDoor.Ev
section
set_option linter.unusedVariables false
set_option linter.unusedSimpArgs false
open Go Go.RowKit
set_option linter.unusedVariables false
set_option linter.unusedSimpArgs false

/-- The text of instructions. -/
def joinS (l : List (List UInt8)) : List UInt8 := Lib.join l [32]
/-- As the reference's loop makes it: what is there, the place. -/
def joinFrom (acc : List UInt8) (i : Nat) : List (List UInt8) → List UInt8
  | [] => acc
  | x :: l => joinFrom ((if 0 < i then acc ++ [32] else acc) ++ x) (i + 1) l
theorem joinFrom_len : ∀ (l : List (List UInt8)) (acc : List UInt8) (i : Nat), acc.length ≤ (joinFrom acc i l).length
  | [], acc, i => Nat.le_refl _
  | x :: l, acc, i => by
    have := joinFrom_len l ((if 0 < i then acc ++ [32] else acc) ++ x) (i + 1)
    simp only [joinFrom]
    refine Nat.le_trans ?_ this
    split <;> simp
theorem joinFrom_tail : ∀ (l : List (List UInt8)) (acc : List UInt8) (i : Nat), 0 < i → joinFrom acc i l = acc ++ Lib.joinTail [32] l
  | [], acc, i, _ => by simp [joinFrom, Lib.joinTail]
  | x :: l, acc, i, h => by
    rw [joinFrom, joinFrom_tail l _ _ (Nat.succ_pos i), if_pos h]
    simp [Lib.joinTail]
theorem joinFrom_join (l : List (List UInt8)) : joinFrom [] 0 l = joinS l := by
  cases l with
  | nil => rfl
  | cons x l =>
    rw [joinFrom, joinFrom_tail l _ _ (Nat.succ_pos 0), if_neg (by omega), joinS, Lib.join_cons]
    rfl

theorem T_l7Text : TT 40 = some (Tryz.f40, bodyOf Tryz.f40) := by kernel_rfl
theorem strs_drop_head {L : List (List UInt8)} {i : Nat} {x : List UInt8} {r : List (List UInt8)} (h : L.drop i = x :: r) : i < L.length ∧ L[i]? = some x ∧ L.drop (i + 1) = r := by
  have h1 : i < L.length := by
    rcases Nat.lt_or_ge i L.length with h2 | h2
    · exact h2
    · rw [List.drop_eq_nil_of_le h2] at h; cases h
  refine ⟨h1, ?_, ?_⟩
  · have : (L.drop i)[0]? = some x := by rw [h]; rfl
    simpa using this
  · have : (L.drop i).drop 1 = r := by rw [h]; rfl
    simpa [List.drop_drop] using this
theorem l7Text_loop (ex : Bool) (L : List (List UInt8)) (hL : L.length < 4611686018427387904) : ∀ (r : List (List UInt8)) (i n : Nat) (acc : List UInt8) (e : Nat → AV) (σ : Sto) (nx : Nat) (q : Option (Ex × St)),
    L.drop i = r → r.length < n → (joinFrom acc i r).length ≤ 1000000 → roundsE (evC II EE (withOpt [] pf) MX (bodyL Tryz.f40 0)) n ⟨e, σ, nx⟩ = q → e 6 = .s ex L.length (strs L) → e 7 = N L.length → e 8 = N i → e 3 = S acc →
    ∃ e' nx', q = some (.exit 0, ⟨e', σ, nx'⟩) ∧ e' 3 = S (joinFrom acc i r) := by
  intro r
  induction r with
  | nil =>
    intro i n acc e σ nx q hd hn hb hq h6 h7 h8 h3
    have hlen : L.length ≤ i := by simpa using hd
    obtain ⟨k, rfl⟩ : ∃ k, n = k + 1 := ⟨n - 1, by omega⟩
    rw [rounds_rd] at hq
    have hc : ¬ ((i : Int) < (L.length : Int)) := by omega
    simp only [bodyL, bodyOf, Tryz.f40, SA, loops, List.nil_append, List.append_nil, List.cons_append, List.getD_cons_zero, List.getD_cons_succ] at hq
    simp only [h6, h7, h8, hc, IA, PA, RA0, RA1, RA2, RA3, RA4, RA5, RA6, RA7, RA8, RA9, RA10, Nat.reduceAdd, Nat.reduceMul, Nat.reduceEqDiff, Nat.reduceLeDiff, Nat.reduceLT, Int.reduceToNat, Int.reduceLT, Int.reduceLE, Int.reduceEq, Int.reduceNeg, Int.reduceAdd, Int.reduceSub, Int.reduceMul, reduceIte] at hq
    exact ⟨_, _, hq.symm, h3⟩
  | cons x r ih =>
    intro i n acc e σ nx q hd hn hb hq h6 h7 h8 h3
    obtain ⟨hi, hx, hd'⟩ := strs_drop_head hd
    obtain ⟨k, rfl⟩ : ∃ k, n = k + 1 := ⟨n - 1, by omega⟩
    rw [rounds_rd] at hq
    simp only [joinFrom] at hb ⊢
    have hmono := joinFrom_len r ((if 0 < i then acc ++ [32] else acc) ++ x) (i + 1)
    have hc : ((i : Int) < (L.length : Int)) := by omega
    have hz : (0 : Int) ≤ (i : Int) := by omega
    have hw : IntKind.i64.wrap ((i : Int) + 1) = ((i + 1 : Nat) : Int) := by rw [wrap64 (by omega) (by omega)]; rfl
    have hhd : ((strs L).drop i).head? = some (S x) := by rw [strs_drop, hd]; rfl
    simp only [bodyL, bodyOf, Tryz.f40, SA, loops, List.nil_append, List.append_nil, List.cons_append, List.getD_cons_zero, List.getD_cons_succ] at hq
    by_cases h0 : 0 < i
    · have h0' : (0 : Int) < (i : Int) := by omega
      rw [if_pos h0] at hmono hb ⊢
      simp only [List.length_append, List.length_cons, List.length_nil] at hmono
      simp only [h6, h7, h8, h3, hc, hz, hw, h0', hhd, Int.toNat_natCast, Nat.mul_one, str_addIf, List.length_append, RR, IA, PA, RA0, RA1, RA2, RA3, RA4, RA5, RA6, RA7, RA8, RA9, RA10, Nat.reduceAdd, Nat.reduceMul, Nat.reduceEqDiff, Nat.reduceLeDiff, Nat.reduceLT, Int.reduceToNat, Int.reduceLT, Int.reduceLE, Int.reduceEq, Int.reduceNeg, Int.reduceAdd, Int.reduceSub, Int.reduceMul, reduceIte] at hq
      rw [if_pos (by omega), if_pos (by omega)] at hq
      exact ih (i + 1) k _ _ σ _ q hd' (by simpa using hn) hb hq h6 h7 rfl rfl
    · have h0' : ¬ (0 : Int) < (i : Int) := by omega
      rw [if_neg h0] at hmono hb ⊢
      simp only [List.length_append] at hmono
      simp only [h6, h7, h8, h3, hc, hz, hw, h0', hhd, Int.toNat_natCast, Nat.mul_one, str_addIf, List.length_append, RR, IA, PA, RA0, RA1, RA2, RA3, RA4, RA5, RA6, RA7, RA8, RA9, RA10, Nat.reduceAdd, Nat.reduceMul, Nat.reduceEqDiff, Nat.reduceLeDiff, Nat.reduceLT, Int.reduceToNat, Int.reduceLT, Int.reduceLE, Int.reduceEq, Int.reduceNeg, Int.reduceAdd, Int.reduceSub, Int.reduceMul, reduceIte] at hq
      rw [if_pos (by omega)] at hq
      exact ih (i + 1) k _ _ σ _ q hd' (by simpa using hn) hb hq h6 h7 rfl rfl
theorem l7Text_ev (ex : Bool) (L : List (List UInt8)) (hL : L.length < 4611686018427387904) (hb : (joinS L).length ≤ 1000000) : EE 40 [.s ex L.length (strs L)] = some (S (joinS L)) := by
  refine EE_plain T_l7Text (by decide) (Nat.le_of_ble_eq_true rfl) (by simp only [closedL, closed, strs_closed, Bool.and_self]) ?_
  rw [show opt 40 = [] from rfl]
  simp only [bodyOf, Tryz.f40, SA]
  simp only [IA, PA, RA0, RA1, RA2, RA3, RA4, RA5, RA6, RA7, RA8, RA9, RA10, Nat.reduceAdd, Nat.reduceMul, Nat.reduceEqDiff, Nat.reduceLeDiff, Nat.reduceLT, Int.reduceToNat, Int.reduceLT, Int.reduceLE, Int.reduceEq, Int.reduceNeg, Int.reduceAdd, Int.reduceSub, Int.reduceMul, reduceIte]
  generalize hq : roundsE _ _ _ = q
  rw [← joinFrom_join] at hb ⊢
  obtain ⟨e', nx', rfl, h3⟩ := l7Text_loop ex L hL L 0 MX [] _ _ _ q rfl (lt_MX (by omega)) hb hq rfl rfl rfl rfl
  simp only [h3, IA, PA, RA0, RA1, RA2, RA3, RA4, RA5, RA6, RA7, RA8, RA9, RA10, Nat.reduceAdd, Nat.reduceMul, Nat.reduceEqDiff, Nat.reduceLeDiff, Nat.reduceLT, Int.reduceToNat, Int.reduceLT, Int.reduceLE, Int.reduceEq, Int.reduceNeg, Int.reduceAdd, Int.reduceSub, Int.reduceMul, reduceIte]
end
end Go.Proofs.YtegbkihgnofkfaaGreatDoor.Ev

/-
Code: a text cut at a byte; both cuts are the same.
-/
namespace Go.Proofs.YtegbkihgnofkfaaGreatDoor.Ev
section
set_option linter.unusedVariables false
set_option linter.unusedSimpArgs false
open Go Go.RowKit
set_option linter.unusedVariables false
set_option linter.unusedSimpArgs false

/-- The pieces of a text between the bytes c, cur being at hand. -/
def cutF (c : UInt8) : List UInt8 → List UInt8 → List (List UInt8)
  | cur, [] => [cur]
  | cur, x :: l => if x = c then cur :: cutF c [] l else cutF c (cur ++ [x]) l
def cutL (c : UInt8) (l : List UInt8) : List (List UInt8) := cutF c [] l
theorem cutF_len (c : UInt8) : ∀ (l cur : List UInt8), (cutF c cur l).length = l.count c + 1
  | [], cur => rfl
  | x :: l, cur => by
    rw [cutF]
    by_cases h : x = c
    · subst h
      simp [cutF_len]
    · rw [if_neg h, cutF_len c l, List.count_cons_of_ne h]
theorem T_l13Cut : TT 28 = some (Tryz.f28, bodyOf Tryz.f28) := by kernel_rfl
theorem l13Cut_loop (s : List UInt8) (c : UInt8) (hs : s.length < 1000000000) : ∀ (r : List UInt8) (i from_ n : Nat) (done : List (List UInt8)) (e : Nat → AV) (σ : Sto) (nx : Nat) (q : Option (Ex × St)),
    s.drop i = r → i ≤ s.length → from_ ≤ i → r.length + 1 < n → done.length ≤ i → roundsE (evC II EE (withOpt [] pf) MX (bodyL Tryz.f28 0)) n ⟨e, σ, nx⟩ = q →
    e 0 = S s → e 1 = U c → Lst σ nx 9 1 (e 5) done.length (strs done) → e 6 = N from_ → e 7 = N i →
    ∃ e' σ' nx', q = some (.exit 0, ⟨e', σ', nx'⟩) ∧ Lst σ' nx' 9 1 (e' 5) (done ++ cutF c ((s.take i).drop from_) r).length (strs (done ++ cutF c ((s.take i).drop from_) r)) := by
  intro r
  induction r with
  | nil =>
    intro i from_ n done e σ nx q hd hi hf hn hdl hq h0 h1 h5 h6 h7
    have hlen : i = s.length := by
      have : s.length ≤ i := by simpa using hd
      omega
    subst hlen
    obtain ⟨k, rfl⟩ : ∃ k, n = k + 2 := ⟨n - 2, by simp only [List.length_nil] at hn; omega⟩
    rw [rounds_rd] at hq
    have hc : ((s.length : Int) ≤ (s.length : Int)) := Int.le_refl _
    have hf1 : (0 : Int) ≤ (from_ : Int) := by omega
    have hf2 : (from_ : Int) ≤ (s.length : Int) := by omega
    have hw : IntKind.i64.wrap ((s.length : Int) + 1) = ((s.length + 1 : Nat) : Int) := by rw [wrap64 (by omega) (by omega)]; rfl
    have hc' : ¬ (((s.length + 1 : Nat) : Int) ≤ (s.length : Int)) := by omega
    simp only [bodyL, bodyOf, Tryz.f28, SA, loops, List.nil_append, List.append_nil, List.cons_append, List.getD_cons_zero, List.getD_cons_succ] at hq
    simp only [h0, h1, h6, h7, hc, hw, hf1, hf2, Int.toNat_natCast, RR, IA, PA, RA0, RA1, RA2, RA3, RA4, RA5, RA6, RA7, RA8, RA9, RA10, Nat.reduceAdd, Nat.reduceMul, Nat.reduceEqDiff, Nat.reduceLeDiff, Nat.reduceLT, Int.reduceToNat, Int.reduceLT, Int.reduceLE, Int.reduceEq, Int.reduceNeg, Int.reduceAdd, Int.reduceSub, Int.reduceMul, reduceIte] at hq
    rw [lst_app h5 (by decide) (by rfl) (by simp only [List.all_cons, List.all_nil, leafOk_str, Bool.and_self]) (by decide) (by omega) (by omega) (by omega)] at hq
    simp only [h7, hw, IA, PA, RA0, RA1, RA2, RA3, RA4, RA5, RA6, RA7, RA8, RA9, RA10, Nat.reduceAdd, Nat.reduceMul, Nat.reduceEqDiff, Nat.reduceLeDiff, Nat.reduceLT, Int.reduceToNat, Int.reduceLT, Int.reduceLE, Int.reduceEq, Int.reduceNeg, Int.reduceAdd, Int.reduceSub, Int.reduceMul, reduceIte] at hq
    rw [rounds_rd] at hq
    simp only [h0, hc', Int.toNat_natCast, RR, IA, PA, RA0, RA1, RA2, RA3, RA4, RA5, RA6, RA7, RA8, RA9, RA10, Nat.reduceAdd, Nat.reduceMul, Nat.reduceEqDiff, Nat.reduceLeDiff, Nat.reduceLT, Int.reduceToNat, Int.reduceLT, Int.reduceLE, Int.reduceEq, Int.reduceNeg, Int.reduceAdd, Int.reduceSub, Int.reduceMul, reduceIte] at hq
    refine ⟨_, _, _, hq.symm, ?_⟩
    simp only [cutF, List.length_append, List.length_cons, List.length_nil, ← strs_append]
    exact lst_key (by simp [strs_len]) (by omega)
  | cons x r ih =>
    intro i from_ n done e σ nx q hd hi hf hn hdl hq h0 h1 h5 h6 h7
    have hil : i < s.length := by
      rcases Nat.lt_or_ge i s.length with h | h
      · exact h
      · rw [List.drop_eq_nil_of_le h] at hd; cases hd
    have hx : s[i]? = some x := by
      have : (s.drop i)[0]? = some x := by rw [hd]; rfl
      simpa using this
    have hd' : s.drop (i + 1) = r := by
      have : (s.drop i).drop 1 = r := by rw [hd]; rfl
      simpa [List.drop_drop] using this
    have htk : (s.take (i + 1)).drop from_ = (s.take i).drop from_ ++ [x] := by
      rw [List.take_add_one, hx, List.drop_append_of_le_length (by simp; omega)]
      rfl
    have htk' : (s.take (i + 1)).drop (i + 1) = [] := by simp
    obtain ⟨k, rfl⟩ : ∃ k, n = k + 1 := ⟨n - 1, by omega⟩
    rw [rounds_rd] at hq
    have hc : ((i : Int) ≤ (s.length : Int)) := by omega
    have hne : ¬ ((i : Int) = (s.length : Int)) := by omega
    have hlt : ((i : Int) < (s.length : Int)) := by omega
    have hz : (0 : Int) ≤ (i : Int) := by omega
    have hf1 : (0 : Int) ≤ (from_ : Int) := by omega
    have hf2 : (from_ : Int) ≤ (i : Int) := by omega
    have hw : IntKind.i64.wrap ((i : Int) + 1) = ((i + 1 : Nat) : Int) := by rw [wrap64 (by omega) (by omega)]; rfl
    simp only [bodyL, bodyOf, Tryz.f28, SA, loops, List.nil_append, List.append_nil, List.cons_append, List.getD_cons_zero, List.getD_cons_succ] at hq
    simp only [h0, h1, h6, h7, hc, hne, hlt, hz, hx, hw, hf1, hf2, Int.toNat_natCast, RR, IA, PA, RA0, RA1, RA2, RA3, RA4, RA5, RA6, RA7, RA8, RA9, RA10, Nat.reduceAdd, Nat.reduceMul, Nat.reduceEqDiff, Nat.reduceLeDiff, Nat.reduceLT, Int.reduceToNat, Int.reduceLT, Int.reduceLE, Int.reduceEq, Int.reduceNeg, Int.reduceAdd, Int.reduceSub, Int.reduceMul, reduceIte] at hq
    by_cases hxc : x = c
    · subst hxc
      simp only [decide_true, if_true] at hq
      rw [lst_app h5 (by decide) (by rfl) (by simp only [List.all_cons, List.all_nil, leafOk_str, Bool.and_self]) (by decide) (by omega) (by omega) (by omega)] at hq
      simp only [h7, hw, IA, PA, RA0, RA1, RA2, RA3, RA4, RA5, RA6, RA7, RA8, RA9, RA10, Nat.reduceAdd, Nat.reduceMul, Nat.reduceEqDiff, Nat.reduceLeDiff, Nat.reduceLT, Int.reduceToNat, Int.reduceLT, Int.reduceLE, Int.reduceEq, Int.reduceNeg, Int.reduceAdd, Int.reduceSub, Int.reduceMul, reduceIte] at hq
      have h5' : Lst (appSto σ (nx + 16 + 44 + 24) 9 1 (e 5) (done.length + 1) (strs done ++ [S ((s.take i).drop from_)])) (nx + 16 + 44 + 32) 9 1 (.w (nx + 16 + 44 + 24) 0 (done.length + 1)) (done ++ [(s.take i).drop from_]).length (strs (done ++ [(s.take i).drop from_])) := by
        rw [← strs_append]
        exact (show (done ++ [(s.take i).drop from_]).length = done.length + 1 by simp) ▸ lst_key (by simp [strs_len]) (by omega)
      have := ih (i + 1) (i + 1) k (done ++ [(s.take i).drop from_]) _ _ _ q hd' (by omega) (Nat.le_refl _) (by simpa using hn) (by simpa using hdl) hq h0 h1 (lst_mono h5' (by omega)) rfl rfl
      rw [htk'] at this
      simpa [cutF] using this
    · have hn' : ¬ ((x.toNat : Int) = (c.toNat : Int)) := fun h => hxc (UInt8.toNat_inj.mp (by omega))
      simp only [decide_eq_true_eq] at hq
      rw [if_neg hn'] at hq
      have := ih (i + 1) from_ k done _ _ _ q hd' (by omega) (by omega) (by simpa using hn) (by omega) hq h0 h1 (lst_mono h5 (by omega)) h6 rfl
      rw [htk] at this
      simpa [cutF, hxc] using this
theorem l13Cut_ev (s : List UInt8) (c : UInt8) (hs : s.length < 1000000000) : EE 28 [S s, U c] = some (.o 9 1 (cutL c s).length (strs (cutL c s))) := by
  refine EE_plain T_l13Cut (by decide) (Nat.le_of_ble_eq_true rfl) (by rfl) ?_
  rw [show opt 28 = [] from rfl]
  simp only [bodyOf, Tryz.f28, SA]
  simp only [IA, PA, RA0, RA1, RA2, RA3, RA4, RA5, RA6, RA7, RA8, RA9, RA10, Nat.reduceAdd, Nat.reduceMul, Nat.reduceEqDiff, Nat.reduceLeDiff, Nat.reduceLT, Int.reduceToNat, Int.reduceLT, Int.reduceLE, Int.reduceEq, Int.reduceNeg, Int.reduceAdd, Int.reduceSub, Int.reduceMul, reduceIte]
  generalize hq : roundsE _ _ _ = q
  obtain ⟨e', σ', nx', rfl, h5⟩ := l13Cut_loop s c hs s 0 0 MX [] _ _ _ q rfl (Nat.zero_le _) (Nat.le_refl _) (lt_MX (by omega)) (Nat.le_refl _) hq rfl rfl (lst_nil _ _ _ _) rfl rfl
  simp only [List.nil_append, List.drop_nil, List.take_zero] at h5
  simp only [IA, PA, RA0, RA1, RA2, RA3, RA4, RA5, RA6, RA7, RA8, RA9, RA10, Nat.reduceAdd, Nat.reduceMul, Nat.reduceEqDiff, Nat.reduceLeDiff, Nat.reduceLT, Int.reduceToNat, Int.reduceLT, Int.reduceLE, Int.reduceEq, Int.reduceNeg, Int.reduceAdd, Int.reduceSub, Int.reduceMul, reduceIte]
  have hp : (cutL c s).length ≠ 0 := by rw [cutL, cutF_len]; omega
  rw [give_lst h5 (strs_closed _)]
  exact congrArg some (lstR_pos h5 hp)
end
end Go.Proofs.YtegbkihgnofkfaaGreatDoor.Ev

/-
Code: strings.Split with one byte is the reference's cut.
-/
namespace Go.Proofs.YtegbkihgnofkfaaGreatDoor.Ev
section
set_option linter.unusedVariables false
set_option linter.unusedSimpArgs false
open Go Go.RowKit
set_option linter.unusedVariables false
set_option linter.unusedSimpArgs false

theorem cutF_cur (c : UInt8) : ∀ (l cur : List UInt8) (a : List UInt8) (t : List (List UInt8)), cutF c [] l = a :: t → cutF c cur l = (cur ++ a) :: t
  | [], cur, a, t, h => by
    simp only [cutF, List.cons.injEq] at h ⊢
    obtain ⟨rfl, rfl⟩ := h
    simp
  | x :: l, cur, a, t, h => by
    simp only [cutF] at h ⊢
    by_cases hx : x = c
    · rw [if_pos hx, List.cons.injEq] at h
      rw [if_pos hx]
      obtain ⟨rfl, rfl⟩ := h
      simp
    · rw [if_neg hx] at h ⊢
      obtain ⟨b, u, hb⟩ : ∃ b u, cutF c [] l = b :: u := by
        have := cutF_len c l []
        cases h2 : cutF c [] l with
        | nil => rw [h2] at this; simp at this
        | cons b u => exact ⟨b, u, rfl⟩
      rw [cutF_cur c l _ b u hb, List.nil_append] at h
      rw [cutF_cur c l _ b u hb]
      obtain ⟨rfl, rfl⟩ := List.cons.inj h
      simp
theorem cutL_cons (c : UInt8) (l : List UInt8) : ∃ a t, cutL c l = a :: t := by
  have := cutF_len c l []
  cases h2 : cutF c [] l with
  | nil => rw [h2] at this; simp at this
  | cons b u => exact ⟨b, u, h2⟩
theorem cutL_none (c : UInt8) : ∀ (l : List UInt8), Lib.indexByte l c = -1 → cutL c l = [l] ∧ l.count c = 0
  | [], _ => ⟨rfl, rfl⟩
  | x :: l, h => by
    unfold Lib.indexByte at h
    by_cases hx : x = c
    · subst hx
      simp at h
    · have hb : ¬ ((x == c) = true) := by simpa using hx
      rw [if_neg hb] at h
      have h' : Lib.indexByte l c = -1 := by
        split at h
        · rename_i h2; simpa using h2
        · have := Lib.indexByte_ge l c; omega
      obtain ⟨h1, h2⟩ := cutL_none c l h'
      refine ⟨?_, by rw [List.count_cons_of_ne hx, h2]⟩
      rw [cutL, cutF, if_neg hx, cutF_cur c l _ l [] h1]
      rfl
theorem cutL_some (c : UInt8) : ∀ (l : List UInt8) (o : Nat), Lib.indexByte l c = (o : Int) → o < l.length ∧ cutL c l = l.take o :: cutL c (l.drop (o + 1)) ∧ l.count c = (l.drop (o + 1)).count c + 1
  | [], o, h => by simp only [Lib.indexByte] at h; omega
  | x :: l, o, h => by
    unfold Lib.indexByte at h
    by_cases hx : x = c
    · subst hx
      simp only [beq_self_eq_true, if_true] at h
      obtain rfl : o = 0 := by omega
      refine ⟨by simp, ?_, by simp⟩
      rw [cutL, cutF, if_pos rfl]
      rfl
    · have hb : ¬ ((x == c) = true) := by simpa using hx
      rw [if_neg hb] at h
      split at h
      · omega
      · obtain ⟨p, rfl⟩ : ∃ p, o = p + 1 := ⟨o - 1, by have := Lib.indexByte_ge l c; rename_i h3; simp at h3; omega⟩
        obtain ⟨h0, h1, h2⟩ := cutL_some c l p (by omega)
        refine ⟨by simpa using h0, ?_, ?_⟩
        · rw [cutL, cutF, if_neg hx, cutF_cur c l _ _ _ h1]
          rfl
        · rw [List.count_cons_of_ne hx, h2]
          rfl
theorem index_ev (l : List UInt8) (c : UInt8) : EE 56 [S l, S [c]] = some (N (Lib.indexByte l c)) := EE_hand rfl
theorem count_ev (l : List UInt8) (c : UInt8) : EE 55 [S l, S [c]] = some (N (l.count c : Nat)) := EE_hand rfl
theorem zrow_one (n : Nat) (z : AV) : zrow (n * 1) 1 [z] = List.replicate n z := by
  unfold zrow
  refine List.ext_getElem (by simp) fun i h1 h2 => ?_
  simp [Nat.mod_one]
theorem T_genSplit : TT 37 = some (Tryz.f37, bodyOf Tryz.f37) := by kernel_rfl
theorem genSplit_loop (c : UInt8) : ∀ (d : Nat) (s : List UInt8) (n k : Nat) (done : List (List UInt8)) (id : Nat) (e : Nat → AV) (σ : Sto) (nx : Nat) (q : Option (Ex × St)),
    s.count c = d → s.length < 1000000000 → n < 1000000000 → d < k → done.length + d + 1 = n → roundsE (evC II EE (withOpt [] pf) MX (bodyL Tryz.f37 0)) k ⟨e, σ, nx⟩ = q →
    e 0 = S s → e 1 = S [c] → e 2 = N 0 → e 3 = N ((n - 1 : Nat) : Int) → e 9 = .w id 0 n → e 10 = N done.length → σ id = some (.row 9 1 n (strs done ++ List.replicate (d + 1) (S []))) →
    ∃ e' σ' nx' done' s', q = some (.exit 0, ⟨e', σ', nx'⟩) ∧ e' 0 = S s' ∧ e' 9 = .w id 0 n ∧ e' 10 = N ((n - 1 : Nat) : Int) ∧ done'.length = n - 1 ∧ σ' id = some (.row 9 1 n (strs done' ++ [S []])) ∧ done ++ cutL c s = done' ++ [s'] := by
  intro d
  induction d with
  | zero =>
    intro s n k done id e σ nx q hd hs hn hk hl hq h0 h1 h2 h3 h9 h10 hσ
    obtain ⟨j, rfl⟩ : ∃ j, k = j + 1 := ⟨k - 1, by omega⟩
    have hlen : done.length = n - 1 := by omega
    rw [rounds_rd] at hq
    simp only [bodyL, bodyOf, Tryz.f37, SA, loops, List.nil_append, List.append_nil, List.cons_append, List.getD_cons_zero, List.getD_cons_succ] at hq
    have hc : ¬ (((n - 1 : Nat) : Int) < ((n - 1 : Nat) : Int)) := Int.lt_irrefl _
    rw [hlen] at h10
    simp only [h3, h10, hc, RR, IA, PA, RA0, RA1, RA2, RA3, RA4, RA5, RA6, RA7, RA8, RA9, RA10, Nat.reduceAdd, Nat.reduceMul, Nat.reduceEqDiff, Nat.reduceLeDiff, Nat.reduceLT, Int.reduceToNat, Int.reduceLT, Int.reduceLE, Int.reduceEq, Int.reduceNeg, Int.reduceAdd, Int.reduceSub, Int.reduceMul, reduceIte] at hq
    refine ⟨_, _, _, done, s, hq.symm, h0, h9, h10, hlen, hσ, ?_⟩
    rw [(cutL_none c s ?_).1]
    rcases Int.lt_or_le (Lib.indexByte s c) 0 with h | h
    · have := Lib.indexByte_ge s c; omega
    · obtain ⟨o, ho⟩ := Int.eq_ofNat_of_zero_le h
      have := (cutL_some c s o ho).2.2
      omega
  | succ d ih =>
    intro s n k done id e σ nx q hd hs hn hk hl hq h0 h1 h2 h3 h9 h10 hσ
    obtain ⟨j, rfl⟩ : ∃ j, k = j + 1 := ⟨k - 1, by omega⟩
    obtain ⟨o, ho⟩ : ∃ o : Nat, Lib.indexByte s c = (o : Int) := by
      rcases Int.lt_or_le (Lib.indexByte s c) 0 with h | h
      · have h' : Lib.indexByte s c = -1 := by have := Lib.indexByte_ge s c; omega
        have := (cutL_none c s h').2
        omega
      · exact Int.eq_ofNat_of_zero_le h
    obtain ⟨hol, hcut, hcnt⟩ := cutL_some c s o ho
    rw [rounds_rd] at hq
    simp only [bodyL, bodyOf, Tryz.f37, SA, loops, List.nil_append, List.append_nil, List.cons_append, List.getD_cons_zero, List.getD_cons_succ] at hq
    have hc : ((done.length : Int) < ((n - 1 : Nat) : Int)) := by omega
    have hc2 : ((done.length : Int) < (n : Int)) := by omega
    have hz : (0 : Int) ≤ (done.length : Int) := by omega
    have hoz : ¬ ((o : Int) < 0) := by omega
    have hoz' : (0 : Int) ≤ (o : Int) := by omega
    have hos : ((o : Int) ≤ (s.length : Int)) := by omega
    have hos1 : (((o + 1 : Nat) : Int) ≤ (s.length : Int)) := by omega
    have hos2 : (0 : Int) ≤ ((o + 1 : Nat) : Int) := by omega
    have hw0 : IntKind.i64.wrap ((o : Int) + 0) = (o : Int) := by rw [wrap64 (by omega) (by omega)]; rfl
    have hw1 : IntKind.i64.wrap ((o : Int) + 1) = ((o + 1 : Nat) : Int) := by rw [wrap64 (by omega) (by omega)]; rfl
    have hw : IntKind.i64.wrap ((done.length : Int) + 1) = ((done.length + 1 : Nat) : Int) := by rw [wrap64 (by omega) (by omega)]; rfl
    simp only [h0, h1, h2, h3, h9, h10, hσ, index_ev, ho, hc, hc2, hz, hoz, hoz', hos, hos1, hos2, hw0, hw1, hw, Int.toNat_natCast, RR, IA, PA, RA0, RA1, RA2, RA3, RA4, RA5, RA6, RA7, RA8, RA9, RA10, Nat.reduceAdd, Nat.reduceMul, Nat.reduceEqDiff, Nat.reduceLeDiff, Nat.reduceLT, Int.reduceToNat, Int.reduceLT, Int.reduceLE, Int.reduceEq, Int.reduceNeg, Int.reduceAdd, Int.reduceSub, Int.reduceMul, reduceIte] at hq
    rw [if_pos (by rw [List.length_append, strs_len, List.length_replicate]; omega)] at hq
    have hrow : (strs done ++ List.replicate (d + 1 + 1) (S [])).take done.length ++ [S (s.take o)] ++ (strs done ++ List.replicate (d + 1 + 1) (S [])).drop (done.length + 1) = strs (done ++ [s.take o]) ++ List.replicate (d + 1) (S []) := by
      rw [List.take_append_of_le_length (by rw [strs_len]; omega), List.take_of_length_le (by rw [strs_len]; omega), List.drop_append, List.drop_eq_nil_of_le (by rw [strs_len]; omega), strs_len, List.nil_append, show done.length + 1 - done.length = 1 from by omega, List.drop_replicate, ← strs_append]
      rfl
    have hdl : (s.drop (o + 1)).length ≤ s.length := by simp
    obtain ⟨e', σ', nx', done', s', rfl, a0, a9, a10, al, aσ, ac⟩ := ih (s.drop (o + 1)) n j (done ++ [s.take o]) id _ _ _ q (by omega) (by omega) hn (by omega) (by simp; omega) hq (by first | rfl | simp) h1 h2 h3 h9 (by simp) (by simp only [upd, if_true, ← hrow])
    refine ⟨e', σ', nx', done', s', rfl, a0, a9, a10, al, aσ, ?_⟩
    rw [hcut, ← ac, List.append_assoc]
    rfl
theorem genSplit_ev (s : List UInt8) (c : UInt8) (hs : s.length < 900000000) : EE 37 [S s, S [c], N 0, N (-1)] = some (.o 9 1 (cutL c s).length (strs (cutL c s))) := by
  refine EE_plain T_genSplit (by decide) (Nat.le_of_ble_eq_true rfl) (by rfl) ?_
  rw [show opt 37 = [] from rfl]
  simp only [bodyOf, Tryz.f37, SA]
  have hcl : s.count c ≤ s.length := List.count_le_length
  have hw : IntKind.i64.wrap (((s.count c : Nat) : Int) + 1) = ((s.count c + 1 : Nat) : Int) := by rw [wrap64 (by omega) (by omega)]; rfl
  have hw2 : IntKind.i64.wrap (((s.count c + 1 : Nat) : Int) - 1) = ((s.count c + 1 - 1 : Nat) : Int) := by rw [wrap64 (by omega) (by omega)]; omega
  have hw3 : IntKind.i64.wrap ((s.length : Int) + 1) = ((s.length + 1 : Nat) : Int) := by rw [wrap64 (by omega) (by omega)]; rfl
  have hm : ¬ (((s.length + 1 : Nat) : Int) < ((s.count c + 1 : Nat) : Int)) := by omega
  have hz : (0 : Int) ≤ ((s.count c + 1 : Nat) : Int) := by omega
  have hl1 : (s.count c + 1) * 16 ≤ 140737488355328 := by omega
  have hl2 : s.count c + 1 ≤ 140737488355328 := by omega
  have hce : ([c] == ([] : List UInt8)) = false := rfl
  simp only [hce, count_ev, hw, hw2, hw3, hm, hz, hl1, hl2, mkK_sl, Int.le_refl, Int.toNat_natCast, RR, IA, PA, RA0, RA1, RA2, RA3, RA4, RA5, RA6, RA7, RA8, RA9, RA10, Nat.reduceAdd, Nat.reduceMul, Nat.reduceEqDiff, Nat.reduceLeDiff, Nat.reduceLT, Int.reduceToNat, Int.reduceLT, Int.reduceLE, Int.reduceEq, Int.reduceNeg, Int.reduceAdd, Int.reduceSub, Int.reduceMul, reduceIte]
  generalize hq : roundsE _ _ _ = q
  obtain ⟨e', σ', nx', done', s', rfl, a0, a9, a10, al, aσ, ac⟩ := genSplit_loop c (s.count c) s (s.count c + 1) MX [] _ _ _ _ q rfl (by omega) (by omega) (lt_MX (by omega)) (by simp) hq rfl rfl rfl rfl rfl rfl (by
    simp only [upd, if_true]
    rw [show strs [] = [] from rfl, List.nil_append, ← zrow_one, Nat.mul_one]
    rfl)
  rw [List.nil_append] at ac
  have hlen : (cutL c s).length = s.count c + 1 := by rw [cutL, cutF_len]
  have hz1 : (0 : Int) ≤ ((s.count c + 1 - 1 : Nat) : Int) := by omega
  have hz2 : ((s.count c + 1 - 1 : Nat) : Int) < ((s.count c + 1 : Nat) : Int) := by omega
  have hw4 : IntKind.i64.wrap (((s.count c + 1 - 1 : Nat) : Int) + 1) = ((s.count c + 1 : Nat) : Int) := by rw [wrap64 (by omega) (by omega)]; omega
  simp only [a0, a9, a10, aσ, hz, hz1, hz2, hw4, Int.le_refl, Int.toNat_natCast, RR, IA, PA, RA0, RA1, RA2, RA3, RA4, RA5, RA6, RA7, RA8, RA9, RA10, Nat.reduceAdd, Nat.reduceMul, Nat.reduceEqDiff, Nat.reduceLeDiff, Nat.reduceLT, Int.reduceToNat, Int.reduceLT, Int.reduceLE, Int.reduceEq, Int.reduceNeg, Int.reduceAdd, Int.reduceSub, Int.reduceMul, reduceIte]
  rw [if_pos (by rw [List.length_append, strs_len]; simp; omega)]
  have hrow : (strs done' ++ [S []]).take (s.count c + 1 - 1) ++ [S s'] ++ (strs done' ++ [S []]).drop (s.count c + 1 - 1 + 1) = strs (done' ++ [s']) := by
    rw [List.take_append_of_le_length (by rw [strs_len]; omega), List.take_of_length_le (by rw [strs_len]; omega), List.drop_eq_nil_of_le (by rw [List.length_append, strs_len]; simp; omega), List.append_nil, ← strs_append]
    rfl
  simp only [cut_w_hi, hz, Int.le_refl, Int.toNat_natCast, hrow, RR, IA, PA, RA0, RA1, RA2, RA3, RA4, RA5, RA6, RA7, RA8, RA9, RA10, Nat.reduceAdd, Nat.reduceMul, Nat.reduceEqDiff, Nat.reduceLeDiff, Nat.reduceLT, Int.reduceToNat, Int.reduceLT, Int.reduceLE, Int.reduceEq, Int.reduceNeg, Int.reduceAdd, Int.reduceSub, Int.reduceMul, reduceIte]
  rw [← ac, ← hlen]
  exact give_row (by simp only [upd, if_true]) (strs_closed _)
theorem T_Split : TT 22 = some (Tryz.f22, bodyOf Tryz.f22) := by kernel_rfl
theorem split_ev (s : List UInt8) (c : UInt8) (hs : s.length < 900000000) : EE 22 [S s, S [c]] = some (.o 9 1 (cutL c s).length (strs (cutL c s))) := by
  refine EE_plain T_Split (by decide) (Nat.le_of_ble_eq_true rfl) (by rfl) ?_
  rw [show opt 22 = [] from rfl]
  simp only [bodyOf, Tryz.f22, SA]
  simp only [genSplit_ev s c hs, RR, IA, PA, RA0, RA1, RA2, RA3, RA4, RA5, RA6, RA7, RA8, RA9, RA10, Nat.reduceAdd, Nat.reduceMul, Nat.reduceEqDiff, Nat.reduceLeDiff, Nat.reduceLT, Int.reduceToNat, Int.reduceLT, Int.reduceLE, Int.reduceEq, Int.reduceNeg, Int.reduceAdd, Int.reduceSub, Int.reduceMul, reduceIte]
  exact give_row (by simp only [upd, if_true]) (strs_closed _)
end
end Go.Proofs.YtegbkihgnofkfaaGreatDoor.Ev
