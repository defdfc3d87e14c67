/-
Texts Tb to Tb of the work.
-/
import Derived.Test.YtegbkihgnofkfaaGreatDoorZTm
/-
Reading a term: the program's own reader.
-/
namespace Go.Proofs.YtegbkihgnofkfaaGreatDoor.Ev
section
set_option linter.unusedVariables false
set_option linter.unusedSimpArgs false
open Go Go.RowKit
set_option linter.unusedVariables false
set_option linter.unusedSimpArgs false

theorem find_has (c : UInt8) : ∀ l, decide (0 ≤ Lib.indexByte l c) = l.contains c
  | [] => rfl
  | b :: l => by
    have ih := find_has c l
    rw [Bool.eq_iff_iff] at ih ⊢
    simp only [decide_eq_true_iff, List.contains_cons, Bool.or_eq_true, Lib.indexByte] at ih ⊢
    by_cases h : b = c
    · subst h; simp
    · have h1 : (b == c) = false := by simpa using h
      have h2 : (c == b) = false := by simpa using fun e => h e.symm
      have := Lib.indexByte_ge l c
      simp only [h1, h2, Bool.false_eq_true, if_false, false_or, ← ih]
      by_cases h3 : Lib.indexByte l c = -1
      · simp [h3]
      · have h4 : (Lib.indexByte l c == -1) = false := by simpa using h3
        simp only [h4, Bool.false_eq_true, if_false]
        rw [decide_eq_true_iff]
        omega
theorem contains_ev (l : List UInt8) (c : UInt8) : EE 47 [S l, S [c]] = some (B (l.contains c)) := by
  rw [← find_has]
  exact EE_hand rfl
theorem hasPrefix_ev (l p : List UInt8) : EE 105 [S l, S p] = some (B (p.isPrefixOf l)) := EE_hand rfl

theorem T_ends : TT 77 = some (Tryz.f77, bodyOf Tryz.f77) := by kernel_rfl
def endsL (c : List UInt8) : List UInt8 := if c = [91] then [93] else if c = [123] then [125] else []
theorem ends_ev (l : List UInt8) : EE 77 [S l] = some (S (endsL l)) := by
  refine EE_plain T_ends (by decide) (Nat.le_of_ble_eq_true rfl) (by rfl) ?_
  rw [show opt 77 = [] from rfl]
  simp only [bodyOf, Tryz.f77, SA]
  by_cases h1 : l = [91]
  · subst h1; simp only [IA, PA, RA0, RA1, RA2, RA3, RA4, RA5, RA6, RA7, RA8, RA9, RA10, Nat.reduceAdd, Nat.reduceMul, Nat.reduceEqDiff, Nat.reduceLeDiff, Nat.reduceLT, Int.reduceToNat, Int.reduceLT, Int.reduceLE, Int.reduceEq, Int.reduceNeg, Int.reduceAdd, Int.reduceSub, Int.reduceMul, reduceIte]; rfl
  · have h2 : (l == [91]) = false := by simpa using h1
    by_cases h3 : l = [123]
    · subst h3; simp only [IA, PA, RA0, RA1, RA2, RA3, RA4, RA5, RA6, RA7, RA8, RA9, RA10, Nat.reduceAdd, Nat.reduceMul, Nat.reduceEqDiff, Nat.reduceLeDiff, Nat.reduceLT, Int.reduceToNat, Int.reduceLT, Int.reduceLE, Int.reduceEq, Int.reduceNeg, Int.reduceAdd, Int.reduceSub, Int.reduceMul, reduceIte]; rfl
    · have h4 : (l == [123]) = false := by simpa using h3
      simp only [h2, h4, endsL, h1, h3, IA, PA, RA0, RA1, RA2, RA3, RA4, RA5, RA6, RA7, RA8, RA9, RA10, Nat.reduceAdd, Nat.reduceMul, Nat.reduceEqDiff, Nat.reduceLeDiff, Nat.reduceLT, Int.reduceToNat, Int.reduceLT, Int.reduceLE, Int.reduceEq, Int.reduceNeg, Int.reduceAdd, Int.reduceSub, Int.reduceMul, reduceIte]

theorem T_loop : TT 76 = some (Tryz.f76, bodyOf Tryz.f76) := by kernel_rfl
theorem loop_ev (s v : List UInt8) (parts : AV) (hp : closed parts = true) : EE 76 [.p [S s, S v, parts]] = some (B (!(v == []))) := by
  refine EE_plain T_loop (by decide) (Nat.le_of_ble_eq_true rfl) (by simp only [closedL, closed, hp, Bool.and_self]) ?_
  rw [show opt 76 = [] from rfl]
  simp only [bodyOf, Tryz.f76, SA]
  simp only [IA, PA, RA0, RA1, RA2, RA3, RA4, RA5, RA6, RA7, RA8, RA9, RA10, Nat.reduceAdd, Nat.reduceMul, Nat.reduceEqDiff, Nat.reduceLeDiff, Nat.reduceLT, Int.reduceToNat, Int.reduceLT, Int.reduceLE, Int.reduceEq, Int.reduceNeg, Int.reduceAdd, Int.reduceSub, Int.reduceMul, reduceIte]

theorem T_varOk : TT 33 = some (Tryz.f33, bodyOf Tryz.f33) := by kernel_rfl
theorem varOk_ev (l : List UInt8) : EE 33 [S l] = some (B (match l with | [c] => isVar c | _ => false)) := by
  refine EE_plain T_varOk (by decide) (Nat.le_of_ble_eq_true rfl) (by rfl) ?_
  rw [show opt 33 = [] from rfl]
  simp only [bodyOf, Tryz.f33, SA]
  rcases l with _ | ⟨c, _ | ⟨d, l⟩⟩
  · simp only [IA, PA, RA0, RA1, RA2, RA3, RA4, RA5, RA6, RA7, RA8, RA9, RA10, Nat.reduceAdd, Nat.reduceMul, Nat.reduceEqDiff, Nat.reduceLeDiff, Nat.reduceLT, Int.reduceToNat, Int.reduceLT, Int.reduceLE, Int.reduceEq, Int.reduceNeg, Int.reduceAdd, Int.reduceSub, Int.reduceMul, reduceIte]
  · simp only [size_mk, contains_ev, isVar, IA, PA, RA0, RA1, RA2, RA3, RA4, RA5, RA6, RA7, RA8, RA9, RA10, Nat.reduceAdd, Nat.reduceMul, Nat.reduceEqDiff, Nat.reduceLeDiff, Nat.reduceLT, Int.reduceToNat, Int.reduceLT, Int.reduceLE, Int.reduceEq, Int.reduceNeg, Int.reduceAdd, Int.reduceSub, Int.reduceMul, reduceIte]
  · have : ¬ (((l.length + 1 + 1 : Nat) : Int) = 1) := by omega
    simp only [size_mk, this, IA, PA, RA0, RA1, RA2, RA3, RA4, RA5, RA6, RA7, RA8, RA9, RA10, Nat.reduceAdd, Nat.reduceMul, Nat.reduceEqDiff, Nat.reduceLeDiff, Nat.reduceLT, Int.reduceToNat, Int.reduceLT, Int.reduceLE, Int.reduceEq, Int.reduceNeg, Int.reduceAdd, Int.reduceSub, Int.reduceMul, reduceIte]

theorem T_readTerm : TT 95 = some (Tryz.f95, bodyOf Tryz.f95) := by kernel_rfl
def rdP (s : List UInt8) : Option (T × List UInt8) → AV
  | some (t, r) => .t [encP t, S r]
  | none => .t [nilP, S s]
set_option maxHeartbeats 8000000 in
theorem readTerm_ev : ∀ (n : Nat) (s : List UInt8), s.length < n → s.length < 4611686018427387904 → EE 95 [S s] = some (rdP s (rd n s)) := by
  intro n
  induction n with
  | zero => intro s h; omega
  | succ n ih =>
    intro s hn hs
    refine EE_plain T_readTerm (by decide) (Nat.le_of_ble_eq_true rfl) (by rfl) ?_
    rw [show opt 95 = [oBox 80] from rfl]
    simp only [bodyOf, Tryz.f95, SA]
    cases s with
    | nil => simp only [TMA, rd, rdP, IA, PA, RA0, RA1, RA2, RA3, RA4, RA5, RA6, RA7, RA8, RA9, RA10, Nat.reduceAdd, Nat.reduceMul, Nat.reduceEqDiff, Nat.reduceLeDiff, Nat.reduceLT, Int.reduceToNat, Int.reduceLT, Int.reduceLE, Int.reduceEq, Int.reduceNeg, Int.reduceAdd, Int.reduceSub, Int.reduceMul, reduceIte]
    | cons c r =>
      have hr : r.length < n := by simpa using hn
      have hr2 : r.length < 4611686018427387904 := by simp at hs; omega
      have hrec := ih r hr hr2
      by_cases hc : c = 40
      · subst hc
        have h1 : isVar 40 = false := rfl
        have h2 : isDig 40 = false := rfl
        have h5 : isOne 40 = false := rfl
        have h6 : [83, 77, 73, 78, 82, 67, 80].contains (40 : UInt8) = false := rfl
        have hx : decide ((40 : UInt8) < 48) = true := rfl
        simp only [TMA, varOk_ev, contains_ev, h1, h2, hx, h5, h6, rd, IA, PA, RA0, RA1, RA2, RA3, RA4, RA5, RA6, RA7, RA8, RA9, RA10, Nat.reduceAdd, Nat.reduceMul, Nat.reduceEqDiff, Nat.reduceLeDiff, Nat.reduceLT, Int.reduceToNat, Int.reduceLT, Int.reduceLE, Int.reduceEq, Int.reduceNeg, Int.reduceAdd, Int.reduceSub, Int.reduceMul, reduceIte]
        cases hq : rd n r with
        | none =>
          rw [hq] at hrec
          simp only [TMA, hrec, hq, rdTwo, rdP, IA, PA, RA0, RA1, RA2, RA3, RA4, RA5, RA6, RA7, RA8, RA9, RA10, Nat.reduceAdd, Nat.reduceMul, Nat.reduceEqDiff, Nat.reduceLeDiff, Nat.reduceLT, Int.reduceToNat, Int.reduceLT, Int.reduceLE, Int.reduceEq, Int.reduceNeg, Int.reduceAdd, Int.reduceSub, Int.reduceMul, reduceIte]
        | some q =>
          obtain ⟨t, r1⟩ := q
          rw [hq] at hrec
          cases r1 with
          | nil => simp only [TMA, hrec, hq, rdTwo, rdP, IA, PA, RA0, RA1, RA2, RA3, RA4, RA5, RA6, RA7, RA8, RA9, RA10, Nat.reduceAdd, Nat.reduceMul, Nat.reduceEqDiff, Nat.reduceLeDiff, Nat.reduceLT, Int.reduceToNat, Int.reduceLT, Int.reduceLE, Int.reduceEq, Int.reduceNeg, Int.reduceAdd, Int.reduceSub, Int.reduceMul, reduceIte]
          | cons s r2 =>
            have hl := rd_less _ _ _ _ hq
            simp only [List.length_cons] at hl
            have hrec2 := ih r2 (by omega) (by omega)
            by_cases hs2 : isTwo s = true
            · have hs3 : [43, 42, 94, 45, 61, 60, 64].contains s = true := hs2
              simp only [TMA, hrec, contains_ev, hq, hs2, hs3, rdTwo, rdP, IA, PA, RA0, RA1, RA2, RA3, RA4, RA5, RA6, RA7, RA8, RA9, RA10, Nat.reduceAdd, Nat.reduceMul, Nat.reduceEqDiff, Nat.reduceLeDiff, Nat.reduceLT, Int.reduceToNat, Int.reduceLT, Int.reduceLE, Int.reduceEq, Int.reduceNeg, Int.reduceAdd, Int.reduceSub, Int.reduceMul, reduceIte]
              cases hq2 : rd n r2 with
              | none =>
                rw [hq2] at hrec2
                simp only [TMA, hrec2, rdP, IA, PA, RA0, RA1, RA2, RA3, RA4, RA5, RA6, RA7, RA8, RA9, RA10, Nat.reduceAdd, Nat.reduceMul, Nat.reduceEqDiff, Nat.reduceLeDiff, Nat.reduceLT, Int.reduceToNat, Int.reduceLT, Int.reduceLE, Int.reduceEq, Int.reduceNeg, Int.reduceAdd, Int.reduceSub, Int.reduceMul, reduceIte]
              | some q2 =>
                obtain ⟨y2, r3⟩ := q2
                rw [hq2] at hrec2
                cases r3 with
                | nil => simp only [TMA, hasPrefix_ev, hrec2, rdP, IA, PA, RA0, RA1, RA2, RA3, RA4, RA5, RA6, RA7, RA8, RA9, RA10, Nat.reduceAdd, Nat.reduceMul, Nat.reduceEqDiff, Nat.reduceLeDiff, Nat.reduceLT, Int.reduceToNat, Int.reduceLT, Int.reduceLE, Int.reduceEq, Int.reduceNeg, Int.reduceAdd, Int.reduceSub, Int.reduceMul, reduceIte]
                | cons z r4 =>
                  by_cases hz : z = 41
                  · subst hz
                    simp only [TMA, hasPrefix_ev, hrec2, rdP, encP, IA, PA, RA0, RA1, RA2, RA3, RA4, RA5, RA6, RA7, RA8, RA9, RA10, Nat.reduceAdd, Nat.reduceMul, Nat.reduceEqDiff, Nat.reduceLeDiff, Nat.reduceLT, Int.reduceToNat, Int.reduceLT, Int.reduceLE, Int.reduceEq, Int.reduceNeg, Int.reduceAdd, Int.reduceSub, Int.reduceMul, reduceIte]
                  · have hz2 : ¬ (41 = z) := fun e => hz e.symm
                    simp only [TMA, hasPrefix_ev, hrec2, hz, hz2, rdP, IA, PA, RA0, RA1, RA2, RA3, RA4, RA5, RA6, RA7, RA8, RA9, RA10, Nat.reduceAdd, Nat.reduceMul, Nat.reduceEqDiff, Nat.reduceLeDiff, Nat.reduceLT, Int.reduceToNat, Int.reduceLT, Int.reduceLE, Int.reduceEq, Int.reduceNeg, Int.reduceAdd, Int.reduceSub, Int.reduceMul, reduceIte]
            · have hs2 : isTwo s = false := by simpa using hs2
              have hs3 : [43, 42, 94, 45, 61, 60, 64].contains s = false := hs2
              simp only [TMA, hrec, contains_ev, hq, hs2, hs3, rdTwo, rdP, IA, PA, RA0, RA1, RA2, RA3, RA4, RA5, RA6, RA7, RA8, RA9, RA10, Nat.reduceAdd, Nat.reduceMul, Nat.reduceEqDiff, Nat.reduceLeDiff, Nat.reduceLT, Int.reduceToNat, Int.reduceLT, Int.reduceLE, Int.reduceEq, Int.reduceNeg, Int.reduceAdd, Int.reduceSub, Int.reduceMul, reduceIte]
      by_cases hc2 : c = 91 ∨ c = 123
      · have hb : isVar c = false ∧ isDig c = false ∧ isOne c = false ∧ [83, 77, 73, 78, 82, 67, 80].contains c = false ∧ decide (c < 48) = false ∧ (decide (c < 57) || decide (c = 57)) = false ∧ decide (c = 40) = false ∧ endsL [c] = [c + 2] := by
          rcases hc2 with rfl | rfl <;> decide
        obtain ⟨h1, h2, h5, h6, hx, hy, hc3, hends⟩ := hb
        have hends : EE 77 [S [c]] = some (S [c + 2]) := by rw [ends_ev, hends]
        have hbr : (decide (c = 91) || decide (c = 123)) = true := by simpa using hc2
        generalize hb1 : decide (c = 91) = b1 at hbr
        generalize hb2 : decide (c = 123) = b2 at hbr
        have hb3 : b1 = false → b2 = true := by rintro rfl; simpa using hbr
        clear hbr hrec
        cases b1
        case' false => obtain rfl := hb3 rfl
        all_goals
          simp only [TMA, varOk_ev, contains_ev, h1, h2, hx, hy, h5, h6, hc, hc3, hc2, hb1, hb2, rd, IA, PA, RA0, RA1, RA2, RA3, RA4, RA5, RA6, RA7, RA8, RA9, RA10, Nat.reduceAdd, Nat.reduceMul, Nat.reduceEqDiff, Nat.reduceLeDiff, Nat.reduceLT, Int.reduceToNat, Int.reduceLT, Int.reduceLE, Int.reduceEq, Int.reduceNeg, Int.reduceAdd, Int.reduceSub, Int.reduceMul, reduceIte]
          rcases r with _ | ⟨v, _ | ⟨d, r1⟩⟩
          · simp only [TMA, rdLoop, rdP, IA, PA, RA0, RA1, RA2, RA3, RA4, RA5, RA6, RA7, RA8, RA9, RA10, Nat.reduceAdd, Nat.reduceMul, Nat.reduceEqDiff, Nat.reduceLeDiff, Nat.reduceLT, Int.reduceToNat, Int.reduceLT, Int.reduceLE, Int.reduceEq, Int.reduceNeg, Int.reduceAdd, Int.reduceSub, Int.reduceMul, reduceIte]
          · simp only [TMA, rdLoop, rdP, IA, PA, RA0, RA1, RA2, RA3, RA4, RA5, RA6, RA7, RA8, RA9, RA10, Nat.reduceAdd, Nat.reduceMul, Nat.reduceEqDiff, Nat.reduceLeDiff, Nat.reduceLT, Int.reduceToNat, Int.reduceLT, Int.reduceLE, Int.reduceEq, Int.reduceNeg, Int.reduceAdd, Int.reduceSub, Int.reduceMul, reduceIte]
          simp only [List.length_cons] at hr hr2
          have hrec := ih r1 (by omega) (by omega)
          by_cases hv1 : (v.toNat : Int) < 118
          · have : isLV v = false := by simp only [isLV]; rw [decide_eq_false (by omega)]; rfl
            simp only [TMA, hv1, this, rdLoop, rdP, false_and, IA, PA, RA0, RA1, RA2, RA3, RA4, RA5, RA6, RA7, RA8, RA9, RA10, Nat.reduceAdd, Nat.reduceMul, Nat.reduceEqDiff, Nat.reduceLeDiff, Nat.reduceLT, Int.reduceToNat, Int.reduceLT, Int.reduceLE, Int.reduceEq, Int.reduceNeg, Int.reduceAdd, Int.reduceSub, Int.reduceMul, reduceIte]
          by_cases hv2 : (122 : Int) < (v.toNat : Int)
          · have : isLV v = false := by simp only [isLV]; rw [decide_eq_false (p := v.toNat ≤ 122) (by omega), Bool.and_false]
            simp only [TMA, hv1, hv2, this, rdLoop, rdP, false_and, IA, PA, RA0, RA1, RA2, RA3, RA4, RA5, RA6, RA7, RA8, RA9, RA10, Nat.reduceAdd, Nat.reduceMul, Nat.reduceEqDiff, Nat.reduceLeDiff, Nat.reduceLT, Int.reduceToNat, Int.reduceLT, Int.reduceLE, Int.reduceEq, Int.reduceNeg, Int.reduceAdd, Int.reduceSub, Int.reduceMul, reduceIte]
          have hv : isLV v = true := by simp only [isLV]; rw [decide_eq_true (by omega), decide_eq_true (by omega)]; rfl
          by_cases hd : d = 58
          case neg =>
            have hd2 : ¬ ((d.toNat : Int) = 58) := fun e => hd (UInt8.toNat_inj.1 (by show d.toNat = 58; omega))
            simp only [TMA, hv1, hv2, hv, hd, hd2, rdLoop, rdP, and_false, IA, PA, RA0, RA1, RA2, RA3, RA4, RA5, RA6, RA7, RA8, RA9, RA10, Nat.reduceAdd, Nat.reduceMul, Nat.reduceEqDiff, Nat.reduceLeDiff, Nat.reduceLT, Int.reduceToNat, Int.reduceLT, Int.reduceLE, Int.reduceEq, Int.reduceNeg, Int.reduceAdd, Int.reduceSub, Int.reduceMul, reduceIte]
          subst hd
          have h58 : ((58 : UInt8).toNat : Int) = 58 := rfl
          simp only [TMA, hv1, hv2, hv, h58, rdLoop, IA, PA, RA0, RA1, RA2, RA3, RA4, RA5, RA6, RA7, RA8, RA9, RA10, Nat.reduceAdd, Nat.reduceMul, Nat.reduceEqDiff, Nat.reduceLeDiff, Nat.reduceLT, Int.reduceToNat, Int.reduceLT, Int.reduceLE, Int.reduceEq, Int.reduceNeg, Int.reduceAdd, Int.reduceSub, Int.reduceMul, reduceIte]
          cases hq : rd n r1 with
          | none =>
            rw [hq] at hrec
            simp only [TMA, hrec, rdP, IA, PA, RA0, RA1, RA2, RA3, RA4, RA5, RA6, RA7, RA8, RA9, RA10, Nat.reduceAdd, Nat.reduceMul, Nat.reduceEqDiff, Nat.reduceLeDiff, Nat.reduceLT, Int.reduceToNat, Int.reduceLT, Int.reduceLE, Int.reduceEq, Int.reduceNeg, Int.reduceAdd, Int.reduceSub, Int.reduceMul, reduceIte]
          | some q =>
            obtain ⟨t, r2⟩ := q
            rw [hq] at hrec
            cases r2 with
            | nil => simp only [TMA, hasPrefix_ev, hrec, rdP, IA, PA, RA0, RA1, RA2, RA3, RA4, RA5, RA6, RA7, RA8, RA9, RA10, Nat.reduceAdd, Nat.reduceMul, Nat.reduceEqDiff, Nat.reduceLeDiff, Nat.reduceLT, Int.reduceToNat, Int.reduceLT, Int.reduceLE, Int.reduceEq, Int.reduceNeg, Int.reduceAdd, Int.reduceSub, Int.reduceMul, reduceIte]
            | cons s r2 =>
              have hl := rd_less _ _ _ _ hq
              simp only [List.length_cons] at hl
              have hrec2 := ih r2 (by omega) (by omega)
              by_cases hs : s = 62
              case neg =>
                have hs2 : ¬ (62 = s) := fun e => hs e.symm
                simp only [TMA, hasPrefix_ev, hrec, hs, hs2, rdP, IA, PA, RA0, RA1, RA2, RA3, RA4, RA5, RA6, RA7, RA8, RA9, RA10, Nat.reduceAdd, Nat.reduceMul, Nat.reduceEqDiff, Nat.reduceLeDiff, Nat.reduceLT, Int.reduceToNat, Int.reduceLT, Int.reduceLE, Int.reduceEq, Int.reduceNeg, Int.reduceAdd, Int.reduceSub, Int.reduceMul, reduceIte]
              subst hs
              simp only [TMA, hasPrefix_ev, hrec, rdP, IA, PA, RA0, RA1, RA2, RA3, RA4, RA5, RA6, RA7, RA8, RA9, RA10, Nat.reduceAdd, Nat.reduceMul, Nat.reduceEqDiff, Nat.reduceLeDiff, Nat.reduceLT, Int.reduceToNat, Int.reduceLT, Int.reduceLE, Int.reduceEq, Int.reduceNeg, Int.reduceAdd, Int.reduceSub, Int.reduceMul, reduceIte]
              cases hq2 : rd n r2 with
              | none =>
                rw [hq2] at hrec2
                simp only [TMA, hrec2, rdP, IA, PA, RA0, RA1, RA2, RA3, RA4, RA5, RA6, RA7, RA8, RA9, RA10, Nat.reduceAdd, Nat.reduceMul, Nat.reduceEqDiff, Nat.reduceLeDiff, Nat.reduceLT, Int.reduceToNat, Int.reduceLT, Int.reduceLE, Int.reduceEq, Int.reduceNeg, Int.reduceAdd, Int.reduceSub, Int.reduceMul, reduceIte]
              | some q2 =>
                obtain ⟨y2, r3⟩ := q2
                rw [hq2] at hrec2
                cases r3 with
                | nil => simp only [TMA, hasPrefix_ev, hends, hrec2, rdP, IA, PA, RA0, RA1, RA2, RA3, RA4, RA5, RA6, RA7, RA8, RA9, RA10, Nat.reduceAdd, Nat.reduceMul, Nat.reduceEqDiff, Nat.reduceLeDiff, Nat.reduceLT, Int.reduceToNat, Int.reduceLT, Int.reduceLE, Int.reduceEq, Int.reduceNeg, Int.reduceAdd, Int.reduceSub, Int.reduceMul, reduceIte]
                | cons z r4 =>
                  by_cases hz : z = c + 2
                  · subst hz
                    simp only [TMA, hasPrefix_ev, hends, hrec2, rdP, encP, IA, PA, RA0, RA1, RA2, RA3, RA4, RA5, RA6, RA7, RA8, RA9, RA10, Nat.reduceAdd, Nat.reduceMul, Nat.reduceEqDiff, Nat.reduceLeDiff, Nat.reduceLT, Int.reduceToNat, Int.reduceLT, Int.reduceLE, Int.reduceEq, Int.reduceNeg, Int.reduceAdd, Int.reduceSub, Int.reduceMul, reduceIte]
                  · have hz2 : ¬ (c + 2 = z) := fun e => hz e.symm
                    simp only [TMA, hasPrefix_ev, hends, hrec2, hz, hz2, rdP, IA, PA, RA0, RA1, RA2, RA3, RA4, RA5, RA6, RA7, RA8, RA9, RA10, Nat.reduceAdd, Nat.reduceMul, Nat.reduceEqDiff, Nat.reduceLeDiff, Nat.reduceLT, Int.reduceToNat, Int.reduceLT, Int.reduceLE, Int.reduceEq, Int.reduceNeg, Int.reduceAdd, Int.reduceSub, Int.reduceMul, reduceIte]
      by_cases h1 : isVar c = true
      · simp only [TMA, varOk_ev, h1, rd, rdP, encP, IA, PA, RA0, RA1, RA2, RA3, RA4, RA5, RA6, RA7, RA8, RA9, RA10, Nat.reduceAdd, Nat.reduceMul, Nat.reduceEqDiff, Nat.reduceLeDiff, Nat.reduceLT, Int.reduceToNat, Int.reduceLT, Int.reduceLE, Int.reduceEq, Int.reduceNeg, Int.reduceAdd, Int.reduceSub, Int.reduceMul, reduceIte]
      have h1 : isVar c = false := by simpa using h1
      by_cases h2 : isDig c = true
      · have h3 := h2
        rw [← dig_less] at h3
        simp only [Bool.and_eq_true, Bool.not_eq_true'] at h3
        obtain ⟨h3, h4⟩ := h3
        simp only [TMA, varOk_ev, h1, h2, h3, h4, rd, rdP, encP, IA, PA, RA0, RA1, RA2, RA3, RA4, RA5, RA6, RA7, RA8, RA9, RA10, Nat.reduceAdd, Nat.reduceMul, Nat.reduceEqDiff, Nat.reduceLeDiff, Nat.reduceLT, Int.reduceToNat, Int.reduceLT, Int.reduceLE, Int.reduceEq, Int.reduceNeg, Int.reduceAdd, Int.reduceSub, Int.reduceMul, reduceIte]
      have h2 : isDig c = false := by simpa using h2
      have h3 := h2
      rw [← dig_less] at h3
      generalize hx : decide (c < 48) = x at h3
      generalize hy : (decide (c < 57) || decide (c = 57)) = y at h3
      have hy2 : x = false → y = false := by rintro rfl; simpa using h3
      have hc3 : decide (c = 40) = false := by simpa using hc
      have e1 : decide (c = 91) = false := by simpa using fun e => hc2 (.inl e)
      have e2 : decide (c = 123) = false := by simpa using fun e => hc2 (.inr e)
      cases x
      case' false => obtain rfl := hy2 rfl
      all_goals
        by_cases h5 : isOne c = true
        · have h6 : [83, 77, 73, 78, 82, 67, 80].contains c = true := h5
          simp only [TMA, varOk_ev, contains_ev, h1, h2, hx, hy, h5, h6, rd, IA, PA, RA0, RA1, RA2, RA3, RA4, RA5, RA6, RA7, RA8, RA9, RA10, Nat.reduceAdd, Nat.reduceMul, Nat.reduceEqDiff, Nat.reduceLeDiff, Nat.reduceLT, Int.reduceToNat, Int.reduceLT, Int.reduceLE, Int.reduceEq, Int.reduceNeg, Int.reduceAdd, Int.reduceSub, Int.reduceMul, reduceIte]
          cases hq : rd n r with
          | none =>
            rw [hq] at hrec
            simp only [TMA, hrec, rdP, IA, PA, RA0, RA1, RA2, RA3, RA4, RA5, RA6, RA7, RA8, RA9, RA10, Nat.reduceAdd, Nat.reduceMul, Nat.reduceEqDiff, Nat.reduceLeDiff, Nat.reduceLT, Int.reduceToNat, Int.reduceLT, Int.reduceLE, Int.reduceEq, Int.reduceNeg, Int.reduceAdd, Int.reduceSub, Int.reduceMul, reduceIte]
          | some q =>
            obtain ⟨t, r1⟩ := q
            rw [hq] at hrec
            simp only [TMA, hrec, rdP, encP, IA, PA, RA0, RA1, RA2, RA3, RA4, RA5, RA6, RA7, RA8, RA9, RA10, Nat.reduceAdd, Nat.reduceMul, Nat.reduceEqDiff, Nat.reduceLeDiff, Nat.reduceLT, Int.reduceToNat, Int.reduceLT, Int.reduceLE, Int.reduceEq, Int.reduceNeg, Int.reduceAdd, Int.reduceSub, Int.reduceMul, reduceIte]
        have h5 : isOne c = false := by simpa using h5
        have h6 : [83, 77, 73, 78, 82, 67, 80].contains c = false := h5
        simp only [TMA, varOk_ev, contains_ev, h1, h2, hx, hy, h5, h6, hc, hc3, hc2, e1, e2, rd, rdP, IA, PA, RA0, RA1, RA2, RA3, RA4, RA5, RA6, RA7, RA8, RA9, RA10, Nat.reduceAdd, Nat.reduceMul, Nat.reduceEqDiff, Nat.reduceLeDiff, Nat.reduceLT, Int.reduceToNat, Int.reduceLT, Int.reduceLE, Int.reduceEq, Int.reduceNeg, Int.reduceAdd, Int.reduceSub, Int.reduceMul, reduceIte]
end
end Go.Proofs.YtegbkihgnofkfaaGreatDoor.Ev
