/-
Texts Yp to Yp of the work.
-/
import Derived.Test.YtegbkihgnofkfaaDoorZYo
import Derived.Test.YtegbkihgnofkfaaDoorZXl
/-
Simplifying: the reference's first rule, and that it is the implementation's.
-/
namespace Go.Proofs.YtegbkihgnofkfaaDoor.Ev
section
set_option linter.unusedVariables false
set_option linter.unusedSimpArgs false
open Go Go.RowKit
set_option linter.unusedVariables false
set_option linter.unusedSimpArgs false
theorem T_l10Rule : TT 120 = some (Tryd.f120, bodyOf Tryd.f120) := by kernel_rfl
def foldO : T → Option T
  | .two s x y => (foldM s x y).map T.dig
  | _ => none
def neuO : T → Option T
  | .two s x y => neuS s x y
  | _ => none
def turnO : T → Option T
  | .one s x => turnM s x
  | _ => none
def loopO : T → Option T
  | .loop s v x y => if loopS s v y = true then some x else none
  | _ => none
def lenO : T → Option T
  | .one s x => lenM s x
  | _ => none
def fuseO : T → Option T
  | .loop s v x y => fuseS s v x y
  | _ => none
/-- The first rule that applies, in the reference's order. -/
def ruleO (t : T) : Option (Nat × T) := match foldO t with
  | some u => some (1, u)
  | none => match neuO t with
    | some u => some (2, u)
    | none => match turnO t with
      | some u => some (3, u)
      | none => match loopO t with
        | some u => some (4, u)
        | none => match lenO t with
          | some u => some (5, u)
          | none => (fuseO t).map fun u => (6, u)
theorem ruleO_eq {t : T} (hw : WF t) : ruleO t = ruleT t := by
  cases t with
  | dig c => rfl
  | var c => rfl
  | one s x =>
    show (match turnM s x with | some u => some (3, u) | none => match lenM s x with | some u => some (5, u) | none => none) = oneM s x
    cases x with
    | one q z =>
      simp only [turnM, lenM, oneM]
      by_cases hq : q = 82
      · by_cases h1 : s = 82
        · simp only [hq, h1, if_true]
        · by_cases h2 : s = 83 ∨ s = 77 ∨ s = 78
          · simp only [hq, h1, h2, if_true, if_false]
          · simp only [hq, h1, h2, if_true, if_false]
      · simp only [hq, if_false]
    | loop q w a b =>
      simp only [turnM, lenM, oneM]
      by_cases hq : q = 91 ∧ s = 78
      · simp only [hq, and_self, if_true]
      · simp only [hq, if_false]
    | _ => rfl
  | two s x y =>
    have h := neuS_eq hw
    show (match (foldM s x y).map T.dig with | some u => some (1, u) | none => match neuS s x y with | some u => some (2, u) | none => none) = (match foldM s x y with | some d => some (1, T.dig d) | none => (neuM s x y).map fun t => (2, t))
    rw [h]
    cases foldM s x y with
    | some d => rfl
    | none => cases neuM s x y <;> rfl
  | loop s v x y =>
    have h := loopS_eq hw.1 hw.2.1 hw.2.2.2
    have k := fuseS_eq s v x y
    show (match (if loopS s v y = true then some x else none) with | some u => some (4, u) | none => (fuseS s v x y).map fun u => (6, u)) = (if loopM s v y = true then some (4, x) else (fuseM s v x y).map fun t => (6, t))
    rw [h, k]
    cases loopM s v y <;> rfl
/-- What the reference's rule gives. -/
def RulS (r : AV) (t : T) : Option (Nat × T) → Prop
  | none => ∃ cs, r = .t [N 0, .a cs] ∧ IsN cs t
  | some (k, u) => ∃ cs, r = .t [N k, .a cs] ∧ IsN cs u
theorem give_na {σ : Sto} {cs : List AV} {n : Int} (hc : closedL cs = true) : giveAll σ [.v (.int .i64 n), .a cs] = some (.t [.v (.int .i64 n), .a cs]) := give_two rfl (by simpa only [closed] using hc)
set_option maxHeartbeats 8000000 in
theorem l10Rule_ev {cs : List AV} {t : T} (h : IsN cs t) (hw : WF t) (hl : (textT t).length ≤ 80) : ∃ r, EE 120 [.a cs] = some r ∧ RulS r t (ruleT t) := by
  rw [← ruleO_eq hw]
  have hcl := cl1 h
  have hrun : ∀ y, (evC II EE (withOpt [] pf) MX (strip (bodyOf Tryd.f120)) (St.init [.a cs])).bind (resK II Tryd.f120.results.toList) = some y → EE 120 [.a cs] = some y := fun y h => EE_plain T_l10Rule (by decide) (Nat.le_of_ble_eq_true rfl) hcl h
  have tl := h.len
  have tt := h.tk
  have tc := h.closed
  have tf := h.leaf
  obtain ⟨r1, e1, s1⟩ := fold_ev h hw
  obtain ⟨r2, e2, s2⟩ := neutral_ev h hw
  obtain ⟨r3, e3, s3⟩ := turn_ev h hw
  obtain ⟨r4, e4, s4⟩ := loopS_ev h hw
  obtain ⟨r5, e5, s5⟩ := len_ev h hw
  obtain ⟨r6, e6, s6⟩ := fuse_ev h hw hl
  have s1 : SpR r1 (foldO t) := by cases t <;> exact s1
  have s2 : SpR r2 (neuO t) := by cases t <;> exact s2
  have s3 : SpR r3 (turnO t) := by cases t <;> exact s3
  have s4 : SpR r4 (loopO t) := by cases t <;> exact s4
  have s5 : SpR r5 (lenO t) := by cases t <;> exact s5
  have s6 : SpR r6 (fuseO t) := by cases t <;> exact s6
  unfold ruleO
  cases o1 : foldO t with
  | some u =>
    rw [o1] at s1
    obtain ⟨cu, rfl, hu⟩ := s1
    have ul := hu.len
    have ut := hu.tk
    have uc := hu.closed
    have uf := hu.leaf
    have p1 : ∀ σ, pureK σ (.t [.a cu, B true]) = some (.t [.a cu, B true], σ) := fun σ => pure_nb2 uc
    refine ⟨.t [N 1, .a cu], hrun _ ?_, cu, rfl, hu⟩
    simp only [bodyOf, Tryd.f120, SA]
    simp only [tl, tt, tc, tf, e1, p1, ul, ut, uc, uf, give_na uc, TMA, RR, IA, PA, RA0, RA1, RA2, RA3, RA4, RA5, RA6, RA7, RA8, RA9, RA10, Nat.reduceAdd, Nat.reduceMul, Nat.reduceEqDiff, Nat.reduceLeDiff, Nat.reduceLT, Int.reduceToNat, Int.reduceLT, Int.reduceLE, Int.reduceEq, Int.reduceNeg, Int.reduceAdd, Int.reduceSub, Int.reduceMul, reduceIte]
  | none =>
    rw [o1] at s1
    obtain ⟨z1, rfl, c1, l1, f1⟩ := s1
    have p1 : ∀ σ, pureK σ (.t [.a z1, B false]) = some (.t [.a z1, B false], σ) := fun σ => pure_nb2 c1
    cases o2 : neuO t with
    | some u =>
      rw [o2] at s2
      obtain ⟨cu, rfl, hu⟩ := s2
      have ul := hu.len
      have ut := hu.tk
      have uc := hu.closed
      have uf := hu.leaf
      have p2 : ∀ σ, pureK σ (.t [.a cu, B true]) = some (.t [.a cu, B true], σ) := fun σ => pure_nb2 uc
      refine ⟨.t [N 2, .a cu], hrun _ ?_, cu, rfl, hu⟩
      simp only [bodyOf, Tryd.f120, SA]
      simp only [tl, tt, tc, tf, e1, p1, c1, l1, f1, e2, p2, ul, ut, uc, uf, give_na uc, TMA, RR, IA, PA, RA0, RA1, RA2, RA3, RA4, RA5, RA6, RA7, RA8, RA9, RA10, Nat.reduceAdd, Nat.reduceMul, Nat.reduceEqDiff, Nat.reduceLeDiff, Nat.reduceLT, Int.reduceToNat, Int.reduceLT, Int.reduceLE, Int.reduceEq, Int.reduceNeg, Int.reduceAdd, Int.reduceSub, Int.reduceMul, reduceIte]
    | none =>
      rw [o2] at s2
      obtain ⟨z2, rfl, c2, l2, f2⟩ := s2
      have p2 : ∀ σ, pureK σ (.t [.a z2, B false]) = some (.t [.a z2, B false], σ) := fun σ => pure_nb2 c2
      cases o3 : turnO t with
      | some u =>
        rw [o3] at s3
        obtain ⟨cu, rfl, hu⟩ := s3
        have ul := hu.len
        have ut := hu.tk
        have uc := hu.closed
        have uf := hu.leaf
        have p3 : ∀ σ, pureK σ (.t [.a cu, B true]) = some (.t [.a cu, B true], σ) := fun σ => pure_nb2 uc
        refine ⟨.t [N 3, .a cu], hrun _ ?_, cu, rfl, hu⟩
        simp only [bodyOf, Tryd.f120, SA]
        simp only [tl, tt, tc, tf, e1, p1, c1, l1, f1, e2, p2, c2, l2, f2, e3, p3, ul, ut, uc, uf, give_na uc, TMA, RR, IA, PA, RA0, RA1, RA2, RA3, RA4, RA5, RA6, RA7, RA8, RA9, RA10, Nat.reduceAdd, Nat.reduceMul, Nat.reduceEqDiff, Nat.reduceLeDiff, Nat.reduceLT, Int.reduceToNat, Int.reduceLT, Int.reduceLE, Int.reduceEq, Int.reduceNeg, Int.reduceAdd, Int.reduceSub, Int.reduceMul, reduceIte]
      | none =>
        rw [o3] at s3
        obtain ⟨z3, rfl, c3, l3, f3⟩ := s3
        have p3 : ∀ σ, pureK σ (.t [.a z3, B false]) = some (.t [.a z3, B false], σ) := fun σ => pure_nb2 c3
        cases o4 : loopO t with
        | some u =>
          rw [o4] at s4
          obtain ⟨cu, rfl, hu⟩ := s4
          have ul := hu.len
          have ut := hu.tk
          have uc := hu.closed
          have uf := hu.leaf
          have p4 : ∀ σ, pureK σ (.t [.a cu, B true]) = some (.t [.a cu, B true], σ) := fun σ => pure_nb2 uc
          refine ⟨.t [N 4, .a cu], hrun _ ?_, cu, rfl, hu⟩
          simp only [bodyOf, Tryd.f120, SA]
          simp only [tl, tt, tc, tf, e1, p1, c1, l1, f1, e2, p2, c2, l2, f2, e3, p3, c3, l3, f3, e4, p4, ul, ut, uc, uf, give_na uc, TMA, RR, IA, PA, RA0, RA1, RA2, RA3, RA4, RA5, RA6, RA7, RA8, RA9, RA10, Nat.reduceAdd, Nat.reduceMul, Nat.reduceEqDiff, Nat.reduceLeDiff, Nat.reduceLT, Int.reduceToNat, Int.reduceLT, Int.reduceLE, Int.reduceEq, Int.reduceNeg, Int.reduceAdd, Int.reduceSub, Int.reduceMul, reduceIte]
        | none =>
          rw [o4] at s4
          obtain ⟨z4, rfl, c4, l4, f4⟩ := s4
          have p4 : ∀ σ, pureK σ (.t [.a z4, B false]) = some (.t [.a z4, B false], σ) := fun σ => pure_nb2 c4
          cases o5 : lenO t with
          | some u =>
            rw [o5] at s5
            obtain ⟨cu, rfl, hu⟩ := s5
            have ul := hu.len
            have ut := hu.tk
            have uc := hu.closed
            have uf := hu.leaf
            have p5 : ∀ σ, pureK σ (.t [.a cu, B true]) = some (.t [.a cu, B true], σ) := fun σ => pure_nb2 uc
            refine ⟨.t [N 5, .a cu], hrun _ ?_, cu, rfl, hu⟩
            simp only [bodyOf, Tryd.f120, SA]
            simp only [tl, tt, tc, tf, e1, p1, c1, l1, f1, e2, p2, c2, l2, f2, e3, p3, c3, l3, f3, e4, p4, c4, l4, f4, e5, p5, ul, ut, uc, uf, give_na uc, TMA, RR, IA, PA, RA0, RA1, RA2, RA3, RA4, RA5, RA6, RA7, RA8, RA9, RA10, Nat.reduceAdd, Nat.reduceMul, Nat.reduceEqDiff, Nat.reduceLeDiff, Nat.reduceLT, Int.reduceToNat, Int.reduceLT, Int.reduceLE, Int.reduceEq, Int.reduceNeg, Int.reduceAdd, Int.reduceSub, Int.reduceMul, reduceIte]
          | none =>
            rw [o5] at s5
            obtain ⟨z5, rfl, c5, l5, f5⟩ := s5
            have p5 : ∀ σ, pureK σ (.t [.a z5, B false]) = some (.t [.a z5, B false], σ) := fun σ => pure_nb2 c5
            cases o6 : fuseO t with
            | some u =>
              rw [o6] at s6
              obtain ⟨cu, rfl, hu⟩ := s6
              have ul := hu.len
              have ut := hu.tk
              have uc := hu.closed
              have uf := hu.leaf
              have p6 : ∀ σ, pureK σ (.t [.a cu, B true]) = some (.t [.a cu, B true], σ) := fun σ => pure_nb2 uc
              refine ⟨.t [N 6, .a cu], hrun _ ?_, cu, rfl, hu⟩
              simp only [bodyOf, Tryd.f120, SA]
              simp only [tl, tt, tc, tf, e1, p1, c1, l1, f1, e2, p2, c2, l2, f2, e3, p3, c3, l3, f3, e4, p4, c4, l4, f4, e5, p5, c5, l5, f5, e6, p6, ul, ut, uc, uf, give_na uc, TMA, RR, IA, PA, RA0, RA1, RA2, RA3, RA4, RA5, RA6, RA7, RA8, RA9, RA10, Nat.reduceAdd, Nat.reduceMul, Nat.reduceEqDiff, Nat.reduceLeDiff, Nat.reduceLT, Int.reduceToNat, Int.reduceLT, Int.reduceLE, Int.reduceEq, Int.reduceNeg, Int.reduceAdd, Int.reduceSub, Int.reduceMul, reduceIte]
            | none =>
              rw [o6] at s6
              obtain ⟨z6, rfl, c6, l6, f6⟩ := s6
              have p6 : ∀ σ, pureK σ (.t [.a z6, B false]) = some (.t [.a z6, B false], σ) := fun σ => pure_nb2 c6
              refine ⟨.t [N 0, .a cs], hrun _ ?_, cs, rfl, h⟩
              simp only [bodyOf, Tryd.f120, SA]
              simp only [tl, tt, tc, tf, e1, p1, c1, l1, f1, e2, p2, c2, l2, f2, e3, p3, c3, l3, f3, e4, p4, c4, l4, f4, e5, p5, c5, l5, f5, e6, p6, c6, l6, f6, give_na tc, TMA, RR, IA, PA, RA0, RA1, RA2, RA3, RA4, RA5, RA6, RA7, RA8, RA9, RA10, Nat.reduceAdd, Nat.reduceMul, Nat.reduceEqDiff, Nat.reduceLeDiff, Nat.reduceLT, Int.reduceToNat, Int.reduceLT, Int.reduceLE, Int.reduceEq, Int.reduceNeg, Int.reduceAdd, Int.reduceSub, Int.reduceMul, reduceIte]
end
end Go.Proofs.YtegbkihgnofkfaaDoor.Ev
