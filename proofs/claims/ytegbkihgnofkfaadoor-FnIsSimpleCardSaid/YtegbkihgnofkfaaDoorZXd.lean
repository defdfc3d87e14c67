/-
Texts Xd to Xd of the work.
-/
import Derived.Test.YtegbkihgnofkfaaDoorZXc
/-
Simplifying: two loops made one: the implementation.
-/
namespace Go.Proofs.YtegbkihgnofkfaaDoor.Ev
section
set_option linter.unusedVariables false
set_option linter.unusedSimpArgs false
open Go Go.RowKit
set_option linter.unusedVariables false
set_option linter.unusedSimpArgs false
/-- What becomes of a loop over a loop, none if they stay. -/
def fuM (v w : UInt8) (x y u : T) : Option T :=
  if 1 < fr v u ∨ lf v u = true ∨ (w ≠ v ∧ 0 < fr w u) then none else (pt v y u).map fun p => .loop 91 w x p
theorem T_fuses : TT 97 = some (Tryd.f97, bodyOf Tryd.f97) := by kernel_rfl
theorem opt_fuses : opt 97 = [oBox 57] := rfl
set_option maxHeartbeats 4000000 in
/-- No loop over elements. -/
theorem fuses_brace (ex : Bool) (v : UInt8) {a b : AV} {x y : T} (hp : IsP a x) (kp : IsP b y) : EE 97 [.p [S [123], S [v], .s ex 2 [a, b]]] = some nilP := by
  refine EE_plain T_fuses (by decide) (Nat.le_of_ble_eq_true rfl) (by simp only [closedL, closed, hp.closed, kp.closed, Bool.and_self]) ?_
  rw [opt_fuses]
  simp only [bodyOf, Tryd.f97, SA]
  have n1 : ¬ ((123 : UInt8) = 91) := by decide
  simp only [n1, hp.closed, kp.closed, TMA, RR, IA, PA, RA0, RA1, RA2, RA3, RA4, RA5, RA6, RA7, RA8, RA9, RA10, Nat.reduceAdd, Nat.reduceMul, Nat.reduceEqDiff, Nat.reduceLeDiff, Nat.reduceLT, Int.reduceToNat, Int.reduceLT, Int.reduceLE, Int.reduceEq, Int.reduceNeg, Int.reduceAdd, Int.reduceSub, Int.reduceMul, reduceIte]
set_option maxHeartbeats 4000000 in
/-- A loop over what is no loop. -/
theorem fuses_none (ex : Bool) (v : UInt8) {a b : AV} {x y : T} (hp : IsP a x) (kp : IsP b y) (q : UInt8) (r : List UInt8) (cs : List AV) (ha : a = .p (S [q] :: cs)) (hq : q ≠ 91) : EE 97 [.p [S [91], S [v], .s ex 2 [a, b]]] = some nilP := by
  refine EE_plain T_fuses (by decide) (Nat.le_of_ble_eq_true rfl) (by simp only [closedL, closed, hp.closed, kp.closed, Bool.and_self]) ?_
  rw [opt_fuses]
  simp only [bodyOf, Tryd.f97, SA]
  have hc := hp.closed
  subst ha
  simp only [closed] at hc
  simp only [hq, hc, kp.closed, TMA, RR, IA, PA, RA0, RA1, RA2, RA3, RA4, RA5, RA6, RA7, RA8, RA9, RA10, Nat.reduceAdd, Nat.reduceMul, Nat.reduceEqDiff, Nat.reduceLeDiff, Nat.reduceLT, Int.reduceToNat, Int.reduceLT, Int.reduceLE, Int.reduceEq, Int.reduceNeg, Int.reduceAdd, Int.reduceSub, Int.reduceMul, reduceIte]
set_option maxHeartbeats 4000000 in
theorem fuses_ev (ex ex2 : Bool) (v w : UInt8) {a b c : AV} {x y u : T} (hp : IsP a x) (kp : IsP b y) (up : IsP c u) (hx : WF x) (hy : WF y) (hu : WF u) (ly : (textT y).length ≤ 1000000) (lu : (textT u).length ≤ 1000000) :
    ∃ r, EE 97 [.p [S [91], S [v], .s ex 2 [.p [S [91], S [w], .s ex2 2 [a, b]], c]]] = some r ∧ PutR r (fuM v w x y u) := by
  obtain ⟨m, hm, hg⟩ := free_ev up hu lu
  have hgv := hg v
  have hgw := hg w
  have hlf := loopedFree_ev up hu lu v
  obtain ⟨r, hr, hpr⟩ := put_ev up hu lu b y kp hy ly v
  have hcl : closedL [.p [S [91], S [v], .s ex 2 [.p [S [91], S [w], .s ex2 2 [a, b]], c]]] = true := by simp only [closedL, closed, hp.closed, kp.closed, up.closed, Bool.and_self]
  have c1 : ((1 : Int) < (fr v u : Int)) ↔ 1 < fr v u := by omega
  have c2 : ((0 : Int) < (fr w u : Int)) ↔ 0 < fr w u := by omega
  have hrun : ∀ y, (evC II EE (withOpt [oBox 57] pf) MX (strip (bodyOf Tryd.f97)) (St.init [.p [S [91], S [v], .s ex 2 [.p [S [91], S [w], .s ex2 2 [a, b]], c]]])).bind (resK II Tryd.f97.results.toList) = some y → EE 97 [.p [S [91], S [v], .s ex 2 [.p [S [91], S [w], .s ex2 2 [a, b]], c]]] = some y := fun y h => EE_plain T_fuses (by decide) (Nat.le_of_ble_eq_true rfl) hcl (by rw [opt_fuses]; exact h)
  by_cases h1 : 1 < fr v u
  · refine ⟨nilP, hrun _ ?_, by rw [fuM, if_pos (.inl h1)]; rfl⟩
    simp only [bodyOf, Tryd.f97, SA]
    simp only [hm, hgv, c1, h1, pureK_m, hp.closed, kp.closed, up.closed, TMA, RR, IA, PA, RA0, RA1, RA2, RA3, RA4, RA5, RA6, RA7, RA8, RA9, RA10, Nat.reduceAdd, Nat.reduceMul, Nat.reduceEqDiff, Nat.reduceLeDiff, Nat.reduceLT, Int.reduceToNat, Int.reduceLT, Int.reduceLE, Int.reduceEq, Int.reduceNeg, Int.reduceAdd, Int.reduceSub, Int.reduceMul, reduceIte]
  by_cases h2 : lf v u = true
  · refine ⟨nilP, hrun _ ?_, by rw [fuM, if_pos (.inr (.inl h2))]; rfl⟩
    simp only [bodyOf, Tryd.f97, SA]
    simp only [hm, hgv, c1, h1, hlf, h2, pureK_m, hp.closed, kp.closed, up.closed, TMA, RR, IA, PA, RA0, RA1, RA2, RA3, RA4, RA5, RA6, RA7, RA8, RA9, RA10, Nat.reduceAdd, Nat.reduceMul, Nat.reduceEqDiff, Nat.reduceLeDiff, Nat.reduceLT, Int.reduceToNat, Int.reduceLT, Int.reduceLE, Int.reduceEq, Int.reduceNeg, Int.reduceAdd, Int.reduceSub, Int.reduceMul, reduceIte]
  have h2f : lf v u = false := by simpa using h2
  by_cases h3 : w ≠ v ∧ 0 < fr w u
  · refine ⟨nilP, hrun _ ?_, by rw [fuM, if_pos (.inr (.inr h3))]; rfl⟩
    simp only [bodyOf, Tryd.f97, SA]
    simp only [hm, hgv, hgw, c1, c2, h1, hlf, h2f, h3.1, h3.2, pureK_m, hp.closed, kp.closed, up.closed, TMA, RR, IA, PA, RA0, RA1, RA2, RA3, RA4, RA5, RA6, RA7, RA8, RA9, RA10, Nat.reduceAdd, Nat.reduceMul, Nat.reduceEqDiff, Nat.reduceLeDiff, Nat.reduceLT, Int.reduceToNat, Int.reduceLT, Int.reduceLE, Int.reduceEq, Int.reduceNeg, Int.reduceAdd, Int.reduceSub, Int.reduceMul, reduceIte]
  rw [fuM, if_neg (by rintro (h | h | h); exact h1 h; exact h2 h; exact h3 h)]
  cases hq : pt v y u with
  | none =>
    rw [hq] at hpr
    obtain rfl : r = nilP := hpr
    refine ⟨nilP, hrun _ ?_, rfl⟩
    simp only [bodyOf, Tryd.f97, SA]
    by_cases hw : w = v
    · subst hw
      simp only [hm, hgv, hgw, c1, c2, h1, hlf, h2f, hr, pure_nil, pureK_m, hp.closed, kp.closed, up.closed, TMA, RR, IA, PA, RA0, RA1, RA2, RA3, RA4, RA5, RA6, RA7, RA8, RA9, RA10, Nat.reduceAdd, Nat.reduceMul, Nat.reduceEqDiff, Nat.reduceLeDiff, Nat.reduceLT, Int.reduceToNat, Int.reduceLT, Int.reduceLE, Int.reduceEq, Int.reduceNeg, Int.reduceAdd, Int.reduceSub, Int.reduceMul, reduceIte]
    · have h4 : ¬ 0 < fr w u := fun h => h3 ⟨hw, h⟩
      simp only [hm, hgv, hgw, c1, c2, h1, hlf, h2f, hw, h4, hr, pure_nil, pureK_m, hp.closed, kp.closed, up.closed, TMA, RR, IA, PA, RA0, RA1, RA2, RA3, RA4, RA5, RA6, RA7, RA8, RA9, RA10, Nat.reduceAdd, Nat.reduceMul, Nat.reduceEqDiff, Nat.reduceLeDiff, Nat.reduceLT, Int.reduceToNat, Int.reduceLT, Int.reduceLE, Int.reduceEq, Int.reduceNeg, Int.reduceAdd, Int.reduceSub, Int.reduceMul, reduceIte]
  | some t' =>
    rw [hq] at hpr
    have hpr : IsP r t' := hpr
    have q1 := hpr.ptr
    have q2 := hpr.leaf
    have q3 := hpr.closed
    have q4 := fun σ => pure_is (σ := σ) hpr
    have z2 := hp.leaf
    refine ⟨.p [S [91], S [w], .s true 2 [a, r]], hrun _ ?_, .loop true 91 w hp hpr⟩
    simp only [bodyOf, Tryd.f97, SA]
    by_cases hw : w = v
    · subst hw
      simp only [hm, hgv, hgw, c1, c2, h1, hlf, h2f, hr, q1, q2, q3, q4, z2, give_is (.loop true 91 w hp hpr), pureK_m, hp.closed, kp.closed, up.closed, TMA, RR, IA, PA, RA0, RA1, RA2, RA3, RA4, RA5, RA6, RA7, RA8, RA9, RA10, Nat.reduceAdd, Nat.reduceMul, Nat.reduceEqDiff, Nat.reduceLeDiff, Nat.reduceLT, Int.reduceToNat, Int.reduceLT, Int.reduceLE, Int.reduceEq, Int.reduceNeg, Int.reduceAdd, Int.reduceSub, Int.reduceMul, reduceIte]
    · have h4 : ¬ 0 < fr w u := fun h => h3 ⟨hw, h⟩
      simp only [hm, hgv, hgw, c1, c2, h1, hlf, h2f, hw, h4, hr, q1, q2, q3, q4, z2, give_is (.loop true 91 w hp hpr), pureK_m, hp.closed, kp.closed, up.closed, TMA, RR, IA, PA, RA0, RA1, RA2, RA3, RA4, RA5, RA6, RA7, RA8, RA9, RA10, Nat.reduceAdd, Nat.reduceMul, Nat.reduceEqDiff, Nat.reduceLeDiff, Nat.reduceLT, Int.reduceToNat, Int.reduceLT, Int.reduceLE, Int.reduceEq, Int.reduceNeg, Int.reduceAdd, Int.reduceSub, Int.reduceMul, reduceIte]
end
end Go.Proofs.YtegbkihgnofkfaaDoor.Ev
