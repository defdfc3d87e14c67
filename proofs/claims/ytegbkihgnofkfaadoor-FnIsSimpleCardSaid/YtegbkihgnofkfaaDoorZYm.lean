/-
Texts Ym to Ym of the work.
-/
import Derived.Test.YtegbkihgnofkfaaDoorZYk
/-
Simplifying: the reference's rules: numbers that change nothing.
-/
namespace Go.Proofs.YtegbkihgnofkfaaDoor.Ev
section
set_option linter.unusedVariables false
set_option linter.unusedSimpArgs false
open Go Go.RowKit
set_option linter.unusedVariables false
set_option linter.unusedSimpArgs false
def neuS (s : UInt8) (x y : T) : Option T :=
  if s = 43 ∨ s = 94 then (if dgt 0 x = true then some y else if dgt 0 y = true then some x else none)
  else if s = 42 then (if dgt 1 x = true then some y else if dgt 1 y = true then some x else none)
  else if s = 45 then (if dgt 0 y = true then some x else none) else none
theorem dgt_sg {t : T} (hw : WF t) (k : Nat) (hk : k < 10) : dgt (k : Int) t = decide (sg t = UInt8.ofNat (48 + k)) := by
  have ht : (UInt8.ofNat (48 + k)).toNat = 48 + k := by rw [UInt8.toNat_ofNat', Nat.mod_eq_of_lt (by omega)]
  cases hd : isDigT t with
  | false =>
    have hz : dgt (k : Int) t = false := by cases t <;> first | rfl | (simp [isDigT] at hd)
    rw [hz]
    symm
    rw [decide_eq_false_iff_not]
    intro e
    rw [isDigT_of hw, e] at hd
    simp only [isDig, ht, Bool.and_eq_false_iff, decide_eq_false_iff_not] at hd
    omega
  | true =>
    obtain ⟨c, rfl⟩ : ∃ c, t = .dig c := by cases t <;> first | exact ⟨_, rfl⟩ | (simp [isDigT] at hd)
    show decide ((c.toNat : Int) - 48 = (k : Int)) = decide (c = _)
    rw [decide_eq_decide, ← UInt8.toNat_inj, ht]
    omega
theorem neuS_eq {s : UInt8} {x y : T} (hw : WF (.two s x y)) : neuS s x y = neuM s x y := by
  have a0 : dgt 0 x = decide (sg x = 48) := dgt_sg hw.2.1 0 (by omega)
  have a1 : dgt 1 x = decide (sg x = 49) := dgt_sg hw.2.1 1 (by omega)
  have b0 : dgt 0 y = decide (sg y = 48) := dgt_sg hw.2.2 0 (by omega)
  have b1 : dgt 1 y = decide (sg y = 49) := dgt_sg hw.2.2 1 (by omega)
  have h2 : s = 43 ∨ s = 42 ∨ s = 94 ∨ s = 45 ∨ s = 61 ∨ s = 60 ∨ s = 64 := by
    have h := hw.1
    simpa [isTwo] using h
  unfold neuS neuM n1 n2
  rw [a0, a1, b0, b1]
  rcases h2 with rfl | rfl | rfl | rfl | rfl | rfl | rfl <;> simp
theorem T_l10Neutral : TT 141 = some (Tryd.f141, bodyOf Tryd.f141) := by kernel_rfl
theorem opt_l10Neutral : opt 141 = [oBox 49, oReg 3] := rfl
theorem v64b : ((64 : UInt8).toNat : Int) = 64 := rfl
set_option maxHeartbeats 8000000 in
theorem neutral_ev {cs : List AV} {t : T} (h : IsN cs t) (hw : WF t) : ∃ r, EE 141 [.a cs] = some r ∧ SpR r (match t with | .two s x y => neuS s x y | _ => none) := by
  have hcl := cl1 h
  have hrun : ∀ y, (evC II EE (withOpt [oBox 49, oReg 3] pf) MX (strip (bodyOf Tryd.f141)) (St.init [.a cs])).bind (resK II Tryd.f141.results.toList) = some y → EE 141 [.a cs] = some y := fun y h => EE_plain T_l10Neutral (by decide) (Nat.le_of_ble_eq_true rfl) hcl (by rw [opt_l10Neutral]; exact h)
  cases h with
  | dig ex c =>
    refine ⟨_, hrun _ ?_, SpR.no⟩
    simp only [bodyOf, Tryd.f141, SA]
    simp only [two_name, TMA, RR, IA, PA, RA0, RA1, RA2, RA3, RA4, RA5, RA6, RA7, RA8, RA9, RA10, Nat.reduceAdd, Nat.reduceMul, Nat.reduceEqDiff, Nat.reduceLeDiff, Nat.reduceLT, Int.reduceToNat, Int.reduceLT, Int.reduceLE, Int.reduceEq, Int.reduceNeg, Int.reduceAdd, Int.reduceSub, Int.reduceMul, reduceIte]
  | var ex c =>
    refine ⟨_, hrun _ ?_, SpR.no⟩
    simp only [bodyOf, Tryd.f141, SA]
    simp only [two_name, TMA, RR, IA, PA, RA0, RA1, RA2, RA3, RA4, RA5, RA6, RA7, RA8, RA9, RA10, Nat.reduceAdd, Nat.reduceMul, Nat.reduceEqDiff, Nat.reduceLeDiff, Nat.reduceLT, Int.reduceToNat, Int.reduceLT, Int.reduceLE, Int.reduceEq, Int.reduceNeg, Int.reduceAdd, Int.reduceSub, Int.reduceMul, reduceIte]
  | one ex s h =>
    refine ⟨_, hrun _ ?_, SpR.no⟩
    simp only [bodyOf, Tryd.f141, SA]
    simp only [two_name, h.len, TMA, RR, IA, PA, RA0, RA1, RA2, RA3, RA4, RA5, RA6, RA7, RA8, RA9, RA10, Nat.reduceAdd, Nat.reduceMul, Nat.reduceEqDiff, Nat.reduceLeDiff, Nat.reduceLT, Int.reduceToNat, Int.reduceLT, Int.reduceLE, Int.reduceEq, Int.reduceNeg, Int.reduceAdd, Int.reduceSub, Int.reduceMul, reduceIte]
  | loop ex s v h k =>
    have hv0 : ¬ ((v.toNat : Int) = 0) := fun e => lv_0 hw.2.1 (UInt8.toNat_inj.1 (by simpa using e))
    refine ⟨_, hrun _ ?_, SpR.no⟩
    simp only [bodyOf, Tryd.f141, SA]
    simp only [two_name, hv0, h.len2 k, TMA, RR, IA, PA, RA0, RA1, RA2, RA3, RA4, RA5, RA6, RA7, RA8, RA9, RA10, Nat.reduceAdd, Nat.reduceMul, Nat.reduceEqDiff, Nat.reduceLeDiff, Nat.reduceLT, Int.reduceToNat, Int.reduceLT, Int.reduceLE, Int.reduceEq, Int.reduceNeg, Int.reduceAdd, Int.reduceSub, Int.reduceMul, reduceIte]
  | two ex s h k =>
    rename_i cx cy x y
    show ∃ r, _ ∧ SpR r (neuS s x y)
    have hlen := h.len2 k
    have xl := h.len
    have xc := h.closed
    have xf := h.leaf
    have xt := h.tk
    have x2 := h.tk2 (cy := cy)
    have y2 := h.dr2 (cy := cy)
    have yt := k.tk
    have yl := k.len
    have yf := k.leaf
    have yc := k.closed
    have a0 := l10Digit_ev h hw.2.1 0
    have a1 := l10Digit_ev h hw.2.1 1
    have b0 := l10Digit_ev k hw.2.2 0
    have b1 := l10Digit_ev k hw.2.2 1
    have h2 : s = 43 ∨ s = 42 ∨ s = 94 ∨ s = 45 ∨ s = 61 ∨ s = 60 ∨ s = 64 := by
      have h := hw.1
      simpa [isTwo] using h
    unfold neuS
    rcases h2 with rfl | rfl | rfl | rfl | rfl | rfl | rfl
    · cases p : dgt 0 x with
      | true =>
        simp only [show ((43 : UInt8) = 43 ∨ (43 : UInt8) = 94) = True by decide, if_true, if_false]
        refine ⟨.t [.a cy, B true], hrun _ ?_, _, rfl, k⟩
        simp only [bodyOf, Tryd.f141, SA]
        simp only [two_name, v43, v42, v94, v45, v61, v60, v64b, hlen, xl, xc, xf, xt, x2, y2, yt, yl, yf, yc, a0, a1, b0, b1, p, give_nb xc, give_nb yc, TMA, RR, IA, PA, RA0, RA1, RA2, RA3, RA4, RA5, RA6, RA7, RA8, RA9, RA10, Nat.reduceAdd, Nat.reduceMul, Nat.reduceEqDiff, Nat.reduceLeDiff, Nat.reduceLT, Int.reduceToNat, Int.reduceLT, Int.reduceLE, Int.reduceEq, Int.reduceNeg, Int.reduceAdd, Int.reduceSub, Int.reduceMul, reduceIte]
      | false =>
        cases q : dgt 0 y with
        | true =>
          simp only [show ((43 : UInt8) = 43 ∨ (43 : UInt8) = 94) = True by decide, if_true, if_false, Bool.false_eq_true]
          refine ⟨.t [.a cx, B true], hrun _ ?_, _, rfl, h⟩
          simp only [bodyOf, Tryd.f141, SA]
          simp only [two_name, v43, v42, v94, v45, v61, v60, v64b, hlen, xl, xc, xf, xt, x2, y2, yt, yl, yf, yc, a0, a1, b0, b1, p, q, give_nb xc, give_nb yc, TMA, RR, IA, PA, RA0, RA1, RA2, RA3, RA4, RA5, RA6, RA7, RA8, RA9, RA10, Nat.reduceAdd, Nat.reduceMul, Nat.reduceEqDiff, Nat.reduceLeDiff, Nat.reduceLT, Int.reduceToNat, Int.reduceLT, Int.reduceLE, Int.reduceEq, Int.reduceNeg, Int.reduceAdd, Int.reduceSub, Int.reduceMul, reduceIte]
        | false =>
          simp only [show ((43 : UInt8) = 43 ∨ (43 : UInt8) = 94) = True by decide, if_true, if_false, Bool.false_eq_true]
          refine ⟨.t [.a cx, B false], hrun _ ?_, _, rfl, xc, xl, xf⟩
          simp only [bodyOf, Tryd.f141, SA]
          simp only [two_name, v43, v42, v94, v45, v61, v60, v64b, hlen, xl, xc, xf, xt, x2, y2, yt, yl, yf, yc, a0, a1, b0, b1, p, q, give_nb xc, give_nb yc, TMA, RR, IA, PA, RA0, RA1, RA2, RA3, RA4, RA5, RA6, RA7, RA8, RA9, RA10, Nat.reduceAdd, Nat.reduceMul, Nat.reduceEqDiff, Nat.reduceLeDiff, Nat.reduceLT, Int.reduceToNat, Int.reduceLT, Int.reduceLE, Int.reduceEq, Int.reduceNeg, Int.reduceAdd, Int.reduceSub, Int.reduceMul, reduceIte]
    · cases p : dgt 1 x with
      | true =>
        simp only [show ((42 : UInt8) = 43 ∨ (42 : UInt8) = 94) = False by decide, show ((42 : UInt8) = 42) = True by decide, if_true, if_false]
        refine ⟨.t [.a cy, B true], hrun _ ?_, _, rfl, k⟩
        simp only [bodyOf, Tryd.f141, SA]
        simp only [two_name, v43, v42, v94, v45, v61, v60, v64b, hlen, xl, xc, xf, xt, x2, y2, yt, yl, yf, yc, a0, a1, b0, b1, p, give_nb xc, give_nb yc, TMA, RR, IA, PA, RA0, RA1, RA2, RA3, RA4, RA5, RA6, RA7, RA8, RA9, RA10, Nat.reduceAdd, Nat.reduceMul, Nat.reduceEqDiff, Nat.reduceLeDiff, Nat.reduceLT, Int.reduceToNat, Int.reduceLT, Int.reduceLE, Int.reduceEq, Int.reduceNeg, Int.reduceAdd, Int.reduceSub, Int.reduceMul, reduceIte]
      | false =>
        cases q : dgt 1 y with
        | true =>
          simp only [show ((42 : UInt8) = 43 ∨ (42 : UInt8) = 94) = False by decide, show ((42 : UInt8) = 42) = True by decide, if_true, if_false, Bool.false_eq_true]
          refine ⟨.t [.a cx, B true], hrun _ ?_, _, rfl, h⟩
          simp only [bodyOf, Tryd.f141, SA]
          simp only [two_name, v43, v42, v94, v45, v61, v60, v64b, hlen, xl, xc, xf, xt, x2, y2, yt, yl, yf, yc, a0, a1, b0, b1, p, q, give_nb xc, give_nb yc, TMA, RR, IA, PA, RA0, RA1, RA2, RA3, RA4, RA5, RA6, RA7, RA8, RA9, RA10, Nat.reduceAdd, Nat.reduceMul, Nat.reduceEqDiff, Nat.reduceLeDiff, Nat.reduceLT, Int.reduceToNat, Int.reduceLT, Int.reduceLE, Int.reduceEq, Int.reduceNeg, Int.reduceAdd, Int.reduceSub, Int.reduceMul, reduceIte]
        | false =>
          simp only [show ((42 : UInt8) = 43 ∨ (42 : UInt8) = 94) = False by decide, show ((42 : UInt8) = 42) = True by decide, if_true, if_false, Bool.false_eq_true]
          refine ⟨.t [.a cx, B false], hrun _ ?_, _, rfl, xc, xl, xf⟩
          simp only [bodyOf, Tryd.f141, SA]
          simp only [two_name, v43, v42, v94, v45, v61, v60, v64b, hlen, xl, xc, xf, xt, x2, y2, yt, yl, yf, yc, a0, a1, b0, b1, p, q, give_nb xc, give_nb yc, TMA, RR, IA, PA, RA0, RA1, RA2, RA3, RA4, RA5, RA6, RA7, RA8, RA9, RA10, Nat.reduceAdd, Nat.reduceMul, Nat.reduceEqDiff, Nat.reduceLeDiff, Nat.reduceLT, Int.reduceToNat, Int.reduceLT, Int.reduceLE, Int.reduceEq, Int.reduceNeg, Int.reduceAdd, Int.reduceSub, Int.reduceMul, reduceIte]
    · cases p : dgt 0 x with
      | true =>
        simp only [show ((94 : UInt8) = 43 ∨ (94 : UInt8) = 94) = True by decide, if_true, if_false]
        refine ⟨.t [.a cy, B true], hrun _ ?_, _, rfl, k⟩
        simp only [bodyOf, Tryd.f141, SA]
        simp only [two_name, v43, v42, v94, v45, v61, v60, v64b, hlen, xl, xc, xf, xt, x2, y2, yt, yl, yf, yc, a0, a1, b0, b1, p, give_nb xc, give_nb yc, TMA, RR, IA, PA, RA0, RA1, RA2, RA3, RA4, RA5, RA6, RA7, RA8, RA9, RA10, Nat.reduceAdd, Nat.reduceMul, Nat.reduceEqDiff, Nat.reduceLeDiff, Nat.reduceLT, Int.reduceToNat, Int.reduceLT, Int.reduceLE, Int.reduceEq, Int.reduceNeg, Int.reduceAdd, Int.reduceSub, Int.reduceMul, reduceIte]
      | false =>
        cases q : dgt 0 y with
        | true =>
          simp only [show ((94 : UInt8) = 43 ∨ (94 : UInt8) = 94) = True by decide, if_true, if_false, Bool.false_eq_true]
          refine ⟨.t [.a cx, B true], hrun _ ?_, _, rfl, h⟩
          simp only [bodyOf, Tryd.f141, SA]
          simp only [two_name, v43, v42, v94, v45, v61, v60, v64b, hlen, xl, xc, xf, xt, x2, y2, yt, yl, yf, yc, a0, a1, b0, b1, p, q, give_nb xc, give_nb yc, TMA, RR, IA, PA, RA0, RA1, RA2, RA3, RA4, RA5, RA6, RA7, RA8, RA9, RA10, Nat.reduceAdd, Nat.reduceMul, Nat.reduceEqDiff, Nat.reduceLeDiff, Nat.reduceLT, Int.reduceToNat, Int.reduceLT, Int.reduceLE, Int.reduceEq, Int.reduceNeg, Int.reduceAdd, Int.reduceSub, Int.reduceMul, reduceIte]
        | false =>
          simp only [show ((94 : UInt8) = 43 ∨ (94 : UInt8) = 94) = True by decide, if_true, if_false, Bool.false_eq_true]
          refine ⟨.t [.a cx, B false], hrun _ ?_, _, rfl, xc, xl, xf⟩
          simp only [bodyOf, Tryd.f141, SA]
          simp only [two_name, v43, v42, v94, v45, v61, v60, v64b, hlen, xl, xc, xf, xt, x2, y2, yt, yl, yf, yc, a0, a1, b0, b1, p, q, give_nb xc, give_nb yc, TMA, RR, IA, PA, RA0, RA1, RA2, RA3, RA4, RA5, RA6, RA7, RA8, RA9, RA10, Nat.reduceAdd, Nat.reduceMul, Nat.reduceEqDiff, Nat.reduceLeDiff, Nat.reduceLT, Int.reduceToNat, Int.reduceLT, Int.reduceLE, Int.reduceEq, Int.reduceNeg, Int.reduceAdd, Int.reduceSub, Int.reduceMul, reduceIte]
    · cases q : dgt 0 y with
      | true =>
        simp only [show ((45 : UInt8) = 43 ∨ (45 : UInt8) = 94) = False by decide, show ((45 : UInt8) = 42) = False by decide, show ((45 : UInt8) = 45) = True by decide, if_true, if_false, Bool.false_eq_true]
        refine ⟨.t [.a cx, B true], hrun _ ?_, _, rfl, h⟩
        simp only [bodyOf, Tryd.f141, SA]
        simp only [two_name, v43, v42, v94, v45, v61, v60, v64b, hlen, xl, xc, xf, xt, x2, y2, yt, yl, yf, yc, a0, a1, b0, b1, q, give_nb xc, give_nb yc, TMA, RR, IA, PA, RA0, RA1, RA2, RA3, RA4, RA5, RA6, RA7, RA8, RA9, RA10, Nat.reduceAdd, Nat.reduceMul, Nat.reduceEqDiff, Nat.reduceLeDiff, Nat.reduceLT, Int.reduceToNat, Int.reduceLT, Int.reduceLE, Int.reduceEq, Int.reduceNeg, Int.reduceAdd, Int.reduceSub, Int.reduceMul, reduceIte]
      | false =>
        simp only [show ((45 : UInt8) = 43 ∨ (45 : UInt8) = 94) = False by decide, show ((45 : UInt8) = 42) = False by decide, show ((45 : UInt8) = 45) = True by decide, if_true, if_false, Bool.false_eq_true]
        refine ⟨.t [.a cx, B false], hrun _ ?_, _, rfl, xc, xl, xf⟩
        simp only [bodyOf, Tryd.f141, SA]
        simp only [two_name, v43, v42, v94, v45, v61, v60, v64b, hlen, xl, xc, xf, xt, x2, y2, yt, yl, yf, yc, a0, a1, b0, b1, q, give_nb xc, give_nb yc, TMA, RR, IA, PA, RA0, RA1, RA2, RA3, RA4, RA5, RA6, RA7, RA8, RA9, RA10, Nat.reduceAdd, Nat.reduceMul, Nat.reduceEqDiff, Nat.reduceLeDiff, Nat.reduceLT, Int.reduceToNat, Int.reduceLT, Int.reduceLE, Int.reduceEq, Int.reduceNeg, Int.reduceAdd, Int.reduceSub, Int.reduceMul, reduceIte]
    · simp only [show ((61 : UInt8) = 43 ∨ (61 : UInt8) = 94) = False by decide, show ((61 : UInt8) = 42) = False by decide, show ((61 : UInt8) = 45) = False by decide, if_false]
      refine ⟨_, hrun _ ?_, SpR.no⟩
      simp only [bodyOf, Tryd.f141, SA]
      simp only [two_name, v43, v42, v94, v45, v61, v60, v64b, hlen, xl, xc, xf, xt, x2, y2, yt, yl, yf, yc, a0, a1, b0, b1, give_nb xc, give_nb yc, TMA, RR, IA, PA, RA0, RA1, RA2, RA3, RA4, RA5, RA6, RA7, RA8, RA9, RA10, Nat.reduceAdd, Nat.reduceMul, Nat.reduceEqDiff, Nat.reduceLeDiff, Nat.reduceLT, Int.reduceToNat, Int.reduceLT, Int.reduceLE, Int.reduceEq, Int.reduceNeg, Int.reduceAdd, Int.reduceSub, Int.reduceMul, reduceIte]
    · simp only [show ((60 : UInt8) = 43 ∨ (60 : UInt8) = 94) = False by decide, show ((60 : UInt8) = 42) = False by decide, show ((60 : UInt8) = 45) = False by decide, if_false]
      refine ⟨_, hrun _ ?_, SpR.no⟩
      simp only [bodyOf, Tryd.f141, SA]
      simp only [two_name, v43, v42, v94, v45, v61, v60, v64b, hlen, xl, xc, xf, xt, x2, y2, yt, yl, yf, yc, a0, a1, b0, b1, give_nb xc, give_nb yc, TMA, RR, IA, PA, RA0, RA1, RA2, RA3, RA4, RA5, RA6, RA7, RA8, RA9, RA10, Nat.reduceAdd, Nat.reduceMul, Nat.reduceEqDiff, Nat.reduceLeDiff, Nat.reduceLT, Int.reduceToNat, Int.reduceLT, Int.reduceLE, Int.reduceEq, Int.reduceNeg, Int.reduceAdd, Int.reduceSub, Int.reduceMul, reduceIte]
    · simp only [show ((64 : UInt8) = 43 ∨ (64 : UInt8) = 94) = False by decide, show ((64 : UInt8) = 42) = False by decide, show ((64 : UInt8) = 45) = False by decide, if_false]
      refine ⟨_, hrun _ ?_, SpR.no⟩
      simp only [bodyOf, Tryd.f141, SA]
      simp only [two_name, v43, v42, v94, v45, v61, v60, v64b, hlen, xl, xc, xf, xt, x2, y2, yt, yl, yf, yc, a0, a1, b0, b1, give_nb xc, give_nb yc, TMA, RR, IA, PA, RA0, RA1, RA2, RA3, RA4, RA5, RA6, RA7, RA8, RA9, RA10, Nat.reduceAdd, Nat.reduceMul, Nat.reduceEqDiff, Nat.reduceLeDiff, Nat.reduceLT, Int.reduceToNat, Int.reduceLT, Int.reduceLE, Int.reduceEq, Int.reduceNeg, Int.reduceAdd, Int.reduceSub, Int.reduceMul, reduceIte]
end
end Go.Proofs.YtegbkihgnofkfaaDoor.Ev
