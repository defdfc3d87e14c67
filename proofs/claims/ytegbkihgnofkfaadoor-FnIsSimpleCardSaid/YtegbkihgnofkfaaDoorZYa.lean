/-
Texts Ya to Ya of the work.
-/
import Derived.Test.YtegbkihgnofkfaaDoorZXa
/-
Simplifying: the reference's terms in memory, whatever slices they were made by; does a variable stand free.
-/
namespace Go.Proofs.YtegbkihgnofkfaaDoor.Ev
section
set_option linter.unusedVariables false
set_option linter.unusedSimpArgs false
open Go Go.RowKit
set_option linter.unusedVariables false
set_option linter.unusedSimpArgs false
/-- A term's three cells in the reference. -/
inductive IsN : List AV → T → Prop
  | dig (ex : Bool) (c : UInt8) : IsN [U 48, U c, .s ex 0 []] (.dig c)
  | var (ex : Bool) (c : UInt8) : IsN [U 97, U c, .s ex 0 []] (.var c)
  | one (ex : Bool) (s : UInt8) {cx : List AV} {x : T} (h : IsN cx x) : IsN [U s, U 0, .s ex 1 cx] (.one s x)
  | two (ex : Bool) (s : UInt8) {cx cy : List AV} {x y : T} (h : IsN cx x) (k : IsN cy y) : IsN [U s, U 0, .s ex 2 (cx ++ cy)] (.two s x y)
  | loop (ex : Bool) (s v : UInt8) {cx cy : List AV} {x y : T} (h : IsN cx x) (k : IsN cy y) : IsN [U s, U v, .s ex 2 (cx ++ cy)] (.loop s v x y)
theorem encN_is : ∀ t, IsN (encN t) t
  | .dig c => .dig true c
  | .var c => .var true c
  | .one s x => .one true s (encN_is x)
  | .two s x y => .two true s (encN_is x) (encN_is y)
  | .loop s v x y => .loop true s v (encN_is x) (encN_is y)
theorem IsN.len {cs : List AV} {t : T} (h : IsN cs t) : cs.length = 3 := by cases h <;> rfl
theorem IsN.closed {cs : List AV} {t : T} (h : IsN cs t) : closedL cs = true := by
  induction h with
  | dig => rfl
  | var => rfl
  | one ex s h ih => simp only [closedL, Ev.closed, ih, Bool.and_self]
  | two ex s h k ih ik => simp only [closedL, Ev.closed, closedL_append, ih, ik, Bool.and_self]
  | loop ex s v h k ih ik => simp only [closedL, Ev.closed, closedL_append, ih, ik, Bool.and_self]
theorem IsN.leaf {cs : List AV} {t : T} (h : IsN cs t) : cs.all leafOk = true := by cases h <;> rfl
theorem IsN.tk {cs : List AV} {t : T} (h : IsN cs t) : cs.take 3 = cs := List.take_of_length_le (by rw [h.len]; omega)
theorem IsN.tk2 {cx cy : List AV} {x : T} (h : IsN cx x) : (cx ++ cy).take 3 = cx := by rw [List.take_append_of_le_length (by rw [h.len]; omega), h.tk]
theorem IsN.dr2 {cx cy : List AV} {x : T} (h : IsN cx x) : (cx ++ cy).drop 3 = cy := by rw [List.drop_append_of_le_length (by rw [h.len]; omega), List.drop_of_length_le (by rw [h.len]; omega), List.nil_append]
theorem IsN.len2 {cx cy : List AV} {x y : T} (h : IsN cx x) (k : IsN cy y) : (cx ++ cy).length = 6 := by rw [List.length_append, h.len, k.len]
/-- Sign and name. -/
def sgN : T → UInt8
  | .dig _ => 48
  | .var _ => 97
  | .one s _ => s
  | .two s _ _ => s
  | .loop s _ _ _ => s
def nmN : T → UInt8
  | .dig c => c
  | .var c => c
  | .one _ _ => 0
  | .two _ _ _ => 0
  | .loop _ v _ _ => v
theorem IsN.form {cs : List AV} {t : T} (h : IsN cs t) : ∃ ex n l, cs = [U (sgN t), U (nmN t), .s ex n l] := by cases h <;> exact ⟨_, _, _, rfl⟩
theorem one_97 {s : UInt8} (h : isOne s = true) : ¬ ((s.toNat : Int) = 97) := fun e => by
  have : s = 97 := UInt8.toNat_inj.1 (by simpa using (Int.ofNat_inj.1 (show ((s.toNat : Nat) : Int) = ((97 : Nat) : Int) from e)))
  subst this
  revert h; decide
theorem two_97 {s : UInt8} (h : isTwo s = true) : ¬ ((s.toNat : Int) = 97) := fun e => by
  have : s = 97 := UInt8.toNat_inj.1 (by simpa using (Int.ofNat_inj.1 (show ((s.toNat : Nat) : Int) = ((97 : Nat) : Int) from e)))
  subst this
  revert h; decide
theorem loop_97 {s : UInt8} (h : s = 91 ∨ s = 123) : ¬ ((s.toNat : Int) = 97) := fun e => by
  have : s = 97 := UInt8.toNat_inj.1 (by simpa using (Int.ofNat_inj.1 (show ((s.toNat : Nat) : Int) = ((97 : Nat) : Int) from e)))
  subst this
  revert h; decide
theorem ne_int {c d : UInt8} (h : c ≠ d) : ¬ ((c.toNat : Int) = (d.toNat : Int)) := fun e => h (UInt8.toNat_inj.1 (by omega))
theorem q97 : decide (((97 : UInt8).toNat : Int) = 97) = true := by decide
theorem q48 : decide (((48 : UInt8).toNat : Int) = 97) = false := by decide
theorem z0 {v : UInt8} (h : v ≠ 0) : ¬ (((0 : UInt8).toNat : Int) = (v.toNat : Int)) := ne_int (Ne.symm h)
theorem z0i {v : UInt8} (h : v ≠ 0) : ¬ ((0 : Int) = (v.toNat : Int)) := z0 h
theorem T_l5Free : TT 158 = some (Tryd.f158, bodyOf Tryd.f158) := by kernel_rfl
theorem one_cl {cs : List AV} {t : T} (h : IsN cs t) (v : UInt8) : closedL [.a cs, U v] = true := by simp only [closedL, closed, h.closed, Bool.and_self]
set_option maxHeartbeats 4000000 in
theorem l5Free_ev {cs : List AV} {t : T} (h : IsN cs t) (v : UInt8) (hv : v ≠ 0) : WF t → EE 158 [.a cs, U v] = some (B (decide (0 < fr v t))) := by
  induction h with
  | dig ex c =>
    intro hw
    refine EE_few 3 T_l5Free (by decide) (Nat.le_of_ble_eq_true rfl) rfl ?_
    rw [show opt 158 = [] from rfl]
    simp only [bodyOf, Tryd.f158, SA]
    simp only [q48, fr, rounds_rd, TMA, RR, IA, PA, RA0, RA1, RA2, RA3, RA4, RA5, RA6, RA7, RA8, RA9, RA10, Nat.reduceAdd, Nat.reduceMul, Nat.reduceEqDiff, Nat.reduceLeDiff, Nat.reduceLT, Int.reduceToNat, Int.reduceLT, Int.reduceLE, Int.reduceEq, Int.reduceNeg, Int.reduceAdd, Int.reduceSub, Int.reduceMul, reduceIte]
  | var ex c =>
    intro hw
    refine EE_few 3 T_l5Free (by decide) (Nat.le_of_ble_eq_true rfl) rfl ?_
    rw [show opt 158 = [] from rfl]
    simp only [bodyOf, Tryd.f158, SA]
    by_cases hc : c = v
    · subst hc
      simp only [q97, fr, rounds_rd, TMA, RR, IA, PA, RA0, RA1, RA2, RA3, RA4, RA5, RA6, RA7, RA8, RA9, RA10, Nat.reduceAdd, Nat.reduceMul, Nat.reduceEqDiff, Nat.reduceLeDiff, Nat.reduceLT, Int.reduceToNat, Int.reduceLT, Int.reduceLE, Int.reduceEq, Int.reduceNeg, Int.reduceAdd, Int.reduceSub, Int.reduceMul, reduceIte]
    · have := ne_int hc
      simp only [q97, fr, hc, this, rounds_rd, TMA, RR, IA, PA, RA0, RA1, RA2, RA3, RA4, RA5, RA6, RA7, RA8, RA9, RA10, Nat.reduceAdd, Nat.reduceMul, Nat.reduceEqDiff, Nat.reduceLeDiff, Nat.reduceLT, Int.reduceToNat, Int.reduceLT, Int.reduceLE, Int.reduceEq, Int.reduceNeg, Int.reduceAdd, Int.reduceSub, Int.reduceMul, reduceIte]
  | @one ex s cx x h ih =>
    intro hw
    have hx := ih hw.2
    have n97 := one_97 hw.1
    show _ = some (B (decide (0 < fr v x)))
    refine EE_few 3 T_l5Free (by decide) (Nat.le_of_ble_eq_true rfl) (one_cl (.one ex s h) v) ?_
    rw [show opt 158 = [] from rfl]
    simp only [bodyOf, Tryd.f158, SA]
    cases hq : decide (0 < fr v x) <;> rw [hq] at hx <;> simp only [hx, hq, n97, h.len, h.tk, h.closed, h.leaf, rounds_rd, TMA, RR, IA, PA, RA0, RA1, RA2, RA3, RA4, RA5, RA6, RA7, RA8, RA9, RA10, Nat.reduceAdd, Nat.reduceMul, Nat.reduceEqDiff, Nat.reduceLeDiff, Nat.reduceLT, Int.reduceToNat, Int.reduceLT, Int.reduceLE, Int.reduceEq, Int.reduceNeg, Int.reduceAdd, Int.reduceSub, Int.reduceMul, reduceIte]
  | @two ex s cx cy x y h k ih ik =>
    intro hw
    have hx := ih hw.2.1
    have hy := ik hw.2.2
    have n97 := two_97 hw.1
    have nz := z0 hv
    have nzi := z0i hv
    have e : decide (0 < fr v x + fr v y) = (decide (0 < fr v x) || decide (0 < fr v y)) := by
      rw [Bool.eq_iff_iff, Bool.or_eq_true, decide_eq_true_eq, decide_eq_true_eq, decide_eq_true_eq]; omega
    show _ = some (B (decide (0 < fr v x + fr v y)))
    rw [e]
    refine EE_few 3 T_l5Free (by decide) (Nat.le_of_ble_eq_true rfl) (one_cl (.two ex s h k) v) ?_
    rw [show opt 158 = [] from rfl]
    simp only [bodyOf, Tryd.f158, SA]
    cases hq : decide (0 < fr v x) <;> cases hr : decide (0 < fr v y) <;> rw [hq] at hx <;> rw [hr] at hy <;> simp only [hx, hy, hq, hr, n97, nz, nzi, h.len, h.tk, h.tk2, h.dr2, h.len2 k, k.len, k.tk, h.closed, h.leaf, k.closed, k.leaf, rounds_rd, TMA, RR, IA, PA, RA0, RA1, RA2, RA3, RA4, RA5, RA6, RA7, RA8, RA9, RA10, Nat.reduceAdd, Nat.reduceMul, Nat.reduceEqDiff, Nat.reduceLeDiff, Nat.reduceLT, Int.reduceToNat, Int.reduceLT, Int.reduceLE, Int.reduceEq, Int.reduceNeg, Int.reduceAdd, Int.reduceSub, Int.reduceMul, reduceIte]
  | @loop ex s w cx cy x y h k ih ik =>
    intro hw
    have hx := ih hw.2.2.1
    have hy := ik hw.2.2.2
    have n97 := loop_97 hw.1
    show _ = some (B (decide (0 < fr v x + (if w = v then 0 else fr v y))))
    have e : decide (0 < fr v x + fr v y) = (decide (0 < fr v x) || decide (0 < fr v y)) := by
      rw [Bool.eq_iff_iff, Bool.or_eq_true, decide_eq_true_eq, decide_eq_true_eq, decide_eq_true_eq]; omega
    have e2 : some (B (decide (0 < fr v x + (if w = v then 0 else fr v y)))) = some (B (if w = v then decide (0 < fr v x) else decide (0 < fr v x) || decide (0 < fr v y))) := by
      split
      · rw [Nat.add_zero]
      · rw [e]
    rw [e2]
    clear e e2
    refine EE_few 3 T_l5Free (by decide) (Nat.le_of_ble_eq_true rfl) (one_cl (.loop ex s w h k) v) ?_
    rw [show opt 158 = [] from rfl]
    simp only [bodyOf, Tryd.f158, SA]
    by_cases hwv : w = v
    · subst hwv
      cases hq : decide (0 < fr w x) <;> cases hr : decide (0 < fr w y) <;> rw [hq] at hx <;> rw [hr] at hy <;> simp only [hx, hy, hq, hr, if_true, n97, h.len, h.tk, h.tk2, h.dr2, h.len2 k, k.len, k.tk, h.closed, h.leaf, k.closed, k.leaf, rounds_rd, TMA, RR, IA, PA, RA0, RA1, RA2, RA3, RA4, RA5, RA6, RA7, RA8, RA9, RA10, Nat.reduceAdd, Nat.reduceMul, Nat.reduceEqDiff, Nat.reduceLeDiff, Nat.reduceLT, Int.reduceToNat, Int.reduceLT, Int.reduceLE, Int.reduceEq, Int.reduceNeg, Int.reduceAdd, Int.reduceSub, Int.reduceMul, reduceIte]
    · have nwv := ne_int hwv
      cases hq : decide (0 < fr v x) <;> cases hr : decide (0 < fr v y) <;> rw [hq] at hx <;> rw [hr] at hy <;> simp only [hx, hy, hq, hr, hwv, nwv, n97, h.len, h.tk, h.tk2, h.dr2, h.len2 k, k.len, k.tk, h.closed, h.leaf, k.closed, k.leaf, rounds_rd, TMA, RR, IA, PA, RA0, RA1, RA2, RA3, RA4, RA5, RA6, RA7, RA8, RA9, RA10, Nat.reduceAdd, Nat.reduceMul, Nat.reduceEqDiff, Nat.reduceLeDiff, Nat.reduceLT, Int.reduceToNat, Int.reduceLT, Int.reduceLE, Int.reduceEq, Int.reduceNeg, Int.reduceAdd, Int.reduceSub, Int.reduceMul, reduceIte]
end
end Go.Proofs.YtegbkihgnofkfaaDoor.Ev
