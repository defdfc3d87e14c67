/-
Texts Yb to Yb of the work.
-/
import Derived.Test.YtegbkihgnofkfaaDoorZYa
import Derived.Test.YtegbkihgnofkfaaDoorZPa
/-
Simplifying: the reference's count of a variable, twice within loops.
-/
namespace Go.Proofs.YtegbkihgnofkfaaDoor.Ev
section
set_option linter.unusedVariables false
set_option linter.unusedSimpArgs false
open Go Go.RowKit
set_option linter.unusedVariables false
set_option linter.unusedSimpArgs false
theorem T_l10Count : TT 157 = some (Tryd.f157, bodyOf Tryd.f157) := by kernel_rfl
theorem cn_small (v : UInt8) (t : T) (hl : (textT t).length ≤ 80) : cn v t ≤ 1099511627776 := Nat.le_trans (cn_pow v t) (Nat.le_trans (pow_two_le (show (textT t).length / 2 ≤ 40 by omega)) (by decide))
theorem lv_0 {v : UInt8} (h : isLV v = true) : v ≠ 0 := fun e => by rw [e] at h; revert h; decide
set_option maxHeartbeats 4000000 in
theorem l10Count_ev {cs : List AV} {t : T} (h : IsN cs t) (v : UInt8) (hv : v ≠ 0) : WF t → (textT t).length ≤ 80 → EE 157 [.a cs, U v] = some (N (cn v t)) := by
  induction h with
  | dig ex c =>
    intro hw hl
    refine EE_few 3 T_l10Count (by decide) (Nat.le_of_ble_eq_true rfl) rfl ?_
    rw [show opt 157 = [] from rfl]
    simp only [bodyOf, Tryd.f157, SA]
    simp only [q48, cn, rounds_rd, TMA, RR, IA, PA, RA0, RA1, RA2, RA3, RA4, RA5, RA6, RA7, RA8, RA9, RA10, Nat.reduceAdd, Nat.reduceMul, Nat.reduceEqDiff, Nat.reduceLeDiff, Nat.reduceLT, Int.reduceToNat, Int.reduceLT, Int.reduceLE, Int.reduceEq, Int.reduceNeg, Int.reduceAdd, Int.reduceSub, Int.reduceMul, reduceIte]
  | var ex c =>
    intro hw hl
    refine EE_few 3 T_l10Count (by decide) (Nat.le_of_ble_eq_true rfl) rfl ?_
    rw [show opt 157 = [] from rfl]
    simp only [bodyOf, Tryd.f157, SA]
    by_cases hc : c = v
    · subst hc
      simp only [q97, cn, rounds_rd, TMA, RR, IA, PA, RA0, RA1, RA2, RA3, RA4, RA5, RA6, RA7, RA8, RA9, RA10, Nat.reduceAdd, Nat.reduceMul, Nat.reduceEqDiff, Nat.reduceLeDiff, Nat.reduceLT, Int.reduceToNat, Int.reduceLT, Int.reduceLE, Int.reduceEq, Int.reduceNeg, Int.reduceAdd, Int.reduceSub, Int.reduceMul, reduceIte]
    · have := ne_int hc
      simp only [q97, cn, hc, this, rounds_rd, TMA, RR, IA, PA, RA0, RA1, RA2, RA3, RA4, RA5, RA6, RA7, RA8, RA9, RA10, Nat.reduceAdd, Nat.reduceMul, Nat.reduceEqDiff, Nat.reduceLeDiff, Nat.reduceLT, Int.reduceToNat, Int.reduceLT, Int.reduceLE, Int.reduceEq, Int.reduceNeg, Int.reduceAdd, Int.reduceSub, Int.reduceMul, reduceIte]
  | @one ex s cx x h ih =>
    intro hw hl
    simp only [textT, List.length_cons] at hl
    have hx := ih hw.2 (by omega)
    have n97 := one_97 hw.1
    have b1 := cn_small v x (by omega)
    have w1 : IntKind.i64.wrap (0 + (cn v x : Int)) = (cn v x : Int) := by rw [wrap64 (by omega) (by omega)]; omega
    refine EE_few 3 T_l10Count (by decide) (Nat.le_of_ble_eq_true rfl) (one_cl (.one ex s h) v) ?_
    rw [show opt 157 = [] from rfl]
    simp only [bodyOf, Tryd.f157, SA]
    simp only [hx, w1, cn, n97, h.len, h.tk, h.closed, h.leaf, rounds_rd, TMA, RR, IA, PA, RA0, RA1, RA2, RA3, RA4, RA5, RA6, RA7, RA8, RA9, RA10, Nat.reduceAdd, Nat.reduceMul, Nat.reduceEqDiff, Nat.reduceLeDiff, Nat.reduceLT, Int.reduceToNat, Int.reduceLT, Int.reduceLE, Int.reduceEq, Int.reduceNeg, Int.reduceAdd, Int.reduceSub, Int.reduceMul, reduceIte]
  | @two ex s cx cy x y h k ih ik =>
    intro hw hl
    simp only [textT, List.length_cons, List.length_append, List.length_nil] at hl
    have hx := ih hw.2.1 (by omega)
    have hy := ik hw.2.2 (by omega)
    have n97 := two_97 hw.1
    have nz := z0 hv
    have nzi := z0i hv
    have b1 := cn_small v x (by omega)
    have b2 := cn_small v y (by omega)
    have w1 : IntKind.i64.wrap (0 + (cn v x : Int)) = (cn v x : Int) := by rw [wrap64 (by omega) (by omega)]; omega
    have w2 : IntKind.i64.wrap ((cn v x : Int) + (cn v y : Int)) = ((cn v x + cn v y : Nat) : Int) := by rw [wrap64 (by omega) (by omega)]; omega
    refine EE_few 3 T_l10Count (by decide) (Nat.le_of_ble_eq_true rfl) (one_cl (.two ex s h k) v) ?_
    rw [show opt 157 = [] from rfl]
    simp only [bodyOf, Tryd.f157, SA]
    simp only [hx, hy, w1, w2, cn, n97, nz, nzi, h.len, h.tk, h.tk2, h.dr2, h.len2 k, k.len, k.tk, h.closed, h.leaf, k.closed, k.leaf, rounds_rd, TMA, RR, IA, PA, RA0, RA1, RA2, RA3, RA4, RA5, RA6, RA7, RA8, RA9, RA10, Nat.reduceAdd, Nat.reduceMul, Nat.reduceEqDiff, Nat.reduceLeDiff, Nat.reduceLT, Int.reduceToNat, Int.reduceLT, Int.reduceLE, Int.reduceEq, Int.reduceNeg, Int.reduceAdd, Int.reduceSub, Int.reduceMul, reduceIte]
  | @loop ex s w cx cy x y h k ih ik =>
    intro hw hl
    simp only [textT, List.length_cons, List.length_append, List.length_nil] at hl
    have hx := ih hw.2.2.1 (by omega)
    have hy := ik hw.2.2.2 (by omega)
    have n97 := loop_97 hw.1
    have b1 := cn_small v x (by omega)
    have b2 := cn_small v y (by omega)
    have hw0 : ¬ ((w.toNat : Int) = 0) := fun e => lv_0 hw.2.1 (UInt8.toNat_inj.1 (by simpa using e))
    have w1 : IntKind.i64.wrap (0 + (cn v x : Int)) = (cn v x : Int) := by rw [wrap64 (by omega) (by omega)]; omega
    have w3 : IntKind.i64.wrap (2 * (cn v y : Int)) = ((2 * cn v y : Nat) : Int) := by rw [wrap64 (by omega) (by omega)]; omega
    have w2 : IntKind.i64.wrap ((cn v x : Int) + ((2 * cn v y : Nat) : Int)) = ((cn v x + 2 * cn v y : Nat) : Int) := by rw [wrap64 (by omega) (by omega)]; omega
    refine EE_few 3 T_l10Count (by decide) (Nat.le_of_ble_eq_true rfl) (one_cl (.loop ex s w h k) v) ?_
    rw [show opt 157 = [] from rfl]
    simp only [bodyOf, Tryd.f157, SA]
    by_cases hwv : w = v
    · subst hwv
      simp only [hx, w1, cn, if_true, Nat.add_zero, n97, h.len, h.tk, h.tk2, h.dr2, h.len2 k, k.len, k.tk, h.closed, h.leaf, k.closed, k.leaf, rounds_rd, TMA, RR, IA, PA, RA0, RA1, RA2, RA3, RA4, RA5, RA6, RA7, RA8, RA9, RA10, Nat.reduceAdd, Nat.reduceMul, Nat.reduceEqDiff, Nat.reduceLeDiff, Nat.reduceLT, Int.reduceToNat, Int.reduceLT, Int.reduceLE, Int.reduceEq, Int.reduceNeg, Int.reduceAdd, Int.reduceSub, Int.reduceMul, reduceIte]
    · have nwv := ne_int hwv
      simp only [hx, hy, w1, w2, w3, hw0, cn, hwv, nwv, n97, h.len, h.tk, h.tk2, h.dr2, h.len2 k, k.len, k.tk, h.closed, h.leaf, k.closed, k.leaf, rounds_rd, TMA, RR, IA, PA, RA0, RA1, RA2, RA3, RA4, RA5, RA6, RA7, RA8, RA9, RA10, Nat.reduceAdd, Nat.reduceMul, Nat.reduceEqDiff, Nat.reduceLeDiff, Nat.reduceLT, Int.reduceToNat, Int.reduceLT, Int.reduceLE, Int.reduceEq, Int.reduceNeg, Int.reduceAdd, Int.reduceSub, Int.reduceMul, reduceIte]
end
end Go.Proofs.YtegbkihgnofkfaaDoor.Ev
