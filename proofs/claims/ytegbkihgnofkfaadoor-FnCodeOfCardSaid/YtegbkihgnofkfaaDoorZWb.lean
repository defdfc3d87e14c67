/-
Texts Wb to Wb of the work.
-/
import Derived.Test.YtegbkihgnofkfaaDoorZWa
/-
Terms: the depth of what they give: the reference.
-/
namespace Go.Proofs.YtegbkihgnofkfaaDoor.Ev
section
set_option linter.unusedVariables false
set_option linter.unusedSimpArgs false
open Go Go.RowKit
set_option linter.unusedVariables false
set_option linter.unusedSimpArgs false
/-- The depths of all variables in their cells. -/
def envL (h : UInt8 → Int) : List AV := (List.range 256).map fun i => N (h (UInt8.ofNat i))
theorem envL_len (h : UInt8 → Int) : (envL h).length = 256 := by simp [envL]
theorem envL_closed (h : UInt8 → Int) : closedL (envL h) = true := by
  unfold envL
  generalize List.range 256 = l
  induction l with
  | nil => rfl
  | cons x l ih => simp only [List.map_cons, closedL, closed, ih, Bool.and_self]
theorem envL_get (h : UInt8 → Int) (v : UInt8) : ((envL h).drop v.toNat).head? = some (N (h v)) := by
  rw [List.head?_drop]
  have := v.toNat_lt
  simp [envL, this]
theorem envL_set (h : UInt8 → Int) (v : UInt8) (n : Int) : (envL h).take v.toNat ++ [N n] ++ (envL h).drop (v.toNat + 1) = envL (hset h v n) := by
  have hv := v.toNat_lt
  apply List.ext_getElem
  · simp [envL]
    omega
  · intro i h1 h2
    have hi : i < 256 := by simpa [envL] using h2
    simp only [envL, List.getElem_append, List.getElem_map, List.getElem_range, List.length_append, List.length_take, List.length_map, List.length_range, List.length_singleton, List.getElem_take, List.getElem_drop, List.getElem_singleton]
    have e : UInt8.ofNat i = v ↔ i = v.toNat := by
      constructor
      · intro e
        rw [← e, UInt8.toNat_ofNat']
        omega
      · intro e
        rw [e, UInt8.ofNat_toNat]
    unfold hset
    split
    · rename_i h3
      split
      · rename_i h4
        rw [if_neg (by rw [e]; omega)]
      · rename_i h4
        rw [if_pos (by rw [e]; omega)]
    · rename_i h3
      rw [if_neg (by rw [e]; omega)]
      congr 3
      omega
theorem T_l5One : TT 118 = some (Tryd.f118, bodyOf Tryd.f118) := by kernel_rfl
set_option maxHeartbeats 4000000 in
theorem l5One_ev (s : UInt8) (hs : isOne s = true) (d : Int) (hd : Bd d) : EE 118 [U s, N d] = some (N (sOne s d)) := by
  refine EE_plain T_l5One (by decide) (Nat.le_of_ble_eq_true rfl) rfl ?_
  rw [show opt 118 = [] from rfl]
  simp only [bodyOf, Tryd.f118, SA]
  have h2 : s = 83 ∨ s = 77 ∨ s = 73 ∨ s = 78 ∨ s = 82 ∨ s = 67 ∨ s = 80 := by simpa [isOne] using hs
  obtain ⟨hd1, hd2⟩ := hd
  have hw : IntKind.i64.wrap (d - 1) = d - 1 := by rw [wrap64 (by omega) (by omega)]
  rcases h2 with rfl | rfl | rfl | rfl | rfl | rfl | rfl
  · by_cases hc : d = 1
    · simp only [ne83, sOne, hc, hw, or_false, false_or, or_true, true_or, UInt8.reduceToNat, TMA, RR, IA, PA, RA0, RA1, RA2, RA3, RA4, RA5, RA6, RA7, RA8, RA9, RA10, Nat.reduceAdd, Nat.reduceMul, Nat.reduceEqDiff, Nat.reduceLeDiff, Nat.reduceLT, Int.reduceToNat, Int.reduceLT, Int.reduceLE, Int.reduceEq, Int.reduceNeg, Int.reduceAdd, Int.reduceSub, Int.reduceMul, reduceIte]
      rfl
    · simp only [ne83, sOne, hc, hw, or_false, false_or, or_true, true_or, UInt8.reduceToNat, TMA, RR, IA, PA, RA0, RA1, RA2, RA3, RA4, RA5, RA6, RA7, RA8, RA9, RA10, Nat.reduceAdd, Nat.reduceMul, Nat.reduceEqDiff, Nat.reduceLeDiff, Nat.reduceLT, Int.reduceToNat, Int.reduceLT, Int.reduceLE, Int.reduceEq, Int.reduceNeg, Int.reduceAdd, Int.reduceSub, Int.reduceMul, reduceIte]
      rfl
  · by_cases hc : d = 1
    · simp only [ne77, sOne, hc, hw, or_false, false_or, or_true, true_or, UInt8.reduceToNat, TMA, RR, IA, PA, RA0, RA1, RA2, RA3, RA4, RA5, RA6, RA7, RA8, RA9, RA10, Nat.reduceAdd, Nat.reduceMul, Nat.reduceEqDiff, Nat.reduceLeDiff, Nat.reduceLT, Int.reduceToNat, Int.reduceLT, Int.reduceLE, Int.reduceEq, Int.reduceNeg, Int.reduceAdd, Int.reduceSub, Int.reduceMul, reduceIte]
      rfl
    · simp only [ne77, sOne, hc, hw, or_false, false_or, or_true, true_or, UInt8.reduceToNat, TMA, RR, IA, PA, RA0, RA1, RA2, RA3, RA4, RA5, RA6, RA7, RA8, RA9, RA10, Nat.reduceAdd, Nat.reduceMul, Nat.reduceEqDiff, Nat.reduceLeDiff, Nat.reduceLT, Int.reduceToNat, Int.reduceLT, Int.reduceLE, Int.reduceEq, Int.reduceNeg, Int.reduceAdd, Int.reduceSub, Int.reduceMul, reduceIte]
      rfl
  · by_cases hc : d = 0
    · simp only [ne73, sOne, hc, hw, or_false, false_or, or_true, true_or, UInt8.reduceToNat, TMA, RR, IA, PA, RA0, RA1, RA2, RA3, RA4, RA5, RA6, RA7, RA8, RA9, RA10, Nat.reduceAdd, Nat.reduceMul, Nat.reduceEqDiff, Nat.reduceLeDiff, Nat.reduceLT, Int.reduceToNat, Int.reduceLT, Int.reduceLE, Int.reduceEq, Int.reduceNeg, Int.reduceAdd, Int.reduceSub, Int.reduceMul, reduceIte]
      rfl
    · simp only [ne73, sOne, hc, hw, or_false, false_or, or_true, true_or, UInt8.reduceToNat, TMA, RR, IA, PA, RA0, RA1, RA2, RA3, RA4, RA5, RA6, RA7, RA8, RA9, RA10, Nat.reduceAdd, Nat.reduceMul, Nat.reduceEqDiff, Nat.reduceLeDiff, Nat.reduceLT, Int.reduceToNat, Int.reduceLT, Int.reduceLE, Int.reduceEq, Int.reduceNeg, Int.reduceAdd, Int.reduceSub, Int.reduceMul, reduceIte]
      rfl
  · by_cases hc : 1 ≤ d
    · simp only [ne78, sOne, hc, hw, or_false, false_or, or_true, true_or, UInt8.reduceToNat, TMA, RR, IA, PA, RA0, RA1, RA2, RA3, RA4, RA5, RA6, RA7, RA8, RA9, RA10, Nat.reduceAdd, Nat.reduceMul, Nat.reduceEqDiff, Nat.reduceLeDiff, Nat.reduceLT, Int.reduceToNat, Int.reduceLT, Int.reduceLE, Int.reduceEq, Int.reduceNeg, Int.reduceAdd, Int.reduceSub, Int.reduceMul, reduceIte]
      rfl
    · simp only [ne78, sOne, hc, hw, or_false, false_or, or_true, true_or, UInt8.reduceToNat, TMA, RR, IA, PA, RA0, RA1, RA2, RA3, RA4, RA5, RA6, RA7, RA8, RA9, RA10, Nat.reduceAdd, Nat.reduceMul, Nat.reduceEqDiff, Nat.reduceLeDiff, Nat.reduceLT, Int.reduceToNat, Int.reduceLT, Int.reduceLE, Int.reduceEq, Int.reduceNeg, Int.reduceAdd, Int.reduceSub, Int.reduceMul, reduceIte]
      rfl
  · by_cases hc : 1 ≤ d
    · simp only [ne82, sOne, hc, hw, or_false, false_or, or_true, true_or, UInt8.reduceToNat, TMA, RR, IA, PA, RA0, RA1, RA2, RA3, RA4, RA5, RA6, RA7, RA8, RA9, RA10, Nat.reduceAdd, Nat.reduceMul, Nat.reduceEqDiff, Nat.reduceLeDiff, Nat.reduceLT, Int.reduceToNat, Int.reduceLT, Int.reduceLE, Int.reduceEq, Int.reduceNeg, Int.reduceAdd, Int.reduceSub, Int.reduceMul, reduceIte]
      rfl
    · simp only [ne82, sOne, hc, hw, or_false, false_or, or_true, true_or, UInt8.reduceToNat, TMA, RR, IA, PA, RA0, RA1, RA2, RA3, RA4, RA5, RA6, RA7, RA8, RA9, RA10, Nat.reduceAdd, Nat.reduceMul, Nat.reduceEqDiff, Nat.reduceLeDiff, Nat.reduceLT, Int.reduceToNat, Int.reduceLT, Int.reduceLE, Int.reduceEq, Int.reduceNeg, Int.reduceAdd, Int.reduceSub, Int.reduceMul, reduceIte]
      rfl
  · by_cases hc : 2 ≤ d
    · simp only [ne67, sOne, hc, hw, or_false, false_or, or_true, true_or, UInt8.reduceToNat, TMA, RR, IA, PA, RA0, RA1, RA2, RA3, RA4, RA5, RA6, RA7, RA8, RA9, RA10, Nat.reduceAdd, Nat.reduceMul, Nat.reduceEqDiff, Nat.reduceLeDiff, Nat.reduceLT, Int.reduceToNat, Int.reduceLT, Int.reduceLE, Int.reduceEq, Int.reduceNeg, Int.reduceAdd, Int.reduceSub, Int.reduceMul, reduceIte]
      rfl
    · simp only [ne67, sOne, hc, hw, or_false, false_or, or_true, true_or, UInt8.reduceToNat, TMA, RR, IA, PA, RA0, RA1, RA2, RA3, RA4, RA5, RA6, RA7, RA8, RA9, RA10, Nat.reduceAdd, Nat.reduceMul, Nat.reduceEqDiff, Nat.reduceLeDiff, Nat.reduceLT, Int.reduceToNat, Int.reduceLT, Int.reduceLE, Int.reduceEq, Int.reduceNeg, Int.reduceAdd, Int.reduceSub, Int.reduceMul, reduceIte]
      rfl
  · by_cases hc : d = 1
    · simp only [ne80, sOne, hc, hw, or_false, false_or, or_true, true_or, UInt8.reduceToNat, TMA, RR, IA, PA, RA0, RA1, RA2, RA3, RA4, RA5, RA6, RA7, RA8, RA9, RA10, Nat.reduceAdd, Nat.reduceMul, Nat.reduceEqDiff, Nat.reduceLeDiff, Nat.reduceLT, Int.reduceToNat, Int.reduceLT, Int.reduceLE, Int.reduceEq, Int.reduceNeg, Int.reduceAdd, Int.reduceSub, Int.reduceMul, reduceIte]
      rfl
    · simp only [ne80, sOne, hc, hw, or_false, false_or, or_true, true_or, UInt8.reduceToNat, TMA, RR, IA, PA, RA0, RA1, RA2, RA3, RA4, RA5, RA6, RA7, RA8, RA9, RA10, Nat.reduceAdd, Nat.reduceMul, Nat.reduceEqDiff, Nat.reduceLeDiff, Nat.reduceLT, Int.reduceToNat, Int.reduceLT, Int.reduceLE, Int.reduceEq, Int.reduceNeg, Int.reduceAdd, Int.reduceSub, Int.reduceMul, reduceIte]
      rfl
theorem T_l5Two : TT 119 = some (Tryd.f119, bodyOf Tryd.f119) := by kernel_rfl
set_option maxHeartbeats 4000000 in
theorem l5Two_ev (s : UInt8) (hs : isTwo s = true) (d e : Int) : EE 119 [U s, N d, N e] = some (N (sTwo s d e)) := by
  refine EE_plain T_l5Two (by decide) (Nat.le_of_ble_eq_true rfl) rfl ?_
  rw [show opt 119 = [] from rfl]
  simp only [bodyOf, Tryd.f119, SA]
  by_cases h64 : s = 64
  · subst h64
    by_cases h1 : d = 1 <;> by_cases h2 : e = 0 <;> simp only [h1, h2, sTwo, UInt8.reduceToNat, and_true, and_false, true_and, false_and, TMA, RR, IA, PA, RA0, RA1, RA2, RA3, RA4, RA5, RA6, RA7, RA8, RA9, RA10, Nat.reduceAdd, Nat.reduceMul, Nat.reduceEqDiff, Nat.reduceLeDiff, Nat.reduceLT, Int.reduceToNat, Int.reduceLT, Int.reduceLE, Int.reduceEq, Int.reduceNeg, Int.reduceAdd, Int.reduceSub, Int.reduceMul, reduceIte] <;> rfl
  · have e64 : ¬ ((s.toNat : Int) = 64) := by
      intro h
      apply h64
      apply UInt8.toNat_inj.1
      have : s.toNat = 64 := by omega
      rw [this]
      rfl
    by_cases h1 : d = 0 <;> by_cases h2 : e = 0 <;> simp only [h64, e64, h1, h2, sTwo, and_true, and_false, true_and, false_and, TMA, RR, IA, PA, RA0, RA1, RA2, RA3, RA4, RA5, RA6, RA7, RA8, RA9, RA10, Nat.reduceAdd, Nat.reduceMul, Nat.reduceEqDiff, Nat.reduceLeDiff, Nat.reduceLT, Int.reduceToNat, Int.reduceLT, Int.reduceLE, Int.reduceEq, Int.reduceNeg, Int.reduceAdd, Int.reduceSub, Int.reduceMul, reduceIte]
end
end Go.Proofs.YtegbkihgnofkfaaDoor.Ev
