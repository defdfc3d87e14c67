/-
Texts Wa to Wa of the work.
-/
import Derived.Test.YtegbkihgnofkfaaDoorZTn
/-
Terms: the depth of what they give: the implementation.
-/
namespace Go.Proofs.YtegbkihgnofkfaaDoor.Ev
section
set_option linter.unusedVariables false
set_option linter.unusedSimpArgs false
open Go Go.RowKit
set_option linter.unusedVariables false
set_option linter.unusedSimpArgs false
def sOne (s : UInt8) (d : Int) : Int :=
  if s = 83 ∨ s = 77 then (if d = 1 then 0 else -1) else if s = 73 then (if d = 0 then 1 else -1) else if s = 78 then (if 1 ≤ d then 0 else -1)
  else if s = 82 then (if 1 ≤ d then d else -1) else if s = 67 then (if 2 ≤ d then d - 1 else -1) else if s = 80 then (if d = 1 then 1 else -1) else -1
def sTwo (s : UInt8) (d e : Int) : Int := if s = 64 then (if d = 1 ∧ e = 0 then 0 else -1) else if d = 0 ∧ e = 0 then 0 else -1
def sLoop (s : UInt8) (d e : Int) : Int := if s = 91 then (if 0 ≤ e ∧ e ≤ 2 then e + 1 else -1) else if e = 0 then d else -1
/-- Depths of variables, with one more. -/
def hset (h : UInt8 → Int) (v : UInt8) (n : Int) : UInt8 → Int := fun c => if c = v then n else h c
/-- The depth of what a term gives. -/
def dpt (h : UInt8 → Int) : T → Int
  | .dig _ => 0
  | .var c => h c
  | .one s x => sOne s (dpt h x)
  | .two s x y => sTwo s (dpt h x) (dpt h y)
  | .loop s v x y => if dpt h x < 1 then -1 else sLoop s (dpt h x) (dpt (hset h v (dpt h x - 1)) y)
def Bd (d : Int) : Prop := -1 ≤ d ∧ d ≤ 3
theorem sOne_bd (s : UInt8) {d : Int} (h : Bd d) : Bd (sOne s d) := by
  unfold Bd at *
  unfold sOne
  repeat' split
  all_goals omega
theorem sTwo_bd (s : UInt8) (d e : Int) : Bd (sTwo s d e) := by
  unfold Bd sTwo
  repeat' split
  all_goals omega
theorem sLoop_bd (s : UInt8) {d e : Int} (h : Bd d) : Bd (sLoop s d e) := by
  unfold Bd at *
  unfold sLoop
  repeat' split
  all_goals omega
theorem hset_bd {h : UInt8 → Int} (hb : ∀ c, Bd (h c)) (v : UInt8) {n : Int} (hn : Bd n) : ∀ c, Bd (hset h v n c) := by
  intro c
  unfold hset
  split
  · exact hn
  · exact hb c
theorem dpt_bd : ∀ (t : T) (h : UInt8 → Int), (∀ c, Bd (h c)) → Bd (dpt h t)
  | .dig _, h, _ => ⟨by simp [dpt], by simp [dpt]⟩
  | .var c, h, hb => hb c
  | .one s x, h, hb => sOne_bd s (dpt_bd x h hb)
  | .two s x y, h, hb => sTwo_bd s _ _
  | .loop s v x y, h, hb => by
    simp only [dpt]
    split
    · exact ⟨by omega, by omega⟩
    · exact sLoop_bd s (dpt_bd x h hb)
theorem ne83 : (¬ ((83 : UInt8) = 77)) ∧ (¬ ((83 : UInt8) = 73)) ∧ (¬ ((83 : UInt8) = 78)) ∧ (¬ ((83 : UInt8) = 82)) ∧ (¬ ((83 : UInt8) = 67)) ∧ (¬ ((83 : UInt8) = 80)) := ⟨by decide, by decide, by decide, by decide, by decide, by decide⟩
theorem ne77 : (¬ ((77 : UInt8) = 83)) ∧ (¬ ((77 : UInt8) = 73)) ∧ (¬ ((77 : UInt8) = 78)) ∧ (¬ ((77 : UInt8) = 82)) ∧ (¬ ((77 : UInt8) = 67)) ∧ (¬ ((77 : UInt8) = 80)) := ⟨by decide, by decide, by decide, by decide, by decide, by decide⟩
theorem ne73 : (¬ ((73 : UInt8) = 83)) ∧ (¬ ((73 : UInt8) = 77)) ∧ (¬ ((73 : UInt8) = 78)) ∧ (¬ ((73 : UInt8) = 82)) ∧ (¬ ((73 : UInt8) = 67)) ∧ (¬ ((73 : UInt8) = 80)) := ⟨by decide, by decide, by decide, by decide, by decide, by decide⟩
theorem ne78 : (¬ ((78 : UInt8) = 83)) ∧ (¬ ((78 : UInt8) = 77)) ∧ (¬ ((78 : UInt8) = 73)) ∧ (¬ ((78 : UInt8) = 82)) ∧ (¬ ((78 : UInt8) = 67)) ∧ (¬ ((78 : UInt8) = 80)) := ⟨by decide, by decide, by decide, by decide, by decide, by decide⟩
theorem ne82 : (¬ ((82 : UInt8) = 83)) ∧ (¬ ((82 : UInt8) = 77)) ∧ (¬ ((82 : UInt8) = 73)) ∧ (¬ ((82 : UInt8) = 78)) ∧ (¬ ((82 : UInt8) = 67)) ∧ (¬ ((82 : UInt8) = 80)) := ⟨by decide, by decide, by decide, by decide, by decide, by decide⟩
theorem ne67 : (¬ ((67 : UInt8) = 83)) ∧ (¬ ((67 : UInt8) = 77)) ∧ (¬ ((67 : UInt8) = 73)) ∧ (¬ ((67 : UInt8) = 78)) ∧ (¬ ((67 : UInt8) = 82)) ∧ (¬ ((67 : UInt8) = 80)) := ⟨by decide, by decide, by decide, by decide, by decide, by decide⟩
theorem ne80 : (¬ ((80 : UInt8) = 83)) ∧ (¬ ((80 : UInt8) = 77)) ∧ (¬ ((80 : UInt8) = 73)) ∧ (¬ ((80 : UInt8) = 78)) ∧ (¬ ((80 : UInt8) = 82)) ∧ (¬ ((80 : UInt8) = 67)) := ⟨by decide, by decide, by decide, by decide, by decide, by decide⟩
theorem T_signDepth : TT 89 = some (Tryd.f89, bodyOf Tryd.f89) := by kernel_rfl
set_option maxHeartbeats 4000000 in
theorem signOne_ev (s : UInt8) (hs : isOne s = true) (d : Int) (hd : Bd d) : EE 89 [S [s], .s false 1 [N d]] = some (N (sOne s d)) := by
  refine EE_plain T_signDepth (by decide) (Nat.le_of_ble_eq_true rfl) rfl ?_
  rw [show opt 89 = [] from rfl]
  simp only [bodyOf, Tryd.f89, SA]
  have h2 : s = 83 ∨ s = 77 ∨ s = 73 ∨ s = 78 ∨ s = 82 ∨ s = 67 ∨ s = 80 := by simpa [isOne] using hs
  obtain ⟨hd1, hd2⟩ := hd
  by_cases h0 : d < 0
  · have hr : sOne s d = -1 := by
      unfold sOne
      repeat' split
      all_goals omega
    simp only [hr, h0, TMA, RR, IA, PA, RA0, RA1, RA2, RA3, RA4, RA5, RA6, RA7, RA8, RA9, RA10, Nat.reduceAdd, Nat.reduceMul, Nat.reduceEqDiff, Nat.reduceLeDiff, Nat.reduceLT, Int.reduceToNat, Int.reduceLT, Int.reduceLE, Int.reduceEq, Int.reduceNeg, Int.reduceAdd, Int.reduceSub, Int.reduceMul, reduceIte]
  have hw : IntKind.i64.wrap (d - 1) = d - 1 := by rw [wrap64 (by omega) (by omega)]
  rcases h2 with rfl | rfl | rfl | rfl | rfl | rfl | rfl
  · by_cases hc : d = 1
    · simp only [ne83, sOne, h0, hc, hw, or_false, false_or, or_true, true_or, TMA, RR, IA, PA, RA0, RA1, RA2, RA3, RA4, RA5, RA6, RA7, RA8, RA9, RA10, Nat.reduceAdd, Nat.reduceMul, Nat.reduceEqDiff, Nat.reduceLeDiff, Nat.reduceLT, Int.reduceToNat, Int.reduceLT, Int.reduceLE, Int.reduceEq, Int.reduceNeg, Int.reduceAdd, Int.reduceSub, Int.reduceMul, reduceIte]
    · simp only [ne83, sOne, h0, hc, hw, or_false, false_or, or_true, true_or, TMA, RR, IA, PA, RA0, RA1, RA2, RA3, RA4, RA5, RA6, RA7, RA8, RA9, RA10, Nat.reduceAdd, Nat.reduceMul, Nat.reduceEqDiff, Nat.reduceLeDiff, Nat.reduceLT, Int.reduceToNat, Int.reduceLT, Int.reduceLE, Int.reduceEq, Int.reduceNeg, Int.reduceAdd, Int.reduceSub, Int.reduceMul, reduceIte]
  · by_cases hc : d = 1
    · simp only [ne77, sOne, h0, hc, hw, or_false, false_or, or_true, true_or, TMA, RR, IA, PA, RA0, RA1, RA2, RA3, RA4, RA5, RA6, RA7, RA8, RA9, RA10, Nat.reduceAdd, Nat.reduceMul, Nat.reduceEqDiff, Nat.reduceLeDiff, Nat.reduceLT, Int.reduceToNat, Int.reduceLT, Int.reduceLE, Int.reduceEq, Int.reduceNeg, Int.reduceAdd, Int.reduceSub, Int.reduceMul, reduceIte]
    · simp only [ne77, sOne, h0, hc, hw, or_false, false_or, or_true, true_or, TMA, RR, IA, PA, RA0, RA1, RA2, RA3, RA4, RA5, RA6, RA7, RA8, RA9, RA10, Nat.reduceAdd, Nat.reduceMul, Nat.reduceEqDiff, Nat.reduceLeDiff, Nat.reduceLT, Int.reduceToNat, Int.reduceLT, Int.reduceLE, Int.reduceEq, Int.reduceNeg, Int.reduceAdd, Int.reduceSub, Int.reduceMul, reduceIte]
  · by_cases hc : d = 0
    · simp only [ne73, sOne, h0, hc, hw, or_false, false_or, or_true, true_or, TMA, RR, IA, PA, RA0, RA1, RA2, RA3, RA4, RA5, RA6, RA7, RA8, RA9, RA10, Nat.reduceAdd, Nat.reduceMul, Nat.reduceEqDiff, Nat.reduceLeDiff, Nat.reduceLT, Int.reduceToNat, Int.reduceLT, Int.reduceLE, Int.reduceEq, Int.reduceNeg, Int.reduceAdd, Int.reduceSub, Int.reduceMul, reduceIte]
    · simp only [ne73, sOne, h0, hc, hw, or_false, false_or, or_true, true_or, TMA, RR, IA, PA, RA0, RA1, RA2, RA3, RA4, RA5, RA6, RA7, RA8, RA9, RA10, Nat.reduceAdd, Nat.reduceMul, Nat.reduceEqDiff, Nat.reduceLeDiff, Nat.reduceLT, Int.reduceToNat, Int.reduceLT, Int.reduceLE, Int.reduceEq, Int.reduceNeg, Int.reduceAdd, Int.reduceSub, Int.reduceMul, reduceIte]
  · by_cases hc : 1 ≤ d
    · simp only [ne78, sOne, h0, hc, hw, or_false, false_or, or_true, true_or, TMA, RR, IA, PA, RA0, RA1, RA2, RA3, RA4, RA5, RA6, RA7, RA8, RA9, RA10, Nat.reduceAdd, Nat.reduceMul, Nat.reduceEqDiff, Nat.reduceLeDiff, Nat.reduceLT, Int.reduceToNat, Int.reduceLT, Int.reduceLE, Int.reduceEq, Int.reduceNeg, Int.reduceAdd, Int.reduceSub, Int.reduceMul, reduceIte]
    · simp only [ne78, sOne, h0, hc, hw, or_false, false_or, or_true, true_or, TMA, RR, IA, PA, RA0, RA1, RA2, RA3, RA4, RA5, RA6, RA7, RA8, RA9, RA10, Nat.reduceAdd, Nat.reduceMul, Nat.reduceEqDiff, Nat.reduceLeDiff, Nat.reduceLT, Int.reduceToNat, Int.reduceLT, Int.reduceLE, Int.reduceEq, Int.reduceNeg, Int.reduceAdd, Int.reduceSub, Int.reduceMul, reduceIte]
  · by_cases hc : 1 ≤ d
    · simp only [ne82, sOne, h0, hc, hw, or_false, false_or, or_true, true_or, TMA, RR, IA, PA, RA0, RA1, RA2, RA3, RA4, RA5, RA6, RA7, RA8, RA9, RA10, Nat.reduceAdd, Nat.reduceMul, Nat.reduceEqDiff, Nat.reduceLeDiff, Nat.reduceLT, Int.reduceToNat, Int.reduceLT, Int.reduceLE, Int.reduceEq, Int.reduceNeg, Int.reduceAdd, Int.reduceSub, Int.reduceMul, reduceIte]
    · simp only [ne82, sOne, h0, hc, hw, or_false, false_or, or_true, true_or, TMA, RR, IA, PA, RA0, RA1, RA2, RA3, RA4, RA5, RA6, RA7, RA8, RA9, RA10, Nat.reduceAdd, Nat.reduceMul, Nat.reduceEqDiff, Nat.reduceLeDiff, Nat.reduceLT, Int.reduceToNat, Int.reduceLT, Int.reduceLE, Int.reduceEq, Int.reduceNeg, Int.reduceAdd, Int.reduceSub, Int.reduceMul, reduceIte]
  · by_cases hc : 2 ≤ d
    · simp only [ne67, sOne, h0, hc, hw, or_false, false_or, or_true, true_or, TMA, RR, IA, PA, RA0, RA1, RA2, RA3, RA4, RA5, RA6, RA7, RA8, RA9, RA10, Nat.reduceAdd, Nat.reduceMul, Nat.reduceEqDiff, Nat.reduceLeDiff, Nat.reduceLT, Int.reduceToNat, Int.reduceLT, Int.reduceLE, Int.reduceEq, Int.reduceNeg, Int.reduceAdd, Int.reduceSub, Int.reduceMul, reduceIte]
    · simp only [ne67, sOne, h0, hc, hw, or_false, false_or, or_true, true_or, TMA, RR, IA, PA, RA0, RA1, RA2, RA3, RA4, RA5, RA6, RA7, RA8, RA9, RA10, Nat.reduceAdd, Nat.reduceMul, Nat.reduceEqDiff, Nat.reduceLeDiff, Nat.reduceLT, Int.reduceToNat, Int.reduceLT, Int.reduceLE, Int.reduceEq, Int.reduceNeg, Int.reduceAdd, Int.reduceSub, Int.reduceMul, reduceIte]
  · by_cases hc : d = 1
    · simp only [ne80, sOne, h0, hc, hw, or_false, false_or, or_true, true_or, TMA, RR, IA, PA, RA0, RA1, RA2, RA3, RA4, RA5, RA6, RA7, RA8, RA9, RA10, Nat.reduceAdd, Nat.reduceMul, Nat.reduceEqDiff, Nat.reduceLeDiff, Nat.reduceLT, Int.reduceToNat, Int.reduceLT, Int.reduceLE, Int.reduceEq, Int.reduceNeg, Int.reduceAdd, Int.reduceSub, Int.reduceMul, reduceIte]
    · simp only [ne80, sOne, h0, hc, hw, or_false, false_or, or_true, true_or, TMA, RR, IA, PA, RA0, RA1, RA2, RA3, RA4, RA5, RA6, RA7, RA8, RA9, RA10, Nat.reduceAdd, Nat.reduceMul, Nat.reduceEqDiff, Nat.reduceLeDiff, Nat.reduceLT, Int.reduceToNat, Int.reduceLT, Int.reduceLE, Int.reduceEq, Int.reduceNeg, Int.reduceAdd, Int.reduceSub, Int.reduceMul, reduceIte]
end
end Go.Proofs.YtegbkihgnofkfaaDoor.Ev
