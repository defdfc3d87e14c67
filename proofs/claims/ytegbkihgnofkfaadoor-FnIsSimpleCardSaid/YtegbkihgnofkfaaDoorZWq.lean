/-
Texts Wq to Wq of the work.
-/
import Derived.Test.YtegbkihgnofkfaaDoorZTn
/-
Terms: digits, as the implementation asks.
-/
namespace Go.Proofs.YtegbkihgnofkfaaDoor.Ev
section
set_option linter.unusedVariables false
set_option linter.unusedSimpArgs false
open Go Go.RowKit
set_option linter.unusedVariables false
set_option linter.unusedSimpArgs false
theorem T_digit : TT 88 = some (Tryd.f88, bodyOf Tryd.f88) := by kernel_rfl
/-- Is it a digit? -/
def isDigT : T → Bool
  | .dig _ => true
  | _ => false
theorem digit_cells (c : UInt8) (x y : AV) (hx : closed x = true) (hy : closed y = true) : EE 88 [.p [S [c], x, y]] = some (B (isDig c)) := by
  refine EE_plain T_digit (by decide) (Nat.le_of_ble_eq_true rfl) (by simp only [closedL, closed, hx, hy, Bool.and_self]) ?_
  rw [show opt 88 = [] from rfl]
  simp only [bodyOf, Tryd.f88, SA]
  by_cases h1 : c < 48
  · have hd : isDig c = false := by
      have := UInt8.lt_iff_toNat_lt.1 h1
      simp only [UInt8.reduceToNat] at this
      simp only [isDig, Bool.and_eq_false_iff, decide_eq_false_iff_not]
      exact .inl (by omega)
    simp only [hd, h1, hx, hy, TMA, RR, IA, PA, RA0, RA1, RA2, RA3, RA4, RA5, RA6, RA7, RA8, RA9, RA10, Nat.reduceAdd, Nat.reduceMul, Nat.reduceEqDiff, Nat.reduceLeDiff, Nat.reduceLT, Int.reduceToNat, Int.reduceLT, Int.reduceLE, Int.reduceEq, Int.reduceNeg, Int.reduceAdd, Int.reduceSub, Int.reduceMul, reduceIte]
  · have hd : isDig c = (decide (c < 57) || decide (c = 57)) := by
      have h2 : ¬ c.toNat < 48 := fun h => h1 (UInt8.lt_iff_toNat_lt.2 (by simpa using h))
      have e1 : (c < 57) ↔ c.toNat < 57 := by rw [UInt8.lt_iff_toNat_lt]; simp
      have e2 : (c = 57) ↔ c.toNat = 57 := by rw [← UInt8.toNat_inj]; simp
      rw [Bool.eq_iff_iff]
      simp only [isDig, Bool.and_eq_true, Bool.or_eq_true, decide_eq_true_eq, e1, e2]
      omega
    simp only [hd, h1, hx, hy, TMA, RR, IA, PA, RA0, RA1, RA2, RA3, RA4, RA5, RA6, RA7, RA8, RA9, RA10, Nat.reduceAdd, Nat.reduceMul, Nat.reduceEqDiff, Nat.reduceLeDiff, Nat.reduceLT, Int.reduceToNat, Int.reduceLT, Int.reduceLE, Int.reduceEq, Int.reduceNeg, Int.reduceAdd, Int.reduceSub, Int.reduceMul, reduceIte]
theorem var_not_dig {c : UInt8} (h : isVar c = true) : isDig c = false := by
  have : c = 97 ∨ c = 98 ∨ c = 118 ∨ c = 119 ∨ c = 120 ∨ c = 121 ∨ c = 122 := by simpa [isVar] using h
  rcases this with rfl | rfl | rfl | rfl | rfl | rfl | rfl <;> rfl
theorem IsP.closed_s1 (ex : Bool) {a : AV} {x : T} (h : IsP a x) : Ev.closed (.s ex 1 [a]) = true := by simp only [Ev.closed, closedL, h.closed, Bool.and_self]
theorem IsP.closed_s2 (ex : Bool) {a b : AV} {x y : T} (h : IsP a x) (k : IsP b y) : Ev.closed (.s ex 2 [a, b]) = true := by simp only [Ev.closed, closedL, h.closed, k.closed, Bool.and_self]
theorem digit_is {a : AV} {t : T} (h : IsP a t) (hw : WF t) : EE 88 [a] = some (B (isDigT t)) := by
  cases h with
  | dig ex c =>
    have h1 := digit_cells c (S []) (.s ex 0 []) rfl rfl
    rw [show isDig c = true from hw] at h1
    exact h1
  | var ex c =>
    have h1 := digit_cells c (S []) (.s ex 0 []) rfl rfl
    rw [var_not_dig hw] at h1
    exact h1
  | one ex s h =>
    have h1 := digit_cells s (S []) _ rfl (IsP.closed_s1 ex h)
    rw [(one_not hw.1).2] at h1
    exact h1
  | two ex s h k =>
    have h1 := digit_cells s (S []) _ rfl (IsP.closed_s2 ex h k)
    have hd : isDig s = false := by
      have h2 : s = 43 ∨ s = 42 ∨ s = 94 ∨ s = 45 ∨ s = 61 ∨ s = 60 ∨ s = 64 := by simpa [isTwo] using hw.1
      rcases h2 with rfl | rfl | rfl | rfl | rfl | rfl | rfl <;> rfl
    rw [hd] at h1
    exact h1
  | loop ex s v h k =>
    have h1 := digit_cells s (S [v]) _ rfl (IsP.closed_s2 ex h k)
    have hd : isDig s = false := by rcases hw.1 with h | h <;> rw [h] <;> rfl
    rw [hd] at h1
    exact h1
theorem pureK_m (σ : Sto) (f : List UInt8 → Option Int) : pureK σ (.m f) = some (.m f, σ) := rfl
end
end Go.Proofs.YtegbkihgnofkfaaDoor.Ev
