/-
The pure law of FnExactNameOfRule: the program's name of a rule is the reference's, for every whole number. No condition.
-/
import Derived.Test.YtibjofpgbcbloaaPFnExactNameOfRulex1
namespace Go.Proofs.Ytibjofpgbcbloaa.Pure
open Go.RowKit Go.Proofs.Ytibjofpgbcbloaa.PFnExactNameOfRule Go.Proofs.YtibjofpgbcbloaaW.PrintWords Go.Proofs.YtibjofpgbcbloaaW.PrintLast

theorem FnExactNameOfRule : laws_FnExactNameOfRule.Pure := by
  intro a0 _
  unfold laws_FnExactNameOfRule.f spec_NameOfRule.f impl_NameOfRule.f
  by_cases h : 0 ≤ a0 ∧ a0 < 7
  · obtain ⟨h0, h1⟩ := h
    have : a0 = 0 ∨ a0 = 1 ∨ a0 = 2 ∨ a0 = 3 ∨ a0 = 4 ∨ a0 = 5 ∨ a0 = 6 := by omega
    rcases this with rfl | rfl | rfl | rfl | rfl | rfl | rfl <;> simp [rdOf]
  · have n0 : ¬ a0 = 0 := by omega
    have n1 : ¬ a0 = 1 := by omega
    have n2 : ¬ a0 = 2 := by omega
    have n3 : ¬ a0 = 3 := by omega
    have n4 : ¬ a0 = 4 := by omega
    have n5 : ¬ a0 = 5 := by omega
    have n6 : ¬ a0 = 6 := by omega
    simp only [n0, n1, n2, n3, n4, n5, n6, if_false, Option.bind_some]
    by_cases h0 : a0 < 0
    · rw [if_pos h0]
      simp
    · rw [if_neg h0, if_pos (show a0 ≥ _ by simp only [List.length_cons, List.length_nil]; omega)]
      simp

end Go.Proofs.Ytibjofpgbcbloaa.Pure
