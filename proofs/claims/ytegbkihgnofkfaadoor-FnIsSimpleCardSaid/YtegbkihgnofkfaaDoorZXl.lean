/-
Texts Xl to Xl of the work.
-/
import Derived.Test.YtegbkihgnofkfaaDoorZXi
import Derived.Test.YtegbkihgnofkfaaDoorZXj
import Derived.Test.YtegbkihgnofkfaaDoorZXk
import Derived.Test.YtegbkihgnofkfaaDoorZXf
import Derived.Test.YtegbkihgnofkfaaDoorZXe
import Derived.Test.YtegbkihgnofkfaaDoorZXh
/-
Simplifying: the implementation's rule for a sign with one part; the rule of any term.
-/
namespace Go.Proofs.YtegbkihgnofkfaaDoor.Ev
section
set_option linter.unusedVariables false
set_option linter.unusedSimpArgs false
open Go Go.RowKit
set_option linter.unusedVariables false
set_option linter.unusedSimpArgs false
/-- What the program's rule gives, for any term. -/
theorem rule_ev {a : AV} {t : T} (h : IsP a t) (hw : WF t) (hl : (textT t).length ≤ 1000000) : ∃ r, EE 74 [a] = some r ∧ RuleR r (ruleT t) := by
  cases h with
  | dig ex c => exact ⟨_, rule_leaf ex c _ (.dig ex c), rfl⟩
  | var ex c => exact ⟨_, rule_leaf ex c _ (.var ex c), rfl⟩
  | one ex s hp =>
    rename_i a x
    by_cases h82 : sg x = 82
    · exact rule_one82 ex s hp hw h82
    · by_cases h91 : sg x = 91
      · exact rule_one91 ex s hp hw h91
      · exact rule_one0 ex s hp hw h82 h91
  | two ex s hp kp =>
    rename_i a b x y
    by_cases hd : ¬ s = 64 ∧ isDigT x = true ∧ isDigT y = true
    · obtain ⟨h64, dx, dy⟩ := hd
      cases hp with
      | dig e1 c => cases kp with
        | dig e2 d => exact rule_digits ex e1 e2 s c d h64 hw.1 hw.2.1 hw.2.2
        | _ => simp [isDigT] at dy
      | _ => simp [isDigT] at dx
    · exact rule_two0 ex s hp kp hw hd
  | loop ex s v hp kp => exact rule_loop ex s v hp kp hw hl
end
end Go.Proofs.YtegbkihgnofkfaaDoor.Ev
