/-
Texts Vl to Vn of the work.
-/
import Derived.Test.YtegbkihgnofkfaaGreatDoorZVi
import Derived.Test.YtegbkihgnofkfaaGreatDoorZE4
/-
Laws: comparing lists of numbers and of texts; marks.
-/
namespace Go.Proofs.YtegbkihgnofkfaaGreatDoor.Ev
section
set_option linter.unusedVariables false
set_option linter.unusedSimpArgs false
open Go Go.RowKit
set_option linter.unusedVariables false
set_option linter.unusedSimpArgs false
end
end Go.Proofs.YtegbkihgnofkfaaGreatDoor.Ev

/-
Laws: marks in a slice of numbers.
-/
namespace Go.Proofs.YtegbkihgnofkfaaGreatDoor.Ev
section
set_option linter.unusedVariables false
set_option linter.unusedSimpArgs false
open Go Go.RowKit
set_option linter.unusedVariables false
set_option linter.unusedSimpArgs false
end
end Go.Proofs.YtegbkihgnofkfaaGreatDoor.Ev

/-
Code: the implementation's InstructionsOf, HeightsOf, LevelsAt.
-/
namespace Go.Proofs.YtegbkihgnofkfaaGreatDoor.Ev
section
set_option linter.unusedVariables false
set_option linter.unusedSimpArgs false
open Go Go.RowKit
set_option linter.unusedVariables false
set_option linter.unusedSimpArgs false
theorem T_implInstructionsOf : TT 7 = some (Tryz.f7, bodyOf Tryz.f7) := by kernel_rfl
theorem implInstructionsOf_ev (code : List UInt8) (hl : code.length < 50000000) : EE 7 [S code] = some (if (specB code).isSome = true then .o 9 1 (cutL 32 code).length (strs (cutL 32 code)) else .s true 0 []) := by
  refine EE_plain T_implInstructionsOf (by decide) (Nat.le_of_ble_eq_true rfl) rfl ?_
  rw [show opt 7 = [] from rfl]
  simp only [bodyOf, Tryz.f7, SA]
  have h := implCodeValid_ev code hl
  have hcut := split_ev code 32 (by omega)
  cases hs : (specB code).isSome
  · rw [hs] at h
    simp only [h, RR, IA, PA, RA0, RA1, RA2, RA3, RA4, RA5, RA6, RA7, RA8, RA9, RA10, Nat.reduceAdd, Nat.reduceMul, Nat.reduceEqDiff, Nat.reduceLeDiff, Nat.reduceLT, Int.reduceToNat, Int.reduceLT, Int.reduceLE, Int.reduceEq, Int.reduceNeg, Int.reduceAdd, Int.reduceSub, Int.reduceMul, reduceIte]
  · rw [hs] at h
    simp only [h, hcut, strs_closed, RR, IA, PA, RA0, RA1, RA2, RA3, RA4, RA5, RA6, RA7, RA8, RA9, RA10, Nat.reduceAdd, Nat.reduceMul, Nat.reduceEqDiff, Nat.reduceLeDiff, Nat.reduceLT, Int.reduceToNat, Int.reduceLT, Int.reduceLE, Int.reduceEq, Int.reduceNeg, Int.reduceAdd, Int.reduceSub, Int.reduceMul, reduceIte]
    exact give_row (by simp [upd]) (strs_closed _)
/-- Pieces as HeightsOf walks them: of one byte if they begin nothing. -/
def Plain (s : List UInt8) : Prop := begM s = false → ∃ a, s = [a]
theorem list_plain : ∀ t, WF t → ∀ y ∈ listT t, Plain y := by
  intro t
  induction t with
  | dig c => intro hw y hy; simp only [listT, List.mem_singleton] at hy; subst hy; exact fun _ => ⟨c, rfl⟩
  | var c => intro hw y hy; simp only [listT, List.mem_singleton] at hy; subst hy; exact fun _ => ⟨c, rfl⟩
  | one s x ih =>
    intro hw y hy
    simp only [listT, List.mem_append, List.mem_singleton] at hy
    rcases hy with hy | rfl
    · exact ih hw.2 y hy
    · exact fun _ => ⟨s, rfl⟩
  | two s x y ihx ihy =>
    intro hw z hz
    simp only [listT, List.mem_append, List.mem_singleton] at hz
    rcases hz with (hz | hz) | rfl
    · exact ihx hw.2.1 z hz
    · exact ihy hw.2.2 z hz
    · exact fun _ => ⟨s, rfl⟩
  | loop s v x y ihx ihy =>
    intro hw z hz
    simp only [listT, List.mem_append, List.mem_singleton] at hz
    rcases hz with ((hz | rfl) | hz) | rfl
    · exact ihx hw.2.2.1 z hz
    · intro hb
      have : begM [s, v] = true := by simpa [begM] using hw.1
      rw [this] at hb; cases hb
    · exact ihy hw.2.2.2 z hz
    · exact fun _ => ⟨s + 2, rfl⟩
theorem arM_bounds (s : List UInt8) : 0 ≤ arM s ∧ arM s ≤ 2 := by
  unfold arM
  split
  · split
    · omega
    · split <;> omega
  · omega
end
end Go.Proofs.YtegbkihgnofkfaaGreatDoor.Ev
