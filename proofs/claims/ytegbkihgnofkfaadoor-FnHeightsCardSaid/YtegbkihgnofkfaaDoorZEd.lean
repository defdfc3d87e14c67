/-
Texts Ed to Ed of the work.
-/
import Derived.Test.YtegbkihgnofkfaaDoorZEa
import Derived.Test.YtegbkihgnofkfaaDoorZDh
import Derived.Test.YtegbkihgnofkfaaDoorZVo
import Derived.Test.YtegbkihgnofkfaaDoorZDk
/-
Drawn laws: heights and levels of a code, in plain words (written by wip/tools/gen_ed.py).
-/
namespace Go.Proofs.YtegbkihgnofkfaaDoor.Ev
section
set_option linter.unusedVariables false
set_option linter.unusedSimpArgs false
open Go Go.RowKit
set_option linter.unusedVariables false
set_option linter.unusedSimpArgs false
/-- What an instruction looks like. -/
def InsOk (s : List UInt8) : Prop := (∃ a, s = [a] ∧ (isDig a = true ∨ isVar a = true ∨ isOne a = true ∨ isTwo a = true ∨ a = 93 ∨ a = 125)) ∨ ∃ a v, s = [a, v] ∧ (a = 91 ∨ a = 123)
theorem list_ins : ∀ t, WF t → ∀ y ∈ listT t, InsOk y := by
  intro t
  induction t with
  | dig c => intro hw y hy; simp only [listT, List.mem_singleton] at hy; subst hy; exact .inl ⟨c, rfl, .inl hw⟩
  | var c => intro hw y hy; simp only [listT, List.mem_singleton] at hy; subst hy; exact .inl ⟨c, rfl, .inr (.inl hw)⟩
  | one s x ih =>
    intro hw y hy
    simp only [listT, List.mem_append, List.mem_singleton] at hy
    rcases hy with hy | rfl
    · exact ih hw.2 y hy
    · exact .inl ⟨s, rfl, .inr (.inr (.inl hw.1))⟩
  | two s x y ihx ihy =>
    intro hw z hz
    simp only [listT, List.mem_append, List.mem_singleton] at hz
    rcases hz with (hz | hz) | rfl
    · exact ihx hw.2.1 z hz
    · exact ihy hw.2.2 z hz
    · exact .inl ⟨s, rfl, .inr (.inr (.inr (.inl hw.1)))⟩
  | loop s v x y ihx ihy =>
    intro hw z hz
    simp only [listT, List.mem_append, List.mem_singleton] at hz
    rcases hz with ((hz | rfl) | hz) | rfl
    · exact ihx hw.2.2.1 z hz
    · exact .inr ⟨s, v, rfl, hw.1⟩
    · exact ihy hw.2.2.2 z hz
    · refine .inl ⟨s + 2, rfl, .inr (.inr (.inr (.inr ?_)))⟩
      rcases hw.1 with rfl | rfl
      · exact .inl rfl
      · exact .inr rfl
theorem doP_pos {s : List UInt8} {p p' : PS} (h : doP s p = some p') : 0 < p'.st.length := by
  unfold doP at h
  split at h
  · split at h
    · obtain rfl := Option.some.inj h
      simp
    split at h
    · obtain rfl := Option.some.inj h
      simp
    split at h
    · split at h
      · obtain rfl := Option.some.inj h
        simp
      · cases h
    split at h
    · split at h
      · split at h
        · obtain rfl := Option.some.inj h
          simp
        · cases h
      · cases h
    split at h
    · unfold endP at h
      split at h
      · cases h
      · split at h
        · split at h
          · split at h
            · obtain rfl := Option.some.inj h
              simp
            · cases h
          · cases h
        · cases h
    · cases h
  · split at h
    · split at h
      · rename_i hlt
        obtain rfl := Option.some.inj h
        simp only
        omega
      · cases h
    · cases h
  · cases h
/-- Within how many second parts of loops something lies at most. -/
def lvT : T → Nat
  | .dig _ => 0
  | .var _ => 0
  | .one _ x => lvT x
  | .two _ x y => max (lvT x) (lvT y)
  | .loop _ _ x y => max (lvT x) (lvT y + 1)
theorem lsI_single {a : UInt8} (v : Int) (r : List (List UInt8)) (h : endM [a] = false) : lsI v ([a] :: r) = v :: lsI v r := by
  have hd : dL [a] = 0 := by simp [dL, h, show begM [a] = false from rfl]
  simp only [lsI, h, hd, Bool.false_eq_true, if_false, Int.add_zero]
theorem end_noneD {a : UInt8} (h : isDig a = true ∨ isVar a = true ∨ isOne a = true ∨ isTwo a = true) : endM [a] = false := by
  have : ¬ (a = 93 ∨ a = 125) := by
    intro e
    rcases e with rfl | rfl <;> revert h <;> decide
  simpa [endM] using this
theorem lsI_max : ∀ t, WF t → ∀ (v : Int) (r : List (List UInt8)) (acc : Int), (lsI v (listT t ++ r)).foldl max acc = (lsI v r).foldl max (max acc (v + lvT t)) := by
  intro t
  induction t with
  | dig c =>
    intro hw v r acc
    rw [show listT (.dig c) ++ r = [c] :: r from rfl, lsI_single v r (end_noneD (.inl hw)), List.foldl_cons]
    simp only [lvT]
    rw [show (v + ((0 : Nat) : Int)) = v by omega]
  | var c =>
    intro hw v r acc
    rw [show listT (.var c) ++ r = [c] :: r from rfl, lsI_single v r (end_noneD (.inr (.inl hw))), List.foldl_cons]
    simp only [lvT]
    rw [show (v + ((0 : Nat) : Int)) = v by omega]
  | one s x ih =>
    intro hw v r acc
    simp only [listT, List.append_assoc, List.cons_append, List.nil_append]
    rw [ih hw.2, lsI_single v r (end_noneD (.inr (.inr (.inl hw.1)))), List.foldl_cons]
    congr 1
    simp only [lvT]
    omega
  | two s x y ihx ihy =>
    intro hw v r acc
    simp only [listT, List.append_assoc, List.cons_append, List.nil_append]
    rw [ihx hw.2.1, ihy hw.2.2, lsI_single v r (end_noneD (.inr (.inr (.inr hw.1)))), List.foldl_cons]
    congr 1
    simp only [lvT]
    omega
  | loop s w x y ihx ihy =>
    intro hw v r acc
    simp only [listT, List.append_assoc, List.cons_append, List.nil_append]
    have hb : begM [s, w] = true := by
      rcases hw.1 with rfl | rfl <;> rfl
    have he : endM [s, w] = false := rfl
    have he2 : endM [s + 2] = true := by
      rcases hw.1 with rfl | rfl <;> rfl
    have hb2 : begM [s + 2] = false := rfl
    have d1 : dL [s, w] = 1 := by simp [dL, hb]
    have d2 : dL [s + 2] = -1 := by simp [dL, hb2, he2]
    rw [ihx hw.2.2.1]
    simp only [lsI, he, d1, Bool.false_eq_true, if_false, List.foldl_cons]
    rw [ihy hw.2.2.2]
    simp only [lsI, he2, d2, if_true, List.foldl_cons]
    rw [show v + 1 + -1 = v by omega]
    congr 1
    simp only [lvT]
    omega
/-- The highest level. -/
theorem ls_max {t : T} {hs ls : List Nat} (hw : WF t) (h : runP (listT t) ⟨[], []⟩ = some (⟨[t], []⟩, hs, ls)) : (ls.map Int.ofNat).foldl max 0 = (lvT t : Int) := by
  have h1 := (runP_lists h).2
  have h2 := lsI_max t hw 0 [] 0
  rw [List.append_nil] at h2
  rw [h1]
  show (lsI 0 (listT t)).foldl max 0 = _
  rw [h2]
  simp only [lsI, List.foldl_nil]
  omega
end
end Go.Proofs.YtegbkihgnofkfaaDoor.Ev
