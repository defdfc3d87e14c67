/-
Texts Vc to Vc of the work.
-/
import Derived.Test.YtegbkihgnofkfaaGreatDoorZVb
/-
Code: heights and levels, step by step.
-/
namespace Go.Proofs.YtegbkihgnofkfaaGreatDoor.Ev
section
set_option linter.unusedVariables false
set_option linter.unusedSimpArgs false
open Go Go.RowKit
set_option linter.unusedVariables false
set_option linter.unusedSimpArgs false
/-- How an instruction changes the number of terms, of loops. -/
def dH (s : List UInt8) : Int := if begM s = true then 0 else if endM s = true then -1 else 1 - arM s
def dL (s : List UInt8) : Int := if begM s = true then 1 else if endM s = true then -1 else 0
theorem doP_len {s : List UInt8} {p p' : PS} (h : doP s p = some p') : (p'.st.length : Int) = p.st.length + dH s ∧ (p'.lp.length : Int) = p.lp.length + dL s := by
  obtain ⟨st, lp⟩ := p
  unfold doP at h
  split at h
  · rename_i a
    have hb : begM [a] = false := rfl
    split at h
    · rename_i hd
      obtain rfl := Option.some.inj h
      have h1 := dig_not_one hd
      have h2 := not_end (.inr (.inr (.inl hd)))
      have h3 : endM [a] = false := by simpa [endM] using h2
      have h4 : arM [a] = 0 := by simp [arM, h1]
      simp only [dH, dL, hb, h3, h4, Bool.false_eq_true, if_false, List.length_cons]
      omega
    split at h
    · rename_i hd
      obtain rfl := Option.some.inj h
      have h1 := var_not_one hd
      have h2 := not_end (.inr (.inr (.inr hd)))
      have h3 : endM [a] = false := by simpa [endM] using h2
      have h4 : arM [a] = 0 := by simp [arM, h1]
      simp only [dH, dL, hb, h3, h4, Bool.false_eq_true, if_false, List.length_cons]
      omega
    split at h
    · rename_i hd
      have h2 := not_end (.inl hd)
      have h3 : endM [a] = false := by simpa [endM] using h2
      have h4 : arM [a] = 1 := by simp [arM, hd]
      split at h
      · rename_i x s1 h1
        obtain rfl := Option.some.inj h
        obtain ⟨h5, _⟩ := popP_some h1
        simp only at h5
        simp only [dH, dL, hb, h3, h4, h5, Bool.false_eq_true, if_false, List.length_cons]
        omega
      · cases h
    split at h
    · rename_i h0 hd
      have h2 := not_end (.inr (.inl hd))
      have h3 : endM [a] = false := by simpa [endM] using h2
      have h4 : arM [a] = 2 := by simp [arM, hd, h0]
      split at h
      · rename_i y s1 h1
        split at h
        · rename_i x s2 h6
          obtain rfl := Option.some.inj h
          obtain ⟨h5, _⟩ := popP_some h1
          obtain ⟨h7, _⟩ := popP_some h6
          simp only at h5 h7
          simp only [dH, dL, hb, h3, h4, h5, h7, Bool.false_eq_true, if_false, List.length_cons]
          omega
        · cases h
      · cases h
    split at h
    · rename_i he
      have h3 : endM [a] = true := by simpa [endM] using he
      cases lp with
      | nil => cases h
      | cons q lp =>
        obtain ⟨c, v, b⟩ := q
        simp only [endP] at h
        split at h
        · rename_i hc
          split at h
          · rename_i y s1 h1
            split at h
            · rename_i x s2 h6
              obtain rfl := Option.some.inj h
              obtain ⟨h5, _⟩ := popP_some h1
              obtain ⟨h7, _⟩ := popP_some h6
              simp only [dH, dL, hb, h3, h5, h7, Bool.false_eq_true, if_false, if_true, List.length_cons]
              omega
            · cases h
          · cases h
        · cases h
    · cases h
  · rename_i a v
    split at h
    · rename_i hc
      split at h
      · obtain rfl := Option.some.inj h
        have h3 : begM [a, v] = true := by simpa [begM] using hc.1
        simp only [dH, dL, h3, if_true, List.length_cons]
        omega
      · cases h
    · cases h
  · cases h
theorem dH_le (s : List UInt8) : dH s ≤ 1 := by
  unfold dH
  split
  · omega
  split
  · omega
  · have : 0 ≤ arM s := by
      unfold arM
      split
      · split
        · omega
        · split <;> omega
      · omega
    omega
theorem dL_le (s : List UInt8) : dL s ≤ 1 := by
  unfold dL
  split
  · omega
  split <;> omega
/-- Heights and levels as the implementation counts them. -/
def hsI : Int → List (List UInt8) → List Int
  | _, [] => []
  | h, s :: l => (h + dH s) :: hsI (h + dH s) l
def lsI : Int → List (List UInt8) → List Int
  | _, [] => []
  | v, s :: l => (if endM s = true then v - 1 else v) :: lsI (v + dL s) l
theorem beg_end {s : List UInt8} (h : begM s = true) : endM s = false := by
  unfold begM at h
  split at h
  · rfl
  · cases h
theorem runP_lists : ∀ {l : List (List UInt8)} {p q : PS} {hs ls : List Nat}, runP l p = some (q, hs, ls) → hs.map Int.ofNat = hsI p.st.length l ∧ ls.map Int.ofNat = lsI p.lp.length l
  | [], p, q, hs, ls, h => by
    simp only [runP, Option.some.injEq, Prod.mk.injEq] at h
    obtain ⟨_, rfl, rfl⟩ := h
    exact ⟨rfl, rfl⟩
  | s :: l, p, q, hs, ls, h => by
    simp only [runP] at h
    split at h
    · rename_i p' h1
      split at h
      · rename_i q' hs' ls' h2
        simp only [Option.some.injEq, Prod.mk.injEq] at h
        obtain ⟨_, rfl, rfl⟩ := h
        obtain ⟨k1, k2⟩ := runP_lists h2
        obtain ⟨e1, e2⟩ := doP_len h1
        simp only [List.map_cons, hsI, lsI, k1, k2, ← e1, ← e2]
        refine ⟨rfl, ?_⟩
        congr 1
        show ((min p.lp.length p'.lp.length : Nat) : Int) = _
        unfold dL at e2
        by_cases hb : begM s = true
        · rw [if_pos hb] at e2
          rw [beg_end hb]
          simp only [Bool.false_eq_true, if_false]
          omega
        · rw [if_neg hb] at e2
          split at e2
          · rename_i he
            rw [if_pos he]
            omega
          · rename_i he
            rw [if_neg he]
            omega
      · cases h
    · cases h
end
end Go.Proofs.YtegbkihgnofkfaaGreatDoor.Ev
