/-
Texts Fb to Fb of the work.
-/
import Derived.Test.YtegbkihgnofkfaaGreatDoorZVw
/-
Drawn laws: variables of a loop: levels within it, in plain words.
-/
namespace Go.Proofs.YtegbkihgnofkfaaGreatDoor.Ev
section
set_option linter.unusedVariables false
set_option linter.unusedSimpArgs false
open Go Go.RowKit
set_option linter.unusedVariables false
set_option linter.unusedSimpArgs false
/-- Within a loop the levels are higher than that of its beginning, at its end they are the same. -/
theorem lv_range {L : List (List UInt8)} {lev : Int} : ∀ (r : List (List UInt8)) (i : Nat) (d : Int), L.drop i = r → 1 ≤ d → sumL (L.take i) = lev + d →
    (∀ j, j < clo d r → ∃ lz, ((lsI 0 L).drop (i + j)).head? = some lz ∧ lev < lz) ∧ (clo d r < r.length → ((lsI 0 L).drop (i + clo d r)).head? = some lev)
  | [], i, d, hd, h1, hs => ⟨fun j hj => by simp [clo] at hj, fun h => by simp [clo] at h⟩
  | z :: r, i, d, hd, h1, hs => by
    have hg := lsI_get L 0 i z r hd
    rw [hs] at hg
    by_cases hstop : endM z = true ∧ d = 1
    · have hc0 : clo d (z :: r) = 0 := by rw [clo, if_pos hstop]
      rw [hc0]
      refine ⟨fun j hj => absurd hj (Nat.not_lt_zero _), fun _ => ?_⟩
      rw [Nat.add_zero, hg, if_pos hstop.1, hstop.2]
      congr 1
      omega
    · have hc0 : clo d (z :: r) = 1 + clo (d + dL z) r := by rw [clo, if_neg hstop]
      rw [hc0]
      have hd2 : L.drop (i + 1) = r := by rw [← List.drop_drop, hd]; rfl
      have hst := sum_take hd
      have hd1 : 1 ≤ d + dL z := by
        by_cases he : endM z = true
        · have := dL_end he
          have : d ≠ 1 := fun e => hstop ⟨he, e⟩
          omega
        · have : 0 ≤ dL z := by
            unfold dL
            rw [if_neg he]
            split <;> omega
          omega
      obtain ⟨k1, k2⟩ := lv_range (lev := lev) r (i + 1) (d + dL z) hd2 hd1 (by omega)
      refine ⟨fun j hj => ?_, fun hlt => ?_⟩
      · cases j with
        | zero =>
          rw [Nat.add_zero, hg]
          refine ⟨_, rfl, ?_⟩
          split
          · rename_i he
            have : d ≠ 1 := fun e => hstop ⟨he, e⟩
            omega
          · omega
        | succ j =>
          obtain ⟨lz, h2, h3⟩ := k1 j (by omega)
          exact ⟨lz, by rw [show i + (j + 1) = i + 1 + j by omega]; exact h2, h3⟩
      · rw [show i + (1 + clo (d + dL z) r) = i + 1 + clo (d + dL z) r by omega]
        exact k2 (by simp only [List.length_cons] at hlt; omega)
def V7b : List UInt8 := [97, 98, 118, 119, 120, 121, 122]
theorem flat_one : ∀ (l : List UInt8), (l.map fun c => [c]).flatten = l
  | [] => rfl
  | c :: l => by rw [List.map_cons, List.flatten_cons, flat_one l]; rfl
theorem vars_bytes (p : List UInt8 → Bool) : (V7.filter p).flatten = V7b.filter fun c => p [c] := by
  have h : V7.filter p = (V7b.filter fun c => p [c]).map fun c => [c] := by
    show (V7b.map fun c => [c]).filter p = _
    rw [List.filter_map]
    rfl
  rw [h, flat_one]
theorem v7b_pw : V7b.Pairwise (· < ·) := by decide
/-- A loop is not empty. -/
theorem clo_pos {L : List (List UInt8)} {t : T} {hs ls : List Nat} (h : runP L ⟨[], []⟩ = some (⟨[t], []⟩, hs, ls)) {i : Nat} {z : List UInt8} {r : List (List UInt8)} (hd : L.drop i = z :: r) (hb : begM z = true) (hr : r ≠ []) : 0 < clo 1 r := by
  have hsplit : L = L.take i ++ (z :: r) := by rw [← hd, List.take_append_drop]
  rw [hsplit] at h
  obtain ⟨p1, h1, l1, h2, l2, e1, e2⟩ := runP_split h
  cases r with
  | nil => exact absurd rfl hr
  | cons y r =>
    rw [clo]
    split
    · rename_i hy
      exfalso
      obtain ⟨hy, _⟩ := hy
      simp only [runP] at e2
      split at e2
      · rename_i p2 hz
        split at e2
        · rename_i q2 hs2 ls2 hr2
          split at hr2
          · rename_i p3 hy3
            have hp2 : p2.st = p1.st ∧ ∃ a v, p2.lp = (a, v, p1.st.length) :: p1.lp := by
              unfold begM at hb
              split at hb
              · rename_i a v
                have hne : ∀ x, [a, v] ≠ [x] := fun x h => by simp at h
                simp only [doP] at hz
                split at hz
                · split at hz
                  · obtain rfl := Option.some.inj hz
                    exact ⟨rfl, a, v, rfl⟩
                  · cases hz
                · cases hz
              · cases hb
            obtain ⟨g1, a, v, g2⟩ := hp2
            unfold endM at hy
            split at hy
            · rename_i b
              have hb2 : b = 93 ∨ b = 125 := by simpa using hy
              have hne := end_not hb2
              simp only [doP, hne.2.2.1, hne.2.2.2, hne.1, hne.2.1, Bool.false_eq_true, if_false] at hy3
              rw [if_pos hb2] at hy3
              unfold endP at hy3
              rw [g2] at hy3
              simp only at hy3
              rw [g1] at hy3
              rw [if_neg (by omega)] at hy3
              cases hy3
            · cases hy
          · cases hr2
        · cases e2
      · cases e2
    · omega
end
end Go.Proofs.YtegbkihgnofkfaaGreatDoor.Ev
