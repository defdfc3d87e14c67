/-
Texts Pa to Pa of the work.
-/
import Derived.Test.YtegbkihgnofkfaaDoorZXc
/-
Simplifying in plain words: how often a variable stands in a term; a term put in its place.
-/
namespace Go.Proofs.YtegbkihgnofkfaaDoor.Ev
section
set_option linter.unusedVariables false
set_option linter.unusedSimpArgs false
open Go Go.RowKit
set_option linter.unusedVariables false
set_option linter.unusedSimpArgs false
/-- How often a variable stands free in a term, twice for each time within a loop. -/
def cn (v : UInt8) : T → Nat
  | .dig _ => 0
  | .var c => if c = v then 1 else 0
  | .one _ x => cn v x
  | .two _ x y => cn v x + cn v y
  | .loop _ w x y => cn v x + (if w = v then 0 else 2 * cn v y)
theorem cn_fr (v : UInt8) : ∀ t, fr v t ≤ cn v t
  | .dig c => Nat.le_refl _
  | .var c => Nat.le_refl _
  | .one s x => cn_fr v x
  | .two s x y => by have := cn_fr v x; have := cn_fr v y; simp only [fr, cn]; omega
  | .loop s w x y => by
    have := cn_fr v x; have := cn_fr v y
    simp only [fr, cn]
    split <;> omega
theorem cn_lf (v : UInt8) : ∀ t, lf v t = true → 2 ≤ cn v t
  | .dig c, h => by simp [lf] at h
  | .var c, h => by simp [lf] at h
  | .one s x, h => cn_lf v x h
  | .two s x y, h => by
    simp only [lf, Bool.or_eq_true] at h
    simp only [cn]
    rcases h with h | h
    · have := cn_lf v x h; omega
    · have := cn_lf v y h; omega
  | .loop s w x y, h => by
    simp only [lf, Bool.or_eq_true] at h
    simp only [cn]
    rcases h with h | h
    · have := cn_lf v x h; omega
    · split at h
      · cases h
      · rename_i hw
        rw [if_neg hw]
        simp only [Bool.or_eq_true, decide_eq_true_eq] at h
        rcases h with h | h
        · have := cn_fr v y; omega
        · have := cn_lf v y h; omega
theorem cn_not (v : UInt8) : ∀ t, lf v t = false → cn v t = fr v t
  | .dig c, h => rfl
  | .var c, h => rfl
  | .one s x, h => cn_not v x h
  | .two s x y, h => by
    simp only [lf, Bool.or_eq_false_iff] at h
    simp only [cn, fr, cn_not v x h.1, cn_not v y h.2]
  | .loop s w x y, h => by
    simp only [lf, Bool.or_eq_false_iff] at h
    obtain ⟨h1, h2⟩ := h
    simp only [cn, fr, cn_not v x h1]
    split at h2
    · rename_i hw; rw [if_pos hw, if_pos hw]
    · rename_i hw
      rw [if_neg hw, if_neg hw]
      simp only [Bool.or_eq_false_iff, decide_eq_false_iff_not] at h2
      rw [cn_not v y h2.2]
      omega
theorem cn_gt (v : UInt8) (t : T) : 1 < cn v t ↔ 1 < fr v t ∨ lf v t = true := by
  constructor
  · intro h
    cases hl : lf v t with
    | true => exact .inr rfl
    | false => exact .inl (by rw [← cn_not v t hl]; exact h)
  · rintro (h | h)
    · have := cn_fr v t; omega
    · have := cn_lf v t h; omega
theorem pow_two_le {a b : Nat} (h : a ≤ b) : 2 ^ a ≤ 2 ^ b := Nat.pow_le_pow_right (by omega) h
theorem cn_pow (v : UInt8) : ∀ t, cn v t ≤ 2 ^ ((textT t).length / 2)
  | .dig c => by simp [cn]
  | .var c => by
    simp only [cn, textT, List.length_cons, List.length_nil]
    split <;> simp
  | .one s x => by
    simp only [cn, textT, List.length_cons]
    exact Nat.le_trans (cn_pow v x) (pow_two_le (by omega))
  | .two s x y => by
    have h1 := cn_pow v x
    have h2 := cn_pow v y
    simp only [cn, textT, List.length_cons, List.length_append, List.length_nil]
    have e1 : 2 ^ ((textT x).length / 2) ≤ 2 ^ ((textT x).length / 2 + (textT y).length / 2) := pow_two_le (by omega)
    have e2 : 2 ^ ((textT y).length / 2) ≤ 2 ^ ((textT x).length / 2 + (textT y).length / 2) := pow_two_le (by omega)
    have e3 : 2 ^ ((textT x).length / 2 + (textT y).length / 2 + 1) = 2 ^ ((textT x).length / 2 + (textT y).length / 2) * 2 := Nat.pow_succ ..
    have e4 : 2 ^ ((textT x).length / 2 + (textT y).length / 2 + 1) ≤ 2 ^ (((textT x).length + ((textT y).length + (0 + 1) + 1) + 1) / 2) := pow_two_le (by omega)
    omega
  | .loop s w x y => by
    have h1 := cn_pow v x
    have h2 := cn_pow v y
    simp only [cn, textT, List.length_cons, List.length_append, List.length_nil]
    have e1 : 2 ^ ((textT x).length / 2) ≤ 2 ^ ((textT x).length / 2 + (textT y).length / 2) := pow_two_le (by omega)
    have e2 : 2 ^ ((textT y).length / 2) ≤ 2 ^ ((textT x).length / 2 + (textT y).length / 2) := pow_two_le (by omega)
    have e3 : 2 ^ ((textT x).length / 2 + (textT y).length / 2 + 2) = 2 ^ ((textT x).length / 2 + (textT y).length / 2) * 4 := Nat.pow_add ..
    have e4 : 2 ^ ((textT x).length / 2 + (textT y).length / 2 + 2) ≤ 2 ^ (((textT x).length + ((textT y).length + (0 + 1) + 1) + 1 + 1 + 1) / 2) := pow_two_le (by omega)
    split <;> omega
theorem pt_zero (v : UInt8) (u : T) : ∀ t, fr v t = 0 → pt v u t = some t
  | .dig c, h => rfl
  | .var c, h => by
    simp only [fr] at h
    have hc : c ≠ v := fun e => by rw [if_pos e] at h; cases h
    rw [pt, if_neg hc]
  | .one s x, h => by rw [pt, if_pos (by simpa [fr] using h)]
  | .two s x y, h => by rw [pt, if_pos (by simpa [fr] using h)]
  | .loop s w x y, h => by rw [pt, if_pos h]
/-- What the reference replaces, and whether it may. -/
def rp (v : UInt8) (u : T) : T → T × Bool
  | .dig c => (.dig c, true)
  | .var c => if c = v then (u, true) else (.var c, true)
  | .one s x => if 0 < fr v x then (.one s (rp v u x).1, (rp v u x).2) else (.one s x, true)
  | .two s x y => (.two s (if 0 < fr v x then (rp v u x).1 else x) (if 0 < fr v y then (rp v u y).1 else y), (if 0 < fr v x then (rp v u x).2 else true) && (if 0 < fr v y then (rp v u y).2 else true))
  | .loop s w x y => (.loop s w (if 0 < fr v x then (rp v u x).1 else x) (if w ≠ v ∧ 0 < fr v y then (rp v u y).1 else y), (if 0 < fr v x then (rp v u x).2 else true) && (if w ≠ v ∧ 0 < fr v y then (rp v u y).2 && !decide (0 < fr w u) else true))
theorem rp_or (v : UInt8) (u x : T) (h : pt v u x = if (rp v u x).2 = true then some (rp v u x).1 else none) : pt v u x = if (if 0 < fr v x then (rp v u x).2 else true) = true then some (if 0 < fr v x then (rp v u x).1 else x) else none := by
  by_cases hx : 0 < fr v x
  · simp only [hx, if_true]; exact h
  · simp only [hx, if_false, if_true]; exact pt_zero v u x (by omega)
theorem rp_pt (v : UInt8) (u : T) : ∀ t, pt v u t = if (rp v u t).2 = true then some (rp v u t).1 else none
  | .dig c => rfl
  | .var c => by
    rw [pt, rp]
    split <;> rfl
  | .one s x => by
    have h := rp_pt v u x
    rw [pt, rp]
    by_cases hx : 0 < fr v x
    · rw [if_neg (by omega), if_pos hx, h]
      cases (rp v u x).2 <;> rfl
    · rw [if_pos (by omega), if_neg hx]
      rfl
  | .two s x y => by
    have h := rp_or v u x (rp_pt v u x)
    have k := rp_or v u y (rp_pt v u y)
    simp only [rp]
    by_cases h0 : fr v x + fr v y = 0
    · have h1 : ¬ 0 < fr v x := by omega
      have h2 : ¬ 0 < fr v y := by omega
      simp only [pt, h0, h1, h2, if_true, if_false, Bool.and_self]
    · simp only [pt, h0, if_false]
      rw [h, k]
      by_cases hx : 0 < fr v x <;> by_cases hy : 0 < fr v y <;> simp only [hx, hy, if_true, if_false] <;> cases (rp v u x).2 <;> cases (rp v u y).2 <;> rfl
  | .loop s w x y => by
    have h := rp_or v u x (rp_pt v u x)
    have k := rp_pt v u y
    simp only [rp]
    by_cases h0 : fr v (.loop s w x y) = 0
    · have h1 : ¬ 0 < fr v x := by simp only [fr] at h0; omega
      have h2 : ¬ (w ≠ v ∧ 0 < fr v y) := fun h => by simp only [fr, if_neg h.1] at h0; omega
      simp only [pt, h0, h1, h2, if_true, if_false, Bool.and_self]
    · simp only [pt, h0, if_false]
      rw [h]
      clear h
      have hgen : ∀ (p : Bool) (x1 : T), ((if p = true then some x1 else none).bind fun x' => if w = v then some (T.loop s w x' y) else if 0 < fr v y ∧ 0 < fr w u then none else (pt v u y).map fun y' => T.loop s w x' y') = if (p && (if w ≠ v ∧ 0 < fr v y then (rp v u y).2 && !decide (0 < fr w u) else true)) = true then some (T.loop s w x1 (if w ≠ v ∧ 0 < fr v y then (rp v u y).1 else y)) else none := by
        intro p x1
        cases p
        case false => rfl
        simp only [if_true, Option.bind_some, Bool.true_and]
        by_cases hw : w = v
        · simp only [hw, if_true, ne_eq, not_true, false_and, if_false]
        · by_cases hy : 0 < fr v y
          · simp only [hw, hy, if_false, ne_eq, not_false_iff, and_self, if_true, true_and]
            by_cases hu : 0 < fr w u
            · simp only [hu, if_true, decide_true, Bool.not_true, Bool.and_false, Bool.false_eq_true, if_false]
            · simp only [hu, if_false, decide_false, Bool.not_false, Bool.and_true]
              rw [k]
              cases (rp v u y).2 <;> rfl
          · simp only [hw, hy, if_false, ne_eq, not_false_iff, and_false, false_and, if_true]
            rw [pt_zero v u y (by omega)]
            rfl
      exact hgen _ _
theorem pt_len (v : UInt8) (u : T) : ∀ t t', pt v u t = some t' → (textT t').length + fr v t = (textT t).length + fr v t * (textT u).length
  | .dig c, t', h => by
    obtain rfl := Option.some.inj h
    simp [fr]
  | .var c, t', h => by
    rw [pt] at h
    split at h
    · rename_i hc
      obtain rfl := Option.some.inj h
      simp only [fr, hc, if_true, textT, List.length_cons, List.length_nil]
      omega
    · rename_i hc
      obtain rfl := Option.some.inj h
      simp only [fr, hc, if_false]
      omega
  | .one s x, t', h => by
    rw [pt] at h
    split at h
    · rename_i h0
      obtain rfl := Option.some.inj h
      simp only [fr, h0]
      omega
    · obtain ⟨x', hx, rfl⟩ := Option.map_eq_some_iff.1 h
      have := pt_len v u x x' hx
      simp only [fr, textT, List.length_cons]
      omega
  | .two s x y, t', h => by
    rw [pt] at h
    split at h
    · rename_i h0
      obtain rfl := Option.some.inj h
      simp only [fr, h0]
      omega
    · obtain ⟨x', hx, h⟩ := Option.bind_eq_some_iff.1 h
      obtain ⟨y', hy, rfl⟩ := Option.map_eq_some_iff.1 h
      have := pt_len v u x x' hx
      have := pt_len v u y y' hy
      simp only [fr, textT, List.length_cons, List.length_append, List.length_nil, Nat.add_mul]
      omega
  | .loop s w x y, t', h => by
    rw [pt] at h
    split at h
    · rename_i h0
      obtain rfl := Option.some.inj h
      rw [h0]
      omega
    · obtain ⟨x', hx, h⟩ := Option.bind_eq_some_iff.1 h
      have h1 := pt_len v u x x' hx
      split at h
      · rename_i hw
        obtain rfl := Option.some.inj h
        simp only [fr, hw, if_true, Nat.add_zero, textT, List.length_cons, List.length_append, List.length_nil]
        omega
      · rename_i hw
        split at h
        · cases h
        · obtain ⟨y', hy, rfl⟩ := Option.map_eq_some_iff.1 h
          have := pt_len v u y y' hy
          simp only [fr, hw, if_false, textT, List.length_cons, List.length_append, List.length_nil, Nat.add_mul]
          omega
theorem pt_wf (v : UInt8) {u : T} (hu : WF u) : ∀ t t', WF t → pt v u t = some t' → WF t'
  | .dig c, t', hw, h => by obtain rfl := Option.some.inj h; exact hw
  | .var c, t', hw, h => by
    rw [pt] at h
    split at h
    · obtain rfl := Option.some.inj h; exact hu
    · obtain rfl := Option.some.inj h; exact hw
  | .one s x, t', hw, h => by
    rw [pt] at h
    split at h
    · obtain rfl := Option.some.inj h; exact hw
    · obtain ⟨x', hx, rfl⟩ := Option.map_eq_some_iff.1 h
      exact ⟨hw.1, pt_wf v hu x x' hw.2 hx⟩
  | .two s x y, t', hw, h => by
    rw [pt] at h
    split at h
    · obtain rfl := Option.some.inj h; exact hw
    · obtain ⟨x', hx, h⟩ := Option.bind_eq_some_iff.1 h
      obtain ⟨y', hy, rfl⟩ := Option.map_eq_some_iff.1 h
      exact ⟨hw.1, pt_wf v hu x x' hw.2.1 hx, pt_wf v hu y y' hw.2.2 hy⟩
  | .loop s w x y, t', hw, h => by
    rw [pt] at h
    split at h
    · obtain rfl := Option.some.inj h; exact hw
    · obtain ⟨x', hx, h⟩ := Option.bind_eq_some_iff.1 h
      have h1 := pt_wf v hu x x' hw.2.2.1 hx
      split at h
      · obtain rfl := Option.some.inj h
        exact ⟨hw.1, hw.2.1, h1, hw.2.2.2⟩
      · split at h
        · cases h
        · obtain ⟨y', hy, rfl⟩ := Option.map_eq_some_iff.1 h
          exact ⟨hw.1, hw.2.1, h1, pt_wf v hu y y' hw.2.2.2 hy⟩
end
end Go.Proofs.YtegbkihgnofkfaaDoor.Ev
