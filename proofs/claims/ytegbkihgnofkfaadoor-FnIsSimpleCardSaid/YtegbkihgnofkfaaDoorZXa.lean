/-
Texts Xa to Xa of the work.
-/
import Derived.Test.YtegbkihgnofkfaaDoorZWq
/-
Simplifying: how often a variable stands free in a term; the implementation's map says the same.
-/
namespace Go.Proofs.YtegbkihgnofkfaaDoor.Ev
section
set_option linter.unusedVariables false
set_option linter.unusedSimpArgs false
open Go Go.RowKit
set_option linter.unusedVariables false
set_option linter.unusedSimpArgs false
/-- How often a variable stands in a term where it is not bound. -/
def fr (v : UInt8) : T → Nat
  | .dig _ => 0
  | .var c => if c = v then 1 else 0
  | .one _ x => fr v x
  | .two _ x y => fr v x + fr v y
  | .loop _ w x y => fr v x + (if w = v then 0 else fr v y)
theorem fr_len (v : UInt8) : ∀ t, fr v t ≤ (textT t).length
  | .dig c => by simp [fr]
  | .var c => by simp only [fr, textT]; split <;> simp
  | .one s x => by have := fr_len v x; simp only [fr, textT, List.length_cons]; omega
  | .two s x y => by have := fr_len v x; have := fr_len v y; simp only [fr, textT, List.length_cons, List.length_append, List.length_nil]; omega
  | .loop s w x y => by
    have := fr_len v x; have := fr_len v y
    simp only [fr, textT, List.length_cons, List.length_append, List.length_nil]
    split <;> omega
theorem add_get (a b : Option Int) (p q : Nat) (ha : a.getD 0 = (p : Int)) (hb : b.getD 0 = (q : Int)) (h : p + q < 4611686018427387904) : (addO a b).getD 0 = ((p + q : Nat) : Int) := by
  cases b with
  | none =>
    have : q = 0 := by simpa using hb.symm
    subst this
    simpa [addO] using ha
  | some n =>
    have hn : n = (q : Int) := by simpa using hb
    subst hn
    simp only [addO, Option.getD_some, ha]
    rw [wrap64 (by omega) (by omega)]
    omega
theorem step_get {v : List UInt8} {i : Nat} {acc f : List UInt8 → Option Int} {c : UInt8} {p q : Nat} (ha : (acc [c]).getD 0 = (p : Int)) (hb : (f [c]).getD 0 = (q : Int)) (h : p + q < 4611686018427387904) :
    (stepF v i acc f [c]).getD 0 = ((if i = 0 ∨ [c] ≠ v then p + q else p : Nat) : Int) := by
  unfold stepF
  split
  · exact add_get _ _ _ _ ha hb h
  · exact ha
theorem frN_node {k n : Nat} {s v : List UInt8} {ex : Bool} {cs : List AV} {fs : List (List UInt8 → Option Int)} (h1 : cs.length = n) (h2 : n ≤ 1000000) (h3 : cs ≠ []) (hf : optL (frN k) cs = some fs) : frN (k + 1) (.p [S s, S v, .s ex n cs]) = some (accF v 0 (fun _ => none) fs) := by
  unfold frN
  simp only [S]
  rw [if_pos ⟨h1, h2⟩]
  cases cs with
  | nil => exact absurd rfl h3
  | cons a l =>
    simp only [hf, Option.map_some]
theorem fr_is {a : AV} {t : T} (h : IsP a t) : WF t → (textT t).length ≤ 1000000 → ∃ k m, frN k a = some m ∧ ∀ c, (m [c]).getD 0 = (fr c t : Int) := by
  induction h with
  | dig ex c =>
    intro hw hl
    have hd : isDigB c = true := hw
    exact ⟨1, fun _ => none, by simp [frN, S, hd], fun d => rfl⟩
  | var ex c =>
    intro hw hl
    have hd : isDigB c = false := var_not_dig hw
    refine ⟨1, fset (fun _ => none) [c] 1, by simp [frN, S, hd], fun d => ?_⟩
    unfold fset fr
    by_cases e : c = d
    · subst e; simp
    · rw [if_neg (fun h => e (by simpa using h.symm)), if_neg e]; rfl
  | @one ex s a x hp ih =>
    intro hw hl
    simp only [textT, List.length_cons] at hl
    obtain ⟨k, m, h1, h2⟩ := ih hw.2 (by omega)
    refine ⟨k + 1, accF [] 0 (fun _ => none) [m], frN_node rfl (by omega) (by simp) (by simp [optL, h1]), fun c => ?_⟩
    have := fr_len c x
    have e := step_get (v := []) (i := 0) (acc := fun _ => none) (p := 0) rfl (h2 c) (by omega)
    simpa [accF, fr] using e
  | @two ex s a b x y hp kp ihx ihy =>
    intro hw hl
    simp only [textT, List.length_cons, List.length_append, List.length_nil] at hl
    obtain ⟨k, m, h1, h2⟩ := ihx hw.2.1 (by omega)
    obtain ⟨k', m', h1', h2'⟩ := ihy hw.2.2 (by omega)
    have e1 := frN_le (Nat.le_max_left k k') h1
    have e2 := frN_le (Nat.le_max_right k k') h1'
    refine ⟨max k k' + 1, accF [] 0 (fun _ => none) [m, m'], frN_node rfl (by omega) (by simp) (by simp [optL, e1, e2]), fun c => ?_⟩
    have := fr_len c x
    have := fr_len c y
    have e := step_get (v := []) (i := 0) (acc := fun _ => none) (p := 0) rfl (h2 c) (by omega)
    rw [if_pos (.inl rfl), Nat.zero_add] at e
    have e3 := step_get (v := []) (i := 1) e (h2' c) (by omega)
    rw [if_pos (.inr (by simp))] at e3
    simpa [accF, fr] using e3
  | @loop ex s w a b x y hp kp ihx ihy =>
    intro hw hl
    simp only [textT, List.length_cons, List.length_append, List.length_nil] at hl
    obtain ⟨k, m, h1, h2⟩ := ihx hw.2.2.1 (by omega)
    obtain ⟨k', m', h1', h2'⟩ := ihy hw.2.2.2 (by omega)
    have e1 := frN_le (Nat.le_max_left k k') h1
    have e2 := frN_le (Nat.le_max_right k k') h1'
    refine ⟨max k k' + 1, accF [w] 0 (fun _ => none) [m, m'], frN_node rfl (by omega) (by simp) (by simp [optL, e1, e2]), fun c => ?_⟩
    have := fr_len c x
    have := fr_len c y
    have e := step_get (v := [w]) (i := 0) (acc := fun _ => none) (p := 0) rfl (h2 c) (by omega)
    rw [if_pos (.inl rfl), Nat.zero_add] at e
    have e3 := step_get (v := [w]) (i := 1) e (h2' c) (by omega)
    by_cases hc : w = c
    · subst hc
      rw [if_neg (by simp)] at e3
      simpa [accF, fr] using e3
    · rw [if_pos (.inr (by simp; exact fun h => hc h.symm))] at e3
      simpa [accF, fr, hc] using e3
theorem hand_free {cs : List AV} {m : List UInt8 → Option Int} (h : frC (.p cs) = some m) : hand 129 [.p cs] = some (.m m) := by
  have hc : handC 129 [.p cs] = none := by
    unfold handC
    rw [if_neg (by decide)]
  unfold hand
  simp only [hc, handF, h, if_true, Option.map_some]
/-- What free gives. -/
theorem free_ev {a : AV} {t : T} (h : IsP a t) (hw : WF t) (hl : (textT t).length ≤ 1000000) : ∃ m, EE 129 [a] = some (.m m) ∧ ∀ c, (m [c]).getD 0 = (fr c t : Int) := by
  obtain ⟨k, m, h1, h2⟩ := fr_is h hw hl
  refine ⟨m, EE_hand ?_, h2⟩
  have h3 := frC_of h1
  cases h <;> exact hand_free h3
end
end Go.Proofs.YtegbkihgnofkfaaDoor.Ev
