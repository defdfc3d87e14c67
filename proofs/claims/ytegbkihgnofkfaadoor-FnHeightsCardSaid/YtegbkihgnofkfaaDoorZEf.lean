/-
Texts Ef to Ef of the work.
-/
import Derived.Test.YtegbkihgnofkfaaDoorZEe
/-
Drawn laws: heights and levels of a code: all instructions; the levels of a term.
-/
namespace Go.Proofs.YtegbkihgnofkfaaDoor.Ev
section
set_option linter.unusedVariables false
set_option linter.unusedSimpArgs false
open Go Go.RowKit
set_option linter.unusedVariables false
set_option linter.unusedSimpArgs false
theorem dH_one {a : UInt8} (h : isOne a = true) : dH [a] = 0 ∧ dL [a] = 0 := by
  have he := end_noneD (.inr (.inr (.inl h)))
  have hb : begM [a] = false := rfl
  simp [dH, dL, hb, he, arM, h]
theorem dH_two {a : UInt8} (h : isTwo a = true) : dH [a] = -1 ∧ dL [a] = 0 := by
  have he := end_noneD (.inr (.inr (.inr h)))
  have hb : begM [a] = false := rfl
  have h1 := (two_not h).2.2
  simp [dH, dL, hb, he, arM, h1, h]
theorem dH_leaf {a : UInt8} (h : isDig a = true ∨ isVar a = true) : dH [a] = 1 ∧ dL [a] = 0 := by
  have he : endM [a] = false := end_noneD (by rcases h with h | h <;> simp [h])
  have hb : begM [a] = false := rfl
  have h12 : isOne a = false ∧ isTwo a = false := by
    rcases h with h | h
    · exact dig_not_one h
    · exact var_not_one h
  simp [dH, dL, hb, he, arM, h12]
theorem dH_end {a : UInt8} (h : a = 93 ∨ a = 125) : dH [a] = -1 ∧ dL [a] = -1 := by
  rcases h with rfl | rfl <;> decide
theorem dH_beg {a v : UInt8} (h : a = 91 ∨ a = 123) : dH [a, v] = 0 ∧ dL [a, v] = 1 := by
  have hb : begM [a, v] = true := by rcases h with rfl | rfl <;> rfl
  simp [dH, dL, hb]
theorem one_lits {a : UInt8} (h : isOne a = true) : a = 83 ∨ a = 77 ∨ a = 73 ∨ a = 78 ∨ a = 82 ∨ a = 67 ∨ a = 80 := by simpa [isOne] using h
theorem two_lits {a : UInt8} (h : isTwo a = true) : a = 43 ∨ a = 42 ∨ a = 94 ∨ a = 45 ∨ a = 61 ∨ a = 60 ∨ a = 64 := by simpa [isTwo] using h
theorem leaf_lits {a : UInt8} (h : isDig a = true ∨ isVar a = true) : ¬ a = 83 ∧ ¬ a = 77 ∧ ¬ a = 73 ∧ ¬ a = 78 ∧ ¬ a = 82 ∧ ¬ a = 67 ∧ ¬ a = 80 ∧ ¬ a = 91 ∧ ¬ a = 123 ∧ ¬ a = 93 ∧ ¬ a = 125 ∧ ¬ a = 43 ∧ ¬ a = 42 ∧ ¬ a = 94 ∧ ¬ a = 45 ∧ ¬ a = 61 ∧ ¬ a = 60 ∧ ¬ a = 64 := by
  refine ⟨?_, ?_, ?_, ?_, ?_, ?_, ?_, ?_, ?_, ?_, ?_, ?_, ?_, ?_, ?_, ?_, ?_, ?_⟩ <;>
  · rintro rfl
    revert h
    decide
theorem hs_loop {hid lid iid : Nat} {L : List (List UInt8)} {Hs Ls : List Nat} {σ : Sto} (hn : L.length ≤ 1000) : ∀ (r : List (List UInt8)) (i : Nat) (p q' : PS) (hs ls : List Nat) (e : Nat → AV) (nx n : Nat) (q : Option (Ex × St)),
    runP r p = some (q', hs, ls) → L.drop i = r → Hs.drop i = hs → Ls.drop i = ls → (∀ s ∈ r, InsOk s) → HS hid lid iid L Hs Ls σ i p.st.length p.lp.length e → p.st.length ≤ i → p.lp.length ≤ i → i ≤ L.length → r.length < n →
    roundsE (evC II EE (withOpt [] pf) MX (bodyL Tryd.f4 0)) n ⟨e, σ, nx⟩ = q →
    ∃ e' nx', q = some (.exit 0, ⟨e', σ, nx'⟩) ∧ HS hid lid iid L Hs Ls σ L.length q'.st.length q'.lp.length e' ∧ ∀ t, t < 13 → e' t = e t
  | [], i, p, q', hs, ls, e, nx, n, q, hr, hL, hH, hl, hok, hS, h1, h2, hi, hnn, hq => by
    obtain ⟨n, rfl⟩ : ∃ k, n = k + 1 := ⟨n - 1, by simp only [List.length_nil] at hnn; omega⟩
    rw [rounds_rd] at hq
    have hge : L.length ≤ i := by
      have := congrArg List.length hL
      simp only [List.length_drop, List.length_nil] at this
      omega
    obtain rfl : i = L.length := by omega
    have hc : ¬ ((L.length : Int) < (L.length : Int)) := by omega
    have h105 := hS.e105
    have h106 := hS.e106
    simp only [bodyL, bodyOf, Tryd.f4, SA, loops, List.nil_append, List.append_nil, List.cons_append, List.getD_cons_zero, List.getD_cons_succ] at hq
    simp only [h105, h106, hc, RR, IA, PA, RA0, RA1, RA2, RA3, RA4, RA5, RA6, RA7, RA8, RA9, RA10, Nat.reduceAdd, Nat.reduceMul, Nat.reduceEqDiff, Nat.reduceLeDiff, Nat.reduceLT, Int.reduceToNat, Int.reduceLT, Int.reduceLE, Int.reduceEq, Int.reduceNeg, Int.reduceAdd, Int.reduceSub, Int.reduceMul, reduceIte] at hq
    simp only [runP, Option.some.injEq, Prod.mk.injEq] at hr
    obtain ⟨rfl, _, _⟩ := hr
    refine ⟨_, _, hq.symm, ⟨hS.e4, hS.e6, hS.e13, hS.e14, hS.e104, hS.e105, hS.e106, hS.r4, hS.r6, hS.ri⟩, fun t ht => ?_⟩
    have : ¬ (t = 107) := by omega
    simp only [this, if_false]
  | s :: r, i, p, q', hs, ls, e, nx, n, q, hr, hL, hH, hl, hok, hS, h1, h2, hi, hnn, hq => by
    obtain ⟨n, rfl⟩ : ∃ k, n = k + 1 := ⟨n - 1, by simp only [List.length_cons] at hnn; omega⟩
    have hlt : i < L.length := by
      have := congrArg List.length hL
      simp only [List.length_drop, List.length_cons] at this
      omega
    simp only [runP] at hr
    split at hr
    · rename_i p' hd
      split at hr
      · rename_i q2 hs2 ls2 hr2
        simp only [Option.some.injEq, Prod.mk.injEq] at hr
        obtain ⟨rfl, rfl, rfl⟩ := hr
        obtain ⟨k1, k2⟩ := doP_len hd
        have kp := doP_pos hd
        have next : ∀ {e2 : Nat → AV} {nx2 : Nat}, roundsE (evC II EE (withOpt [] pf) MX (bodyL Tryd.f4 0)) n ⟨e2, σ, nx2⟩ = q → HS hid lid iid L Hs Ls σ (i + 1) p'.st.length p'.lp.length e2 → (∀ t, t < 13 → e2 t = e t) →
            ∃ e' nx', q = some (.exit 0, ⟨e', σ, nx'⟩) ∧ HS hid lid iid L Hs Ls σ L.length q2.st.length q2.lp.length e' ∧ ∀ t, t < 13 → e' t = e t := by
          intro e2 nx2 g1 g2 g3
          have b1 := dH_le s
          have b2 := dL_le s
          have hL2 : L.drop (i + 1) = r := by rw [← List.drop_drop, hL]; rfl
          have hH2 : Hs.drop (i + 1) = hs2 := by rw [← List.drop_drop, hH]; rfl
          have hl2 : Ls.drop (i + 1) = ls2 := by rw [← List.drop_drop, hl]; rfl
          obtain ⟨e', nx', j1, j2, j3⟩ := hs_loop hn r (i + 1) p' q2 hs2 ls2 e2 nx2 n q hr2 hL2 hH2 hl2 (fun y hy => hok y (List.mem_cons_of_mem _ hy)) g2 (by omega) (by omega) (by omega) (by simp only [List.length_cons] at hnn; omega) g1
          exact ⟨e', nx', j1, j2, fun t ht => (j3 t ht).trans (g3 t ht)⟩
        rcases hok s List.mem_cons_self with ⟨a, rfl, hc⟩ | ⟨a, v, rfl, hc⟩
        · rcases hc with hc | hc | hc | hc | hc
          · obtain ⟨d1, d2⟩ := dH_leaf (.inl hc)
            rw [d1] at k1
            rw [d2] at k2
            have e1 : p'.st.length = p.st.length + 1 := by omega
            have e2 : p'.lp.length = p.lp.length := by omega
            rw [e1] at hH
            rw [e2, Nat.min_self] at hl
            obtain ⟨e', nx', g1, g2, g3⟩ := hs_def a (leaf_lits (.inl hc)) hS hL hH hl (by omega) hn (by omega) (by omega) hq
            exact next g1 (by rw [e1, e2]; exact g2) g3
          · obtain ⟨d1, d2⟩ := dH_leaf (.inr hc)
            rw [d1] at k1
            rw [d2] at k2
            have e1 : p'.st.length = p.st.length + 1 := by omega
            have e2 : p'.lp.length = p.lp.length := by omega
            rw [e1] at hH
            rw [e2, Nat.min_self] at hl
            obtain ⟨e', nx', g1, g2, g3⟩ := hs_def a (leaf_lits (.inr hc)) hS hL hH hl (by omega) hn (by omega) (by omega) hq
            exact next g1 (by rw [e1, e2]; exact g2) g3
          · obtain ⟨d1, d2⟩ := dH_one hc
            rw [d1] at k1
            rw [d2] at k2
            have e1 : p'.st.length = p.st.length := by omega
            have e2 : p'.lp.length = p.lp.length := by omega
            rw [e1] at hH
            rw [e2, Nat.min_self] at hl
            obtain ⟨e', nx', g1, g2, g3⟩ := hs_one a (one_lits hc) hS hL hH hl (by omega) hn (by omega) (by omega) hq
            exact next g1 (by rw [e1, e2]; exact g2) g3
          · obtain ⟨d1, d2⟩ := dH_two hc
            rw [d1] at k1
            rw [d2] at k2
            have e1 : p.st.length = p'.st.length + 1 := by omega
            have e2 : p'.lp.length = p.lp.length := by omega
            rw [e2, Nat.min_self] at hl
            rw [e1] at hS
            obtain ⟨e', nx', g1, g2, g3⟩ := hs_two a (two_lits hc) hS hL hH hl (by omega) hn (by omega) (by omega) hq
            exact next g1 (by rw [e2]; exact g2) g3
          · obtain ⟨d1, d2⟩ := dH_end hc
            rw [d1] at k1
            rw [d2] at k2
            have e1 : p.st.length = p'.st.length + 1 := by omega
            have e2 : p.lp.length = p'.lp.length + 1 := by omega
            rw [show min p.lp.length p'.lp.length = p'.lp.length by omega] at hl
            rw [e1, e2] at hS
            obtain ⟨e', nx', g1, g2, g3⟩ := hs_end a hc hS hL hH hl (by omega) hn (by omega) (by omega) hq
            exact next g1 g2 g3
        · obtain ⟨d1, d2⟩ := dH_beg (v := v) hc
          rw [d1] at k1
          rw [d2] at k2
          have e1 : p'.st.length = p.st.length := by omega
          have e2 : p'.lp.length = p.lp.length + 1 := by omega
          rw [e1] at hH
          rw [show min p.lp.length p'.lp.length = p.lp.length by omega] at hl
          obtain ⟨e', nx', g1, g2, g3⟩ := hs_beg a v hc hS hL hH hl (by omega) hn (by omega) (by omega) hq
          exact next g1 (by rw [e1, e2]; exact g2) g3
      · cases hr
    · cases hr
end
end Go.Proofs.YtegbkihgnofkfaaDoor.Ev
