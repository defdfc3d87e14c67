/-
Texts Vl to Vn of the work.
-/
import Derived.Test.YtegbkihgnofkfaaDoorZVi
import Derived.Test.YtegbkihgnofkfaaDoorZE5
/-
Laws: comparing lists of numbers and of texts; marks.
-/
namespace Go.Proofs.YtegbkihgnofkfaaDoor.Ev
section
set_option linter.unusedVariables false
set_option linter.unusedSimpArgs false
open Go Go.RowKit
set_option linter.unusedVariables false
set_option linter.unusedSimpArgs false
end
end Go.Proofs.YtegbkihgnofkfaaDoor.Ev

/-
Laws: marks in a slice of numbers.
-/
namespace Go.Proofs.YtegbkihgnofkfaaDoor.Ev
section
set_option linter.unusedVariables false
set_option linter.unusedSimpArgs false
open Go Go.RowKit
set_option linter.unusedVariables false
set_option linter.unusedSimpArgs false
end
end Go.Proofs.YtegbkihgnofkfaaDoor.Ev

/-
Code: the implementation's InstructionsOf, HeightsOf, LevelsAt.
-/
namespace Go.Proofs.YtegbkihgnofkfaaDoor.Ev
section
set_option linter.unusedVariables false
set_option linter.unusedSimpArgs false
open Go Go.RowKit
set_option linter.unusedVariables false
set_option linter.unusedSimpArgs false
theorem T_implInstructionsOf : TT 13 = some (Tryd.f13, bodyOf Tryd.f13) := by kernel_rfl
theorem implInstructionsOf_ev (code : List UInt8) (hl : code.length < 50000000) : EE 13 [S code] = some (if (specB code).isSome = true then .o 9 1 (cutL 32 code).length (strs (cutL 32 code)) else .s true 0 []) := by
  refine EE_plain T_implInstructionsOf (by decide) (Nat.le_of_ble_eq_true rfl) rfl ?_
  rw [show opt 13 = [] from rfl]
  simp only [bodyOf, Tryd.f13, SA]
  have h := implCodeValid_ev code hl
  have hcut := split_ev code 32 (by omega)
  cases hs : (specB code).isSome
  · rw [hs] at h
    simp only [h, RR, IA, PA, RA0, RA1, RA2, RA3, RA4, RA5, RA6, RA7, RA8, RA9, RA10, Nat.reduceAdd, Nat.reduceMul, Nat.reduceEqDiff, Nat.reduceLeDiff, Nat.reduceLT, Int.reduceToNat, Int.reduceLT, Int.reduceLE, Int.reduceEq, Int.reduceNeg, Int.reduceAdd, Int.reduceSub, Int.reduceMul, reduceIte]
  · rw [hs] at h
    simp only [h, hcut, strs_closed, RR, IA, PA, RA0, RA1, RA2, RA3, RA4, RA5, RA6, RA7, RA8, RA9, RA10, Nat.reduceAdd, Nat.reduceMul, Nat.reduceEqDiff, Nat.reduceLeDiff, Nat.reduceLT, Int.reduceToNat, Int.reduceLT, Int.reduceLE, Int.reduceEq, Int.reduceNeg, Int.reduceAdd, Int.reduceSub, Int.reduceMul, reduceIte]
    exact give_row (by simp [upd]) (strs_closed _)
/-- Pieces as HeightsOf walks them: of one byte if they begin nothing. -/
def Plain (s : List UInt8) : Prop := begM s = false → ∃ a, s = [a]
theorem list_plain : ∀ t, WF t → ∀ y ∈ listT t, Plain y := by
  intro t
  induction t with
  | dig c => intro hw y hy; simp only [listT, List.mem_singleton] at hy; subst hy; exact fun _ => ⟨c, rfl⟩
  | var c => intro hw y hy; simp only [listT, List.mem_singleton] at hy; subst hy; exact fun _ => ⟨c, rfl⟩
  | one s x ih =>
    intro hw y hy
    simp only [listT, List.mem_append, List.mem_singleton] at hy
    rcases hy with hy | rfl
    · exact ih hw.2 y hy
    · exact fun _ => ⟨s, rfl⟩
  | two s x y ihx ihy =>
    intro hw z hz
    simp only [listT, List.mem_append, List.mem_singleton] at hz
    rcases hz with (hz | hz) | rfl
    · exact ihx hw.2.1 z hz
    · exact ihy hw.2.2 z hz
    · exact fun _ => ⟨s, rfl⟩
  | loop s v x y ihx ihy =>
    intro hw z hz
    simp only [listT, List.mem_append, List.mem_singleton] at hz
    rcases hz with ((hz | rfl) | hz) | rfl
    · exact ihx hw.2.2.1 z hz
    · intro hb
      have : begM [s, v] = true := by simpa [begM] using hw.1
      rw [this] at hb; cases hb
    · exact ihy hw.2.2.2 z hz
    · exact fun _ => ⟨s + 2, rfl⟩
theorem T_implHeightsOf : TT 19 = some (Tryd.f19, bodyOf Tryd.f19) := by kernel_rfl
theorem arM_bounds (s : List UInt8) : 0 ≤ arM s ∧ arM s ≤ 2 := by
  unfold arM
  split
  · split
    · omega
    · split <;> omega
  · omega
/-- One number more in a slice of numbers. -/
theorem heights_loop (kL : Nat) (L : List (List UInt8)) (hL : L.length < 100000000) (hpl : ∀ y ∈ L, Plain y) : ∀ (r : List (List UInt8)) (i n : Nat) (h : Int) (out : List Int) (e : Nat → AV) (σ : Sto) (nx : Nat) (q : Option (Ex × St)),
    L.drop i = r → i ≤ L.length → r.length < n → out.length = i → -(i : Int) ≤ h → h ≤ i → roundsE (evC II EE (withOpt [] pf) MX (bodyL Tryd.f19 0)) n ⟨e, σ, nx⟩ = q →
    e 13 = .w kL 0 L.length → σ kL = some (.row 9 1 L.length (strs L)) → kL < nx → e 14 = N L.length → e 15 = N i → e 5 = N h → Lst σ nx 3 1 (e 4) i (ints out) → kL ∉ own (e 4) →
    ∃ e' σ' nx', q = some (.exit 0, ⟨e', σ', nx'⟩) ∧ Lst σ' nx' 3 1 (e' 4) L.length (ints (out ++ hsI h r)) := by
  intro r
  induction r with
  | nil =>
    intro i n h out e σ nx q hd hiL hn ho hb1 hb2 hq h13 hsL hkn h14 h15 h5 h4 hown
    have hlen : L.length ≤ i := by simpa using hd
    have hiE : i = L.length := by omega
    subst hiE
    obtain ⟨k, rfl⟩ : ∃ k, n = k + 1 := ⟨n - 1, by omega⟩
    rw [rounds_rd] at hq
    have hc : ¬ ((L.length : Int) < (L.length : Int)) := by omega
    simp only [bodyL, bodyOf, Tryd.f19, SA, loops, List.nil_append, List.append_nil, List.cons_append, List.getD_cons_zero, List.getD_cons_succ] at hq
    simp only [h14, h15, hc, IA, PA, RA0, RA1, RA2, RA3, RA4, RA5, RA6, RA7, RA8, RA9, RA10, Nat.reduceAdd, Nat.reduceMul, Nat.reduceEqDiff, Nat.reduceLeDiff, Nat.reduceLT, Int.reduceToNat, Int.reduceLT, Int.reduceLE, Int.reduceEq, Int.reduceNeg, Int.reduceAdd, Int.reduceSub, Int.reduceMul, reduceIte] at hq
    refine ⟨_, _, _, hq.symm, ?_⟩
    rw [hsI, List.append_nil]
    exact lst_mono h4 (by omega)
  | cons x r ih =>
    intro i n h out e σ nx q hd hiL hn ho hb1 hb2 hq h13 hsL hkn h14 h15 h5 h4 hown
    obtain ⟨hi, hx, hd'⟩ := strs_drop_head hd
    obtain ⟨k, rfl⟩ : ∃ k, n = k + 1 := ⟨n - 1, by omega⟩
    rw [rounds_rd] at hq
    have hc : ((i : Int) < (L.length : Int)) := by omega
    have hz : (0 : Int) ≤ (i : Int) := by omega
    have hw : IntKind.i64.wrap ((i : Int) + 1) = ((i + 1 : Nat) : Int) := by rw [wrap64 (by omega) (by omega)]; rfl
    have hhd : ((strs L).drop i).head? = some (S x) := by rw [strs_drop, hd]; rfl
    have hbe := begins_ev x
    have hen := isEnd_ev x
    simp only [bodyL, bodyOf, Tryd.f19, SA, loops, List.nil_append, List.append_nil, List.cons_append, List.getD_cons_zero, List.getD_cons_succ] at hq
    have hfin : ∀ (key : Nat) (τ : Sto) (e2 : Nat → AV) (nx2 : Nat) (q' : Option (Ex × St)), roundsE (evC II EE (withOpt [] pf) MX (bodyL Tryd.f19 0)) k ⟨e2, τ, nx2⟩ = q' → nx ≤ key → key < nx2 → (∀ j, j ≠ key → j ∉ own (e 4) → τ j = σ j) → τ key = some (.row 3 1 (i + 1) (ints out ++ [N (h + dH x)])) →
        e2 13 = .w kL 0 L.length → e2 14 = N L.length → e2 15 = N (i + 1 : Nat) → e2 5 = N (h + dH x) → e2 4 = .w key 0 (i + 1) →
        ∃ e' σ' nx', q' = some (.exit 0, ⟨e', σ', nx'⟩) ∧ Lst σ' nx' 3 1 (e' 4) L.length (ints (out ++ hsI h (x :: r))) := by
      intro key τ e2 nx2 q' hq' hk1 hk2 hτ hτk g13 g14 g15 g5 g4
      have hdl : dH x ≤ 1 := dH_le x
      have hdg : -1 ≤ dH x := by
        have := arM_bounds x
        unfold dH
        split
        · omega
        split <;> omega
      have := ih (i + 1) k (h + dH x) (out ++ [h + dH x]) e2 τ nx2 q' hd' (by omega) (by simpa using hn) (by simp [ho]) (by omega) (by omega) hq' g13 (by rw [hτ kL (by omega) hown, hsL]) (by omega) g14 g15 g5
        (by rw [g4]; exact .inr ⟨key, hk2, rfl, by rw [hτk, ← ints_append]; rfl, by rw [ints_len]; simp [ho]⟩) (by rw [g4]; simp only [own, List.mem_singleton]; omega)
      rw [hsI]
      simpa using this
    cases hb : begM x
    · obtain ⟨a, rfl⟩ := hpl x (List.mem_of_getElem? hx) hb
      rw [hb] at hbe
      have har := arity_ev a
      have hab := arM_bounds [a]
      cases he : endM [a]
      · rw [he] at hen
        have hdh : dH [a] = 1 - arM [a] := by simp [dH, hb, he]
        have hw1 : IntKind.i64.wrap (1 - arM [a]) = 1 - arM [a] := by rw [wrap64 (by omega) (by omega)]
        have hw2 : IntKind.i64.wrap (h + (1 - arM [a])) = h + dH [a] := by rw [hdh, wrap64 (by omega) (by omega)]
        simp only [h13, h14, h15, h5, hsL, hc, hz, hw, hhd, hbe, hen, har, hw1, hw2, Int.toNat_natCast, Nat.mul_one, Nat.zero_add, RR, IA, PA, RA0, RA1, RA2, RA3, RA4, RA5, RA6, RA7, RA8, RA9, RA10, Nat.reduceAdd, Nat.reduceMul, Nat.reduceEqDiff, Nat.reduceLeDiff, Nat.reduceLT, Int.reduceToNat, Int.reduceLT, Int.reduceLE, Int.reduceEq, Int.reduceNeg, Int.reduceAdd, Int.reduceSub, Int.reduceMul, reduceIte] at hq
        rw [lst_app h4 (by decide) (by rfl) (by rfl) (by decide) (by omega) (by omega) (by omega)] at hq
        generalize hτ : appSto _ _ _ _ (e 4) _ _ = τ at hq
        have t1 := (congrFun hτ _).symm.trans (appSto_key ..)
        have t2 : ∀ j, j ≠ _ → j ∉ own (e 4) → τ j = σ j := fun j h1 h2 => (congrFun hτ j).symm.trans (own_other h1 h2)
        clear hτ
        simp only [h15, hw, RR, IA, PA, RA0, RA1, RA2, RA3, RA4, RA5, RA6, RA7, RA8, RA9, RA10, Nat.reduceAdd, Nat.reduceMul, Nat.reduceEqDiff, Nat.reduceLeDiff, Nat.reduceLT, Int.reduceToNat, Int.reduceLT, Int.reduceLE, Int.reduceEq, Int.reduceNeg, Int.reduceAdd, Int.reduceSub, Int.reduceMul, reduceIte] at hq
        exact hfin _ τ _ _ q hq (by omega) (by omega) t2 t1 h13 h14 rfl rfl rfl
      · rw [he] at hen
        have hdh : dH [a] = -1 := by simp [dH, hb, he]
        have hw2 : IntKind.i64.wrap (h - 1) = h + dH [a] := by rw [hdh, wrap64 (by omega) (by omega)]; omega
        simp only [h13, h14, h15, h5, hsL, hc, hz, hw, hhd, hbe, hen, har, hw2, Int.toNat_natCast, Nat.mul_one, Nat.zero_add, RR, IA, PA, RA0, RA1, RA2, RA3, RA4, RA5, RA6, RA7, RA8, RA9, RA10, Nat.reduceAdd, Nat.reduceMul, Nat.reduceEqDiff, Nat.reduceLeDiff, Nat.reduceLT, Int.reduceToNat, Int.reduceLT, Int.reduceLE, Int.reduceEq, Int.reduceNeg, Int.reduceAdd, Int.reduceSub, Int.reduceMul, reduceIte] at hq
        rw [lst_app h4 (by decide) (by rfl) (by rfl) (by decide) (by omega) (by omega) (by omega)] at hq
        generalize hτ : appSto _ _ _ _ (e 4) _ _ = τ at hq
        have t1 := (congrFun hτ _).symm.trans (appSto_key ..)
        have t2 : ∀ j, j ≠ _ → j ∉ own (e 4) → τ j = σ j := fun j h1 h2 => (congrFun hτ j).symm.trans (own_other h1 h2)
        clear hτ
        simp only [h15, hw, RR, IA, PA, RA0, RA1, RA2, RA3, RA4, RA5, RA6, RA7, RA8, RA9, RA10, Nat.reduceAdd, Nat.reduceMul, Nat.reduceEqDiff, Nat.reduceLeDiff, Nat.reduceLT, Int.reduceToNat, Int.reduceLT, Int.reduceLE, Int.reduceEq, Int.reduceNeg, Int.reduceAdd, Int.reduceSub, Int.reduceMul, reduceIte] at hq
        exact hfin _ τ _ _ q hq (by omega) (by omega) t2 t1 h13 h14 rfl rfl rfl
    · rw [hb] at hbe
      have hdh : dH x = 0 := by simp [dH, hb]
      have hh : h + dH x = h := by omega
      simp only [h13, h14, h15, h5, hsL, hc, hz, hw, hhd, hbe, Int.toNat_natCast, Nat.mul_one, Nat.zero_add, RR, IA, PA, RA0, RA1, RA2, RA3, RA4, RA5, RA6, RA7, RA8, RA9, RA10, Nat.reduceAdd, Nat.reduceMul, Nat.reduceEqDiff, Nat.reduceLeDiff, Nat.reduceLT, Int.reduceToNat, Int.reduceLT, Int.reduceLE, Int.reduceEq, Int.reduceNeg, Int.reduceAdd, Int.reduceSub, Int.reduceMul, reduceIte] at hq
      rw [lst_app h4 (by decide) (by rfl) (by rfl) (by decide) (by omega) (by omega) (by omega)] at hq
      generalize hτ : appSto _ _ _ _ (e 4) _ _ = τ at hq
      have t1 := (congrFun hτ _).symm.trans (appSto_key ..)
      have t2 : ∀ j, j ≠ _ → j ∉ own (e 4) → τ j = σ j := fun j h1 h2 => (congrFun hτ j).symm.trans (own_other h1 h2)
      clear hτ
      simp only [h15, hw, RR, IA, PA, RA0, RA1, RA2, RA3, RA4, RA5, RA6, RA7, RA8, RA9, RA10, Nat.reduceAdd, Nat.reduceMul, Nat.reduceEqDiff, Nat.reduceLeDiff, Nat.reduceLT, Int.reduceToNat, Int.reduceLT, Int.reduceLE, Int.reduceEq, Int.reduceNeg, Int.reduceAdd, Int.reduceSub, Int.reduceMul, reduceIte] at hq
      exact hfin _ τ _ _ q hq (by omega) (by omega) t2 (by rw [hh]; exact t1) h13 h14 rfl (by rw [hh]; exact h5) rfl
theorem implHeightsOf_ev (code : List UInt8) (hl : code.length < 50000000) : EE 19 [S code] = some (match specB code with | some (_, hs, _) => .t [.o 3 1 hs.length (nats hs), B true] | none => .t [.s true 0 [], B false]) := by
  refine EE_plain T_implHeightsOf (by decide) (Nat.le_of_ble_eq_true rfl) rfl ?_
  rw [show opt 19 = [] from rfl]
  simp only [bodyOf, Tryd.f19, SA]
  have h := implCodeValid_ev code hl
  have h2 := implInstructionsOf_ev code hl
  cases hs : specB code with
  | none =>
    rw [hs] at h
    simp only [Option.isSome_none] at h
    simp only [h, RR, IA, PA, RA0, RA1, RA2, RA3, RA4, RA5, RA6, RA7, RA8, RA9, RA10, Nat.reduceAdd, Nat.reduceMul, Nat.reduceEqDiff, Nat.reduceLeDiff, Nat.reduceLT, Int.reduceToNat, Int.reduceLT, Int.reduceLE, Int.reduceEq, Int.reduceNeg, Int.reduceAdd, Int.reduceSub, Int.reduceMul, reduceIte]
  | some w =>
    obtain ⟨t, hh, lv⟩ := w
    rw [hs] at h h2
    simp only [Option.isSome_some, if_true] at h h2
    obtain ⟨_, hw, hcl, hrun, _⟩ := spec_impl hs
    obtain ⟨hl1, _⟩ := runP_lists hrun
    obtain ⟨n1, n2⟩ := runP_n hrun
    rw [← hcl] at hl1 n1
    have hcll := cutL_len 32 code
    have hpl : ∀ y ∈ cutL 32 code, Plain y := by rw [hcl]; exact list_plain t hw
    have hne : (cutL 32 code).length ≠ 0 := by obtain ⟨x, y, e⟩ := cutL_cons 32 code; rw [e]; simp
    simp only [h, h2, strs_closed, RR, IA, PA, RA0, RA1, RA2, RA3, RA4, RA5, RA6, RA7, RA8, RA9, RA10, Nat.reduceAdd, Nat.reduceMul, Nat.reduceEqDiff, Nat.reduceLeDiff, Nat.reduceLT, Int.reduceToNat, Int.reduceLT, Int.reduceLE, Int.reduceEq, Int.reduceNeg, Int.reduceAdd, Int.reduceSub, Int.reduceMul, reduceIte]
    generalize hq : roundsE _ _ _ = q
    obtain ⟨e', σ', nx', rfl, hlst⟩ := heights_loop 36 (cutL 32 code) (by omega) hpl (cutL 32 code) 0 MX 0 [] _ _ _ q rfl (Nat.zero_le _) (lt_MX (by omega)) rfl (by omega) (by omega) hq rfl rfl (by decide) rfl rfl rfl (.inl ⟨rfl, rfl, rfl⟩) (by show 36 ∉ []; simp)
    clear hq
    simp only [RR, IA, PA, RA0, RA1, RA2, RA3, RA4, RA5, RA6, RA7, RA8, RA9, RA10, Nat.reduceAdd, Nat.reduceMul, Nat.reduceEqDiff, Nat.reduceLeDiff, Nat.reduceLT, Int.reduceToNat, Int.reduceLT, Int.reduceLE, Int.reduceEq, Int.reduceNeg, Int.reduceAdd, Int.reduceSub, Int.reduceMul, reduceIte]
    have e1 : ints ([] ++ hsI 0 (cutL 32 code)) = nats hh := by
      rw [List.nil_append, show hsI 0 (cutL 32 code) = hsI (([] : List T).length : Int) (cutL 32 code) from rfl, ← hl1]
      simp [ints, nats]
    rw [e1] at hlst
    rcases hlst with ⟨_, h0, _⟩ | ⟨id, g1, g2, g3, g4⟩
    · exact absurd h0 hne
    · rw [g2, n1]
      exact give_row2 g3 (nats_closed _) rfl
end
end Go.Proofs.YtegbkihgnofkfaaDoor.Ev
