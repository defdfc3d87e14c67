/-
Texts Vn to Vx of the work, in one.
-/
import Derived.Test.YtkmnidbodlmaaaaDoorZ6
/-
Code: the implementation's InstructionsOf, HeightsOf, LevelsAt.
-/
namespace Go.Proofs.YtkmnidbodlmaaaaDoor.Ev
section
set_option linter.unusedVariables false
set_option linter.unusedSimpArgs false
open Go Go.RowKit
set_option linter.unusedVariables false
set_option linter.unusedSimpArgs false
theorem T_implInstructionsOf : TT 25 = some (Tryd.f25, bodyOf Tryd.f25) := by kernel_rfl
theorem implInstructionsOf_ev (code : List UInt8) (hl : code.length < 50000000) : EE 25 [S code] = some (if (specB code).isSome = true then .o 9 1 (cutL 32 code).length (strs (cutL 32 code)) else .s true 0 []) := by
  refine EE_plain T_implInstructionsOf (by decide) (Nat.le_of_ble_eq_true rfl) rfl ?_
  rw [show opt 25 = [] from rfl]
  simp only [bodyOf, Tryd.f25, SA]
  have h := implCodeValid_ev code hl
  have hcut := split_ev code 32 (by omega)
  cases hs : (specB code).isSome
  · rw [hs] at h
    simp only [h, RR, IA, PA, RA0, RA1, RA2, RA3, RA4, RA5, RA6, RA7, RA8, RA9, RA10, Nat.reduceAdd, Nat.reduceMul, Nat.reduceEqDiff, Nat.reduceLeDiff, Nat.reduceLT, Int.reduceToNat, Int.reduceLT, Int.reduceLE, Int.reduceEq, Int.reduceNeg, Int.reduceAdd, Int.reduceSub, Int.reduceMul, reduceIte]
  · rw [hs] at h
    simp only [h, hcut, strs_closed, RR, IA, PA, RA0, RA1, RA2, RA3, RA4, RA5, RA6, RA7, RA8, RA9, RA10, Nat.reduceAdd, Nat.reduceMul, Nat.reduceEqDiff, Nat.reduceLeDiff, Nat.reduceLT, Int.reduceToNat, Int.reduceLT, Int.reduceLE, Int.reduceEq, Int.reduceNeg, Int.reduceAdd, Int.reduceSub, Int.reduceMul, reduceIte]
    exact give_row (by simp [upd]) (strs_closed _)
/-- Pieces as HeightsOf walks them: of one byte if they begin nothing. -/
def Plain (s : List UInt8) : Prop := begM s = false → ∃ a, s = [a]
theorem list_plain : ∀ t, WF t → ∀ y ∈ listT t, Plain y := by
  intro t
  induction t with
  | dig c => intro hw y hy; simp only [listT, List.mem_singleton] at hy; subst hy; exact fun _ => ⟨c, rfl⟩
  | var c => intro hw y hy; simp only [listT, List.mem_singleton] at hy; subst hy; exact fun _ => ⟨c, rfl⟩
  | one s x ih =>
    intro hw y hy
    simp only [listT, List.mem_append, List.mem_singleton] at hy
    rcases hy with hy | rfl
    · exact ih hw.2 y hy
    · exact fun _ => ⟨s, rfl⟩
  | two s x y ihx ihy =>
    intro hw z hz
    simp only [listT, List.mem_append, List.mem_singleton] at hz
    rcases hz with (hz | hz) | rfl
    · exact ihx hw.2.1 z hz
    · exact ihy hw.2.2 z hz
    · exact fun _ => ⟨s, rfl⟩
  | loop s v x y ihx ihy =>
    intro hw z hz
    simp only [listT, List.mem_append, List.mem_singleton] at hz
    rcases hz with ((hz | rfl) | hz) | rfl
    · exact ihx hw.2.2.1 z hz
    · intro hb
      have : begM [s, v] = true := by simpa [begM] using hw.1
      rw [this] at hb; cases hb
    · exact ihy hw.2.2.2 z hz
    · exact fun _ => ⟨s + 2, rfl⟩
theorem T_implHeightsOf : TT 18 = some (Tryd.f18, bodyOf Tryd.f18) := by kernel_rfl
theorem arM_bounds (s : List UInt8) : 0 ≤ arM s ∧ arM s ≤ 2 := by
  unfold arM
  split
  · split
    · omega
    · split <;> omega
  · omega
/-- One number more in a slice of numbers. -/
theorem heights_loop (kL : Nat) (L : List (List UInt8)) (hL : L.length < 100000000) (hpl : ∀ y ∈ L, Plain y) : ∀ (r : List (List UInt8)) (i n : Nat) (h : Int) (out : List Int) (e : Nat → AV) (σ : Sto) (nx : Nat) (q : Option (Ex × St)),
    L.drop i = r → i ≤ L.length → r.length < n → out.length = i → -(i : Int) ≤ h → h ≤ i → roundsE (evC II EE (withOpt [] pf) MX (bodyL Tryd.f18 0)) n ⟨e, σ, nx⟩ = q →
    e 13 = .w kL 0 L.length → σ kL = some (.row 9 1 L.length (strs L)) → kL < nx → e 14 = N L.length → e 15 = N i → e 5 = N h → Lst σ nx 3 1 (e 4) i (ints out) → kL ∉ own (e 4) →
    ∃ e' σ' nx', q = some (.exit 0, ⟨e', σ', nx'⟩) ∧ Lst σ' nx' 3 1 (e' 4) L.length (ints (out ++ hsI h r)) := by
  intro r
  induction r with
  | nil =>
    intro i n h out e σ nx q hd hiL hn ho hb1 hb2 hq h13 hsL hkn h14 h15 h5 h4 hown
    have hlen : L.length ≤ i := by simpa using hd
    have hiE : i = L.length := by omega
    subst hiE
    obtain ⟨k, rfl⟩ : ∃ k, n = k + 1 := ⟨n - 1, by omega⟩
    rw [rounds_rd] at hq
    have hc : ¬ ((L.length : Int) < (L.length : Int)) := by omega
    simp only [bodyL, bodyOf, Tryd.f18, SA, loops, List.nil_append, List.append_nil, List.cons_append, List.getD_cons_zero, List.getD_cons_succ] at hq
    simp only [h14, h15, hc, IA, PA, RA0, RA1, RA2, RA3, RA4, RA5, RA6, RA7, RA8, RA9, RA10, Nat.reduceAdd, Nat.reduceMul, Nat.reduceEqDiff, Nat.reduceLeDiff, Nat.reduceLT, Int.reduceToNat, Int.reduceLT, Int.reduceLE, Int.reduceEq, Int.reduceNeg, Int.reduceAdd, Int.reduceSub, Int.reduceMul, reduceIte] at hq
    refine ⟨_, _, _, hq.symm, ?_⟩
    rw [hsI, List.append_nil]
    exact lst_mono h4 (by omega)
  | cons x r ih =>
    intro i n h out e σ nx q hd hiL hn ho hb1 hb2 hq h13 hsL hkn h14 h15 h5 h4 hown
    obtain ⟨hi, hx, hd'⟩ := strs_drop_head hd
    obtain ⟨k, rfl⟩ : ∃ k, n = k + 1 := ⟨n - 1, by omega⟩
    rw [rounds_rd] at hq
    have hc : ((i : Int) < (L.length : Int)) := by omega
    have hz : (0 : Int) ≤ (i : Int) := by omega
    have hw : IntKind.i64.wrap ((i : Int) + 1) = ((i + 1 : Nat) : Int) := by rw [wrap64 (by omega) (by omega)]; rfl
    have hhd : ((strs L).drop i).head? = some (S x) := by rw [strs_drop, hd]; rfl
    have hbe := begins_ev x
    have hen := isEnd_ev x
    simp only [bodyL, bodyOf, Tryd.f18, SA, loops, List.nil_append, List.append_nil, List.cons_append, List.getD_cons_zero, List.getD_cons_succ] at hq
    have hfin : ∀ (key : Nat) (τ : Sto) (e2 : Nat → AV) (nx2 : Nat) (q' : Option (Ex × St)), roundsE (evC II EE (withOpt [] pf) MX (bodyL Tryd.f18 0)) k ⟨e2, τ, nx2⟩ = q' → nx ≤ key → key < nx2 → (∀ j, j ≠ key → j ∉ own (e 4) → τ j = σ j) → τ key = some (.row 3 1 (i + 1) (ints out ++ [N (h + dH x)])) →
        e2 13 = .w kL 0 L.length → e2 14 = N L.length → e2 15 = N (i + 1 : Nat) → e2 5 = N (h + dH x) → e2 4 = .w key 0 (i + 1) →
        ∃ e' σ' nx', q' = some (.exit 0, ⟨e', σ', nx'⟩) ∧ Lst σ' nx' 3 1 (e' 4) L.length (ints (out ++ hsI h (x :: r))) := by
      intro key τ e2 nx2 q' hq' hk1 hk2 hτ hτk g13 g14 g15 g5 g4
      have hdl : dH x ≤ 1 := dH_le x
      have hdg : -1 ≤ dH x := by
        have := arM_bounds x
        unfold dH
        split
        · omega
        split <;> omega
      have := ih (i + 1) k (h + dH x) (out ++ [h + dH x]) e2 τ nx2 q' hd' (by omega) (by simpa using hn) (by simp [ho]) (by omega) (by omega) hq' g13 (by rw [hτ kL (by omega) hown, hsL]) (by omega) g14 g15 g5
        (by rw [g4]; exact .inr ⟨key, hk2, rfl, by rw [hτk, ← ints_append]; rfl, by rw [ints_len]; simp [ho]⟩) (by rw [g4]; simp only [own, List.mem_singleton]; omega)
      rw [hsI]
      simpa using this
    cases hb : begM x
    · obtain ⟨a, rfl⟩ := hpl x (List.mem_of_getElem? hx) hb
      rw [hb] at hbe
      have har := arity_ev a
      have hab := arM_bounds [a]
      cases he : endM [a]
      · rw [he] at hen
        have hdh : dH [a] = 1 - arM [a] := by simp [dH, hb, he]
        have hw1 : IntKind.i64.wrap (1 - arM [a]) = 1 - arM [a] := by rw [wrap64 (by omega) (by omega)]
        have hw2 : IntKind.i64.wrap (h + (1 - arM [a])) = h + dH [a] := by rw [hdh, wrap64 (by omega) (by omega)]
        simp only [h13, h14, h15, h5, hsL, hc, hz, hw, hhd, hbe, hen, har, hw1, hw2, Int.toNat_natCast, Nat.mul_one, Nat.zero_add, RR, IA, PA, RA0, RA1, RA2, RA3, RA4, RA5, RA6, RA7, RA8, RA9, RA10, Nat.reduceAdd, Nat.reduceMul, Nat.reduceEqDiff, Nat.reduceLeDiff, Nat.reduceLT, Int.reduceToNat, Int.reduceLT, Int.reduceLE, Int.reduceEq, Int.reduceNeg, Int.reduceAdd, Int.reduceSub, Int.reduceMul, reduceIte] at hq
        rw [lst_app h4 (by decide) (by rfl) (by rfl) (by decide) (by omega) (by omega) (by omega)] at hq
        generalize hτ : appSto _ _ _ _ (e 4) _ _ = τ at hq
        have t1 := (congrFun hτ _).symm.trans (appSto_key ..)
        have t2 : ∀ j, j ≠ _ → j ∉ own (e 4) → τ j = σ j := fun j h1 h2 => (congrFun hτ j).symm.trans (own_other h1 h2)
        clear hτ
        simp only [h15, hw, RR, IA, PA, RA0, RA1, RA2, RA3, RA4, RA5, RA6, RA7, RA8, RA9, RA10, Nat.reduceAdd, Nat.reduceMul, Nat.reduceEqDiff, Nat.reduceLeDiff, Nat.reduceLT, Int.reduceToNat, Int.reduceLT, Int.reduceLE, Int.reduceEq, Int.reduceNeg, Int.reduceAdd, Int.reduceSub, Int.reduceMul, reduceIte] at hq
        exact hfin _ τ _ _ q hq (by omega) (by omega) t2 t1 h13 h14 rfl rfl rfl
      · rw [he] at hen
        have hdh : dH [a] = -1 := by simp [dH, hb, he]
        have hw2 : IntKind.i64.wrap (h - 1) = h + dH [a] := by rw [hdh, wrap64 (by omega) (by omega)]; omega
        simp only [h13, h14, h15, h5, hsL, hc, hz, hw, hhd, hbe, hen, har, hw2, Int.toNat_natCast, Nat.mul_one, Nat.zero_add, RR, IA, PA, RA0, RA1, RA2, RA3, RA4, RA5, RA6, RA7, RA8, RA9, RA10, Nat.reduceAdd, Nat.reduceMul, Nat.reduceEqDiff, Nat.reduceLeDiff, Nat.reduceLT, Int.reduceToNat, Int.reduceLT, Int.reduceLE, Int.reduceEq, Int.reduceNeg, Int.reduceAdd, Int.reduceSub, Int.reduceMul, reduceIte] at hq
        rw [lst_app h4 (by decide) (by rfl) (by rfl) (by decide) (by omega) (by omega) (by omega)] at hq
        generalize hτ : appSto _ _ _ _ (e 4) _ _ = τ at hq
        have t1 := (congrFun hτ _).symm.trans (appSto_key ..)
        have t2 : ∀ j, j ≠ _ → j ∉ own (e 4) → τ j = σ j := fun j h1 h2 => (congrFun hτ j).symm.trans (own_other h1 h2)
        clear hτ
        simp only [h15, hw, RR, IA, PA, RA0, RA1, RA2, RA3, RA4, RA5, RA6, RA7, RA8, RA9, RA10, Nat.reduceAdd, Nat.reduceMul, Nat.reduceEqDiff, Nat.reduceLeDiff, Nat.reduceLT, Int.reduceToNat, Int.reduceLT, Int.reduceLE, Int.reduceEq, Int.reduceNeg, Int.reduceAdd, Int.reduceSub, Int.reduceMul, reduceIte] at hq
        exact hfin _ τ _ _ q hq (by omega) (by omega) t2 t1 h13 h14 rfl rfl rfl
    · rw [hb] at hbe
      have hdh : dH x = 0 := by simp [dH, hb]
      have hh : h + dH x = h := by omega
      simp only [h13, h14, h15, h5, hsL, hc, hz, hw, hhd, hbe, Int.toNat_natCast, Nat.mul_one, Nat.zero_add, RR, IA, PA, RA0, RA1, RA2, RA3, RA4, RA5, RA6, RA7, RA8, RA9, RA10, Nat.reduceAdd, Nat.reduceMul, Nat.reduceEqDiff, Nat.reduceLeDiff, Nat.reduceLT, Int.reduceToNat, Int.reduceLT, Int.reduceLE, Int.reduceEq, Int.reduceNeg, Int.reduceAdd, Int.reduceSub, Int.reduceMul, reduceIte] at hq
      rw [lst_app h4 (by decide) (by rfl) (by rfl) (by decide) (by omega) (by omega) (by omega)] at hq
      generalize hτ : appSto _ _ _ _ (e 4) _ _ = τ at hq
      have t1 := (congrFun hτ _).symm.trans (appSto_key ..)
      have t2 : ∀ j, j ≠ _ → j ∉ own (e 4) → τ j = σ j := fun j h1 h2 => (congrFun hτ j).symm.trans (own_other h1 h2)
      clear hτ
      simp only [h15, hw, RR, IA, PA, RA0, RA1, RA2, RA3, RA4, RA5, RA6, RA7, RA8, RA9, RA10, Nat.reduceAdd, Nat.reduceMul, Nat.reduceEqDiff, Nat.reduceLeDiff, Nat.reduceLT, Int.reduceToNat, Int.reduceLT, Int.reduceLE, Int.reduceEq, Int.reduceNeg, Int.reduceAdd, Int.reduceSub, Int.reduceMul, reduceIte] at hq
      exact hfin _ τ _ _ q hq (by omega) (by omega) t2 (by rw [hh]; exact t1) h13 h14 rfl (by rw [hh]; exact h5) rfl
theorem implHeightsOf_ev (code : List UInt8) (hl : code.length < 50000000) : EE 18 [S code] = some (match specB code with | some (_, hs, _) => .t [.o 3 1 hs.length (nats hs), B true] | none => .t [.s true 0 [], B false]) := by
  refine EE_plain T_implHeightsOf (by decide) (Nat.le_of_ble_eq_true rfl) rfl ?_
  rw [show opt 18 = [] from rfl]
  simp only [bodyOf, Tryd.f18, SA]
  have h := implCodeValid_ev code hl
  have h2 := implInstructionsOf_ev code hl
  cases hs : specB code with
  | none =>
    rw [hs] at h
    simp only [Option.isSome_none] at h
    simp only [h, RR, IA, PA, RA0, RA1, RA2, RA3, RA4, RA5, RA6, RA7, RA8, RA9, RA10, Nat.reduceAdd, Nat.reduceMul, Nat.reduceEqDiff, Nat.reduceLeDiff, Nat.reduceLT, Int.reduceToNat, Int.reduceLT, Int.reduceLE, Int.reduceEq, Int.reduceNeg, Int.reduceAdd, Int.reduceSub, Int.reduceMul, reduceIte]
  | some w =>
    obtain ⟨t, hh, lv⟩ := w
    rw [hs] at h h2
    simp only [Option.isSome_some, if_true] at h h2
    obtain ⟨_, hw, hcl, hrun, _⟩ := spec_impl hs
    obtain ⟨hl1, _⟩ := runP_lists hrun
    obtain ⟨n1, n2⟩ := runP_n hrun
    rw [← hcl] at hl1 n1
    have hcll := cutL_len 32 code
    have hpl : ∀ y ∈ cutL 32 code, Plain y := by rw [hcl]; exact list_plain t hw
    have hne : (cutL 32 code).length ≠ 0 := by obtain ⟨x, y, e⟩ := cutL_cons 32 code; rw [e]; simp
    simp only [h, h2, strs_closed, RR, IA, PA, RA0, RA1, RA2, RA3, RA4, RA5, RA6, RA7, RA8, RA9, RA10, Nat.reduceAdd, Nat.reduceMul, Nat.reduceEqDiff, Nat.reduceLeDiff, Nat.reduceLT, Int.reduceToNat, Int.reduceLT, Int.reduceLE, Int.reduceEq, Int.reduceNeg, Int.reduceAdd, Int.reduceSub, Int.reduceMul, reduceIte]
    generalize hq : roundsE _ _ _ = q
    obtain ⟨e', σ', nx', rfl, hlst⟩ := heights_loop 36 (cutL 32 code) (by omega) hpl (cutL 32 code) 0 MX 0 [] _ _ _ q rfl (Nat.zero_le _) (lt_MX (by omega)) rfl (by omega) (by omega) hq rfl rfl (by decide) rfl rfl rfl (.inl ⟨rfl, rfl, rfl⟩) (by show 36 ∉ []; simp)
    clear hq
    simp only [RR, IA, PA, RA0, RA1, RA2, RA3, RA4, RA5, RA6, RA7, RA8, RA9, RA10, Nat.reduceAdd, Nat.reduceMul, Nat.reduceEqDiff, Nat.reduceLeDiff, Nat.reduceLT, Int.reduceToNat, Int.reduceLT, Int.reduceLE, Int.reduceEq, Int.reduceNeg, Int.reduceAdd, Int.reduceSub, Int.reduceMul, reduceIte]
    have e1 : ints ([] ++ hsI 0 (cutL 32 code)) = nats hh := by
      rw [List.nil_append, show hsI 0 (cutL 32 code) = hsI (([] : List T).length : Int) (cutL 32 code) from rfl, ← hl1]
      simp [ints, nats]
    rw [e1] at hlst
    rcases hlst with ⟨_, h0, _⟩ | ⟨id, g1, g2, g3, g4⟩
    · exact absurd h0 hne
    · rw [g2, n1]
      exact give_row2 g3 (nats_closed _) rfl
end
end Go.Proofs.YtkmnidbodlmaaaaDoor.Ev

/-
Code: the implementation's LevelsAt.
-/
namespace Go.Proofs.YtkmnidbodlmaaaaDoor.Ev
section
set_option linter.unusedVariables false
set_option linter.unusedSimpArgs false
open Go Go.RowKit
set_option linter.unusedVariables false
set_option linter.unusedSimpArgs false
theorem T_levelsOf : TT 52 = some (Tryd.f52, bodyOf Tryd.f52) := by kernel_rfl
theorem dL_ge (x : List UInt8) : -1 ≤ dL x := by
  unfold dL
  split
  · omega
  split <;> omega
theorem levels_loop (ex : Bool) (L : List (List UInt8)) (hL : L.length < 100000000) : ∀ (r : List (List UInt8)) (i n : Nat) (v : Int) (out : List Int) (e : Nat → AV) (σ : Sto) (nx : Nat) (q : Option (Ex × St)),
    L.drop i = r → i ≤ L.length → r.length < n → out.length = i → -(i : Int) ≤ v → v ≤ i → roundsE (evC II EE (withOpt [] pf) MX (bodyL Tryd.f52 0)) n ⟨e, σ, nx⟩ = q →
    e 8 = .s ex L.length (strs L) → e 9 = N L.length → e 10 = N i → e 4 = N v → Lst σ nx 3 1 (e 3) i (ints out) →
    ∃ e' σ' nx', q = some (.exit 0, ⟨e', σ', nx'⟩) ∧ Lst σ' nx' 3 1 (e' 3) L.length (ints (out ++ lsI v r)) := by
  intro r
  induction r with
  | nil =>
    intro i n v out e σ nx q hd hiL hn ho hb1 hb2 hq h8 h9 h10 h4 h3
    have hlen : L.length ≤ i := by simpa using hd
    have hiE : i = L.length := by omega
    subst hiE
    obtain ⟨k, rfl⟩ : ∃ k, n = k + 1 := ⟨n - 1, by omega⟩
    rw [rounds_rd] at hq
    have hc : ¬ ((L.length : Int) < (L.length : Int)) := by omega
    simp only [bodyL, bodyOf, Tryd.f52, SA, loops, List.nil_append, List.append_nil, List.cons_append, List.getD_cons_zero, List.getD_cons_succ] at hq
    simp only [h9, h10, hc, IA, PA, RA0, RA1, RA2, RA3, RA4, RA5, RA6, RA7, RA8, RA9, RA10, Nat.reduceAdd, Nat.reduceMul, Nat.reduceEqDiff, Nat.reduceLeDiff, Nat.reduceLT, Int.reduceToNat, Int.reduceLT, Int.reduceLE, Int.reduceEq, Int.reduceNeg, Int.reduceAdd, Int.reduceSub, Int.reduceMul, reduceIte] at hq
    refine ⟨_, _, _, hq.symm, ?_⟩
    rw [lsI, List.append_nil]
    exact lst_mono h3 (by omega)
  | cons x r ih =>
    intro i n v out e σ nx q hd hiL hn ho hb1 hb2 hq h8 h9 h10 h4 h3
    obtain ⟨hi, hx, hd'⟩ := strs_drop_head hd
    obtain ⟨k, rfl⟩ : ∃ k, n = k + 1 := ⟨n - 1, by omega⟩
    rw [rounds_rd] at hq
    have hc : ((i : Int) < (L.length : Int)) := by omega
    have hz : (0 : Int) ≤ (i : Int) := by omega
    have hw : IntKind.i64.wrap ((i : Int) + 1) = ((i + 1 : Nat) : Int) := by rw [wrap64 (by omega) (by omega)]; rfl
    have hhd : ((strs L).drop i).head? = some (S x) := by rw [strs_drop, hd]; rfl
    have hbe := begins_ev x
    have hen := isEnd_ev x
    have hdl := dL_le x
    have hdg := dL_ge x
    simp only [bodyL, bodyOf, Tryd.f52, SA, loops, List.nil_append, List.append_nil, List.cons_append, List.getD_cons_zero, List.getD_cons_succ] at hq
    have hfin : ∀ (key : Nat) (τ : Sto) (e2 : Nat → AV) (nx2 : Nat) (q' : Option (Ex × St)) (z : Int), roundsE (evC II EE (withOpt [] pf) MX (bodyL Tryd.f52 0)) k ⟨e2, τ, nx2⟩ = q' → key < nx2 → z = (if endM x = true then v - 1 else v) → τ key = some (.row 3 1 (i + 1) (ints out ++ [N z])) →
        e2 8 = .s ex L.length (strs L) → e2 9 = N L.length → e2 10 = N (i + 1 : Nat) → e2 4 = N (v + dL x) → e2 3 = .w key 0 (i + 1) →
        ∃ e' σ' nx', q' = some (.exit 0, ⟨e', σ', nx'⟩) ∧ Lst σ' nx' 3 1 (e' 3) L.length (ints (out ++ lsI v (x :: r))) := by
      intro key τ e2 nx2 q' z hq' hk2 hzz hτk g8 g9 g10 g4 g3
      have := ih (i + 1) k (v + dL x) (out ++ [z]) e2 τ nx2 q' hd' (by omega) (by simpa using hn) (by simp [ho]) (by omega) (by omega) hq' g8 g9 g10 g4
        (by rw [g3]; exact .inr ⟨key, hk2, rfl, by rw [hτk, ← ints_append]; rfl, by rw [ints_len]; simp [ho]⟩)
      rw [lsI, ← hzz]
      simpa using this
    cases he : endM x
    · rw [he] at hen
      cases hb : begM x
      · rw [hb] at hbe
        have hdh : dL x = 0 := by simp [dL, hb, he]
        simp only [h8, h9, h10, h4, hc, hz, hw, hhd, hbe, hen, Int.toNat_natCast, Nat.mul_one, Nat.zero_add, RR, IA, PA, RA0, RA1, RA2, RA3, RA4, RA5, RA6, RA7, RA8, RA9, RA10, Nat.reduceAdd, Nat.reduceMul, Nat.reduceEqDiff, Nat.reduceLeDiff, Nat.reduceLT, Int.reduceToNat, Int.reduceLT, Int.reduceLE, Int.reduceEq, Int.reduceNeg, Int.reduceAdd, Int.reduceSub, Int.reduceMul, reduceIte] at hq
        rw [lst_app h3 (by decide) (by rfl) (by rfl) (by decide) (by omega) (by omega) (by omega)] at hq
        generalize hτ : appSto _ _ _ _ (e 3) _ _ = τ at hq
        have t1 := (congrFun hτ _).symm.trans (appSto_key ..)
        clear hτ
        simp only [h10, hw, hbe, RR, IA, PA, RA0, RA1, RA2, RA3, RA4, RA5, RA6, RA7, RA8, RA9, RA10, Nat.reduceAdd, Nat.reduceMul, Nat.reduceEqDiff, Nat.reduceLeDiff, Nat.reduceLT, Int.reduceToNat, Int.reduceLT, Int.reduceLE, Int.reduceEq, Int.reduceNeg, Int.reduceAdd, Int.reduceSub, Int.reduceMul, reduceIte] at hq
        exact hfin _ τ _ _ q v hq (by omega) (by rw [he]; rfl) t1 h8 h9 rfl (by rw [hdh, Int.add_zero]; exact h4) rfl
      · rw [hb] at hbe
        have hdh : dL x = 1 := by simp [dL, hb]
        have hw2 : IntKind.i64.wrap (v + 1) = v + dL x := by rw [hdh, wrap64 (by omega) (by omega)]
        simp only [h8, h9, h10, h4, hc, hz, hw, hhd, hbe, hen, Int.toNat_natCast, Nat.mul_one, Nat.zero_add, RR, IA, PA, RA0, RA1, RA2, RA3, RA4, RA5, RA6, RA7, RA8, RA9, RA10, Nat.reduceAdd, Nat.reduceMul, Nat.reduceEqDiff, Nat.reduceLeDiff, Nat.reduceLT, Int.reduceToNat, Int.reduceLT, Int.reduceLE, Int.reduceEq, Int.reduceNeg, Int.reduceAdd, Int.reduceSub, Int.reduceMul, reduceIte] at hq
        rw [lst_app h3 (by decide) (by rfl) (by rfl) (by decide) (by omega) (by omega) (by omega)] at hq
        generalize hτ : appSto _ _ _ _ (e 3) _ _ = τ at hq
        have t1 := (congrFun hτ _).symm.trans (appSto_key ..)
        clear hτ
        simp only [h10, h4, hw, hw2, hbe, RR, IA, PA, RA0, RA1, RA2, RA3, RA4, RA5, RA6, RA7, RA8, RA9, RA10, Nat.reduceAdd, Nat.reduceMul, Nat.reduceEqDiff, Nat.reduceLeDiff, Nat.reduceLT, Int.reduceToNat, Int.reduceLT, Int.reduceLE, Int.reduceEq, Int.reduceNeg, Int.reduceAdd, Int.reduceSub, Int.reduceMul, reduceIte] at hq
        exact hfin _ τ _ _ q v hq (by omega) (by rw [he]; rfl) t1 h8 h9 rfl rfl rfl
    · rw [he] at hen
      have hb : begM x = false := by
        cases hb : begM x
        · rfl
        · rw [beg_end hb] at he; cases he
      rw [hb] at hbe
      have hdh : dL x = -1 := by simp [dL, hb, he]
      have hw2 : IntKind.i64.wrap (v - 1) = v + dL x := by rw [hdh, wrap64 (by omega) (by omega)]; omega
      simp only [h8, h9, h10, h4, hc, hz, hw, hw2, hhd, hbe, hen, Int.toNat_natCast, Nat.mul_one, Nat.zero_add, RR, IA, PA, RA0, RA1, RA2, RA3, RA4, RA5, RA6, RA7, RA8, RA9, RA10, Nat.reduceAdd, Nat.reduceMul, Nat.reduceEqDiff, Nat.reduceLeDiff, Nat.reduceLT, Int.reduceToNat, Int.reduceLT, Int.reduceLE, Int.reduceEq, Int.reduceNeg, Int.reduceAdd, Int.reduceSub, Int.reduceMul, reduceIte] at hq
      rw [lst_app h3 (by decide) (by rfl) (by rfl) (by decide) (by omega) (by omega) (by omega)] at hq
      generalize hτ : appSto _ _ _ _ (e 3) _ _ = τ at hq
      have t1 := (congrFun hτ _).symm.trans (appSto_key ..)
      clear hτ
      simp only [h10, hw, hbe, RR, IA, PA, RA0, RA1, RA2, RA3, RA4, RA5, RA6, RA7, RA8, RA9, RA10, Nat.reduceAdd, Nat.reduceMul, Nat.reduceEqDiff, Nat.reduceLeDiff, Nat.reduceLT, Int.reduceToNat, Int.reduceLT, Int.reduceLE, Int.reduceEq, Int.reduceNeg, Int.reduceAdd, Int.reduceSub, Int.reduceMul, reduceIte] at hq
      exact hfin _ τ _ _ q (v + dL x) hq (by omega) (by rw [he, hdh]; rfl) t1 h8 h9 rfl rfl rfl
theorem levelsOf_ev (ex : Bool) (L : List (List UInt8)) (hL : L.length < 100000000) (hne : L.length ≠ 0) : EE 52 [.s ex L.length (strs L)] = some (.o 3 1 L.length (ints (lsI 0 L))) := by
  refine EE_plain T_levelsOf (by decide) (Nat.le_of_ble_eq_true rfl) (by simp only [closedL, closed, strs_closed, Bool.and_self]) ?_
  rw [show opt 52 = [] from rfl]
  simp only [bodyOf, Tryd.f52, SA]
  simp only [RR, IA, PA, RA0, RA1, RA2, RA3, RA4, RA5, RA6, RA7, RA8, RA9, RA10, Nat.reduceAdd, Nat.reduceMul, Nat.reduceEqDiff, Nat.reduceLeDiff, Nat.reduceLT, Int.reduceToNat, Int.reduceLT, Int.reduceLE, Int.reduceEq, Int.reduceNeg, Int.reduceAdd, Int.reduceSub, Int.reduceMul, reduceIte]
  generalize hq : roundsE _ _ _ = q
  obtain ⟨e', σ', nx', rfl, hlst⟩ := levels_loop ex L hL L 0 MX 0 [] _ _ _ q rfl (Nat.zero_le _) (lt_MX (by omega)) rfl (by omega) (by omega) hq rfl rfl rfl rfl (.inl ⟨rfl, rfl, rfl⟩)
  simp only [RR, IA, PA, RA0, RA1, RA2, RA3, RA4, RA5, RA6, RA7, RA8, RA9, RA10, Nat.reduceAdd, Nat.reduceMul, Nat.reduceEqDiff, Nat.reduceLeDiff, Nat.reduceLT, Int.reduceToNat, Int.reduceLT, Int.reduceLE, Int.reduceEq, Int.reduceNeg, Int.reduceAdd, Int.reduceSub, Int.reduceMul, reduceIte]
  rw [List.nil_append] at hlst
  rcases hlst with ⟨_, h0, _⟩ | ⟨id, g1, g2, g3, g4⟩
  · exact absurd h0 hne
  · rw [g2]
    exact give_row g3 (ints_closed _)
theorem ints_flat {E n : Nat} (l : List Int) : flat (.o E 1 n (ints l)) = true := by
  show (ints l).all plain = true
  induction l with
  | nil => rfl
  | cons x l ih => simp [ints, plain]
/-- A call that is given a row and gives a row. -/
theorem call0_wo {pf' : FuncId → Nat} {σ : Sto} {key : Nat} {f : FuncId} {id n E sz E' sz' m : Nat} {cs ds : List AV} (hσ : σ id = some (.row E sz n cs)) (hp : pf' f = 0) (hl : cs.length = n * sz) (hc : closedL cs = true) (hd : closedL ds = true) (hf : flat (.o E' sz' m ds) = true) (hr : EE f [.s false n cs] = some (.o E' sz' m ds)) :
    callOp EE pf' σ key f [.w id 0 n] = some (.w key 0 m, upd σ key (some (.row E' sz' m ds))) := by
  unfold callOp
  rw [if_neg (by omega), if_neg (by omega)]
  have h1 : deep σ 8 (.w id 0 n) = some (.s false n cs, [id]) := by
    rw [deep_w 7 hσ (by omega) hc, List.drop_zero, List.take_of_length_le (by omega)]
  have h2 : deepC (deep σ 8) [.w id 0 n] = some ([.s false n cs], [id]) := by
    simp only [deepC, h1, Option.bind_some, Option.map_some, List.append_nil]
  rw [h2]
  simp only [Option.bind_some, hr]
  rw [if_pos (.inr hf)]
  exact adopt_o hd
theorem T_implLevelsAt : TT 23 = some (Tryd.f23, bodyOf Tryd.f23) := by kernel_rfl
theorem implLevelsAt_ev (code : List UInt8) (hl : code.length < 50000000) : EE 23 [S code] = some (match specB code with | some (_, _, ls) => .t [.o 3 1 ls.length (nats ls), B true] | none => .t [.s true 0 [], B false]) := by
  refine EE_plain T_implLevelsAt (by decide) (Nat.le_of_ble_eq_true rfl) rfl ?_
  rw [show opt 23 = [] from rfl]
  simp only [bodyOf, Tryd.f23, SA]
  have h := implCodeValid_ev code hl
  have h2 := implInstructionsOf_ev code hl
  cases hs : specB code with
  | none =>
    rw [hs] at h
    simp only [Option.isSome_none] at h
    simp only [h, RR, IA, PA, RA0, RA1, RA2, RA3, RA4, RA5, RA6, RA7, RA8, RA9, RA10, Nat.reduceAdd, Nat.reduceMul, Nat.reduceEqDiff, Nat.reduceLeDiff, Nat.reduceLT, Int.reduceToNat, Int.reduceLT, Int.reduceLE, Int.reduceEq, Int.reduceNeg, Int.reduceAdd, Int.reduceSub, Int.reduceMul, reduceIte]
  | some w =>
    obtain ⟨t, hh, lv⟩ := w
    rw [hs] at h h2
    simp only [Option.isSome_some, if_true] at h h2
    obtain ⟨_, hw, hcl, hrun, _⟩ := spec_impl hs
    obtain ⟨_, hl1⟩ := runP_lists hrun
    obtain ⟨n1, n2⟩ := runP_n hrun
    rw [← hcl] at hl1 n2
    have hcll := cutL_len 32 code
    have hne : (cutL 32 code).length ≠ 0 := by obtain ⟨x, y, e⟩ := cutL_cons 32 code; rw [e]; simp
    have hlo := levelsOf_ev false (cutL 32 code) (by omega) hne
    have e1 : ints (lsI 0 (cutL 32 code)) = nats lv := by
      rw [show lsI 0 (cutL 32 code) = lsI (([] : List (UInt8 × UInt8 × Nat)).length : Int) (cutL 32 code) from rfl, ← hl1]
      simp [ints, nats]
    simp only [h, h2, strs_closed, RR, IA, PA, RA0, RA1, RA2, RA3, RA4, RA5, RA6, RA7, RA8, RA9, RA10, Nat.reduceAdd, Nat.reduceMul, Nat.reduceEqDiff, Nat.reduceLeDiff, Nat.reduceLT, Int.reduceToNat, Int.reduceLT, Int.reduceLE, Int.reduceEq, Int.reduceNeg, Int.reduceAdd, Int.reduceSub, Int.reduceMul, reduceIte]
    rw [call0_wo (E := 9) (sz := 1) (by simp only [upd, if_true]) (by rfl) (by rw [strs_len, Nat.mul_one]) (strs_closed _) (ints_closed _) (ints_flat _) hlo]
    simp only [RR, IA, PA, RA0, RA1, RA2, RA3, RA4, RA5, RA6, RA7, RA8, RA9, RA10, Nat.reduceAdd, Nat.reduceMul, Nat.reduceEqDiff, Nat.reduceLeDiff, Nat.reduceLT, Int.reduceToNat, Int.reduceLT, Int.reduceLE, Int.reduceEq, Int.reduceNeg, Int.reduceAdd, Int.reduceSub, Int.reduceMul, reduceIte]
    rw [e1, n2]
    exact give_row2 (by simp [upd]) (nats_closed _) rfl
end
end Go.Proofs.YtkmnidbodlmaaaaDoor.Ev

/-
Code: the laws of HeightsOf and LevelsAt.
-/
namespace Go.Proofs.YtkmnidbodlmaaaaDoor.Ev
section
set_option linter.unusedVariables false
set_option linter.unusedSimpArgs false
open Go Go.RowKit
set_option linter.unusedVariables false
set_option linter.unusedSimpArgs false
section
variable {I : Tab} {C : Sem1} {pf : FuncId → Nat} {m : Nat} {e : Nat → AV} {σ : Sto} {key : Nat}
theorem evM_goes {fn : Func} {c : Code} {xs : List AV} (hN : xs.length ≤ fn.ntmps) (hx : xs.all goes = true) :
    evM I C pf m fn c xs = (evC I C pf m c ⟨fun t => xs.getD t (.v undef), fun _ => none, 0⟩).bind (outK I fn.results.toList xs) := by
  unfold evM
  simp only [inits_goes hx]
  rw [if_pos ⟨hN, trivial⟩]
  congr 1
  funext ⟨x, s⟩
  cases x <;> rfl
theorem out_goes_one {rs : List ResultVar} {xs : List AV} {s : St} {x : AV} (h1 : evRes I s rs = some [x]) (h2 : goes x = true) (hx : xs.all goes = true) :
    outK I rs xs (.ret, s) = some (.t [x, .t xs]) := by
  have h3 : giveL s.σ [x] = some ([x], [], []) := giveL_closed (by simp only [closedL, goes_closed h2, Bool.and_self])
  simp only [outK, h1, Option.bind_some, h3, packOL_goes hx]
  rw [if_pos ⟨by simp, by simp⟩]
  cases x
  case t => simp [goes] at h2
  all_goals rfl
theorem call_goes {f : FuncId} {xs : List AV} {x : Value} (hp : pf f = 2) (hx : xs.all goes = true) (hr : C f xs = some (.t [.v x, .t xs])) : callOp C pf σ key f xs = some (.v x, σ) := by
  rw [call2_eq hp]
  have h1 : needs σ xs = [] := needs_goes hx
  rw [h1]
  simp only [frz0, packL_goes hx, Option.bind_some, lend1]
  rw [if_pos (by simp), hr]
  have h3 : killL σ [] = σ := by
    funext i
    simp [killL]
  simp only [Option.bind_some, lend2, h1, frz0, h3, back_goes hx]
  rw [if_pos (by simp [room])]
  rfl
end
theorem EE_goes {f : FuncId} {fn : Func} {xs : List AV} {r : AV} (hT : TT f = some (fn, bodyOf fn)) (hp : pf f = 2) (hN : xs.length ≤ fn.ntmps) (hx : xs.all goes = true)
    (h : (evC II EE (withOpt (opt f) pf) MX (strip (bodyOf fn)) ⟨fun t => xs.getD t (.v undef), fun _ => none, 0⟩).bind (outK II fn.results.toList xs) = some r) : EE f xs = some r :=
  EE_lent hT hp (by rw [evM_goes hN hx, ← evC_strip]; exact h)
theorem markIntS_nil : EE 20 [.s true 0 [], N 1] = some (.t [N 1, .t [.s true 0 [], N 1]]) := by
  refine EE_goes T_markIntS rfl (Nat.le_of_ble_eq_true rfl) rfl ?_
  rw [show opt 20 = [] from rfl]
  simp only [bodyOf, Tryd.f20, SA]
  simp only [RR, IA, PA, RA0, RA1, RA2, RA3, RA4, RA5, RA6, RA7, RA8, RA9, RA10, Nat.reduceAdd, Nat.reduceMul, Nat.reduceEqDiff, Nat.reduceLeDiff, Nat.reduceLT, Int.reduceToNat, Int.reduceLT, Int.reduceLE, Int.reduceEq, Int.reduceNeg, Int.reduceAdd, Int.reduceSub, Int.reduceMul, reduceIte]
  generalize hq : roundsE _ _ _ = q
  obtain ⟨k, hk⟩ : ∃ k, MX = k + 1 := ⟨MX - 1, rfl⟩
  rw [hk, rounds_rd] at hq
  simp only [RR, IA, PA, RA0, RA1, RA2, RA3, RA4, RA5, RA6, RA7, RA8, RA9, RA10, Nat.reduceAdd, Nat.reduceMul, Nat.reduceEqDiff, Nat.reduceLeDiff, Nat.reduceLT, Int.reduceToNat, Int.reduceLT, Int.reduceLE, Int.reduceEq, Int.reduceNeg, Int.reduceAdd, Int.reduceSub, Int.reduceMul, reduceIte] at hq
  subst hq
  simp only [RR, IA, PA, RA0, RA1, RA2, RA3, RA4, RA5, RA6, RA7, RA8, RA9, RA10, Nat.reduceAdd, Nat.reduceMul, Nat.reduceEqDiff, Nat.reduceLeDiff, Nat.reduceLT, Int.reduceToNat, Int.reduceLT, Int.reduceLE, Int.reduceEq, Int.reduceNeg, Int.reduceAdd, Int.reduceSub, Int.reduceMul, reduceIte]
  exact out_goes_one (x := N 1) (by simp only [IA, PA, RA0, RA1, RA2, RA3, RA4, RA5, RA6, RA7, RA8, RA9, RA10, Nat.reduceAdd, Nat.reduceMul, Nat.reduceEqDiff, Nat.reduceLeDiff, Nat.reduceLT, Int.reduceToNat, Int.reduceLT, Int.reduceLE, Int.reduceEq, Int.reduceNeg, Int.reduceAdd, Int.reduceSub, Int.reduceMul, reduceIte]) rfl rfl
theorem adopt_ob2 (σ : Sto) (key : Nat) {E sz n : Nat} {cs : List AV} (b : Bool) (h : closedL cs = true) : adopt σ key (.t [.o E sz n cs, B b]) = some (.t [.w key 0 n, B b], upd σ key (some (.row E sz n cs))) := adopt_t2 _ _ (adopt1_o h) rfl
theorem adopt_sn (σ : Sto) (key : Nat) (b : Bool) : adopt σ key (.t [.s true 0 [], B b]) = some (.t [.s true 0 [], B b], σ) := adopt_two rfl rfl
theorem T_lawHeightsOf : TT 5 = some (Tryd.f5, bodyOf Tryd.f5) := by kernel_rfl
theorem heightsOf_law (code : List UInt8) : EE 5 [S code] = some (B true) := by
  refine EE_plain T_lawHeightsOf (by decide) (Nat.le_of_ble_eq_true rfl) rfl ?_
  rw [show opt 5 = [] from rfl]
  simp only [bodyOf, Tryd.f5, SA]
  by_cases hbig : (1048576 : Int) < (code.length : Int)
  · simp only [hbig, RR, IA, PA, RA0, RA1, RA2, RA3, RA4, RA5, RA6, RA7, RA8, RA9, RA10, Nat.reduceAdd, Nat.reduceMul, Nat.reduceEqDiff, Nat.reduceLeDiff, Nat.reduceLT, Int.reduceToNat, Int.reduceLT, Int.reduceLE, Int.reduceEq, Int.reduceNeg, Int.reduceAdd, Int.reduceSub, Int.reduceMul, reduceIte]
  · have hl : code.length < 50000000 := by omega
    have h := implHeightsOf_ev code hl
    have k := specHeightsOf_ev code hl
    cases hs : specB code with
    | none =>
      rw [hs] at h k
      simp only at h k
      have he := eqIntS_ev true true [] (by decide)
      have hh := heldIntS_ev true 0 (by decide)
      have he0 : EE 19 [.s true 0 [], .s true 0 []] = some (B true) := he
      have hh0 : EE 21 [.s true 0 [], N 1] = some (N 1) := hh
      simp only [hbig, h, k, adopt_sn, he0, hh0, TMA, RR, IA, PA, RA0, RA1, RA2, RA3, RA4, RA5, RA6, RA7, RA8, RA9, RA10, Nat.reduceAdd, Nat.reduceMul, Nat.reduceEqDiff, Nat.reduceLeDiff, Nat.reduceLT, Int.reduceToNat, Int.reduceLT, Int.reduceLE, Int.reduceEq, Int.reduceNeg, Int.reduceAdd, Int.reduceSub, Int.reduceMul, reduceIte]
      rw [call_goes (by rfl) (by rfl) markIntS_nil]
      simp only [hbig, h, k, adopt_sn, he0, hh0, TMA, RR, IA, PA, RA0, RA1, RA2, RA3, RA4, RA5, RA6, RA7, RA8, RA9, RA10, Nat.reduceAdd, Nat.reduceMul, Nat.reduceEqDiff, Nat.reduceLeDiff, Nat.reduceLT, Int.reduceToNat, Int.reduceLT, Int.reduceLE, Int.reduceEq, Int.reduceNeg, Int.reduceAdd, Int.reduceSub, Int.reduceMul, reduceIte]
    | some w =>
      obtain ⟨t, hs0, ls0⟩ := w
      rw [hs] at h k
      simp only at h k
      obtain ⟨_, hw, hcl, hrun, _⟩ := spec_impl hs
      obtain ⟨n1, n2⟩ := runP_n hrun
      have hcll := cutL_len 32 code
      rw [hcl, ← n1] at hcll
      obtain ⟨L, hLe, hLl⟩ : ∃ L : List Int, nats hs0 = ints L ∧ L.length = hs0.length := ⟨hs0.map Int.ofNat, by simp [nats, ints], by simp⟩
      rw [hLe, ← hLl] at h k
      have he := eqIntS_ev false false L (by omega)
      have hm := markIntS_ev L (by omega)
      have hh := heldIntS_ev false L.length (by omega)
      simp only [hbig, h, k, adopt_ob2 _ _ _ (ints_closed L), TMA, RR, IA, PA, RA0, RA1, RA2, RA3, RA4, RA5, RA6, RA7, RA8, RA9, RA10, Nat.reduceAdd, Nat.reduceMul, Nat.reduceEqDiff, Nat.reduceLeDiff, Nat.reduceLT, Int.reduceToNat, Int.reduceLT, Int.reduceLE, Int.reduceEq, Int.reduceNeg, Int.reduceAdd, Int.reduceSub, Int.reduceMul, reduceIte]
      have hn0 : ¬ (1 + (L.length : Int) < 0) := by omega
      have hee : decide (1 + (L.length : Int) = 1 + (L.length : Int)) = true := by simp
      have hlen : (ints L).length = L.length * 1 := by rw [ints_len, Nat.mul_one]
      have hlen2 : (ints (markL 1 L.length)).length = L.length * 1 := by rw [ints_len, markL_len, Nat.mul_one]
      rw [call0_ww (E := 3) (sz := 1) (E' := 3) (sz' := 1) (cs := ints L) (ds := ints L) (by rfl) (by rfl) (by rfl) hlen hlen (ints_closed _) (ints_closed _) rfl he]
      simp only [RR, IA, PA, RA0, RA1, RA2, RA3, RA4, RA5, RA6, RA7, RA8, RA9, RA10, Nat.reduceAdd, Nat.reduceMul, Nat.reduceEqDiff, Nat.reduceLeDiff, Nat.reduceLT, Int.reduceToNat, Int.reduceLT, Int.reduceLE, Int.reduceEq, Int.reduceNeg, Int.reduceAdd, Int.reduceSub, Int.reduceMul, reduceIte]
      rw [call_row_v (E := 3) (sz := 1) (cs := ints L) (cs' := ints (markL 1 L.length)) (by rfl) (by rfl) (ints_closed _) (by rfl) (by exact hm)]
      simp only [RR, IA, PA, RA0, RA1, RA2, RA3, RA4, RA5, RA6, RA7, RA8, RA9, RA10, Nat.reduceAdd, Nat.reduceMul, Nat.reduceEqDiff, Nat.reduceLeDiff, Nat.reduceLT, Int.reduceToNat, Int.reduceLT, Int.reduceLE, Int.reduceEq, Int.reduceNeg, Int.reduceAdd, Int.reduceSub, Int.reduceMul, reduceIte]
      rw [call0_w (E := 3) (sz := 1) (cs := ints (markL 1 L.length)) (by rfl) (by rfl) hlen2 (ints_closed _) (by rfl) (by exact hh)]
      simp only [hn0, hee, h, adopt_ob2 _ _ _ (ints_closed L), TMA, RR, IA, PA, RA0, RA1, RA2, RA3, RA4, RA5, RA6, RA7, RA8, RA9, RA10, Nat.reduceAdd, Nat.reduceMul, Nat.reduceEqDiff, Nat.reduceLeDiff, Nat.reduceLT, Int.reduceToNat, Int.reduceLT, Int.reduceLE, Int.reduceEq, Int.reduceNeg, Int.reduceAdd, Int.reduceSub, Int.reduceMul, reduceIte]
      rw [call0_ww (E := 3) (sz := 1) (E' := 3) (sz' := 1) (cs := ints L) (ds := ints L) (by rfl) (by rfl) (by rfl) hlen hlen (ints_closed _) (ints_closed _) rfl he]
      simp only [RR, IA, PA, RA0, RA1, RA2, RA3, RA4, RA5, RA6, RA7, RA8, RA9, RA10, Nat.reduceAdd, Nat.reduceMul, Nat.reduceEqDiff, Nat.reduceLeDiff, Nat.reduceLT, Int.reduceToNat, Int.reduceLT, Int.reduceLE, Int.reduceEq, Int.reduceNeg, Int.reduceAdd, Int.reduceSub, Int.reduceMul, reduceIte]
      rw [call0_w (E := 3) (sz := 1) (cs := ints (markL 1 L.length)) (by rfl) (by rfl) hlen2 (ints_closed _) (by rfl) (by exact hh)]
      simp only [hn0, hee, TMA, RR, IA, PA, RA0, RA1, RA2, RA3, RA4, RA5, RA6, RA7, RA8, RA9, RA10, Nat.reduceAdd, Nat.reduceMul, Nat.reduceEqDiff, Nat.reduceLeDiff, Nat.reduceLT, Int.reduceToNat, Int.reduceLT, Int.reduceLE, Int.reduceEq, Int.reduceNeg, Int.reduceAdd, Int.reduceSub, Int.reduceMul, reduceIte]
theorem T_lawLevelsAt : TT 6 = some (Tryd.f6, bodyOf Tryd.f6) := by kernel_rfl
theorem levelsAt_law (code : List UInt8) : EE 6 [S code] = some (B true) := by
  refine EE_plain T_lawLevelsAt (by decide) (Nat.le_of_ble_eq_true rfl) rfl ?_
  rw [show opt 6 = [] from rfl]
  simp only [bodyOf, Tryd.f6, SA]
  by_cases hbig : (1048576 : Int) < (code.length : Int)
  · simp only [hbig, RR, IA, PA, RA0, RA1, RA2, RA3, RA4, RA5, RA6, RA7, RA8, RA9, RA10, Nat.reduceAdd, Nat.reduceMul, Nat.reduceEqDiff, Nat.reduceLeDiff, Nat.reduceLT, Int.reduceToNat, Int.reduceLT, Int.reduceLE, Int.reduceEq, Int.reduceNeg, Int.reduceAdd, Int.reduceSub, Int.reduceMul, reduceIte]
  · have hl : code.length < 50000000 := by omega
    have h := implLevelsAt_ev code hl
    have k := specLevelsAt_ev code hl
    cases hs : specB code with
    | none =>
      rw [hs] at h k
      simp only at h k
      have he := eqIntS_ev true true [] (by decide)
      have hh := heldIntS_ev true 0 (by decide)
      have he0 : EE 19 [.s true 0 [], .s true 0 []] = some (B true) := he
      have hh0 : EE 21 [.s true 0 [], N 1] = some (N 1) := hh
      simp only [hbig, h, k, adopt_sn, he0, hh0, TMA, RR, IA, PA, RA0, RA1, RA2, RA3, RA4, RA5, RA6, RA7, RA8, RA9, RA10, Nat.reduceAdd, Nat.reduceMul, Nat.reduceEqDiff, Nat.reduceLeDiff, Nat.reduceLT, Int.reduceToNat, Int.reduceLT, Int.reduceLE, Int.reduceEq, Int.reduceNeg, Int.reduceAdd, Int.reduceSub, Int.reduceMul, reduceIte]
      rw [call_goes (by rfl) (by rfl) markIntS_nil]
      simp only [hbig, h, k, adopt_sn, he0, hh0, TMA, RR, IA, PA, RA0, RA1, RA2, RA3, RA4, RA5, RA6, RA7, RA8, RA9, RA10, Nat.reduceAdd, Nat.reduceMul, Nat.reduceEqDiff, Nat.reduceLeDiff, Nat.reduceLT, Int.reduceToNat, Int.reduceLT, Int.reduceLE, Int.reduceEq, Int.reduceNeg, Int.reduceAdd, Int.reduceSub, Int.reduceMul, reduceIte]
    | some w =>
      obtain ⟨t, hs0, ls0⟩ := w
      rw [hs] at h k
      simp only at h k
      obtain ⟨_, hw, hcl, hrun, _⟩ := spec_impl hs
      obtain ⟨n1, n2⟩ := runP_n hrun
      have hcll := cutL_len 32 code
      rw [hcl, ← n2] at hcll
      obtain ⟨L, hLe, hLl⟩ : ∃ L : List Int, nats ls0 = ints L ∧ L.length = ls0.length := ⟨ls0.map Int.ofNat, by simp [nats, ints], by simp⟩
      rw [hLe, ← hLl] at h k
      have he := eqIntS_ev false false L (by omega)
      have hm := markIntS_ev L (by omega)
      have hh := heldIntS_ev false L.length (by omega)
      simp only [hbig, h, k, adopt_ob2 _ _ _ (ints_closed L), TMA, RR, IA, PA, RA0, RA1, RA2, RA3, RA4, RA5, RA6, RA7, RA8, RA9, RA10, Nat.reduceAdd, Nat.reduceMul, Nat.reduceEqDiff, Nat.reduceLeDiff, Nat.reduceLT, Int.reduceToNat, Int.reduceLT, Int.reduceLE, Int.reduceEq, Int.reduceNeg, Int.reduceAdd, Int.reduceSub, Int.reduceMul, reduceIte]
      have hn0 : ¬ (1 + (L.length : Int) < 0) := by omega
      have hee : decide (1 + (L.length : Int) = 1 + (L.length : Int)) = true := by simp
      have hlen : (ints L).length = L.length * 1 := by rw [ints_len, Nat.mul_one]
      have hlen2 : (ints (markL 1 L.length)).length = L.length * 1 := by rw [ints_len, markL_len, Nat.mul_one]
      rw [call0_ww (E := 3) (sz := 1) (E' := 3) (sz' := 1) (cs := ints L) (ds := ints L) (by rfl) (by rfl) (by rfl) hlen hlen (ints_closed _) (ints_closed _) rfl he]
      simp only [RR, IA, PA, RA0, RA1, RA2, RA3, RA4, RA5, RA6, RA7, RA8, RA9, RA10, Nat.reduceAdd, Nat.reduceMul, Nat.reduceEqDiff, Nat.reduceLeDiff, Nat.reduceLT, Int.reduceToNat, Int.reduceLT, Int.reduceLE, Int.reduceEq, Int.reduceNeg, Int.reduceAdd, Int.reduceSub, Int.reduceMul, reduceIte]
      rw [call_row_v (E := 3) (sz := 1) (cs := ints L) (cs' := ints (markL 1 L.length)) (by rfl) (by rfl) (ints_closed _) (by rfl) (by exact hm)]
      simp only [RR, IA, PA, RA0, RA1, RA2, RA3, RA4, RA5, RA6, RA7, RA8, RA9, RA10, Nat.reduceAdd, Nat.reduceMul, Nat.reduceEqDiff, Nat.reduceLeDiff, Nat.reduceLT, Int.reduceToNat, Int.reduceLT, Int.reduceLE, Int.reduceEq, Int.reduceNeg, Int.reduceAdd, Int.reduceSub, Int.reduceMul, reduceIte]
      rw [call0_w (E := 3) (sz := 1) (cs := ints (markL 1 L.length)) (by rfl) (by rfl) hlen2 (ints_closed _) (by rfl) (by exact hh)]
      simp only [hn0, hee, h, adopt_ob2 _ _ _ (ints_closed L), TMA, RR, IA, PA, RA0, RA1, RA2, RA3, RA4, RA5, RA6, RA7, RA8, RA9, RA10, Nat.reduceAdd, Nat.reduceMul, Nat.reduceEqDiff, Nat.reduceLeDiff, Nat.reduceLT, Int.reduceToNat, Int.reduceLT, Int.reduceLE, Int.reduceEq, Int.reduceNeg, Int.reduceAdd, Int.reduceSub, Int.reduceMul, reduceIte]
      rw [call0_ww (E := 3) (sz := 1) (E' := 3) (sz' := 1) (cs := ints L) (ds := ints L) (by rfl) (by rfl) (by rfl) hlen hlen (ints_closed _) (ints_closed _) rfl he]
      simp only [RR, IA, PA, RA0, RA1, RA2, RA3, RA4, RA5, RA6, RA7, RA8, RA9, RA10, Nat.reduceAdd, Nat.reduceMul, Nat.reduceEqDiff, Nat.reduceLeDiff, Nat.reduceLT, Int.reduceToNat, Int.reduceLT, Int.reduceLE, Int.reduceEq, Int.reduceNeg, Int.reduceAdd, Int.reduceSub, Int.reduceMul, reduceIte]
      rw [call0_w (E := 3) (sz := 1) (cs := ints (markL 1 L.length)) (by rfl) (by rfl) hlen2 (ints_closed _) (by rfl) (by exact hh)]
      simp only [hn0, hee, TMA, RR, IA, PA, RA0, RA1, RA2, RA3, RA4, RA5, RA6, RA7, RA8, RA9, RA10, Nat.reduceAdd, Nat.reduceMul, Nat.reduceEqDiff, Nat.reduceLeDiff, Nat.reduceLT, Int.reduceToNat, Int.reduceLT, Int.reduceLE, Int.reduceEq, Int.reduceNeg, Int.reduceAdd, Int.reduceSub, Int.reduceMul, reduceIte]
end
end Go.Proofs.YtkmnidbodlmaaaaDoor.Ev

/-
Laws: marks in a slice of texts.
-/
namespace Go.Proofs.YtkmnidbodlmaaaaDoor.Ev
section
set_option linter.unusedVariables false
set_option linter.unusedSimpArgs false
open Go Go.RowKit
set_option linter.unusedVariables false
set_option linter.unusedSimpArgs false
/-- A number's digits ahead of a text. -/
def digM : Nat → Nat → List UInt8 → List UInt8
  | 0, _, acc => acc
  | f + 1, k, acc => if k = 0 then acc else digM f (k / 10) (UInt8.ofNat (48 + k % 10) :: acc)
theorem digM_len : ∀ (f k : Nat) (acc : List UInt8), acc.length ≤ (digM f k acc).length ∧ (digM f k acc).length ≤ acc.length + f
  | 0, k, acc => by simp [digM]
  | f + 1, k, acc => by
    rw [digM]
    split
    · omega
    · have := digM_len f (k / 10) (UInt8.ofNat (48 + k % 10) :: acc)
      simp only [List.length_cons] at this
      omega
theorem T_markText : TT 54 = some (Tryd.f54, bodyOf Tryd.f54) := by kernel_rfl
theorem markText_loop : ∀ (f k n : Nat) (acc : List UInt8) (e : Nat → AV) (σ : Sto) (nx : Nat) (q : Option (Ex × St)),
    k ≤ f → k < n → f < 1000000000 → acc.length + f < 1000000000 → roundsE (evC II EE (withOpt [] pf) MX (bodyL Tryd.f54 0)) n ⟨e, σ, nx⟩ = q → e 0 = N k → e 3 = S acc →
    ∃ e' nx', q = some (.exit 0, ⟨e', σ, nx'⟩) ∧ e' 3 = S (digM f k acc) := by
  intro f
  induction f with
  | zero =>
    intro k n acc e σ nx q hkf hn hf hb hq h0 h3
    obtain ⟨n, rfl⟩ : ∃ m, n = m + 1 := ⟨n - 1, by omega⟩
    rw [rounds_rd] at hq
    have hk0 : k = 0 := by omega
    subst hk0
    have hc : ¬ ((0 : Int) < ((0 : Nat) : Int)) := by omega
    simp only [bodyL, bodyOf, Tryd.f54, SA, loops, List.nil_append, List.append_nil, List.cons_append, List.getD_cons_zero, List.getD_cons_succ] at hq
    simp only [h0, hc, IA, PA, RA0, RA1, RA2, RA3, RA4, RA5, RA6, RA7, RA8, RA9, RA10, Nat.reduceAdd, Nat.reduceMul, Nat.reduceEqDiff, Nat.reduceLeDiff, Nat.reduceLT, Int.reduceToNat, Int.reduceLT, Int.reduceLE, Int.reduceEq, Int.reduceNeg, Int.reduceAdd, Int.reduceSub, Int.reduceMul, reduceIte] at hq
    exact ⟨_, _, hq.symm, h3⟩
  | succ f ih =>
    intro k n acc e σ nx q hkf hn hf hb hq h0 h3
    obtain ⟨n, rfl⟩ : ∃ m, n = m + 1 := ⟨n - 1, by omega⟩
    rw [rounds_rd] at hq
    simp only [bodyL, bodyOf, Tryd.f54, SA, loops, List.nil_append, List.append_nil, List.cons_append, List.getD_cons_zero, List.getD_cons_succ] at hq
    by_cases hk0 : k = 0
    · have hc : ¬ ((0 : Int) < (k : Int)) := by omega
      simp only [h0, hc, IA, PA, RA0, RA1, RA2, RA3, RA4, RA5, RA6, RA7, RA8, RA9, RA10, Nat.reduceAdd, Nat.reduceMul, Nat.reduceEqDiff, Nat.reduceLeDiff, Nat.reduceLT, Int.reduceToNat, Int.reduceLT, Int.reduceLE, Int.reduceEq, Int.reduceNeg, Int.reduceAdd, Int.reduceSub, Int.reduceMul, reduceIte] at hq
      exact ⟨_, _, hq.symm, by rw [digM, if_pos hk0]; exact h3⟩
    · have hc : ((0 : Int) < (k : Int)) := by omega
      have hr : Int.tmod (k : Int) 10 = ((k % 10 : Nat) : Int) := by rw [Int.tmod_eq_emod_of_nonneg (by omega)]; rfl
      have hd : Int.tdiv (k : Int) 10 = ((k / 10 : Nat) : Int) := by rw [Int.tdiv_eq_ediv_of_nonneg (by omega)]; rfl
      have hw1 : IntKind.i64.wrap ((k % 10 : Nat) : Int) = ((k % 10 : Nat) : Int) := by rw [wrap64 (by omega) (by omega)]
      have hw2 : IntKind.i64.wrap (48 + ((k % 10 : Nat) : Int)) = ((48 + k % 10 : Nat) : Int) := by rw [wrap64 (by omega) (by omega)]; omega
      have hw3 : IntKind.u8.wrap ((48 + k % 10 : Nat) : Int) = ((48 + k % 10 : Nat) : Int) := by rw [wrap8 (by omega) (by omega)]
      have hw4 : IntKind.i64.wrap ((k / 10 : Nat) : Int) = ((k / 10 : Nat) : Int) := by rw [wrap64 (by omega) (by omega)]
      have hby : bytesOf [.v (.int .u8 ((48 + k % 10 : Nat) : Int))] = some [UInt8.ofNat (48 + k % 10)] := bytesOf_int (by omega) (by omega)
      simp only [h0, h3, hc, hr, hd, hw1, hw2, hw3, hw4, hby, str_addIf, List.length_cons, List.length_nil, RR, IA, PA, RA0, RA1, RA2, RA3, RA4, RA5, RA6, RA7, RA8, RA9, RA10, Nat.reduceAdd, Nat.reduceMul, Nat.reduceEqDiff, Nat.reduceLeDiff, Nat.reduceLT, Int.reduceToNat, Int.reduceLT, Int.reduceLE, Int.reduceEq, Int.reduceNeg, Int.reduceAdd, Int.reduceSub, Int.reduceMul, reduceIte] at hq
      rw [if_pos (by omega)] at hq
      obtain ⟨e', nx', h1, h2⟩ := ih (k / 10) n _ _ σ _ q (by omega) (by omega) (by omega) (by simp only [List.length_cons]; omega) hq rfl rfl
      exact ⟨e', nx', h1, by rw [digM, if_neg hk0]; exact h2⟩
def markT (k : Nat) : List UInt8 := 109 :: digM k k []
theorem markText_ev (k : Nat) (h1 : 0 < k) (h2 : k < 100000000) : EE 54 [N k] = some (S (markT k)) := by
  refine EE_plain T_markText (by decide) (Nat.le_of_ble_eq_true rfl) rfl ?_
  rw [show opt 54 = [] from rfl]
  simp only [bodyOf, Tryd.f54, SA]
  have hc : ¬ ((k : Int) ≤ 0) := by omega
  simp only [hc, RR, IA, PA, RA0, RA1, RA2, RA3, RA4, RA5, RA6, RA7, RA8, RA9, RA10, Nat.reduceAdd, Nat.reduceMul, Nat.reduceEqDiff, Nat.reduceLeDiff, Nat.reduceLT, Int.reduceToNat, Int.reduceLT, Int.reduceLE, Int.reduceEq, Int.reduceNeg, Int.reduceAdd, Int.reduceSub, Int.reduceMul, reduceIte]
  generalize hq : roundsE _ _ _ = q
  obtain ⟨e', nx', rfl, h3⟩ := markText_loop k k MX [] _ _ _ q (Nat.le_refl _) (lt_MX (by omega)) (by omega) (by simp; omega) hq rfl rfl
  have hl := (digM_len k k []).2
  simp only [List.length_nil, Nat.zero_add] at hl
  simp only [h3, str_addIf, List.length_cons, List.length_nil, RR, IA, PA, RA0, RA1, RA2, RA3, RA4, RA5, RA6, RA7, RA8, RA9, RA10, Nat.reduceAdd, Nat.reduceMul, Nat.reduceEqDiff, Nat.reduceLeDiff, Nat.reduceLT, Int.reduceToNat, Int.reduceLT, Int.reduceLE, Int.reduceEq, Int.reduceNeg, Int.reduceAdd, Int.reduceSub, Int.reduceMul, reduceIte]
  rw [if_pos (by omega)]
  rfl
def tmk (n : Nat) : List (List UInt8) := (List.range n).map fun i => markT (1 + i)
theorem tmk_len (n : Nat) : (tmk n).length = n := by simp [tmk]
theorem tmk_snoc (n : Nat) : tmk (n + 1) = tmk n ++ [markT (1 + n)] := by simp [tmk, List.range_succ]
theorem tmk_head {i n : Nat} (h : i < n) : ((tmk n).drop i).head? = some (markT (1 + i)) := by
  rw [List.head?_drop]
  simp [tmk, h]
theorem T_markStringS : TT 27 = some (Tryd.f27, bodyOf Tryd.f27) := by kernel_rfl
theorem markStringS_loop (L : List (List UInt8)) (hL : L.length < 10000000) : ∀ (d i n : Nat) (e : Nat → AV) (σ : Sto) (nx : Nat) (q : Option (Ex × St)),
    i + d = L.length → d < n → roundsE (evC II EE (withOpt [] pf) MX (bodyL Tryd.f27 0)) n ⟨e, σ, nx⟩ = q → e 0 = .w 0 0 L.length → e 1 = N (1 + i) → e 5 = N i → 0 < nx →
    σ 0 = some (.row 9 1 L.length (strs (tmk i ++ L.drop i))) →
    ∃ e' σ' nx', q = some (.exit 0, ⟨e', σ', nx'⟩) ∧ e' 1 = N (1 + L.length) ∧ σ' 0 = some (.row 9 1 L.length (strs (tmk L.length))) := by
  intro d
  induction d with
  | zero =>
    intro i n e σ nx q hd hn hq h0 h1 h5 hnx hσ
    obtain ⟨k, rfl⟩ : ∃ k, n = k + 1 := ⟨n - 1, by omega⟩
    rw [rounds_rd] at hq
    have hc : ¬ ((i : Int) < (L.length : Int)) := by omega
    simp only [bodyL, bodyOf, Tryd.f27, SA, loops, List.nil_append, List.append_nil, List.cons_append, List.getD_cons_zero, List.getD_cons_succ] at hq
    simp only [h0, h1, h5, hc, IA, PA, RA0, RA1, RA2, RA3, RA4, RA5, RA6, RA7, RA8, RA9, RA10, Nat.reduceAdd, Nat.reduceMul, Nat.reduceEqDiff, Nat.reduceLeDiff, Nat.reduceLT, Int.reduceToNat, Int.reduceLT, Int.reduceLE, Int.reduceEq, Int.reduceNeg, Int.reduceAdd, Int.reduceSub, Int.reduceMul, reduceIte] at hq
    have hi : i = L.length := by omega
    refine ⟨_, _, _, hq.symm, ?_, ?_⟩
    · rw [← hi]; exact h1
    · rw [hσ, hi, List.drop_length, List.append_nil]
  | succ d ih =>
    intro i n e σ nx q hd hn hq h0 h1 h5 hnx hσ
    obtain ⟨k, rfl⟩ : ∃ k, n = k + 1 := ⟨n - 1, by omega⟩
    rw [rounds_rd] at hq
    have hc : ((i : Int) < (L.length : Int)) := by omega
    have hz : (0 : Int) ≤ (i : Int) := by omega
    have hw : IntKind.i64.wrap ((i : Int) + 1) = ((i + 1 : Nat) : Int) := by rw [wrap64 (by omega) (by omega)]; rfl
    have hw1 : IntKind.i64.wrap (1 + (i : Int) + 1) = 1 + ((i + 1 : Nat) : Int) := by rw [wrap64 (by omega) (by omega)]; omega
    have hmt : EE 54 [N (1 + (i : Int))] = some (S (markT (1 + i))) := by
      have := markText_ev (1 + i) (by omega) (by omega)
      rwa [show ((1 + i : Nat) : Int) = 1 + (i : Int) by omega] at this
    obtain ⟨z, r, hdr⟩ : ∃ z r, L.drop i = z :: r := by
      cases h : L.drop i with
      | nil => have := congrArg List.length h; simp at this; omega
      | cons z r => exact ⟨z, r, rfl⟩
    have hdr' : L.drop (i + 1) = r := by
      have : (L.drop i).drop 1 = r := by rw [hdr]; rfl
      simpa [List.drop_drop] using this
    have hset : setRange (strs (tmk i ++ L.drop i)) i [S (markT (1 + i))] = some (strs (tmk (i + 1) ++ L.drop (i + 1))) := by
      rw [hdr, hdr', tmk_snoc, ← strs_append, strs_cons, set_at (by rw [strs_len, tmk_len])]
      simp [strs]
    simp only [bodyL, bodyOf, Tryd.f27, SA, loops, List.nil_append, List.append_nil, List.cons_append, List.getD_cons_zero, List.getD_cons_succ] at hq
    rw [setRange_eq] at hset
    simp only [h0, h1, h5, hc, hz, hw, hw1, hmt, hσ, Int.toNat_natCast, Nat.mul_one, Nat.zero_add, RR, IA, PA, RA0, RA1, RA2, RA3, RA4, RA5, RA6, RA7, RA8, RA9, RA10, Nat.reduceAdd, Nat.reduceMul, Nat.reduceEqDiff, Nat.reduceLeDiff, Nat.reduceLT, Int.reduceToNat, Int.reduceLT, Int.reduceLE, Int.reduceEq, Int.reduceNeg, Int.reduceAdd, Int.reduceSub, Int.reduceMul, reduceIte] at hq
    rw [if_pos (by rw [List.length_append, tmk_len, List.length_drop]; omega)] at hq
    rw [List.length_cons, List.length_nil, if_pos (by rw [strs_len, List.length_append, tmk_len, List.length_drop]; omega)] at hset
    have hset2 := Option.some.inj hset
    exact ih (i + 1) k _ _ _ q (by omega) (by omega) hq h0 rfl rfl (by omega) (by simp only [upd, if_true]; exact congrArg (fun z => some (Slot.row 9 1 L.length z)) hset2)
theorem markStringS_ev (L : List (List UInt8)) (hL : L.length < 10000000) : EE 27 [lentR L.length 9 1 (strs L), N 1] = some (.t [N (1 + L.length), .t [lentR L.length 9 1 (strs (tmk L.length)), N 1]]) := by
  refine EE_lendR T_markStringS rfl (Nat.le_of_ble_eq_true rfl) rfl ?_
  rw [show opt 27 = [] from rfl]
  simp only [bodyOf, Tryd.f27, SA]
  simp only [RR, IA, PA, RA0, RA1, RA2, RA3, RA4, RA5, RA6, RA7, RA8, RA9, RA10, Nat.reduceAdd, Nat.reduceMul, Nat.reduceEqDiff, Nat.reduceLeDiff, Nat.reduceLT, Int.reduceToNat, Int.reduceLT, Int.reduceLE, Int.reduceEq, Int.reduceNeg, Int.reduceAdd, Int.reduceSub, Int.reduceMul, reduceIte]
  generalize hq : roundsE _ _ _ = q
  obtain ⟨e', σ', nx', rfl, h1, hσ⟩ := markStringS_loop L hL L.length 0 MX _ _ _ q (by omega) (lt_MX (by omega)) hq rfl rfl rfl (by omega) (by simp only [upd, if_true]; rfl)
  simp only [h1, RR, IA, PA, RA0, RA1, RA2, RA3, RA4, RA5, RA6, RA7, RA8, RA9, RA10, Nat.reduceAdd, Nat.reduceMul, Nat.reduceEqDiff, Nat.reduceLeDiff, Nat.reduceLT, Int.reduceToNat, Int.reduceLT, Int.reduceLE, Int.reduceEq, Int.reduceNeg, Int.reduceAdd, Int.reduceSub, Int.reduceMul, reduceIte]
  exact out_row_one (x := N (1 + L.length)) (by simp only [IA, PA, RA0, RA1, RA2, RA3, RA4, RA5, RA6, RA7, RA8, RA9, RA10, Nat.reduceAdd, Nat.reduceMul, Nat.reduceEqDiff, Nat.reduceLeDiff, Nat.reduceLT, Int.reduceToNat, Int.reduceLT, Int.reduceLE, Int.reduceEq, Int.reduceNeg, Int.reduceAdd, Int.reduceSub, Int.reduceMul, reduceIte]) rfl hσ (strs_closed _) rfl
theorem markStringS_nil : EE 27 [.s true 0 [], N 1] = some (.t [N 1, .t [.s true 0 [], N 1]]) := by
  refine EE_goes T_markStringS rfl (Nat.le_of_ble_eq_true rfl) rfl ?_
  rw [show opt 27 = [] from rfl]
  simp only [bodyOf, Tryd.f27, SA]
  simp only [RR, IA, PA, RA0, RA1, RA2, RA3, RA4, RA5, RA6, RA7, RA8, RA9, RA10, Nat.reduceAdd, Nat.reduceMul, Nat.reduceEqDiff, Nat.reduceLeDiff, Nat.reduceLT, Int.reduceToNat, Int.reduceLT, Int.reduceLE, Int.reduceEq, Int.reduceNeg, Int.reduceAdd, Int.reduceSub, Int.reduceMul, reduceIte]
  generalize hq : roundsE _ _ _ = q
  obtain ⟨k, hk⟩ : ∃ k, MX = k + 1 := ⟨MX - 1, rfl⟩
  rw [hk, rounds_rd] at hq
  simp only [RR, IA, PA, RA0, RA1, RA2, RA3, RA4, RA5, RA6, RA7, RA8, RA9, RA10, Nat.reduceAdd, Nat.reduceMul, Nat.reduceEqDiff, Nat.reduceLeDiff, Nat.reduceLT, Int.reduceToNat, Int.reduceLT, Int.reduceLE, Int.reduceEq, Int.reduceNeg, Int.reduceAdd, Int.reduceSub, Int.reduceMul, reduceIte] at hq
  subst hq
  simp only [RR, IA, PA, RA0, RA1, RA2, RA3, RA4, RA5, RA6, RA7, RA8, RA9, RA10, Nat.reduceAdd, Nat.reduceMul, Nat.reduceEqDiff, Nat.reduceLeDiff, Nat.reduceLT, Int.reduceToNat, Int.reduceLT, Int.reduceLE, Int.reduceEq, Int.reduceNeg, Int.reduceAdd, Int.reduceSub, Int.reduceMul, reduceIte]
  exact out_goes_one (x := N 1) (by simp only [IA, PA, RA0, RA1, RA2, RA3, RA4, RA5, RA6, RA7, RA8, RA9, RA10, Nat.reduceAdd, Nat.reduceMul, Nat.reduceEqDiff, Nat.reduceLeDiff, Nat.reduceLT, Int.reduceToNat, Int.reduceLT, Int.reduceLE, Int.reduceEq, Int.reduceNeg, Int.reduceAdd, Int.reduceSub, Int.reduceMul, reduceIte]) rfl rfl
theorem T_heldStringS : TT 28 = some (Tryd.f28, bodyOf Tryd.f28) := by kernel_rfl
theorem heldStringS_loop (x : Bool) (n0 : Nat) (hL : n0 < 10000000) : ∀ (d i n : Nat) (e : Nat → AV) (σ : Sto) (nx : Nat) (q : Option (Ex × St)),
    i + d = n0 → d < n → roundsE (evC II EE (withOpt [] pf) MX (bodyL Tryd.f28 0)) n ⟨e, σ, nx⟩ = q → e 0 = .s x n0 (strs (tmk n0)) → e 1 = N (1 + i) → e 5 = N i →
    ∃ e' nx', q = some (.exit 0, ⟨e', σ, nx'⟩) ∧ e' 1 = N (1 + n0) := by
  intro d
  induction d with
  | zero =>
    intro i n e σ nx q hd hn hq h0 h1 h5
    obtain ⟨k, rfl⟩ : ∃ k, n = k + 1 := ⟨n - 1, by omega⟩
    rw [rounds_rd] at hq
    have hc : ¬ ((i : Int) < (n0 : Int)) := by omega
    simp only [bodyL, bodyOf, Tryd.f28, SA, loops, List.nil_append, List.append_nil, List.cons_append, List.getD_cons_zero, List.getD_cons_succ] at hq
    simp only [h0, h1, h5, hc, IA, PA, RA0, RA1, RA2, RA3, RA4, RA5, RA6, RA7, RA8, RA9, RA10, Nat.reduceAdd, Nat.reduceMul, Nat.reduceEqDiff, Nat.reduceLeDiff, Nat.reduceLT, Int.reduceToNat, Int.reduceLT, Int.reduceLE, Int.reduceEq, Int.reduceNeg, Int.reduceAdd, Int.reduceSub, Int.reduceMul, reduceIte] at hq
    have hi : i = n0 := by omega
    exact ⟨_, _, hq.symm, by rw [← hi]; exact h1⟩
  | succ d ih =>
    intro i n e σ nx q hd hn hq h0 h1 h5
    obtain ⟨k, rfl⟩ : ∃ k, n = k + 1 := ⟨n - 1, by omega⟩
    rw [rounds_rd] at hq
    have hc : ((i : Int) < (n0 : Int)) := by omega
    have hz : (0 : Int) ≤ (i : Int) := by omega
    have hw : IntKind.i64.wrap ((i : Int) + 1) = ((i + 1 : Nat) : Int) := by rw [wrap64 (by omega) (by omega)]; rfl
    have hw1 : IntKind.i64.wrap (1 + (i : Int) + 1) = 1 + ((i + 1 : Nat) : Int) := by rw [wrap64 (by omega) (by omega)]; omega
    have hmt : EE 54 [N (1 + (i : Int))] = some (S (markT (1 + i))) := by
      have := markText_ev (1 + i) (by omega) (by omega)
      rwa [show ((1 + i : Nat) : Int) = 1 + (i : Int) by omega] at this
    have hhd : ((strs (tmk n0)).drop i).head? = some (S (markT (1 + i))) := by rw [strs_drop, strs_head, tmk_head (by omega)]; rfl
    have hee : (markT (1 + i) == markT (1 + i)) = true := by simp
    simp only [bodyL, bodyOf, Tryd.f28, SA, loops, List.nil_append, List.append_nil, List.cons_append, List.getD_cons_zero, List.getD_cons_succ] at hq
    simp only [h0, h1, h5, hc, hz, hw, hw1, hmt, hhd, hee, tmk_len, Int.toNat_natCast, Nat.mul_one, Nat.zero_add, RR, IA, PA, RA0, RA1, RA2, RA3, RA4, RA5, RA6, RA7, RA8, RA9, RA10, Nat.reduceAdd, Nat.reduceMul, Nat.reduceEqDiff, Nat.reduceLeDiff, Nat.reduceLT, Int.reduceToNat, Int.reduceLT, Int.reduceLE, Int.reduceEq, Int.reduceNeg, Int.reduceAdd, Int.reduceSub, Int.reduceMul, reduceIte] at hq
    exact ih (i + 1) k _ σ _ q (by omega) (by omega) hq h0 rfl rfl
theorem heldStringS_ev (x : Bool) (n0 : Nat) (hL : n0 < 10000000) : EE 28 [.s x n0 (strs (tmk n0)), N 1] = some (N (1 + n0)) := by
  refine EE_plain T_heldStringS (by decide) (Nat.le_of_ble_eq_true rfl) (by simp only [closedL, closed, strs_closed, Bool.and_self]) ?_
  rw [show opt 28 = [] from rfl]
  simp only [bodyOf, Tryd.f28, SA]
  simp only [RR, IA, PA, RA0, RA1, RA2, RA3, RA4, RA5, RA6, RA7, RA8, RA9, RA10, Nat.reduceAdd, Nat.reduceMul, Nat.reduceEqDiff, Nat.reduceLeDiff, Nat.reduceLT, Int.reduceToNat, Int.reduceLT, Int.reduceLE, Int.reduceEq, Int.reduceNeg, Int.reduceAdd, Int.reduceSub, Int.reduceMul, reduceIte]
  generalize hq : roundsE _ _ _ = q
  obtain ⟨e', nx', rfl, h1⟩ := heldStringS_loop x n0 hL n0 0 MX _ _ _ q (by omega) (lt_MX (by omega)) hq rfl rfl rfl
  simp only [h1, RR, IA, PA, RA0, RA1, RA2, RA3, RA4, RA5, RA6, RA7, RA8, RA9, RA10, Nat.reduceAdd, Nat.reduceMul, Nat.reduceEqDiff, Nat.reduceLeDiff, Nat.reduceLT, Int.reduceToNat, Int.reduceLT, Int.reduceLE, Int.reduceEq, Int.reduceNeg, Int.reduceAdd, Int.reduceSub, Int.reduceMul, reduceIte]
theorem T_lawInstructionsOf : TT 7 = some (Tryd.f7, bodyOf Tryd.f7) := by kernel_rfl
theorem instructionsOf_law (code : List UInt8) : EE 7 [S code] = some (B true) := by
  refine EE_plain T_lawInstructionsOf (by decide) (Nat.le_of_ble_eq_true rfl) rfl ?_
  rw [show opt 7 = [] from rfl]
  simp only [bodyOf, Tryd.f7, SA]
  by_cases hbig : (1048576 : Int) < (code.length : Int)
  · simp only [hbig, RR, IA, PA, RA0, RA1, RA2, RA3, RA4, RA5, RA6, RA7, RA8, RA9, RA10, Nat.reduceAdd, Nat.reduceMul, Nat.reduceEqDiff, Nat.reduceLeDiff, Nat.reduceLT, Int.reduceToNat, Int.reduceLT, Int.reduceLE, Int.reduceEq, Int.reduceNeg, Int.reduceAdd, Int.reduceSub, Int.reduceMul, reduceIte]
  · have hl : code.length < 50000000 := by omega
    have h := implInstructionsOf_ev code hl
    have k := specInstructionsOf_ev code hl
    cases hs : (specB code).isSome
    · rw [hs] at h k
      simp only [Bool.false_eq_true, if_false] at h k
      have he0 : EE 26 [.s true 0 [], .s true 0 []] = some (B true) := eqStringS_ev true true [] (by decide)
      have hh0 : EE 28 [.s true 0 [], N 1] = some (N 1) := heldStringS_ev true 0 (by decide)
      simp only [hbig, h, k, he0, hh0, TMA, RR, IA, PA, RA0, RA1, RA2, RA3, RA4, RA5, RA6, RA7, RA8, RA9, RA10, Nat.reduceAdd, Nat.reduceMul, Nat.reduceEqDiff, Nat.reduceLeDiff, Nat.reduceLT, Int.reduceToNat, Int.reduceLT, Int.reduceLE, Int.reduceEq, Int.reduceNeg, Int.reduceAdd, Int.reduceSub, Int.reduceMul, reduceIte]
      rw [call_goes (by rfl) (by rfl) markStringS_nil]
      simp only [hbig, h, k, he0, hh0, TMA, RR, IA, PA, RA0, RA1, RA2, RA3, RA4, RA5, RA6, RA7, RA8, RA9, RA10, Nat.reduceAdd, Nat.reduceMul, Nat.reduceEqDiff, Nat.reduceLeDiff, Nat.reduceLT, Int.reduceToNat, Int.reduceLT, Int.reduceLE, Int.reduceEq, Int.reduceNeg, Int.reduceAdd, Int.reduceSub, Int.reduceMul, reduceIte]
    · rw [hs] at h k
      simp only [if_true] at h k
      have hcll := cutL_len 32 code
      generalize cutL 32 code = L at h k hcll
      have he := eqStringS_ev false false L (by omega)
      have hm := markStringS_ev L (by omega)
      have hh := heldStringS_ev false L.length (by omega)
      have hn0 : ¬ (1 + (L.length : Int) < 0) := by omega
      have hee : decide (1 + (L.length : Int) = 1 + (L.length : Int)) = true := by simp
      have hlen : (strs L).length = L.length * 1 := by rw [strs_len, Nat.mul_one]
      have hlen2 : (strs (tmk L.length)).length = L.length * 1 := by rw [strs_len, tmk_len, Nat.mul_one]
      simp only [hbig, h, k, strs_closed, TMA, RR, IA, PA, RA0, RA1, RA2, RA3, RA4, RA5, RA6, RA7, RA8, RA9, RA10, Nat.reduceAdd, Nat.reduceMul, Nat.reduceEqDiff, Nat.reduceLeDiff, Nat.reduceLT, Int.reduceToNat, Int.reduceLT, Int.reduceLE, Int.reduceEq, Int.reduceNeg, Int.reduceAdd, Int.reduceSub, Int.reduceMul, reduceIte]
      rw [call0_ww (E := 9) (sz := 1) (E' := 9) (sz' := 1) (cs := strs L) (ds := strs L) (by rfl) (by rfl) (by rfl) hlen hlen (strs_closed _) (strs_closed _) rfl he]
      simp only [RR, IA, PA, RA0, RA1, RA2, RA3, RA4, RA5, RA6, RA7, RA8, RA9, RA10, Nat.reduceAdd, Nat.reduceMul, Nat.reduceEqDiff, Nat.reduceLeDiff, Nat.reduceLT, Int.reduceToNat, Int.reduceLT, Int.reduceLE, Int.reduceEq, Int.reduceNeg, Int.reduceAdd, Int.reduceSub, Int.reduceMul, reduceIte]
      rw [call_row_v (E := 9) (sz := 1) (cs := strs L) (cs' := strs (tmk L.length)) (by rfl) (by rfl) (strs_closed _) (by rfl) (by exact hm)]
      simp only [RR, IA, PA, RA0, RA1, RA2, RA3, RA4, RA5, RA6, RA7, RA8, RA9, RA10, Nat.reduceAdd, Nat.reduceMul, Nat.reduceEqDiff, Nat.reduceLeDiff, Nat.reduceLT, Int.reduceToNat, Int.reduceLT, Int.reduceLE, Int.reduceEq, Int.reduceNeg, Int.reduceAdd, Int.reduceSub, Int.reduceMul, reduceIte]
      rw [call0_w (E := 9) (sz := 1) (cs := strs (tmk L.length)) (by rfl) (by rfl) hlen2 (strs_closed _) (by rfl) (by exact hh)]
      simp only [hn0, hee, h, strs_closed, TMA, RR, IA, PA, RA0, RA1, RA2, RA3, RA4, RA5, RA6, RA7, RA8, RA9, RA10, Nat.reduceAdd, Nat.reduceMul, Nat.reduceEqDiff, Nat.reduceLeDiff, Nat.reduceLT, Int.reduceToNat, Int.reduceLT, Int.reduceLE, Int.reduceEq, Int.reduceNeg, Int.reduceAdd, Int.reduceSub, Int.reduceMul, reduceIte]
      rw [call0_ww (E := 9) (sz := 1) (E' := 9) (sz' := 1) (cs := strs L) (ds := strs L) (by rfl) (by rfl) (by rfl) hlen hlen (strs_closed _) (strs_closed _) rfl he]
      simp only [RR, IA, PA, RA0, RA1, RA2, RA3, RA4, RA5, RA6, RA7, RA8, RA9, RA10, Nat.reduceAdd, Nat.reduceMul, Nat.reduceEqDiff, Nat.reduceLeDiff, Nat.reduceLT, Int.reduceToNat, Int.reduceLT, Int.reduceLE, Int.reduceEq, Int.reduceNeg, Int.reduceAdd, Int.reduceSub, Int.reduceMul, reduceIte]
      rw [call0_w (E := 9) (sz := 1) (cs := strs (tmk L.length)) (by rfl) (by rfl) hlen2 (strs_closed _) (by rfl) (by exact hh)]
      simp only [hn0, hee, TMA, RR, IA, PA, RA0, RA1, RA2, RA3, RA4, RA5, RA6, RA7, RA8, RA9, RA10, Nat.reduceAdd, Nat.reduceMul, Nat.reduceEqDiff, Nat.reduceLeDiff, Nat.reduceLT, Int.reduceToNat, Int.reduceLT, Int.reduceLE, Int.reduceEq, Int.reduceNeg, Int.reduceAdd, Int.reduceSub, Int.reduceMul, reduceIte]
end
end Go.Proofs.YtkmnidbodlmaaaaDoor.Ev

/-
Code: where a loop ends, the variables within it: the reference.
-/
namespace Go.Proofs.YtkmnidbodlmaaaaDoor.Ev
section
set_option linter.unusedVariables false
set_option linter.unusedSimpArgs false
open Go Go.RowKit
set_option linter.unusedVariables false
set_option linter.unusedSimpArgs false
/-- How many instructions there are ahead of the end of the loop, d loops having begun. -/
def clo : Int → List (List UInt8) → Nat
  | _, [] => 0
  | d, x :: l => if endM x = true ∧ d = 1 then 0 else 1 + clo (d + dL x) l
def sumL (l : List (List UInt8)) : Int := (l.map dL).sum
theorem sumL_cons (x : List UInt8) (l : List (List UInt8)) : sumL (x :: l) = dL x + sumL l := by simp [sumL]
theorem sumL_append (a b : List (List UInt8)) : sumL (a ++ b) = sumL a + sumL b := by simp [sumL]
theorem dL_end {x : List UInt8} (h : endM x = true) : dL x = -1 := by
  have hb : begM x = false := by
    cases hb : begM x
    · rfl
    · rw [beg_end hb] at h; cases h
  simp [dL, hb, h]
theorem clo_lt : ∀ (l : List (List UInt8)) (d : Int), 1 ≤ d → d + sumL l ≤ 0 → clo d l < l.length
  | [], d, h1, h2 => by simp [sumL] at h2; omega
  | x :: l, d, h1, h2 => by
    rw [clo]
    split
    · simp
    · rename_i hn
      rw [sumL_cons] at h2
      have h3 : 1 ≤ d + dL x := by
        by_cases he : endM x = true
        · have := dL_end he
          have : d ≠ 1 := fun e => hn ⟨he, e⟩
          omega
        · have : 0 ≤ dL x := by
            unfold dL
            split
            · omega
            · simp [he]
          omega
      have := clo_lt l (d + dL x) h3 (by omega)
      simp only [List.length_cons]
      omega
theorem kind_91 {x : List UInt8} (h : kindM x = 91) : begM x = true := by
  unfold kindM at h
  split at h
  · rename_i a b
    split at h
    · rename_i hc
      simp only [Bool.and_eq_true] at hc
      exact hc.1
    · cases h
  · repeat' split at h
    all_goals first | (cases h; done) | (exact absurd h (by decide))
  · cases h
theorem kind_93 {x : List UInt8} : kindM x = 93 ↔ endM x = true := by
  constructor
  · intro h
    unfold kindM at h
    split at h
    · split at h
      · exact absurd h (by decide)
      · exact absurd h (by decide)
    · rename_i a
      split at h
      · exact absurd h (by decide)
      split at h
      · exact absurd h (by decide)
      split at h
      · exact absurd h (by decide)
      split at h
      · rename_i hc
        exact hc
      · exact absurd h (by decide)
    · exact absurd h (by decide)
  · intro h
    unfold endM at h
    split at h
    · rename_i a
      exact kind_end (by simpa using h)
    · cases h
/-- Beginnings of loops have a variable. -/
def Begs (L : List (List UInt8)) : Prop := ∀ y ∈ L, begM y = true → kindM y = 91
theorem T_l7Close : TT 59 = some (Tryd.f59, bodyOf Tryd.f59) := by kernel_rfl
theorem u8_int (a b : UInt8) : decide ((a.toNat : Int) = (b.toNat : Int)) = decide (a = b) := by
  rw [decide_eq_decide]
  constructor
  · intro h
    exact UInt8.toNat_inj.1 (by omega)
  · intro h
    rw [h]
theorem l7Close_loop (x : Bool) (L : List (List UInt8)) (hL : L.length < 100000000) (hB : Begs L) : ∀ (r : List (List UInt8)) (i n : Nat) (d : Int) (e : Nat → AV) (σ : Sto) (nx : Nat) (q : Option (Ex × St)),
    L.drop i = r → r.length < n → 1 ≤ d → d ≤ i → clo d r < r.length → roundsE (evC II EE (withOpt [] pf) MX (bodyL Tryd.f59 0)) n ⟨e, σ, nx⟩ = q →
    e 0 = .s x L.length (strs L) → e 5 = N d → e 6 = N i → ∃ e' nx', q = some (.ret, ⟨e', σ, nx'⟩) ∧ e' 4 = N (i + clo d r : Nat) := by
  intro r
  induction r with
  | nil => intro i n d e σ nx q hd hn hd1 hdi hcl; simp at hcl
  | cons z r ih =>
    intro i n d e σ nx q hd hn hd1 hdi hcl hq h0 h5 h6
    obtain ⟨hi, hx, hd'⟩ := strs_drop_head hd
    obtain ⟨k, rfl⟩ : ∃ k, n = k + 1 := ⟨n - 1, by omega⟩
    rw [rounds_rd] at hq
    have hc : ((i : Int) < (L.length : Int)) := by omega
    have hz : (0 : Int) ≤ (i : Int) := by omega
    have hw : IntKind.i64.wrap ((i : Int) + 1) = ((i + 1 : Nat) : Int) := by rw [wrap64 (by omega) (by omega)]; rfl
    have hhd : ((strs L).drop i).head? = some (S z) := by rw [strs_drop, hd]; rfl
    have hk := l7Kind_ev z
    have e91 : decide (((kindM z).toNat : Int) = 91) = decide (kindM z = 91) := u8_int (kindM z) 91
    have e93 : decide (((kindM z).toNat : Int) = 93) = decide (kindM z = 93) := u8_int (kindM z) 93
    simp only [bodyL, bodyOf, Tryd.f59, SA, loops, List.nil_append, List.append_nil, List.cons_append, List.getD_cons_zero, List.getD_cons_succ] at hq
    by_cases hb : begM z = true
    · have hk91 := hB z (List.mem_of_getElem? hx) hb
      have hdl : dL z = 1 := by simp [dL, hb]
      have hen : endM z = false := beg_end hb
      have hw1 : IntKind.i64.wrap (d + 1) = d + dL z := by rw [hdl, wrap64 (by omega) (by omega)]
      have hd0 : ¬ (d + dL z = 0) := by omega
      have hkb : decide (kindM z = 91) = true := by simp [hk91]
      rw [clo, if_neg (by simp [hen])] at hcl ⊢
      simp only [List.length_cons] at hcl
      simp only [h0, h5, h6, hc, hz, hw, hw1, hd0, hhd, hk, e91, hkb, Int.toNat_natCast, Nat.mul_one, Nat.zero_add, RR, IA, PA, RA0, RA1, RA2, RA3, RA4, RA5, RA6, RA7, RA8, RA9, RA10, Nat.reduceAdd, Nat.reduceMul, Nat.reduceEqDiff, Nat.reduceLeDiff, Nat.reduceLT, Int.reduceToNat, Int.reduceLT, Int.reduceLE, Int.reduceEq, Int.reduceNeg, Int.reduceAdd, Int.reduceSub, Int.reduceMul, reduceIte] at hq
      obtain ⟨e', nx', h1, h2⟩ := ih (i + 1) k (d + dL z) _ σ _ q hd' (by simpa using hn) (by omega) (by omega) (by omega) hq h0 rfl rfl
      exact ⟨e', nx', h1, by rw [h2, show i + 1 + clo (d + dL z) r = i + (1 + clo (d + dL z) r) by omega]⟩
    · have hbf : begM z = false := by simpa using hb
      have hkb : decide (kindM z = 91) = false := by
        simp only [decide_eq_false_iff_not]
        intro h
        exact hb (kind_91 h)
      by_cases he : endM z = true
      · have hdl : dL z = -1 := dL_end he
        have hke : decide (kindM z = 93) = true := by simp [kind_93.2 he]
        have hw1 : IntKind.i64.wrap (d - 1) = d + dL z := by rw [hdl, wrap64 (by omega) (by omega)]; omega
        by_cases hd1' : d = 1
        · have hd0 : d + dL z = 0 := by omega
          rw [clo, if_pos ⟨he, hd1'⟩]
          simp only [h0, h5, h6, hc, hz, hw, hw1, hd0, hhd, hk, e91, e93, hkb, hke, Int.toNat_natCast, Nat.mul_one, Nat.zero_add, RR, IA, PA, RA0, RA1, RA2, RA3, RA4, RA5, RA6, RA7, RA8, RA9, RA10, Nat.reduceAdd, Nat.reduceMul, Nat.reduceEqDiff, Nat.reduceLeDiff, Nat.reduceLT, Int.reduceToNat, Int.reduceLT, Int.reduceLE, Int.reduceEq, Int.reduceNeg, Int.reduceAdd, Int.reduceSub, Int.reduceMul, reduceIte] at hq
          exact ⟨_, _, hq.symm, rfl⟩
        · have hd0 : ¬ (d + dL z = 0) := by omega
          rw [clo, if_neg (fun h => hd1' h.2)] at hcl ⊢
          simp only [List.length_cons] at hcl
          simp only [h0, h5, h6, hc, hz, hw, hw1, hd0, hhd, hk, e91, e93, hkb, hke, Int.toNat_natCast, Nat.mul_one, Nat.zero_add, RR, IA, PA, RA0, RA1, RA2, RA3, RA4, RA5, RA6, RA7, RA8, RA9, RA10, Nat.reduceAdd, Nat.reduceMul, Nat.reduceEqDiff, Nat.reduceLeDiff, Nat.reduceLT, Int.reduceToNat, Int.reduceLT, Int.reduceLE, Int.reduceEq, Int.reduceNeg, Int.reduceAdd, Int.reduceSub, Int.reduceMul, reduceIte] at hq
          obtain ⟨e', nx', h1, h2⟩ := ih (i + 1) k (d + dL z) _ σ _ q hd' (by simpa using hn) (by omega) (by omega) (by omega) hq h0 rfl rfl
          exact ⟨e', nx', h1, by rw [h2, show i + 1 + clo (d + dL z) r = i + (1 + clo (d + dL z) r) by omega]⟩
      · have hdl : dL z = 0 := by simp [dL, hbf, he]
        have hke : decide (kindM z = 93) = false := by
          simp only [decide_eq_false_iff_not]
          intro h
          exact he (kind_93.1 h)
        have hd0 : ¬ (d = 0) := by omega
        rw [clo, if_neg (fun h => he h.1)] at hcl ⊢
        simp only [List.length_cons] at hcl
        simp only [h0, h5, h6, hc, hz, hw, hd0, hhd, hk, e91, e93, hkb, hke, Int.toNat_natCast, Nat.mul_one, Nat.zero_add, RR, IA, PA, RA0, RA1, RA2, RA3, RA4, RA5, RA6, RA7, RA8, RA9, RA10, Nat.reduceAdd, Nat.reduceMul, Nat.reduceEqDiff, Nat.reduceLeDiff, Nat.reduceLT, Int.reduceToNat, Int.reduceLT, Int.reduceLE, Int.reduceEq, Int.reduceNeg, Int.reduceAdd, Int.reduceSub, Int.reduceMul, reduceIte] at hq
        obtain ⟨e', nx', h1, h2⟩ := ih (i + 1) k (d + dL z) _ σ _ q hd' (by simpa using hn) (by omega) (by omega) (by omega) hq h0 (by rw [hdl, Int.add_zero]; exact h5) rfl
        exact ⟨e', nx', h1, by rw [h2, show i + 1 + clo (d + dL z) r = i + (1 + clo (d + dL z) r) by omega]⟩
theorem l7Close_ev (x : Bool) (L : List (List UInt8)) (hL : L.length < 100000000) (hB : Begs L) (i : Nat) (z : List UInt8) (r : List (List UInt8)) (hd : L.drop i = z :: r) (hb : begM z = true) (hcl : clo 1 r < r.length) :
    EE 59 [.s x L.length (strs L), N i] = some (N (i + 1 + clo 1 r : Nat)) := by
  refine EE_plain T_l7Close (by decide) (Nat.le_of_ble_eq_true rfl) (by simp only [closedL, closed, strs_closed, Bool.and_self]) ?_
  rw [show opt 59 = [] from rfl]
  simp only [bodyOf, Tryd.f59, SA]
  simp only [RR, IA, PA, RA0, RA1, RA2, RA3, RA4, RA5, RA6, RA7, RA8, RA9, RA10, Nat.reduceAdd, Nat.reduceMul, Nat.reduceEqDiff, Nat.reduceLeDiff, Nat.reduceLT, Int.reduceToNat, Int.reduceLT, Int.reduceLE, Int.reduceEq, Int.reduceNeg, Int.reduceAdd, Int.reduceSub, Int.reduceMul, reduceIte]
  generalize hq : roundsE _ _ _ = q
  obtain ⟨hi, hx, hd'⟩ := strs_drop_head hd
  obtain ⟨k, hk⟩ : ∃ k, MX = k + 1 := ⟨MX - 1, rfl⟩
  have hMX : L.length + 5 < MX := Nat.lt_of_lt_of_le (show L.length + 5 < 100000005 by omega) (Nat.le_of_ble_eq_true rfl)
  rw [hk, rounds_rd] at hq
  have hc : ((i : Int) < (L.length : Int)) := by omega
  have hz : (0 : Int) ≤ (i : Int) := by omega
  have hw : IntKind.i64.wrap ((i : Int) + 1) = ((i + 1 : Nat) : Int) := by rw [wrap64 (by omega) (by omega)]; rfl
  have hhd : ((strs L).drop i).head? = some (S z) := by rw [strs_drop, hd]; rfl
  have hkk := l7Kind_ev z
  rw [hB z (List.mem_of_getElem? hx) hb] at hkk
  have hu : U 91 = .v (.int .u8 91) := rfl
  rw [hu] at hkk
  simp only [hc, hz, hw, hhd, hkk, Int.toNat_natCast, Nat.mul_one, Nat.zero_add, RR, IA, PA, RA0, RA1, RA2, RA3, RA4, RA5, RA6, RA7, RA8, RA9, RA10, Nat.reduceAdd, Nat.reduceMul, Nat.reduceEqDiff, Nat.reduceLeDiff, Nat.reduceLT, Int.reduceToNat, Int.reduceLT, Int.reduceLE, Int.reduceEq, Int.reduceNeg, Int.reduceAdd, Int.reduceSub, Int.reduceMul, reduceIte] at hq
  have hlr : r.length < k := by
    have : (L.drop i).length = r.length + 1 := by rw [hd]; rfl
    rw [List.length_drop] at this
    omega
  obtain ⟨e', nx', rfl, h4⟩ := l7Close_loop x L hL hB r (i + 1) k 1 _ _ _ q hd' hlr (by omega) (by omega) hcl hq rfl rfl rfl
  simp only [h4, RR, IA, PA, RA0, RA1, RA2, RA3, RA4, RA5, RA6, RA7, RA8, RA9, RA10, Nat.reduceAdd, Nat.reduceMul, Nat.reduceEqDiff, Nat.reduceLeDiff, Nat.reduceLT, Int.reduceToNat, Int.reduceLT, Int.reduceLE, Int.reduceEq, Int.reduceNeg, Int.reduceAdd, Int.reduceSub, Int.reduceMul, reduceIte]
end
end Go.Proofs.YtkmnidbodlmaaaaDoor.Ev

/-
Code: the variables among instructions: the reference.
-/
namespace Go.Proofs.YtkmnidbodlmaaaaDoor.Ev
section
set_option linter.unusedVariables false
set_option linter.unusedSimpArgs false
open Go Go.RowKit
set_option linter.unusedVariables false
set_option linter.unusedSimpArgs false
def V7 : List (List UInt8) := [[97], [98], [118], [119], [120], [121], [122]]
theorem T_l7Vars : TT 58 = some (Tryd.f58, bodyOf Tryd.f58) := by kernel_rfl
theorem l7Vars_in (x : Bool) (L : List (List UInt8)) (hL : L.length < 100000000) (v : List UInt8) : ∀ (r : List (List UInt8)) (j n : Nat) (b : Bool) (e : Nat → AV) (σ : Sto) (nx : Nat) (q : Option (Ex × St)),
    L.drop j = r → r.length < n → roundsE (evC II EE (withOpt [] pf) MX (bodyL Tryd.f58 1)) n ⟨e, σ, nx⟩ = q →
    e 15 = .s x L.length (strs L) → e 16 = N L.length → e 17 = N j → e 6 = B b → e 5 = S v →
    ∃ e' nx', q = some (.exit 2, ⟨e', σ, nx'⟩) ∧ e' 6 = B (b || r.contains v) ∧ e' 0 = e 0 ∧ e' 3 = e 3 ∧ e' 5 = e 5 ∧ e' 9 = e 9 ∧ e' 10 = e 10 ∧ e' 11 = e 11 := by
  intro r
  induction r with
  | nil =>
    intro j n b e σ nx q hd hn hq h15 h16 h17 h6 h5
    have hlen : L.length ≤ j := by simpa using hd
    obtain ⟨k, rfl⟩ : ∃ k, n = k + 1 := ⟨n - 1, by omega⟩
    rw [rounds_rd] at hq
    have hc : ¬ ((j : Int) < (L.length : Int)) := by omega
    simp only [bodyL, bodyOf, Tryd.f58, SA, loops, List.nil_append, List.append_nil, List.cons_append, List.getD_cons_zero, List.getD_cons_succ] at hq
    simp only [h16, h17, hc, IA, PA, RA0, RA1, RA2, RA3, RA4, RA5, RA6, RA7, RA8, RA9, RA10, Nat.reduceAdd, Nat.reduceMul, Nat.reduceEqDiff, Nat.reduceLeDiff, Nat.reduceLT, Int.reduceToNat, Int.reduceLT, Int.reduceLE, Int.reduceEq, Int.reduceNeg, Int.reduceAdd, Int.reduceSub, Int.reduceMul, reduceIte] at hq
    exact ⟨_, _, hq.symm, by simpa using h6, rfl, rfl, rfl, rfl, rfl, rfl⟩
  | cons z r ih =>
    intro j n b e σ nx q hd hn hq h15 h16 h17 h6 h5
    obtain ⟨hi, hx, hd'⟩ := strs_drop_head hd
    obtain ⟨k, rfl⟩ : ∃ k, n = k + 1 := ⟨n - 1, by omega⟩
    rw [rounds_rd] at hq
    have hc : ((j : Int) < (L.length : Int)) := by omega
    have hz : (0 : Int) ≤ (j : Int) := by omega
    have hw : IntKind.i64.wrap ((j : Int) + 1) = ((j + 1 : Nat) : Int) := by rw [wrap64 (by omega) (by omega)]; rfl
    have hhd : ((strs L).drop j).head? = some (S z) := by rw [strs_drop, hd]; rfl
    simp only [bodyL, bodyOf, Tryd.f58, SA, loops, List.nil_append, List.append_nil, List.cons_append, List.getD_cons_zero, List.getD_cons_succ] at hq
    have hco : (b || (z :: r).contains v) = ((b || (z == v)) || r.contains v) := by
      rw [List.contains_cons, show (v == z) = (z == v) from Bool.beq_comm, Bool.or_assoc]
    cases b
    · generalize hzv : (z == v) = zv at hco
      simp only [h15, h16, h17, h6, h5, hc, hz, hw, hhd, hzv, Int.toNat_natCast, Nat.mul_one, Nat.zero_add, RR, IA, PA, RA0, RA1, RA2, RA3, RA4, RA5, RA6, RA7, RA8, RA9, RA10, Nat.reduceAdd, Nat.reduceMul, Nat.reduceEqDiff, Nat.reduceLeDiff, Nat.reduceLT, Int.reduceToNat, Int.reduceLT, Int.reduceLE, Int.reduceEq, Int.reduceNeg, Int.reduceAdd, Int.reduceSub, Int.reduceMul, reduceIte] at hq
      obtain ⟨e', nx', h1, h2, h3⟩ := ih (j + 1) k zv _ σ _ q hd' (by simpa using hn) hq h15 h16 rfl rfl h5
      exact ⟨e', nx', h1, by rw [h2, hco]; simp, h3⟩
    · simp only [h15, h16, h17, h6, h5, hc, hz, hw, hhd, Int.toNat_natCast, Nat.mul_one, Nat.zero_add, RR, IA, PA, RA0, RA1, RA2, RA3, RA4, RA5, RA6, RA7, RA8, RA9, RA10, Nat.reduceAdd, Nat.reduceMul, Nat.reduceEqDiff, Nat.reduceLeDiff, Nat.reduceLT, Int.reduceToNat, Int.reduceLT, Int.reduceLE, Int.reduceEq, Int.reduceNeg, Int.reduceAdd, Int.reduceSub, Int.reduceMul, reduceIte] at hq
      obtain ⟨e', nx', h1, h2, h3⟩ := ih (j + 1) k true _ σ _ q hd' (by simpa using hn) hq h15 h16 rfl rfl h5
      exact ⟨e', nx', h1, by rw [h2, hco]; simp, h3⟩
theorem l7Vars_out (x : Bool) (L : List (List UInt8)) (hL : L.length < 100000000) : ∀ (r : List (List UInt8)) (i n : Nat) (out : List UInt8) (e : Nat → AV) (σ : Sto) (nx : Nat) (q : Option (Ex × St)),
    V7.drop i = r → (∀ v ∈ r, v.length = 1) → r.length < n → out.length ≤ i → roundsE (evC II EE (withOpt [] pf) MX (bodyL Tryd.f58 0)) n ⟨e, σ, nx⟩ = q →
    e 0 = .s x L.length (strs L) → e 3 = S out → e 9 = .s true 7 (strs V7) → e 10 = N 7 → e 11 = N i →
    ∃ e' nx', q = some (.exit 0, ⟨e', σ, nx'⟩) ∧ e' 3 = S (out ++ (r.filter fun v => L.contains v).flatten) := by
  intro r
  induction r with
  | nil =>
    intro i n out e σ nx q hd hv hn ho hq h0 h3 h9 h10 h11
    have hlen : 7 ≤ i := by simpa [V7] using hd
    obtain ⟨k, rfl⟩ : ∃ k, n = k + 1 := ⟨n - 1, by omega⟩
    rw [rounds_rd] at hq
    have hc : ¬ ((i : Int) < 7) := by omega
    simp only [bodyL, bodyOf, Tryd.f58, SA, loops, List.nil_append, List.append_nil, List.cons_append, List.getD_cons_zero, List.getD_cons_succ] at hq
    simp only [h10, h11, hc, IA, PA, RA0, RA1, RA2, RA3, RA4, RA5, RA6, RA7, RA8, RA9, RA10, Nat.reduceAdd, Nat.reduceMul, Nat.reduceEqDiff, Nat.reduceLeDiff, Nat.reduceLT, Int.reduceToNat, Int.reduceLT, Int.reduceLE, Int.reduceEq, Int.reduceNeg, Int.reduceAdd, Int.reduceSub, Int.reduceMul, reduceIte] at hq
    exact ⟨_, _, hq.symm, by simpa using h3⟩
  | cons v r ih =>
    intro i n out e σ nx q hd hv hn ho hq h0 h3 h9 h10 h11
    obtain ⟨hi, hx, hd'⟩ := strs_drop_head hd
    have hi7 : i < 7 := hi
    have hv7 : V7.length = 7 := rfl
    have hc7 : ((i : Int) < ((7 : Nat) : Int)) := by omega
    have hv1 := hv v (by simp)
    obtain ⟨k, rfl⟩ : ∃ k, n = k + 1 := ⟨n - 1, by omega⟩
    rw [rounds_rd] at hq
    have hc : ((i : Int) < 7) := by omega
    have hz : (0 : Int) ≤ (i : Int) := by omega
    have hw : IntKind.i64.wrap ((i : Int) + 1) = ((i + 1 : Nat) : Int) := by rw [wrap64 (by omega) (by omega)]; rfl
    have hhd : ((strs V7).drop i).head? = some (S v) := by rw [strs_drop, hd]; rfl
    simp only [bodyL, bodyOf, Tryd.f58, SA, loops, List.nil_append, List.append_nil, List.cons_append, List.getD_cons_zero, List.getD_cons_succ] at hq
    simp only [h0, h3, h9, h10, h11, hc, hc7, hv7, hz, hhd, Int.toNat_natCast, Nat.mul_one, Nat.zero_add, RR, IA, PA, RA0, RA1, RA2, RA3, RA4, RA5, RA6, RA7, RA8, RA9, RA10, Nat.reduceAdd, Nat.reduceMul, Nat.reduceEqDiff, Nat.reduceLeDiff, Nat.reduceLT, Int.reduceToNat, Int.reduceLT, Int.reduceLE, Int.reduceEq, Int.reduceNeg, Int.reduceAdd, Int.reduceSub, Int.reduceMul, reduceIte] at hq
    generalize hq2 : roundsE _ MX _ = q2 at hq
    obtain ⟨e2, nx2, rfl, g6, g0, g3, g5, g9, g10, g11⟩ := l7Vars_in x L hL v L 0 MX false _ σ _ q2 rfl (lt_MX (by omega)) hq2 rfl rfl rfl rfl rfl
    have k0 : e2 0 = .s x L.length (strs L) := g0.trans h0
    have k3 : e2 3 = S out := g3.trans h3
    have k5 : e2 5 = S v := g5
    have k9 : e2 9 = .s true 7 (strs V7) := g9.trans h9
    have k10 : e2 10 = N 7 := g10.trans h10
    have k11 : e2 11 = N i := g11.trans h11
    rw [Bool.false_or] at g6
    clear hq2
    by_cases hin : L.contains v = true
    · rw [hin] at g6
      simp only [g6, k3, k5, k11, hw, hc7, hv7, str_addIf, RR, IA, PA, RA0, RA1, RA2, RA3, RA4, RA5, RA6, RA7, RA8, RA9, RA10, Nat.reduceAdd, Nat.reduceMul, Nat.reduceEqDiff, Nat.reduceLeDiff, Nat.reduceLT, Int.reduceToNat, Int.reduceLT, Int.reduceLE, Int.reduceEq, Int.reduceNeg, Int.reduceAdd, Int.reduceSub, Int.reduceMul, reduceIte] at hq
      rw [if_pos (by omega)] at hq
      obtain ⟨e', nx', h1, h2⟩ := ih (i + 1) k (out ++ v) _ σ _ q hd' (fun w hw => hv w (by simp [hw])) (by simpa using hn) (by simp [hv1]; omega) hq k0 rfl k9 k10 rfl
      exact ⟨e', nx', h1, by rw [h2, List.filter_cons_of_pos (by exact hin)]; simp⟩
    · have hinf : L.contains v = false := by simpa using hin
      rw [hinf] at g6
      simp only [g6, k3, k5, k11, hw, hc7, hv7, str_addIf, RR, IA, PA, RA0, RA1, RA2, RA3, RA4, RA5, RA6, RA7, RA8, RA9, RA10, Nat.reduceAdd, Nat.reduceMul, Nat.reduceEqDiff, Nat.reduceLeDiff, Nat.reduceLT, Int.reduceToNat, Int.reduceLT, Int.reduceLE, Int.reduceEq, Int.reduceNeg, Int.reduceAdd, Int.reduceSub, Int.reduceMul, reduceIte] at hq
      obtain ⟨e', nx', h1, h2⟩ := ih (i + 1) k out _ σ _ q hd' (fun w hw => hv w (by simp [hw])) (by simpa using hn) (by omega) hq k0 k3 k9 k10 rfl
      exact ⟨e', nx', h1, by rw [h2, List.filter_cons_of_neg (by exact hin)]⟩
theorem l7Vars_ev (x : Bool) (L : List (List UInt8)) (hL : L.length < 100000000) : EE 58 [.s x L.length (strs L)] = some (S ((V7.filter fun v => L.contains v).flatten)) := by
  refine EE_plain T_l7Vars (by decide) (Nat.le_of_ble_eq_true rfl) (by simp only [closedL, closed, strs_closed, Bool.and_self]) ?_
  rw [show opt 58 = [] from rfl]
  simp only [bodyOf, Tryd.f58, SA]
  have hbs : bsK (fun _ => none) 7 [(0, S [97]), (1, S [98]), (2, S [118]), (3, S [119]), (4, S [120]), (5, S [121]), (6, S [122])] (some ⟨.str, 1, 16, [.string ⟨#[]⟩]⟩) = some (.s true 7 (strs V7), fun _ => none) := rfl
  simp only [RR, IA, PA, RA0, RA1, RA2, RA3, RA4, RA5, RA6, RA7, RA8, RA9, RA10, Nat.reduceAdd, Nat.reduceMul, Nat.reduceEqDiff, Nat.reduceLeDiff, Nat.reduceLT, Int.reduceToNat, Int.reduceLT, Int.reduceLE, Int.reduceEq, Int.reduceNeg, Int.reduceAdd, Int.reduceSub, Int.reduceMul, reduceIte]
  rw [hbs]
  simp only [RR, IA, PA, RA0, RA1, RA2, RA3, RA4, RA5, RA6, RA7, RA8, RA9, RA10, Nat.reduceAdd, Nat.reduceMul, Nat.reduceEqDiff, Nat.reduceLeDiff, Nat.reduceLT, Int.reduceToNat, Int.reduceLT, Int.reduceLE, Int.reduceEq, Int.reduceNeg, Int.reduceAdd, Int.reduceSub, Int.reduceMul, reduceIte]
  generalize hq : roundsE _ _ _ = q
  have key := fun a b c d e' => l7Vars_out x L hL V7 0 MX [] _ _ _ q rfl (by simp [V7]) (lt_MX (by decide)) (Nat.le_refl _) hq a b c d e'
  obtain ⟨e', nx', rfl, h3⟩ := key rfl rfl rfl rfl rfl
  simp only [h3, List.nil_append, RR, IA, PA, RA0, RA1, RA2, RA3, RA4, RA5, RA6, RA7, RA8, RA9, RA10, Nat.reduceAdd, Nat.reduceMul, Nat.reduceEqDiff, Nat.reduceLeDiff, Nat.reduceLT, Int.reduceToNat, Int.reduceLT, Int.reduceLE, Int.reduceEq, Int.reduceNeg, Int.reduceAdd, Int.reduceSub, Int.reduceMul, reduceIte]
end
end Go.Proofs.YtkmnidbodlmaaaaDoor.Ev

/-
Code: the reference's VarsAt.
-/
namespace Go.Proofs.YtkmnidbodlmaaaaDoor.Ev
section
set_option linter.unusedVariables false
set_option linter.unusedSimpArgs false
open Go Go.RowKit
set_option linter.unusedVariables false
set_option linter.unusedSimpArgs false
theorem list_begs : ∀ t, WF t → Begs (listT t) := by
  intro t
  induction t with
  | dig c => intro hw y hy hb; simp only [listT, List.mem_singleton] at hy; subst hy; cases hb
  | var c => intro hw y hy hb; simp only [listT, List.mem_singleton] at hy; subst hy; cases hb
  | one s x ih =>
    intro hw y hy hb
    simp only [listT, List.mem_append, List.mem_singleton] at hy
    rcases hy with hy | rfl
    · exact ih hw.2 y hy hb
    · cases hb
  | two s x y ihx ihy =>
    intro hw z hz hb
    simp only [listT, List.mem_append, List.mem_singleton] at hz
    rcases hz with (hz | hz) | rfl
    · exact ihx hw.2.1 z hz hb
    · exact ihy hw.2.2 z hz hb
    · cases hb
  | loop s v x y ihx ihy =>
    intro hw z hz hb
    simp only [listT, List.mem_append, List.mem_singleton] at hz
    rcases hz with ((hz | rfl) | hz) | rfl
    · exact ihx hw.2.2.1 z hz hb
    · exact kind_beg hw.1 hw.2.1
    · exact ihy hw.2.2.2 z hz hb
    · cases hb
theorem runP_sum : ∀ {l : List (List UInt8)} {p q : PS} {hs ls : List Nat}, runP l p = some (q, hs, ls) → (q.lp.length : Int) = p.lp.length + sumL l
  | [], p, q, hs, ls, h => by
    simp only [runP, Option.some.injEq, Prod.mk.injEq] at h
    obtain ⟨rfl, _, _⟩ := h
    simp [sumL]
  | s :: l, p, q, hs, ls, h => by
    simp only [runP] at h
    split at h
    · rename_i p' h1
      split at h
      · rename_i h2
        simp only [Option.some.injEq, Prod.mk.injEq] at h
        obtain ⟨rfl, _, _⟩ := h
        have e1 := runP_sum h2
        have e2 := (doP_len h1).2
        rw [sumL_cons]
        omega
      · cases h
    · cases h
theorem runP_split : ∀ {a b : List (List UInt8)} {p q : PS} {hs ls : List Nat}, runP (a ++ b) p = some (q, hs, ls) → ∃ p1 h1 l1 h2 l2, runP a p = some (p1, h1, l1) ∧ runP b p1 = some (q, h2, l2)
  | [], b, p, q, hs, ls, h => ⟨p, [], [], hs, ls, rfl, h⟩
  | s :: a, b, p, q, hs, ls, h => by
    simp only [List.cons_append, runP] at h
    split at h
    · rename_i p' h1
      split at h
      · rename_i h2
        simp only [Option.some.injEq, Prod.mk.injEq] at h
        obtain ⟨rfl, _, _⟩ := h
        obtain ⟨p1, i1, i2, i3, i4, i5, i6⟩ := runP_split h2
        exact ⟨p1, p'.st.length :: i1, min p.lp.length p'.lp.length :: i2, i3, i4, by simp only [runP, h1, i5], i6⟩
      · cases h
    · cases h
/-- A loop that has begun ends; the level there. -/
theorem clo_ok {L : List (List UInt8)} {t : T} {hs ls : List Nat} (h : runP L ⟨[], []⟩ = some (⟨[t], []⟩, hs, ls)) {i : Nat} {z : List UInt8} {r : List (List UInt8)} (hd : L.drop i = z :: r) (hb : begM z = true) : clo 1 r < r.length ∧ 0 ≤ sumL (L.take i) := by
  rw [← List.take_append_drop i L] at h
  obtain ⟨p1, h1, l1, h2, l2, h3, h4⟩ := runP_split h
  have e1 := runP_sum h3
  have e2 := runP_sum h4
  rw [hd, sumL_cons] at e2
  have hdl : dL z = 1 := by simp [dL, hb]
  simp only [List.length_nil] at e1 e2
  refine ⟨clo_lt r 1 (by omega) (by omega), by omega⟩
/-- The variables within the loop that begins there. -/
def varsM (L : List (List UInt8)) (i : Int) : Option (List UInt8) :=
  if i < 0 then none else match L.drop i.toNat with
  | [] => none
  | z :: r => if begM z = true then some ((V7.filter fun v => (z :: r.take (clo 1 r)).contains v).flatten) else none
theorem cut_w_both (sz id lo n : Nat) (k1 k2 : IntKind) (i j : Int) (h : 0 ≤ i ∧ i ≤ j ∧ j ≤ (n : Int)) : cut sz (.w id lo n) (some (.v (.int k1 i))) (some (.v (.int k2 j))) = some (.w id (lo + i.toNat * sz) (j.toNat - i.toNat)) := by
  obtain ⟨h1, h2, h3⟩ := h
  simp only [cut, bound]
  rw [if_pos ⟨by omega, h3⟩]
  simp only [Option.bind_some]
  rw [if_pos ⟨h1, by omega⟩]
  rfl
/-- A call that is given a part of a row and gives a plain value. -/
theorem call0_wl {C : Sem1} {pf' : FuncId → Nat} {σ : Sto} {key : Nat} {f : FuncId} {id lo n E sz N' : Nat} {cs : List AV} {r : Value} (hσ : σ id = some (.row E sz N' cs)) (hp : pf' f = 0) (hl : lo + n * sz ≤ cs.length) (hc : closedL cs = true) (hr : C f [.s false n ((cs.drop lo).take (n * sz))] = some (.v r)) :
    callOp C pf' σ key f [.w id lo n] = some (.v r, σ) := by
  unfold callOp
  rw [if_neg (by omega), if_neg (by omega)]
  have h2 : deepC (deep σ 8) [.w id lo n] = some ([.s false n ((cs.drop lo).take (n * sz))], [id]) := by
    simp only [deepC, deep_w 7 hσ hl hc, Option.bind_some, Option.map_some, List.append_nil]
  rw [h2]
  simp only [Option.bind_some, hr]
  rw [if_pos (.inr rfl)]
  rfl
theorem call0_ws {C : Sem1} {pf' : FuncId → Nat} {σ : Sto} {key : Nat} {f : FuncId} {id n E sz N' : Nat} {cs ys : List AV} {r : Value} (hσ : σ id = some (.row E sz N' cs)) (hp : pf' f = 0) (hl : cs.length = n * sz) (hc : closedL cs = true) (hy : closedL ys = true) (hr : C f (.s false n cs :: ys) = some (.v r)) :
    callOp C pf' σ key f (.w id 0 n :: ys) = some (.v r, σ) := call0_w hσ hp hl hc hy hr
theorem T_specVarsAt : TT 31 = some (Tryd.f31, bodyOf Tryd.f31) := by kernel_rfl
theorem specVarsAt_ev (code : List UInt8) (i : Int) (hl : code.length < 50000000) (hi : (Lit.int .i64 i).wf = true) : EE 31 [S code, N i] = some (match (if (specB code).isSome = true then varsM (cutL 32 code) i else none) with | some o => .t [S o, B true] | none => .t [S [], B false]) := by
  refine EE_plain T_specVarsAt (by decide) (Nat.le_of_ble_eq_true rfl) rfl ?_
  rw [show opt 31 = [] from rfl]
  simp only [bodyOf, Tryd.f31, SA]
  have h := specInstructionsOf_ev code hl
  cases hs : specB code with
  | none =>
    rw [hs] at h
    simp only [Option.isSome_none, Bool.false_eq_true, if_false] at h ⊢
    have hin : decide (0 ≤ i ∧ i ≤ -1) = false := by simp only [decide_eq_false_iff_not]; omega
    simp only [h, l1In_ev, hin, TMA, RR, IA, PA, RA0, RA1, RA2, RA3, RA4, RA5, RA6, RA7, RA8, RA9, RA10, Nat.reduceAdd, Nat.reduceMul, Nat.reduceEqDiff, Nat.reduceLeDiff, Nat.reduceLT, Int.reduceToNat, Int.reduceLT, Int.reduceLE, Int.reduceEq, Int.reduceNeg, Int.reduceAdd, Int.reduceSub, Int.reduceMul, reduceIte]
  | some w =>
    obtain ⟨t, hh, lv⟩ := w
    rw [hs] at h
    simp only [Option.isSome_some, if_true] at h ⊢
    obtain ⟨_, hw, hcl, hrun, _⟩ := spec_impl hs
    have hbegs := list_begs t hw
    rw [← hcl] at hrun hbegs
    have hcll := cutL_len 32 code
    have hne : (cutL 32 code).length ≠ 0 := by obtain ⟨x, y, e⟩ := cutL_cons 32 code; rw [e]; simp
    generalize cutL 32 code = L at h hrun hbegs hcll hne ⊢
    have hwl : IntKind.i64.wrap ((L.length : Int) - 1) = (L.length : Int) - 1 := by rw [wrap64 (by omega) (by omega)]
    by_cases hin : 0 ≤ i ∧ i ≤ (L.length : Int) - 1
    · obtain ⟨k, rfl⟩ := Int.eq_ofNat_of_zero_le hin.1
      have hk : k < L.length := by omega
      obtain ⟨z, r, hd⟩ : ∃ z r, L.drop k = z :: r := by
        cases hd : L.drop k with
        | nil => have := congrArg List.length hd; simp at this; omega
        | cons z r => exact ⟨z, r, rfl⟩
      have hhd : ((strs L).drop k).head? = some (S z) := by rw [strs_drop, hd]; rfl
      have hz : (0 : Int) ≤ (k : Int) := by omega
      have hc : ((k : Int) < (L.length : Int)) := by omega
      have hind : decide (0 ≤ (k : Int) ∧ (k : Int) ≤ (L.length : Int) - 1) = true := by simp only [decide_eq_true_eq]; exact hin
      have hkd := l7Kind_ev z
      have e91 : decide (((kindM z).toNat : Int) = 91) = decide (kindM z = 91) := u8_int (kindM z) 91
      obtain ⟨_, hx, _⟩ := strs_drop_head hd
      have hle : ((k : Int) ≤ (L.length : Int) - 1) := by omega
      have hvm : varsM L (k : Int) = if begM z = true then some ((V7.filter fun v => (z :: r.take (clo 1 r)).contains v).flatten) else none := by
        unfold varsM
        rw [if_neg (by omega), Int.toNat_natCast, hd]
      by_cases hb : begM z = true
      · have hkb : decide (kindM z = 91) = true := by
          have := hbegs z (List.mem_of_getElem? hx) hb
          simp [this]
        obtain ⟨hclo, _⟩ := clo_ok hrun hd hb
        have hclose := l7Close_ev false L (by omega) hbegs k z r hd hb hclo
        have hrl : r.length + 1 + k = L.length := by
          have := congrArg List.length hd
          rw [List.length_drop] at this
          simp only [List.length_cons] at this
          omega
        have hsub : ((strs L).drop (0 + k)).take ((k + 1 + clo 1 r - k) * 1) = strs (z :: r.take (clo 1 r)) := by
          rw [Nat.zero_add, strs_drop, hd, Nat.mul_one, show k + 1 + clo 1 r - k = clo 1 r + 1 by omega, strs_take, List.take_succ_cons]
        have hvars := l7Vars_ev false (z :: r.take (clo 1 r)) (by simp; omega)
        rw [hvm, if_pos hb]
        simp only [h, l1In_ev, hwl, hle, hind, hz, hc, hhd, hkd, e91, hkb, strs_closed, Int.toNat_natCast, Nat.mul_one, Nat.zero_add, TMA, RR, IA, PA, RA0, RA1, RA2, RA3, RA4, RA5, RA6, RA7, RA8, RA9, RA10, Nat.reduceAdd, Nat.reduceMul, Nat.reduceEqDiff, Nat.reduceLeDiff, Nat.reduceLT, Int.reduceToNat, Int.reduceLT, Int.reduceLE, Int.reduceEq, Int.reduceNeg, Int.reduceAdd, Int.reduceSub, Int.reduceMul, reduceIte]
        rw [call0_ws (E := 9) (sz := 1) (by rfl) (by rfl) (by rw [strs_len, Nat.mul_one]) (strs_closed _) (by rfl) (by exact hclose)]
        simp only [RR, IA, PA, RA0, RA1, RA2, RA3, RA4, RA5, RA6, RA7, RA8, RA9, RA10, Nat.reduceAdd, Nat.reduceMul, Nat.reduceEqDiff, Nat.reduceLeDiff, Nat.reduceLT, Int.reduceToNat, Int.reduceLT, Int.reduceLE, Int.reduceEq, Int.reduceNeg, Int.reduceAdd, Int.reduceSub, Int.reduceMul, reduceIte]
        rw [cut_w_both _ _ _ _ _ _ _ _ ⟨by omega, by omega, by omega⟩]
        simp only [Int.toNat_natCast, RR, IA, PA, RA0, RA1, RA2, RA3, RA4, RA5, RA6, RA7, RA8, RA9, RA10, Nat.reduceAdd, Nat.reduceMul, Nat.reduceEqDiff, Nat.reduceLeDiff, Nat.reduceLT, Int.reduceToNat, Int.reduceLT, Int.reduceLE, Int.reduceEq, Int.reduceNeg, Int.reduceAdd, Int.reduceSub, Int.reduceMul, reduceIte]
        have hlen3 : k + 1 + clo 1 r - k = (z :: r.take (clo 1 r)).length := by simp; omega
        rw [hlen3] at hsub ⊢
        rw [Nat.zero_add] at hsub
        rw [call0_wl (E := 9) (sz := 1) (cs := strs L) (by rfl) (by rfl) (by rw [strs_len]; simp; omega) (strs_closed _) (by rw [hsub]; exact hvars)]
        simp only [RR, IA, PA, RA0, RA1, RA2, RA3, RA4, RA5, RA6, RA7, RA8, RA9, RA10, Nat.reduceAdd, Nat.reduceMul, Nat.reduceEqDiff, Nat.reduceLeDiff, Nat.reduceLT, Int.reduceToNat, Int.reduceLT, Int.reduceLE, Int.reduceEq, Int.reduceNeg, Int.reduceAdd, Int.reduceSub, Int.reduceMul, reduceIte]
      · have hbf : begM z = false := by simpa using hb
        have hkb : decide (kindM z = 91) = false := by
          simp only [decide_eq_false_iff_not]
          intro h
          exact hb (kind_91 h)
        rw [hvm, if_neg hb]
        simp only [h, l1In_ev, hwl, hle, hind, hz, hc, hhd, hkd, e91, hkb, strs_closed, Int.toNat_natCast, Nat.mul_one, Nat.zero_add, TMA, RR, IA, PA, RA0, RA1, RA2, RA3, RA4, RA5, RA6, RA7, RA8, RA9, RA10, Nat.reduceAdd, Nat.reduceMul, Nat.reduceEqDiff, Nat.reduceLeDiff, Nat.reduceLT, Int.reduceToNat, Int.reduceLT, Int.reduceLE, Int.reduceEq, Int.reduceNeg, Int.reduceAdd, Int.reduceSub, Int.reduceMul, reduceIte]
    · have hind : decide (0 ≤ i ∧ i ≤ (L.length : Int) - 1) = false := by simp only [decide_eq_false_iff_not]; exact hin
      have hvm : varsM L i = none := by
        unfold varsM
        by_cases h0 : i < 0
        · rw [if_pos h0]
        · rw [if_neg h0, List.drop_eq_nil_of_le (by omega)]
      rw [hvm]
      simp only [h, l1In_ev, hwl, hind, strs_closed, TMA, RR, IA, PA, RA0, RA1, RA2, RA3, RA4, RA5, RA6, RA7, RA8, RA9, RA10, Nat.reduceAdd, Nat.reduceMul, Nat.reduceEqDiff, Nat.reduceLeDiff, Nat.reduceLT, Int.reduceToNat, Int.reduceLT, Int.reduceLE, Int.reduceEq, Int.reduceNeg, Int.reduceAdd, Int.reduceSub, Int.reduceMul, reduceIte]
end
end Go.Proofs.YtkmnidbodlmaaaaDoor.Ev

/-
Code: the implementation's variables of a loop.
-/
namespace Go.Proofs.YtkmnidbodlmaaaaDoor.Ev
section
set_option linter.unusedVariables false
set_option linter.unusedSimpArgs false
open Go Go.RowKit
set_option linter.unusedVariables false
set_option linter.unusedSimpArgs false
/-- Is it a variable? -/
def varP (x : List UInt8) : Bool := match x with
  | [c] => isVar c
  | _ => false
theorem varP_ev (l : List UInt8) : EE 86 [S l] = some (B (varP l)) := varOk_ev l
theorem lsI_get : ∀ (L : List (List UInt8)) (v : Int) (i : Nat) (x : List UInt8) (r : List (List UInt8)), L.drop i = x :: r → ((lsI v L).drop i).head? = some (if endM x = true then v + sumL (L.take i) - 1 else v + sumL (L.take i))
  | [], v, i, x, r, h => by simp at h
  | y :: L, v, 0, x, r, h => by
    simp only [List.drop_zero, List.cons.injEq] at h
    obtain ⟨rfl, rfl⟩ := h
    simp [lsI, sumL]
  | y :: L, v, i + 1, x, r, h => by
    simp only [List.drop_succ_cons] at h
    have := lsI_get L (v + dL y) i x r h
    simp only [lsI, List.drop_succ_cons, List.take_succ_cons, sumL_cons]
    rw [this]
    congr 1
    split <;> omega
theorem lsI_len : ∀ (L : List (List UInt8)) (v : Int), (lsI v L).length = L.length
  | [], v => rfl
  | x :: L, v => by simp [lsI, lsI_len L]
theorem sum_take {L : List (List UInt8)} {i : Nat} {x : List UInt8} {r : List (List UInt8)} (h : L.drop i = x :: r) : sumL (L.take (i + 1)) = sumL (L.take i) + dL x := by
  obtain ⟨hi, hx, _⟩ := strs_drop_head h
  rw [List.take_add_one, hx, sumL_append]
  simp [sumL]
theorem T_varsAt : TT 61 = some (Tryd.f61, bodyOf Tryd.f61) := by kernel_rfl
theorem varsAt_loop (x : Bool) (L : List (List UInt8)) (hL : L.length < 100000000) (kl a : Nat) (lev : Int) (hlev : ((lsI 0 L).drop a).head? = some lev) (ha : a < L.length) : ∀ (r : List (List UInt8)) (i n : Nat) (d : Int) (M : List (List UInt8)) (e : Nat → AV) (σ : Sto) (nx : Nat) (q : Option (Ex × St)),
    L.drop i = r → i ≤ L.length → r.length < n → 1 ≤ d → sumL (L.take i) = lev + d → clo d r < r.length → M.length ≤ i → roundsE (evC II EE (withOpt [] pf) MX (bodyL Tryd.f61 0)) n ⟨e, σ, nx⟩ = q →
    e 0 = .s x L.length (strs L) → e 1 = N a → e 5 = .w kl 0 L.length → σ kl = some (.row 3 1 L.length (ints (lsI 0 L))) → kl < nx → e 7 = N i → Lst σ nx 9 1 (e 6) M.length (strs M) → kl ∉ own (e 6) →
    ∃ e' σ' nx', q = some (.exit 0, ⟨e', σ', nx'⟩) ∧ Lst σ' nx' 9 1 (e' 6) (M ++ (r.take (clo d r)).filter varP).length (strs (M ++ (r.take (clo d r)).filter varP)) := by
  intro r
  induction r with
  | nil => intro i n d M e σ nx q hd hiL hn hd1 hs hcl; simp at hcl
  | cons z r ih =>
    intro i n d M e σ nx q hd hiL hn hd1 hs hcl hM hq h0 h1 h5 hσ hkl h7 h6 hown
    obtain ⟨hi, hx, hd'⟩ := strs_drop_head hd
    obtain ⟨k, rfl⟩ : ∃ k, n = k + 1 := ⟨n - 1, by omega⟩
    rw [rounds_rd] at hq
    have hc : ((i : Int) < (L.length : Int)) := by omega
    have hz : (0 : Int) ≤ (i : Int) := by omega
    have hca : ((a : Int) < (L.length : Int)) := by omega
    have hza : (0 : Int) ≤ (a : Int) := by omega
    have hw : IntKind.i64.wrap ((i : Int) + 1) = ((i + 1 : Nat) : Int) := by rw [wrap64 (by omega) (by omega)]; rfl
    have hhd : ((strs L).drop i).head? = some (S z) := by rw [strs_drop, hd]; rfl
    have hg := lsI_get L 0 i z r hd
    rw [hs] at hg
    generalize hlz : (if endM z = true then 0 + (lev + d) - 1 else 0 + (lev + d)) = lz at hg
    have hhl : ((ints (lsI 0 L)).drop i).head? = some (N lz) := by rw [ints_drop, ints_head, hg]; rfl
    have hha : ((ints (lsI 0 L)).drop a).head? = some (N lev) := by rw [ints_drop, ints_head, hlev]; rfl
    simp only [bodyL, bodyOf, Tryd.f61, SA, loops, List.nil_append, List.append_nil, List.cons_append, List.getD_cons_zero, List.getD_cons_succ] at hq
    by_cases hstop : endM z = true ∧ d = 1
    · have hcl0 : clo d (z :: r) = 0 := by rw [clo, if_pos hstop]
      have hcmp : ¬ (lev < lz) := by rw [if_pos hstop.1] at hlz; omega
      simp only [h0, h1, h5, h7, hσ, hc, hz, hca, hza, hhl, hha, hcmp, Int.toNat_natCast, Nat.mul_one, Nat.zero_add, RR, IA, PA, RA0, RA1, RA2, RA3, RA4, RA5, RA6, RA7, RA8, RA9, RA10, Nat.reduceAdd, Nat.reduceMul, Nat.reduceEqDiff, Nat.reduceLeDiff, Nat.reduceLT, Int.reduceToNat, Int.reduceLT, Int.reduceLE, Int.reduceEq, Int.reduceNeg, Int.reduceAdd, Int.reduceSub, Int.reduceMul, reduceIte] at hq
      rw [hcl0, List.take_zero]
      simp only [List.filter_nil, List.append_nil]
      exact ⟨_, _, _, hq.symm, lst_mono h6 (by omega)⟩
    · have hclE : clo d (z :: r) = 1 + clo (d + dL z) r := by rw [clo, if_neg hstop]
      have hcmp : (lev < lz) := by
        by_cases he : endM z = true
        · rw [if_pos he] at hlz
          have : d ≠ 1 := fun e => hstop ⟨he, e⟩
          omega
        · rw [if_neg he] at hlz
          omega
      have hdd : 1 ≤ d + dL z := by
        by_cases he : endM z = true
        · have := dL_end he
          have : d ≠ 1 := fun e => hstop ⟨he, e⟩
          omega
        · have : 0 ≤ dL z := by
            unfold dL
            split
            · omega
            · simp [he]
          omega
      have hs' : sumL (L.take (i + 1)) = lev + (d + dL z) := by rw [sum_take hd, hs]; omega
      rw [hclE] at hcl ⊢
      simp only [List.length_cons] at hcl
      have hvo := varP_ev z
      rw [show 1 + clo (d + dL z) r = clo (d + dL z) r + 1 by omega, List.take_succ_cons]
      cases hv : varP z
      · rw [hv] at hvo
        simp only [h0, h1, h5, h7, hσ, hc, hz, hca, hza, hw, hhl, hha, hcmp, hhd, hvo, Int.toNat_natCast, Nat.mul_one, Nat.zero_add, RR, IA, PA, RA0, RA1, RA2, RA3, RA4, RA5, RA6, RA7, RA8, RA9, RA10, Nat.reduceAdd, Nat.reduceMul, Nat.reduceEqDiff, Nat.reduceLeDiff, Nat.reduceLT, Int.reduceToNat, Int.reduceLT, Int.reduceLE, Int.reduceEq, Int.reduceNeg, Int.reduceAdd, Int.reduceSub, Int.reduceMul, reduceIte] at hq
        obtain ⟨e', σ', nx', g1, g2⟩ := ih (i + 1) k (d + dL z) M _ σ _ q hd' (by omega) (by simpa using hn) hdd hs' (by omega) (by omega) hq h0 h1 h5 hσ (by omega) rfl (lst_mono h6 (by omega)) hown
        rw [List.filter_cons_of_neg (by simp [hv])]
        exact ⟨e', σ', nx', g1, g2⟩
      · rw [hv] at hvo
        simp only [h0, h1, h5, h7, hσ, hc, hz, hca, hza, hw, hhl, hha, hcmp, hhd, hvo, Int.toNat_natCast, Nat.mul_one, Nat.zero_add, RR, IA, PA, RA0, RA1, RA2, RA3, RA4, RA5, RA6, RA7, RA8, RA9, RA10, Nat.reduceAdd, Nat.reduceMul, Nat.reduceEqDiff, Nat.reduceLeDiff, Nat.reduceLT, Int.reduceToNat, Int.reduceLT, Int.reduceLE, Int.reduceEq, Int.reduceNeg, Int.reduceAdd, Int.reduceSub, Int.reduceMul, reduceIte] at hq
        rw [lst_app h6 (by decide) (by rfl) (by rfl) (by decide) (by omega) (by omega) (by omega)] at hq
        generalize hτ : appSto _ _ _ _ (e 6) _ _ = τ at hq
        have t1 := (congrFun hτ _).symm.trans (appSto_key ..)
        have t2 : ∀ j, j ≠ _ → j ∉ own (e 6) → τ j = σ j := fun j h1 h2 => (congrFun hτ j).symm.trans (own_other h1 h2)
        clear hτ
        simp only [h7, hw, RR, IA, PA, RA0, RA1, RA2, RA3, RA4, RA5, RA6, RA7, RA8, RA9, RA10, Nat.reduceAdd, Nat.reduceMul, Nat.reduceEqDiff, Nat.reduceLeDiff, Nat.reduceLT, Int.reduceToNat, Int.reduceLT, Int.reduceLE, Int.reduceEq, Int.reduceNeg, Int.reduceAdd, Int.reduceSub, Int.reduceMul, reduceIte] at hq
        have key := fun p1 p2 p3 p4 => ih (i + 1) k (d + dL z) (M ++ [z]) _ τ _ q hd' (by omega) (by simpa using hn) hdd hs' (by omega) (by simp; omega) hq h0 h1 h5 p1 p2 rfl p3 p4
        obtain ⟨e', σ', nx', g1, g2⟩ := key (by rw [t2 kl (by omega) hown, hσ]) (by omega) (by
          have e1 : strs (M ++ [z]) = strs M ++ [S z] := by simp [strs]
          rw [e1, List.length_append, List.length_cons, List.length_nil]
          exact .inr ⟨_, by omega, rfl, t1, by simp [strs_len]⟩) (by
          show kl ∉ [_]
          simp only [List.mem_singleton]
          omega)
        rw [List.filter_cons_of_pos (by simp [hv])]
        refine ⟨e', σ', nx', g1, ?_⟩
        simpa only [List.append_assoc, List.cons_append, List.nil_append] using g2
end
end Go.Proofs.YtkmnidbodlmaaaaDoor.Ev

/-
Code: the implementation's VarsAt.
-/
namespace Go.Proofs.YtkmnidbodlmaaaaDoor.Ev
section
set_option linter.unusedVariables false
set_option linter.unusedSimpArgs false
open Go Go.RowKit
set_option linter.unusedVariables false
set_option linter.unusedSimpArgs false
section
variable {C : Sem1} {pf : FuncId → Nat} {σ : Sto} {key : Nat}
theorem call_row_t {f : FuncId} {id n E sz : Nat} {cs cs' : List AV} (hp : pf f = 2) (hσ : σ id = some (.row E sz n cs)) (hc : closedL cs = true) (hr : C f [lentR n E sz cs] = some (.t [.t [], .t [lentR n E sz cs']])) :
    callOp C pf σ key f [.w id 0 n] = some (.t [], upd σ id (some (.row E sz n cs'))) := by
  rw [call2_eq hp]
  have h1 : needs σ [.w id 0 n] = [] := by
    simp only [needs, need, hσ, deepL_closed 8 hc, List.append_nil]
  have h2 : deepC (pack1 σ) [.w id 0 n] = some ([lentR n E sz cs], [id]) := by
    simp only [deepC, pack1, hσ, deepL_closed 8 hc, Option.map_some, Option.bind_some, if_true, List.append_nil]
  rw [h1]
  simp only [frz0, h2, Option.bind_some, lend1]
  rw [if_pos (by simp), hr]
  have h3 : upd (killL σ [id]) id (some (.row E sz n cs')) = upd σ id (some (.row E sz n cs')) := by
    funext i
    unfold upd killL
    by_cases e : i = id <;> simp [e]
  simp only [Option.bind_some, lend2, h1, frz0, back, lentR, h3]
  rw [if_pos (by simp [room, closedL])]
  rfl
theorem call_row_gone {f : FuncId} {id n E sz E' sz' m : Nat} {cs ds : List AV} (hp : pf f = 2) (hσ : σ id = some (.row E sz n cs)) (hc : closedL cs = true) (hd : closedL ds = true) (hr : C f [lentR n E sz cs] = some (.t [.o E' sz' m ds, .t [.t []]])) :
    callOp C pf σ key f [.w id 0 n] = some (.w key 0 m, upd (killL σ [id]) key (some (.row E' sz' m ds))) := by
  rw [call2_eq hp]
  have h1 : needs σ [.w id 0 n] = [] := by
    simp only [needs, need, hσ, deepL_closed 8 hc, List.append_nil]
  have h2 : deepC (pack1 σ) [.w id 0 n] = some ([lentR n E sz cs], [id]) := by
    simp only [deepC, pack1, hσ, deepL_closed 8 hc, Option.map_some, Option.bind_some, if_true, List.append_nil]
  rw [h1]
  simp only [frz0, h2, Option.bind_some, lend1]
  rw [if_pos (by simp), hr]
  simp only [Option.bind_some, lend2, h1, frz0, back]
  rw [if_pos (by simp [room])]
  exact adopt_o hd
theorem call_goes_s {f : FuncId} {x : AV} (hp : pf f = 2) (hr : C f [.s true 0 []] = some (.t [x, .t [.s true 0 []]])) (hx : closed x = true) (h1 : room x ≤ 4) (h3 : ∀ k, adopt σ k x = some (x, σ)) : callOp C pf σ key f [.s true 0 []] = some (x, σ) := by
  have hk : killL σ [] = σ := by
    funext i
    simp [killL]
  rw [call2_eq hp]
  have e1 : needs σ [.s true 0 []] = [] := rfl
  have e3 : deepC (pack1 (frz0 σ [])) [.s true 0 []] = some ([.s true 0 []], []) := rfl
  rw [e1, e3]
  simp only [Option.bind_some, lend1]
  rw [if_pos (by simp), hr]
  simp only [Option.bind_some, lend2, e1, frz0, back, hk]
  rw [if_pos (by omega)]
  exact h3 _
end
theorem sort_call (L : List (List UInt8)) (hL : L.length < 4611686018427387904) : EE 87 [lentR L.length 9 1 (strs L)] = some (.t [.t [], .t [lentR L.length 9 1 (strs (sortS L))]]) := by
  refine EE_hand ?_
  simp only [hand, lentR, ni, handC, handS, unSL_strs, Option.bind_some]
  rw [if_neg (by decide)]
  simp only
  rw [if_pos ⟨trivial, trivial, rfl, trivial, trivial, hL⟩]
  rfl
theorem compact_call (L : List (List UInt8)) (hL : L.length < 4611686018427387904) : EE 88 [lentR L.length 9 1 (strs L)] = some (.t [.o 9 1 (Lib.compact L).length (strs (Lib.compact L)), .t [.t []]]) := by
  refine EE_hand ?_
  simp only [hand, lentR, ni, handC, handS, unSL_strs, Option.bind_some]
  rw [if_neg (by decide)]
  simp only
  rw [if_pos ⟨trivial, trivial, rfl, trivial, trivial, hL⟩, if_neg (by decide)]
  rfl
theorem sort_call0 : EE 87 [.s true 0 []] = some (.t [.t [], .t [.s true 0 []]]) := EE_hand rfl
theorem compact_call0 : EE 88 [.s true 0 []] = some (.t [.s true 0 [], .t [.s true 0 []]]) := EE_hand rfl
theorem varsAt_ev (x : Bool) (L : List (List UInt8)) (hL : L.length < 100000000) (a : Nat) (z : List UInt8) (r : List (List UInt8)) (hd : L.drop a = z :: r) (hb : begM z = true) (hcl : clo 1 r < r.length) :
    ∃ res, EE 61 [.s x L.length (strs L), N a] = some res ∧ (res = .o 9 1 (Lib.compact (sortS ((r.take (clo 1 r)).filter varP))).length (strs (Lib.compact (sortS ((r.take (clo 1 r)).filter varP)))) ∨ (res = .s true 0 [] ∧ Lib.compact (sortS ((r.take (clo 1 r)).filter varP)) = [])) := by
  have start : ∀ res, (evC II EE (withOpt [] pf) MX (strip (bodyOf Tryd.f61)) (St.init [.s x L.length (strs L), N a])).bind (resK II Tryd.f61.results.toList) = some res → EE 61 [.s x L.length (strs L), N a] = some res := fun res h =>
    EE_plain T_varsAt (by decide) (Nat.le_of_ble_eq_true rfl) (by simp only [closedL, closed, strs_closed, Bool.and_self]) h
  suffices hsuf : ∃ res, (evC II EE (withOpt [] pf) MX (strip (bodyOf Tryd.f61)) (St.init [.s x L.length (strs L), N a])).bind (resK II Tryd.f61.results.toList) = some res ∧ (res = .o 9 1 (Lib.compact (sortS ((r.take (clo 1 r)).filter varP))).length (strs (Lib.compact (sortS ((r.take (clo 1 r)).filter varP)))) ∨ (res = .s true 0 [] ∧ Lib.compact (sortS ((r.take (clo 1 r)).filter varP)) = [])) by
    obtain ⟨res, h1, h2⟩ := hsuf
    exact ⟨res, start res h1, h2⟩
  clear start
  simp only [bodyOf, Tryd.f61, SA]
  obtain ⟨hi, hx, hd'⟩ := strs_drop_head hd
  have hlo := levelsOf_ev x L hL (by omega)
  have hw : IntKind.i64.wrap ((a : Int) + 1) = ((a + 1 : Nat) : Int) := by rw [wrap64 (by omega) (by omega)]; rfl
  simp only [hlo, hw, ints_closed, RR, IA, PA, RA0, RA1, RA2, RA3, RA4, RA5, RA6, RA7, RA8, RA9, RA10, Nat.reduceAdd, Nat.reduceMul, Nat.reduceEqDiff, Nat.reduceLeDiff, Nat.reduceLT, Int.reduceToNat, Int.reduceLT, Int.reduceLE, Int.reduceEq, Int.reduceNeg, Int.reduceAdd, Int.reduceSub, Int.reduceMul, reduceIte]
  generalize hq : roundsE _ _ _ = q
  have hlev := lsI_get L 0 a z r hd
  rw [if_neg (by simp [beg_end hb])] at hlev
  have hst : sumL (L.take (a + 1)) = (0 + sumL (L.take a)) + 1 := by
    rw [sum_take hd]
    have : dL z = 1 := by simp [dL, hb]
    omega
  have hrl : r.length + 1 + a = L.length := by
    have := congrArg List.length hd
    rw [List.length_drop] at this
    simp only [List.length_cons] at this
    omega
  have key := fun p1 p2 p3 p4 p5 p6 p7 p8 => varsAt_loop x L hL 8 a _ hlev hi r (a + 1) MX 1 [] _ _ _ q hd' (by omega) (lt_MX (by omega)) (by omega) hst hcl (Nat.zero_le _) hq p1 p2 p3 p4 p5 p6 p7 p8
  obtain ⟨e', σ', nx', rfl, hlst⟩ := key rfl rfl rfl rfl (by decide) rfl (.inl ⟨rfl, rfl, rfl⟩) (by show 8 ∉ []; simp)
  clear hq key
  rw [List.nil_append] at hlst
  have hMl : ((r.take (clo 1 r)).filter varP).length ≤ L.length := by
    have h1 := List.length_filter_le varP (r.take (clo 1 r))
    have h2 := List.length_take_le (clo 1 r) r
    omega
  generalize (r.take (clo 1 r)).filter varP = M at hlst hMl ⊢
  rcases hlst with ⟨g1, g2, g3⟩ | ⟨id, g1, g2, g3, g4⟩
  · have hM0 : M = [] := by simpa using g2
    subst hM0
    refine ⟨.s true 0 [], ?_, .inr ⟨rfl, by simp [sortS, Lib.compact, Lib.compactUpTo]⟩⟩
    simp only [g1, RR, IA, PA, RA0, RA1, RA2, RA3, RA4, RA5, RA6, RA7, RA8, RA9, RA10, Nat.reduceAdd, Nat.reduceMul, Nat.reduceEqDiff, Nat.reduceLeDiff, Nat.reduceLT, Int.reduceToNat, Int.reduceLT, Int.reduceLE, Int.reduceEq, Int.reduceNeg, Int.reduceAdd, Int.reduceSub, Int.reduceMul, reduceIte]
    rw [call_goes_s (by rfl) sort_call0 rfl (by decide) (fun k => rfl)]
    simp only [g1, RR, IA, PA, RA0, RA1, RA2, RA3, RA4, RA5, RA6, RA7, RA8, RA9, RA10, Nat.reduceAdd, Nat.reduceMul, Nat.reduceEqDiff, Nat.reduceLeDiff, Nat.reduceLT, Int.reduceToNat, Int.reduceLT, Int.reduceLE, Int.reduceEq, Int.reduceNeg, Int.reduceAdd, Int.reduceSub, Int.reduceMul, reduceIte]
    rw [call_goes_s (by rfl) compact_call0 rfl (by decide) (fun k => rfl)]
    simp only [RR, IA, PA, RA0, RA1, RA2, RA3, RA4, RA5, RA6, RA7, RA8, RA9, RA10, Nat.reduceAdd, Nat.reduceMul, Nat.reduceEqDiff, Nat.reduceLeDiff, Nat.reduceLT, Int.reduceToNat, Int.reduceLT, Int.reduceLE, Int.reduceEq, Int.reduceNeg, Int.reduceAdd, Int.reduceSub, Int.reduceMul, reduceIte]
  · refine ⟨_, ?_, .inl rfl⟩
    have hs := sort_call M (by omega)
    have hsl : (sortS M).length = M.length := by simp [sortS, List.length_mergeSort]
    have hc := compact_call (sortS M) (by omega)
    simp only [g2, RR, IA, PA, RA0, RA1, RA2, RA3, RA4, RA5, RA6, RA7, RA8, RA9, RA10, Nat.reduceAdd, Nat.reduceMul, Nat.reduceEqDiff, Nat.reduceLeDiff, Nat.reduceLT, Int.reduceToNat, Int.reduceLT, Int.reduceLE, Int.reduceEq, Int.reduceNeg, Int.reduceAdd, Int.reduceSub, Int.reduceMul, reduceIte]
    rw [call_row_t (E := 9) (sz := 1) (by rfl) g3 (strs_closed _) hs]
    simp only [g2, RR, IA, PA, RA0, RA1, RA2, RA3, RA4, RA5, RA6, RA7, RA8, RA9, RA10, Nat.reduceAdd, Nat.reduceMul, Nat.reduceEqDiff, Nat.reduceLeDiff, Nat.reduceLT, Int.reduceToNat, Int.reduceLT, Int.reduceLE, Int.reduceEq, Int.reduceNeg, Int.reduceAdd, Int.reduceSub, Int.reduceMul, reduceIte]
    rw [hsl] at hc
    rw [call_row_gone (E := 9) (sz := 1) (cs := strs (sortS M)) (by rfl) (by simp only [upd, if_true]) (strs_closed _) (strs_closed _) hc]
    simp only [RR, IA, PA, RA0, RA1, RA2, RA3, RA4, RA5, RA6, RA7, RA8, RA9, RA10, Nat.reduceAdd, Nat.reduceMul, Nat.reduceEqDiff, Nat.reduceLeDiff, Nat.reduceLT, Int.reduceToNat, Int.reduceLT, Int.reduceLE, Int.reduceEq, Int.reduceNeg, Int.reduceAdd, Int.reduceSub, Int.reduceMul, reduceIte]
    exact give_row (by simp [upd]) (strs_closed _)
end
end Go.Proofs.YtkmnidbodlmaaaaDoor.Ev

/-
Code: the variables of a loop, both ways the same list.
-/
namespace Go.Proofs.YtkmnidbodlmaaaaDoor.Ev
section
set_option linter.unusedVariables false
set_option linter.unusedSimpArgs false
open Go Go.RowKit
set_option linter.unusedVariables false
set_option linter.unusedSimpArgs false
abbrev BL := List UInt8
theorem keeps_iff (zs : List BL) (m : Nat) (hm : m < zs.length) : Lib.keeps zs.toArray m = true ↔ m = 0 ∨ zs[m] ≠ zs[m - 1]'(by omega) := by
  have h1 : zs.toArray[m]! = zs[m] := by simp [getElem!_pos, hm]
  have h2 : zs.toArray[m - 1]! = zs[m - 1]'(by omega) := by rw [getElem!_pos _ _ (by simp; omega)]; simp
  by_cases h0 : m = 0
  · subst h0
    simp [Lib.keeps_lt_one _ 0 (by omega)]
  · by_cases he : zs[m] = zs[m - 1]'(by omega)
    · have := Lib.keeps_neg (d := zs.toArray) (by omega : 0 < m) (by rw [h1, h2]; exact he)
      simp [this, h0, he]
    · have := Lib.keeps_pos (d := zs.toArray) (m := m) (by rw [h1, h2]; exact he)
      simp [this, he]
theorem compact_up (zs : List BL) (hs : zs.Pairwise (· ≤ ·)) : ∀ m, m ≤ zs.length → (Lib.compactUpTo zs.toArray m).Pairwise (· < ·) ∧ ∀ x, x ∈ Lib.compactUpTo zs.toArray m ↔ x ∈ zs.take m := by
  intro m
  induction m with
  | zero => intro _; simp [Lib.compactUpTo]
  | succ m ih =>
    intro hm
    obtain ⟨h1, h2⟩ := ih (by omega)
    have hml : m < zs.length := by omega
    have hd : zs.toArray[m]! = zs[m] := by simp [getElem!_pos, hml]
    rw [Lib.compactUpTo_succ, hd, List.take_succ_eq_append_getElem hml]
    have hk := keeps_iff zs m hml
    have hsl := List.pairwise_iff_getElem.1 hs
    by_cases hke : Lib.keeps zs.toArray m = true
    · rw [if_pos hke]
      refine ⟨List.pairwise_append.2 ⟨h1, by simp, ?_⟩, fun x => by rw [List.mem_append, h2, List.mem_append]⟩
      intro a ha b hb
      simp only [List.mem_singleton] at hb
      subst hb
      rw [h2, List.mem_take_iff_getElem] at ha
      obtain ⟨j, hj, rfl⟩ := ha
      have hj' : j < m := by omega
      have hle := hsl j m (by omega) hml hj'
      have hm1 : zs[m] ≠ zs[m - 1]'(by omega) := by
        rcases hk.1 hke with h | h
        · omega
        · exact h
      refine List.not_le.1 fun hge => hm1 ?_
      have hjm : zs[j] ≤ zs[m - 1]'(by omega) := by
        by_cases hjj : j = m - 1
        · subst hjj; exact List.le_refl _
        · exact hsl j (m - 1) (by omega) (by omega) (by omega)
      have hmm : zs[m - 1]'(by omega) ≤ zs[m] := hsl (m - 1) m (by omega) hml (by omega)
      exact List.le_antisymm (List.le_trans hge hjm) hmm
    · rw [if_neg hke, List.append_nil]
      refine ⟨h1, fun x => ?_⟩
      rw [h2]
      simp only [List.mem_append, List.mem_singleton]
      constructor
      · exact .inl
      · rintro (h | rfl)
        · exact h
        · have hn : ¬ (m = 0 ∨ zs[m] ≠ zs[m - 1]'(by omega)) := fun h => hke (hk.2 h)
          have hm0 : m ≠ 0 := fun h => hn (.inl h)
          have he : zs[m] = zs[m - 1]'(by omega) := Classical.byContradiction fun h => hn (.inr h)
          rw [he, List.mem_take_iff_getElem]
          exact ⟨m - 1, by omega, rfl⟩
theorem compact_mem {zs : List BL} (hs : zs.Pairwise (· ≤ ·)) : (Lib.compact zs).Pairwise (· < ·) ∧ ∀ x, x ∈ Lib.compact zs ↔ x ∈ zs := by
  have h := compact_up zs hs zs.length (Nat.le_refl _)
  rw [List.take_length] at h
  exact h
theorem sort_pw (L : List BL) : (sortS L).Pairwise (· ≤ ·) := by
  have h := List.pairwise_mergeSort (le := fun (x y : BL) => decide (x ≤ y)) (fun a b c h1 h2 => by
    simp only [decide_eq_true_eq] at h1 h2 ⊢
    exact List.le_trans h1 h2) (fun a b => by
    simp only [Bool.or_eq_true, decide_eq_true_eq]
    exact List.le_total a b) L
  exact h.imp (by simp)
theorem sort_mem (L : List BL) (x : BL) : x ∈ sortS L ↔ x ∈ L := List.mem_mergeSort
/-- Two lists in strict order that hold the same are the same. -/
theorem pw_uniq : ∀ (a b : List BL), a.Pairwise (· < ·) → b.Pairwise (· < ·) → (∀ x, x ∈ a ↔ x ∈ b) → a = b
  | [], [], _, _, _ => rfl
  | [], y :: b, _, _, h => by have := (h y).2 (by simp); simp at this
  | x :: a, [], _, _, h => by have := (h x).1 (by simp); simp at this
  | x :: a, y :: b, ha, hb, h => by
    rw [List.pairwise_cons] at ha hb
    have hxy : x = y := by
      have h1 : x ∈ y :: b := (h x).1 (by simp)
      have h2 : y ∈ x :: a := (h y).2 (by simp)
      simp only [List.mem_cons] at h1 h2
      rcases h1 with h1 | h1
      · exact h1
      · rcases h2 with h2 | h2
        · exact h2.symm
        · exact absurd (hb.1 x h1) (List.lt_asymm (ha.1 y h2))
    subst hxy
    congr 1
    refine pw_uniq a b ha.2 hb.2 fun z => ?_
    constructor
    · intro hz
      have h1 : z ∈ x :: b := (h z).1 (by simp [hz])
      simp only [List.mem_cons] at h1
      rcases h1 with rfl | h1
      · exact absurd (ha.1 z hz) (List.lt_irrefl z)
      · exact h1
    · intro hz
      have h1 : z ∈ x :: a := (h z).2 (by simp [hz])
      simp only [List.mem_cons] at h1
      rcases h1 with rfl | h1
      · exact absurd (hb.1 z hz) (List.lt_irrefl z)
      · exact h1
theorem varP_iff (x : BL) : varP x = true ↔ x ∈ V7 := by
  unfold varP
  split
  · rename_i c
    simp [isVar, V7]
  · rename_i h
    simp only [Bool.false_eq_true, false_iff]
    intro hx
    simp only [V7, List.mem_cons, List.not_mem_nil, or_false] at hx
    rcases hx with rfl | rfl | rfl | rfl | rfl | rfl | rfl <;> exact h _ rfl
theorem v7_pw : V7.Pairwise (· < ·) := by decide
theorem vars_both (z : BL) (hz : begM z = true) (body : List BL) : Lib.compact (sortS (body.filter varP)) = V7.filter fun v => (z :: body).contains v := by
  have h := compact_mem (sort_pw (body.filter varP))
  refine pw_uniq _ _ h.1 (v7_pw.filter _) fun x => ?_
  rw [h.2, sort_mem, List.mem_filter, List.mem_filter, varP_iff]
  have hzx : x ∈ V7 → x ≠ z := by
    intro hx he
    subst he
    simp only [V7, List.mem_cons, List.not_mem_nil, or_false] at hx
    rcases hx with rfl | rfl | rfl | rfl | rfl | rfl | rfl <;> cases hz
  simp only [List.contains_cons, Bool.or_eq_true, beq_iff_eq, List.contains_eq_mem, decide_eq_true_eq]
  constructor
  · rintro ⟨h1, h2⟩
    exact ⟨h2, List.mem_cons_of_mem _ h1⟩
  · rintro ⟨h1, h2⟩
    rcases List.mem_cons.1 h2 with h2 | h2
    · exact absurd h2 (hzx h1)
    · exact ⟨h2, h1⟩
theorem join_nil (l : List BL) : Lib.join l [] = l.flatten := by
  rw [Lib.join]
  induction l with
  | nil => rfl
  | cons x l ih =>
    cases l with
    | nil => simp [List.intercalate]
    | cons y l =>
      rw [List.intercalate_cons_cons, ih]
      simp
end
end Go.Proofs.YtkmnidbodlmaaaaDoor.Ev

/-
Code: the implementation's VarsAt, and the law.
-/
namespace Go.Proofs.YtkmnidbodlmaaaaDoor.Ev
section
set_option linter.unusedVariables false
set_option linter.unusedSimpArgs false
open Go Go.RowKit
set_option linter.unusedVariables false
set_option linter.unusedSimpArgs false
theorem strs_flat {E n : Nat} (l : List (List UInt8)) : flat (.o E 1 n (strs l)) = true := by
  show (strs l).all plain = true
  induction l with
  | nil => rfl
  | cons x l ih => simp [strs, plain]
/-- A call that is given a row and gives nothing. -/
theorem call0_wz {C : Sem1} {pf' : FuncId → Nat} {σ : Sto} {key : Nat} {f : FuncId} {id n E sz N' : Nat} {cs ys : List AV} (hσ : σ id = some (.row E sz N' cs)) (hp : pf' f = 0) (hl : cs.length = n * sz) (hc : closedL cs = true) (hy : closedL ys = true) (hr : C f (.s false n cs :: ys) = some (.s true 0 [])) :
    callOp C pf' σ key f (.w id 0 n :: ys) = some (.s true 0 [], frz σ 8 [id]) := by
  unfold callOp
  rw [if_neg (by omega), if_neg (by omega)]
  have h1 : deep σ 8 (.w id 0 n) = some (.s false n cs, [id]) := by
    rw [deep_w 7 hσ (by omega) hc, List.drop_zero, List.take_of_length_le (by omega)]
  have h2 : deepC (deep σ 8) (.w id 0 n :: ys) = some (.s false n cs :: ys, [id]) := by
    simp only [deepC, h1, Option.bind_some, deepL_closed 8 hy, Option.map_some, List.append_nil]
  rw [h2]
  simp only [Option.bind_some, hr]
  rw [if_neg (by simp [flat, flat1])]
  rfl
/-- A call that is given a row and plain things and gives a flat answer. -/
theorem call0_wx {C : Sem1} {pf' : FuncId → Nat} {σ : Sto} {key : Nat} {f : FuncId} {id n E sz N' : Nat} {cs ys : List AV} {r : AV} (hσ : σ id = some (.row E sz N' cs)) (hp : pf' f = 0) (hl : cs.length = n * sz) (hc : closedL cs = true) (hy : closedL ys = true) (hr : C f (.s false n cs :: ys) = some r) (hf : flat r = true) :
    callOp C pf' σ key f (.w id 0 n :: ys) = adopt σ key r := by
  unfold callOp
  rw [if_neg (by omega), if_neg (by omega)]
  have h1 : deep σ 8 (.w id 0 n) = some (.s false n cs, [id]) := by
    rw [deep_w 7 hσ (by omega) hc, List.drop_zero, List.take_of_length_le (by omega)]
  have h2 : deepC (deep σ 8) (.w id 0 n :: ys) = some (.s false n cs :: ys, [id]) := by
    simp only [deepC, h1, Option.bind_some, deepL_closed 8 hy, Option.map_some, List.append_nil]
  rw [h2]
  simp only [Option.bind_some, hr]
  rw [if_pos (.inr hf)]
theorem joinN_ev (ex : Bool) (l : List (List UInt8)) (h1 : l.length ≤ 140737488355328) (h2 : l.flatten.length ≤ 140737488355328) : EE 60 [.s ex l.length (strs l), S []] = some (S l.flatten) := by
  refine EE_hand ?_
  simp only [hand, handJ, unSL_strs, Option.bind_some, if_true, true_and]
  have hj : Lib.join l [] = l.flatten := join_nil l
  rw [if_pos ⟨h1, by simpa [hj] using h2⟩]
  exact congrArg (fun z => some (S z)) hj
theorem flat_ones : ∀ (K : List (List UInt8)), (∀ v ∈ K, v.length = 1) → K.flatten.length = K.length
  | [], _ => rfl
  | x :: K, h => by
    have h1 := h x (by simp)
    have h2 := flat_ones K fun v hv => h v (List.mem_cons_of_mem _ hv)
    simp only [List.flatten_cons, List.length_append, List.length_cons]
    omega
theorem T_implVarsAt : TT 32 = some (Tryd.f32, bodyOf Tryd.f32) := by kernel_rfl
theorem implVarsAt_ev (code : List UInt8) (i : Int) (hl : code.length < 50000000) (hi : (Lit.int .i64 i).wf = true) : EE 32 [S code, N i] = some (match (if (specB code).isSome = true then varsM (cutL 32 code) i else none) with | some o => .t [S o, B true] | none => .t [S [], B false]) := by
  refine EE_plain T_implVarsAt (by decide) (Nat.le_of_ble_eq_true rfl) rfl ?_
  rw [show opt 32 = [] from rfl]
  simp only [bodyOf, Tryd.f32, SA]
  have h := implInstructionsOf_ev code hl
  cases hs : specB code with
  | none =>
    rw [hs] at h
    simp only [Option.isSome_none, Bool.false_eq_true, if_false] at h ⊢
    by_cases h0 : i < 0
    · simp only [h, h0, RR, IA, PA, RA0, RA1, RA2, RA3, RA4, RA5, RA6, RA7, RA8, RA9, RA10, Nat.reduceAdd, Nat.reduceMul, Nat.reduceEqDiff, Nat.reduceLeDiff, Nat.reduceLT, Int.reduceToNat, Int.reduceLT, Int.reduceLE, Int.reduceEq, Int.reduceNeg, Int.reduceAdd, Int.reduceSub, Int.reduceMul, reduceIte]
    · have h1 : (0 : Int) ≤ i := by omega
      simp only [h, h0, h1, RR, IA, PA, RA0, RA1, RA2, RA3, RA4, RA5, RA6, RA7, RA8, RA9, RA10, Nat.reduceAdd, Nat.reduceMul, Nat.reduceEqDiff, Nat.reduceLeDiff, Nat.reduceLT, Int.reduceToNat, Int.reduceLT, Int.reduceLE, Int.reduceEq, Int.reduceNeg, Int.reduceAdd, Int.reduceSub, Int.reduceMul, reduceIte]
  | some w =>
    obtain ⟨t, hh, lv⟩ := w
    rw [hs] at h
    simp only [Option.isSome_some, if_true] at h ⊢
    obtain ⟨_, hw, hcl, hrun, _⟩ := spec_impl hs
    rw [← hcl] at hrun
    have hcll := cutL_len 32 code
    generalize cutL 32 code = L at h hrun hcll ⊢
    have hvm1 : (i < 0 ∨ (L.length : Int) ≤ i) → varsM L i = none := by
      intro hx
      unfold varsM
      by_cases h0 : i < 0
      · rw [if_pos h0]
      · rw [if_neg h0, List.drop_eq_nil_of_le (by omega)]
    by_cases h0 : i < 0
    · rw [hvm1 (.inl h0)]
      simp only [h, h0, strs_closed, RR, IA, PA, RA0, RA1, RA2, RA3, RA4, RA5, RA6, RA7, RA8, RA9, RA10, Nat.reduceAdd, Nat.reduceMul, Nat.reduceEqDiff, Nat.reduceLeDiff, Nat.reduceLT, Int.reduceToNat, Int.reduceLT, Int.reduceLE, Int.reduceEq, Int.reduceNeg, Int.reduceAdd, Int.reduceSub, Int.reduceMul, reduceIte]
    · obtain ⟨k, rfl⟩ := Int.eq_ofNat_of_zero_le (by omega : 0 ≤ i)
      by_cases hk : (L.length : Int) ≤ (k : Int)
      · rw [hvm1 (.inr hk)]
        simp only [h, h0, hk, strs_closed, RR, IA, PA, RA0, RA1, RA2, RA3, RA4, RA5, RA6, RA7, RA8, RA9, RA10, Nat.reduceAdd, Nat.reduceMul, Nat.reduceEqDiff, Nat.reduceLeDiff, Nat.reduceLT, Int.reduceToNat, Int.reduceLT, Int.reduceLE, Int.reduceEq, Int.reduceNeg, Int.reduceAdd, Int.reduceSub, Int.reduceMul, reduceIte]
      · obtain ⟨z, r, hd⟩ : ∃ z r, L.drop k = z :: r := by
          cases hd : L.drop k with
          | nil => have := congrArg List.length hd; simp at this; omega
          | cons z r => exact ⟨z, r, rfl⟩
        have hhd : ((strs L).drop k).head? = some (S z) := by rw [strs_drop, hd]; rfl
        have hz : (0 : Int) ≤ (k : Int) := by omega
        have hc : ((k : Int) < (L.length : Int)) := by omega
        have hbe := begins_ev z
        have hvm : varsM L (k : Int) = if begM z = true then some ((V7.filter fun v => (z :: r.take (clo 1 r)).contains v).flatten) else none := by
          unfold varsM
          rw [if_neg (by omega), Int.toNat_natCast, hd]
        rw [hvm]
        cases hb : begM z with
        | false =>
          rw [hb] at hbe
          simp only [h, h0, hk, hz, hc, hhd, hbe, strs_closed, Int.toNat_natCast, Nat.mul_one, Nat.zero_add, RR, IA, PA, RA0, RA1, RA2, RA3, RA4, RA5, RA6, RA7, RA8, RA9, RA10, Nat.reduceAdd, Nat.reduceMul, Nat.reduceEqDiff, Nat.reduceLeDiff, Nat.reduceLT, Int.reduceToNat, Int.reduceLT, Int.reduceLE, Int.reduceEq, Int.reduceNeg, Int.reduceAdd, Int.reduceSub, Int.reduceMul, reduceIte]
        | true =>
          rw [hb] at hbe
          obtain ⟨hclo, _⟩ := clo_ok hrun hd hb
          have hK := vars_both z hb (r.take (clo 1 r))
          obtain ⟨res, hv, hres⟩ := varsAt_ev false L (by omega) k z r hd hb hclo
          rw [hK] at hres
          have hKs : (V7.filter (fun v => (z :: r.take (clo 1 r)).contains v)).length ≤ 7 ∧ (V7.filter (fun v => (z :: r.take (clo 1 r)).contains v)).flatten.length ≤ 100 := by
            have h1 : (V7.filter (fun v => (z :: r.take (clo 1 r)).contains v)).Sublist V7 := List.filter_sublist
            have h2 := h1.length_le
            have h3 := flat_ones (V7.filter (fun v => (z :: r.take (clo 1 r)).contains v)) fun v hv => (by decide : ∀ v ∈ V7, v.length = 1) v (List.mem_filter.1 hv).1
            have e1 : V7.length = 7 := rfl
            exact ⟨by omega, by omega⟩
          generalize V7.filter (fun v => (z :: r.take (clo 1 r)).contains v) = K at hres hKs ⊢
          simp only [h, h0, hk, hz, hc, hhd, hbe, strs_closed, Int.toNat_natCast, Nat.mul_one, Nat.zero_add, RR, IA, PA, RA0, RA1, RA2, RA3, RA4, RA5, RA6, RA7, RA8, RA9, RA10, Nat.reduceAdd, Nat.reduceMul, Nat.reduceEqDiff, Nat.reduceLeDiff, Nat.reduceLT, Int.reduceToNat, Int.reduceLT, Int.reduceLE, Int.reduceEq, Int.reduceNeg, Int.reduceAdd, Int.reduceSub, Int.reduceMul, reduceIte]
          rcases hres with rfl | ⟨rfl, rfl⟩
          · have hj := joinN_ev false K (by omega) (by omega)
            rw [call0_wx (E := 9) (sz := 1) (cs := strs L) (by rfl) (by rfl) (by rw [strs_len, Nat.mul_one]) (strs_closed _) (by rfl) (by exact hv) (strs_flat _)]
            simp only [RR, IA, PA, RA0, RA1, RA2, RA3, RA4, RA5, RA6, RA7, RA8, RA9, RA10, Nat.reduceAdd, Nat.reduceMul, Nat.reduceEqDiff, Nat.reduceLeDiff, Nat.reduceLT, Int.reduceToNat, Int.reduceLT, Int.reduceLE, Int.reduceEq, Int.reduceNeg, Int.reduceAdd, Int.reduceSub, Int.reduceMul, reduceIte]
            rw [call0_w (E := 9) (sz := 1) (N' := K.length) (cs := strs K) (by simp only [upd, if_true]) (by rfl) (by rw [strs_len, Nat.mul_one]) (strs_closed _) (by rfl) (by exact hj)]
            simp only [RR, IA, PA, RA0, RA1, RA2, RA3, RA4, RA5, RA6, RA7, RA8, RA9, RA10, Nat.reduceAdd, Nat.reduceMul, Nat.reduceEqDiff, Nat.reduceLeDiff, Nat.reduceLT, Int.reduceToNat, Int.reduceLT, Int.reduceLE, Int.reduceEq, Int.reduceNeg, Int.reduceAdd, Int.reduceSub, Int.reduceMul, reduceIte]
          · have hj := joinN_ev true [] (by decide) (by decide)
            have hj0 : EE 60 [.s true 0 [], S []] = some (S []) := hj
            rw [call0_wz (E := 9) (sz := 1) (cs := strs L) (by rfl) (by rfl) (by rw [strs_len, Nat.mul_one]) (strs_closed _) (by rfl) (by exact hv)]
            simp only [RR, IA, PA, RA0, RA1, RA2, RA3, RA4, RA5, RA6, RA7, RA8, RA9, RA10, Nat.reduceAdd, Nat.reduceMul, Nat.reduceEqDiff, Nat.reduceLeDiff, Nat.reduceLT, Int.reduceToNat, Int.reduceLT, Int.reduceLE, Int.reduceEq, Int.reduceNeg, Int.reduceAdd, Int.reduceSub, Int.reduceMul, reduceIte]
            simp only [hj0, RR, IA, PA, RA0, RA1, RA2, RA3, RA4, RA5, RA6, RA7, RA8, RA9, RA10, Nat.reduceAdd, Nat.reduceMul, Nat.reduceEqDiff, Nat.reduceLeDiff, Nat.reduceLT, Int.reduceToNat, Int.reduceLT, Int.reduceLE, Int.reduceEq, Int.reduceNeg, Int.reduceAdd, Int.reduceSub, Int.reduceMul, reduceIte]
            rfl
theorem T_lawVarsAt : TT 9 = some (Tryd.f9, bodyOf Tryd.f9) := by kernel_rfl
theorem varsAt_law (code : List UInt8) (i : Int) (hi : (Lit.int .i64 i).wf = true) : EE 9 [S code, N i] = some (B true) := by
  refine EE_plain T_lawVarsAt (by decide) (Nat.le_of_ble_eq_true rfl) rfl ?_
  rw [show opt 9 = [] from rfl]
  simp only [bodyOf, Tryd.f9, SA]
  by_cases hbig : (1048576 : Int) < (code.length : Int)
  · simp only [hbig, RR, IA, PA, RA0, RA1, RA2, RA3, RA4, RA5, RA6, RA7, RA8, RA9, RA10, Nat.reduceAdd, Nat.reduceMul, Nat.reduceEqDiff, Nat.reduceLeDiff, Nat.reduceLT, Int.reduceToNat, Int.reduceLT, Int.reduceLE, Int.reduceEq, Int.reduceNeg, Int.reduceAdd, Int.reduceSub, Int.reduceMul, reduceIte]
  · have hl : code.length < 50000000 := by omega
    have h := implVarsAt_ev code i hl hi
    have k := specVarsAt_ev code i hl hi
    generalize (if (specB code).isSome = true then varsM (cutL 32 code) i else none) = o at h k
    cases o with
    | none => simp only [hbig, h, k, TMA, RR, IA, PA, RA0, RA1, RA2, RA3, RA4, RA5, RA6, RA7, RA8, RA9, RA10, Nat.reduceAdd, Nat.reduceMul, Nat.reduceEqDiff, Nat.reduceLeDiff, Nat.reduceLT, Int.reduceToNat, Int.reduceLT, Int.reduceLE, Int.reduceEq, Int.reduceNeg, Int.reduceAdd, Int.reduceSub, Int.reduceMul, reduceIte]
    | some o =>
      have he : (o == o) = true := by simp
      simp only [hbig, h, k, he, TMA, RR, IA, PA, RA0, RA1, RA2, RA3, RA4, RA5, RA6, RA7, RA8, RA9, RA10, Nat.reduceAdd, Nat.reduceMul, Nat.reduceEqDiff, Nat.reduceLeDiff, Nat.reduceLT, Int.reduceToNat, Int.reduceLT, Int.reduceLE, Int.reduceEq, Int.reduceNeg, Int.reduceAdd, Int.reduceSub, Int.reduceMul, reduceIte]
end
end Go.Proofs.YtkmnidbodlmaaaaDoor.Ev
