/-
Texts Vn to Vq of the work, in one.
-/
import Derived.Test.YtkmnidbodlmaaaaDoorZ6
/-
Code: the implementation's InstructionsOf, HeightsOf, LevelsAt.
-/
namespace Go.Proofs.YtkmnidbodlmaaaaDoor.Ev
section
set_option linter.unusedVariables false
set_option linter.unusedSimpArgs false
open Go Go.RowKit
set_option linter.unusedVariables false
set_option linter.unusedSimpArgs false
theorem T_implInstructionsOf : TT 25 = some (Tryd.f25, bodyOf Tryd.f25) := by kernel_rfl
theorem implInstructionsOf_ev (code : List UInt8) (hl : code.length < 50000000) : EE 25 [S code] = some (if (specB code).isSome = true then .o 9 1 (cutL 32 code).length (strs (cutL 32 code)) else .s true 0 []) := by
  refine EE_plain T_implInstructionsOf (by decide) (Nat.le_of_ble_eq_true rfl) rfl ?_
  rw [show opt 25 = [] from rfl]
  simp only [bodyOf, Tryd.f25, SA]
  have h := implCodeValid_ev code hl
  have hcut := split_ev code 32 (by omega)
  cases hs : (specB code).isSome
  · rw [hs] at h
    simp only [h, RR, IA, PA, RA0, RA1, RA2, RA3, RA4, RA5, RA6, RA7, RA8, RA9, RA10, Nat.reduceAdd, Nat.reduceMul, Nat.reduceEqDiff, Nat.reduceLeDiff, Nat.reduceLT, Int.reduceToNat, Int.reduceLT, Int.reduceLE, Int.reduceEq, Int.reduceNeg, Int.reduceAdd, Int.reduceSub, Int.reduceMul, reduceIte]
  · rw [hs] at h
    simp only [h, hcut, strs_closed, RR, IA, PA, RA0, RA1, RA2, RA3, RA4, RA5, RA6, RA7, RA8, RA9, RA10, Nat.reduceAdd, Nat.reduceMul, Nat.reduceEqDiff, Nat.reduceLeDiff, Nat.reduceLT, Int.reduceToNat, Int.reduceLT, Int.reduceLE, Int.reduceEq, Int.reduceNeg, Int.reduceAdd, Int.reduceSub, Int.reduceMul, reduceIte]
    exact give_row (by simp [upd]) (strs_closed _)
/-- Pieces as HeightsOf walks them: of one byte if they begin nothing. -/
def Plain (s : List UInt8) : Prop := begM s = false → ∃ a, s = [a]
theorem list_plain : ∀ t, WF t → ∀ y ∈ listT t, Plain y := by
  intro t
  induction t with
  | dig c => intro hw y hy; simp only [listT, List.mem_singleton] at hy; subst hy; exact fun _ => ⟨c, rfl⟩
  | var c => intro hw y hy; simp only [listT, List.mem_singleton] at hy; subst hy; exact fun _ => ⟨c, rfl⟩
  | one s x ih =>
    intro hw y hy
    simp only [listT, List.mem_append, List.mem_singleton] at hy
    rcases hy with hy | rfl
    · exact ih hw.2 y hy
    · exact fun _ => ⟨s, rfl⟩
  | two s x y ihx ihy =>
    intro hw z hz
    simp only [listT, List.mem_append, List.mem_singleton] at hz
    rcases hz with (hz | hz) | rfl
    · exact ihx hw.2.1 z hz
    · exact ihy hw.2.2 z hz
    · exact fun _ => ⟨s, rfl⟩
  | loop s v x y ihx ihy =>
    intro hw z hz
    simp only [listT, List.mem_append, List.mem_singleton] at hz
    rcases hz with ((hz | rfl) | hz) | rfl
    · exact ihx hw.2.2.1 z hz
    · intro hb
      have : begM [s, v] = true := by simpa [begM] using hw.1
      rw [this] at hb; cases hb
    · exact ihy hw.2.2.2 z hz
    · exact fun _ => ⟨s + 2, rfl⟩
theorem T_implHeightsOf : TT 18 = some (Tryd.f18, bodyOf Tryd.f18) := by kernel_rfl
theorem arM_bounds (s : List UInt8) : 0 ≤ arM s ∧ arM s ≤ 2 := by
  unfold arM
  split
  · split
    · omega
    · split <;> omega
  · omega
/-- One number more in a slice of numbers. -/
theorem heights_loop (kL : Nat) (L : List (List UInt8)) (hL : L.length < 100000000) (hpl : ∀ y ∈ L, Plain y) : ∀ (r : List (List UInt8)) (i n : Nat) (h : Int) (out : List Int) (e : Nat → AV) (σ : Sto) (nx : Nat) (q : Option (Ex × St)),
    L.drop i = r → i ≤ L.length → r.length < n → out.length = i → -(i : Int) ≤ h → h ≤ i → roundsE (evC II EE (withOpt [] pf) MX (bodyL Tryd.f18 0)) n ⟨e, σ, nx⟩ = q →
    e 13 = .w kL 0 L.length → σ kL = some (.row 9 1 L.length (strs L)) → kL < nx → e 14 = N L.length → e 15 = N i → e 5 = N h → Lst σ nx 3 1 (e 4) i (ints out) → kL ∉ own (e 4) →
    ∃ e' σ' nx', q = some (.exit 0, ⟨e', σ', nx'⟩) ∧ Lst σ' nx' 3 1 (e' 4) L.length (ints (out ++ hsI h r)) := by
  intro r
  induction r with
  | nil =>
    intro i n h out e σ nx q hd hiL hn ho hb1 hb2 hq h13 hsL hkn h14 h15 h5 h4 hown
    have hlen : L.length ≤ i := by simpa using hd
    have hiE : i = L.length := by omega
    subst hiE
    obtain ⟨k, rfl⟩ : ∃ k, n = k + 1 := ⟨n - 1, by omega⟩
    rw [rounds_rd] at hq
    have hc : ¬ ((L.length : Int) < (L.length : Int)) := by omega
    simp only [bodyL, bodyOf, Tryd.f18, SA, loops, List.nil_append, List.append_nil, List.cons_append, List.getD_cons_zero, List.getD_cons_succ] at hq
    simp only [h14, h15, hc, IA, PA, RA0, RA1, RA2, RA3, RA4, RA5, RA6, RA7, RA8, RA9, RA10, Nat.reduceAdd, Nat.reduceMul, Nat.reduceEqDiff, Nat.reduceLeDiff, Nat.reduceLT, Int.reduceToNat, Int.reduceLT, Int.reduceLE, Int.reduceEq, Int.reduceNeg, Int.reduceAdd, Int.reduceSub, Int.reduceMul, reduceIte] at hq
    refine ⟨_, _, _, hq.symm, ?_⟩
    rw [hsI, List.append_nil]
    exact lst_mono h4 (by omega)
  | cons x r ih =>
    intro i n h out e σ nx q hd hiL hn ho hb1 hb2 hq h13 hsL hkn h14 h15 h5 h4 hown
    obtain ⟨hi, hx, hd'⟩ := strs_drop_head hd
    obtain ⟨k, rfl⟩ : ∃ k, n = k + 1 := ⟨n - 1, by omega⟩
    rw [rounds_rd] at hq
    have hc : ((i : Int) < (L.length : Int)) := by omega
    have hz : (0 : Int) ≤ (i : Int) := by omega
    have hw : IntKind.i64.wrap ((i : Int) + 1) = ((i + 1 : Nat) : Int) := by rw [wrap64 (by omega) (by omega)]; rfl
    have hhd : ((strs L).drop i).head? = some (S x) := by rw [strs_drop, hd]; rfl
    have hbe := begins_ev x
    have hen := isEnd_ev x
    simp only [bodyL, bodyOf, Tryd.f18, SA, loops, List.nil_append, List.append_nil, List.cons_append, List.getD_cons_zero, List.getD_cons_succ] at hq
    have hfin : ∀ (key : Nat) (τ : Sto) (e2 : Nat → AV) (nx2 : Nat) (q' : Option (Ex × St)), roundsE (evC II EE (withOpt [] pf) MX (bodyL Tryd.f18 0)) k ⟨e2, τ, nx2⟩ = q' → nx ≤ key → key < nx2 → (∀ j, j ≠ key → j ∉ own (e 4) → τ j = σ j) → τ key = some (.row 3 1 (i + 1) (ints out ++ [N (h + dH x)])) →
        e2 13 = .w kL 0 L.length → e2 14 = N L.length → e2 15 = N (i + 1 : Nat) → e2 5 = N (h + dH x) → e2 4 = .w key 0 (i + 1) →
        ∃ e' σ' nx', q' = some (.exit 0, ⟨e', σ', nx'⟩) ∧ Lst σ' nx' 3 1 (e' 4) L.length (ints (out ++ hsI h (x :: r))) := by
      intro key τ e2 nx2 q' hq' hk1 hk2 hτ hτk g13 g14 g15 g5 g4
      have hdl : dH x ≤ 1 := dH_le x
      have hdg : -1 ≤ dH x := by
        have := arM_bounds x
        unfold dH
        split
        · omega
        split <;> omega
      have := ih (i + 1) k (h + dH x) (out ++ [h + dH x]) e2 τ nx2 q' hd' (by omega) (by simpa using hn) (by simp [ho]) (by omega) (by omega) hq' g13 (by rw [hτ kL (by omega) hown, hsL]) (by omega) g14 g15 g5
        (by rw [g4]; exact .inr ⟨key, hk2, rfl, by rw [hτk, ← ints_append]; rfl, by rw [ints_len]; simp [ho]⟩) (by rw [g4]; simp only [own, List.mem_singleton]; omega)
      rw [hsI]
      simpa using this
    cases hb : begM x
    · obtain ⟨a, rfl⟩ := hpl x (List.mem_of_getElem? hx) hb
      rw [hb] at hbe
      have har := arity_ev a
      have hab := arM_bounds [a]
      cases he : endM [a]
      · rw [he] at hen
        have hdh : dH [a] = 1 - arM [a] := by simp [dH, hb, he]
        have hw1 : IntKind.i64.wrap (1 - arM [a]) = 1 - arM [a] := by rw [wrap64 (by omega) (by omega)]
        have hw2 : IntKind.i64.wrap (h + (1 - arM [a])) = h + dH [a] := by rw [hdh, wrap64 (by omega) (by omega)]
        simp only [h13, h14, h15, h5, hsL, hc, hz, hw, hhd, hbe, hen, har, hw1, hw2, Int.toNat_natCast, Nat.mul_one, Nat.zero_add, RR, IA, PA, RA0, RA1, RA2, RA3, RA4, RA5, RA6, RA7, RA8, RA9, RA10, Nat.reduceAdd, Nat.reduceMul, Nat.reduceEqDiff, Nat.reduceLeDiff, Nat.reduceLT, Int.reduceToNat, Int.reduceLT, Int.reduceLE, Int.reduceEq, Int.reduceNeg, Int.reduceAdd, Int.reduceSub, Int.reduceMul, reduceIte] at hq
        rw [lst_app h4 (by decide) (by rfl) (by rfl) (by decide) (by omega) (by omega) (by omega)] at hq
        generalize hτ : appSto _ _ _ _ (e 4) _ _ = τ at hq
        have t1 := (congrFun hτ _).symm.trans (appSto_key ..)
        have t2 : ∀ j, j ≠ _ → j ∉ own (e 4) → τ j = σ j := fun j h1 h2 => (congrFun hτ j).symm.trans (own_other h1 h2)
        clear hτ
        simp only [h15, hw, RR, IA, PA, RA0, RA1, RA2, RA3, RA4, RA5, RA6, RA7, RA8, RA9, RA10, Nat.reduceAdd, Nat.reduceMul, Nat.reduceEqDiff, Nat.reduceLeDiff, Nat.reduceLT, Int.reduceToNat, Int.reduceLT, Int.reduceLE, Int.reduceEq, Int.reduceNeg, Int.reduceAdd, Int.reduceSub, Int.reduceMul, reduceIte] at hq
        exact hfin _ τ _ _ q hq (by omega) (by omega) t2 t1 h13 h14 rfl rfl rfl
      · rw [he] at hen
        have hdh : dH [a] = -1 := by simp [dH, hb, he]
        have hw2 : IntKind.i64.wrap (h - 1) = h + dH [a] := by rw [hdh, wrap64 (by omega) (by omega)]; omega
        simp only [h13, h14, h15, h5, hsL, hc, hz, hw, hhd, hbe, hen, har, hw2, Int.toNat_natCast, Nat.mul_one, Nat.zero_add, RR, IA, PA, RA0, RA1, RA2, RA3, RA4, RA5, RA6, RA7, RA8, RA9, RA10, Nat.reduceAdd, Nat.reduceMul, Nat.reduceEqDiff, Nat.reduceLeDiff, Nat.reduceLT, Int.reduceToNat, Int.reduceLT, Int.reduceLE, Int.reduceEq, Int.reduceNeg, Int.reduceAdd, Int.reduceSub, Int.reduceMul, reduceIte] at hq
        rw [lst_app h4 (by decide) (by rfl) (by rfl) (by decide) (by omega) (by omega) (by omega)] at hq
        generalize hτ : appSto _ _ _ _ (e 4) _ _ = τ at hq
        have t1 := (congrFun hτ _).symm.trans (appSto_key ..)
        have t2 : ∀ j, j ≠ _ → j ∉ own (e 4) → τ j = σ j := fun j h1 h2 => (congrFun hτ j).symm.trans (own_other h1 h2)
        clear hτ
        simp only [h15, hw, RR, IA, PA, RA0, RA1, RA2, RA3, RA4, RA5, RA6, RA7, RA8, RA9, RA10, Nat.reduceAdd, Nat.reduceMul, Nat.reduceEqDiff, Nat.reduceLeDiff, Nat.reduceLT, Int.reduceToNat, Int.reduceLT, Int.reduceLE, Int.reduceEq, Int.reduceNeg, Int.reduceAdd, Int.reduceSub, Int.reduceMul, reduceIte] at hq
        exact hfin _ τ _ _ q hq (by omega) (by omega) t2 t1 h13 h14 rfl rfl rfl
    · rw [hb] at hbe
      have hdh : dH x = 0 := by simp [dH, hb]
      have hh : h + dH x = h := by omega
      simp only [h13, h14, h15, h5, hsL, hc, hz, hw, hhd, hbe, Int.toNat_natCast, Nat.mul_one, Nat.zero_add, RR, IA, PA, RA0, RA1, RA2, RA3, RA4, RA5, RA6, RA7, RA8, RA9, RA10, Nat.reduceAdd, Nat.reduceMul, Nat.reduceEqDiff, Nat.reduceLeDiff, Nat.reduceLT, Int.reduceToNat, Int.reduceLT, Int.reduceLE, Int.reduceEq, Int.reduceNeg, Int.reduceAdd, Int.reduceSub, Int.reduceMul, reduceIte] at hq
      rw [lst_app h4 (by decide) (by rfl) (by rfl) (by decide) (by omega) (by omega) (by omega)] at hq
      generalize hτ : appSto _ _ _ _ (e 4) _ _ = τ at hq
      have t1 := (congrFun hτ _).symm.trans (appSto_key ..)
      have t2 : ∀ j, j ≠ _ → j ∉ own (e 4) → τ j = σ j := fun j h1 h2 => (congrFun hτ j).symm.trans (own_other h1 h2)
      clear hτ
      simp only [h15, hw, RR, IA, PA, RA0, RA1, RA2, RA3, RA4, RA5, RA6, RA7, RA8, RA9, RA10, Nat.reduceAdd, Nat.reduceMul, Nat.reduceEqDiff, Nat.reduceLeDiff, Nat.reduceLT, Int.reduceToNat, Int.reduceLT, Int.reduceLE, Int.reduceEq, Int.reduceNeg, Int.reduceAdd, Int.reduceSub, Int.reduceMul, reduceIte] at hq
      exact hfin _ τ _ _ q hq (by omega) (by omega) t2 (by rw [hh]; exact t1) h13 h14 rfl (by rw [hh]; exact h5) rfl
theorem implHeightsOf_ev (code : List UInt8) (hl : code.length < 50000000) : EE 18 [S code] = some (match specB code with | some (_, hs, _) => .t [.o 3 1 hs.length (nats hs), B true] | none => .t [.s true 0 [], B false]) := by
  refine EE_plain T_implHeightsOf (by decide) (Nat.le_of_ble_eq_true rfl) rfl ?_
  rw [show opt 18 = [] from rfl]
  simp only [bodyOf, Tryd.f18, SA]
  have h := implCodeValid_ev code hl
  have h2 := implInstructionsOf_ev code hl
  cases hs : specB code with
  | none =>
    rw [hs] at h
    simp only [Option.isSome_none] at h
    simp only [h, RR, IA, PA, RA0, RA1, RA2, RA3, RA4, RA5, RA6, RA7, RA8, RA9, RA10, Nat.reduceAdd, Nat.reduceMul, Nat.reduceEqDiff, Nat.reduceLeDiff, Nat.reduceLT, Int.reduceToNat, Int.reduceLT, Int.reduceLE, Int.reduceEq, Int.reduceNeg, Int.reduceAdd, Int.reduceSub, Int.reduceMul, reduceIte]
  | some w =>
    obtain ⟨t, hh, lv⟩ := w
    rw [hs] at h h2
    simp only [Option.isSome_some, if_true] at h h2
    obtain ⟨_, hw, hcl, hrun, _⟩ := spec_impl hs
    obtain ⟨hl1, _⟩ := runP_lists hrun
    obtain ⟨n1, n2⟩ := runP_n hrun
    rw [← hcl] at hl1 n1
    have hcll := cutL_len 32 code
    have hpl : ∀ y ∈ cutL 32 code, Plain y := by rw [hcl]; exact list_plain t hw
    have hne : (cutL 32 code).length ≠ 0 := by obtain ⟨x, y, e⟩ := cutL_cons 32 code; rw [e]; simp
    simp only [h, h2, strs_closed, RR, IA, PA, RA0, RA1, RA2, RA3, RA4, RA5, RA6, RA7, RA8, RA9, RA10, Nat.reduceAdd, Nat.reduceMul, Nat.reduceEqDiff, Nat.reduceLeDiff, Nat.reduceLT, Int.reduceToNat, Int.reduceLT, Int.reduceLE, Int.reduceEq, Int.reduceNeg, Int.reduceAdd, Int.reduceSub, Int.reduceMul, reduceIte]
    generalize hq : roundsE _ _ _ = q
    obtain ⟨e', σ', nx', rfl, hlst⟩ := heights_loop 36 (cutL 32 code) (by omega) hpl (cutL 32 code) 0 MX 0 [] _ _ _ q rfl (Nat.zero_le _) (lt_MX (by omega)) rfl (by omega) (by omega) hq rfl rfl (by decide) rfl rfl rfl (.inl ⟨rfl, rfl, rfl⟩) (by show 36 ∉ []; simp)
    clear hq
    simp only [RR, IA, PA, RA0, RA1, RA2, RA3, RA4, RA5, RA6, RA7, RA8, RA9, RA10, Nat.reduceAdd, Nat.reduceMul, Nat.reduceEqDiff, Nat.reduceLeDiff, Nat.reduceLT, Int.reduceToNat, Int.reduceLT, Int.reduceLE, Int.reduceEq, Int.reduceNeg, Int.reduceAdd, Int.reduceSub, Int.reduceMul, reduceIte]
    have e1 : ints ([] ++ hsI 0 (cutL 32 code)) = nats hh := by
      rw [List.nil_append, show hsI 0 (cutL 32 code) = hsI (([] : List T).length : Int) (cutL 32 code) from rfl, ← hl1]
      simp [ints, nats]
    rw [e1] at hlst
    rcases hlst with ⟨_, h0, _⟩ | ⟨id, g1, g2, g3, g4⟩
    · exact absurd h0 hne
    · rw [g2, n1]
      exact give_row2 g3 (nats_closed _) rfl
end
end Go.Proofs.YtkmnidbodlmaaaaDoor.Ev

/-
Code: the implementation's LevelsAt.
-/
namespace Go.Proofs.YtkmnidbodlmaaaaDoor.Ev
section
set_option linter.unusedVariables false
set_option linter.unusedSimpArgs false
open Go Go.RowKit
set_option linter.unusedVariables false
set_option linter.unusedSimpArgs false
theorem T_levelsOf : TT 52 = some (Tryd.f52, bodyOf Tryd.f52) := by kernel_rfl
theorem dL_ge (x : List UInt8) : -1 ≤ dL x := by
  unfold dL
  split
  · omega
  split <;> omega
theorem levels_loop (ex : Bool) (L : List (List UInt8)) (hL : L.length < 100000000) : ∀ (r : List (List UInt8)) (i n : Nat) (v : Int) (out : List Int) (e : Nat → AV) (σ : Sto) (nx : Nat) (q : Option (Ex × St)),
    L.drop i = r → i ≤ L.length → r.length < n → out.length = i → -(i : Int) ≤ v → v ≤ i → roundsE (evC II EE (withOpt [] pf) MX (bodyL Tryd.f52 0)) n ⟨e, σ, nx⟩ = q →
    e 8 = .s ex L.length (strs L) → e 9 = N L.length → e 10 = N i → e 4 = N v → Lst σ nx 3 1 (e 3) i (ints out) →
    ∃ e' σ' nx', q = some (.exit 0, ⟨e', σ', nx'⟩) ∧ Lst σ' nx' 3 1 (e' 3) L.length (ints (out ++ lsI v r)) := by
  intro r
  induction r with
  | nil =>
    intro i n v out e σ nx q hd hiL hn ho hb1 hb2 hq h8 h9 h10 h4 h3
    have hlen : L.length ≤ i := by simpa using hd
    have hiE : i = L.length := by omega
    subst hiE
    obtain ⟨k, rfl⟩ : ∃ k, n = k + 1 := ⟨n - 1, by omega⟩
    rw [rounds_rd] at hq
    have hc : ¬ ((L.length : Int) < (L.length : Int)) := by omega
    simp only [bodyL, bodyOf, Tryd.f52, SA, loops, List.nil_append, List.append_nil, List.cons_append, List.getD_cons_zero, List.getD_cons_succ] at hq
    simp only [h9, h10, hc, IA, PA, RA0, RA1, RA2, RA3, RA4, RA5, RA6, RA7, RA8, RA9, RA10, Nat.reduceAdd, Nat.reduceMul, Nat.reduceEqDiff, Nat.reduceLeDiff, Nat.reduceLT, Int.reduceToNat, Int.reduceLT, Int.reduceLE, Int.reduceEq, Int.reduceNeg, Int.reduceAdd, Int.reduceSub, Int.reduceMul, reduceIte] at hq
    refine ⟨_, _, _, hq.symm, ?_⟩
    rw [lsI, List.append_nil]
    exact lst_mono h3 (by omega)
  | cons x r ih =>
    intro i n v out e σ nx q hd hiL hn ho hb1 hb2 hq h8 h9 h10 h4 h3
    obtain ⟨hi, hx, hd'⟩ := strs_drop_head hd
    obtain ⟨k, rfl⟩ : ∃ k, n = k + 1 := ⟨n - 1, by omega⟩
    rw [rounds_rd] at hq
    have hc : ((i : Int) < (L.length : Int)) := by omega
    have hz : (0 : Int) ≤ (i : Int) := by omega
    have hw : IntKind.i64.wrap ((i : Int) + 1) = ((i + 1 : Nat) : Int) := by rw [wrap64 (by omega) (by omega)]; rfl
    have hhd : ((strs L).drop i).head? = some (S x) := by rw [strs_drop, hd]; rfl
    have hbe := begins_ev x
    have hen := isEnd_ev x
    have hdl := dL_le x
    have hdg := dL_ge x
    simp only [bodyL, bodyOf, Tryd.f52, SA, loops, List.nil_append, List.append_nil, List.cons_append, List.getD_cons_zero, List.getD_cons_succ] at hq
    have hfin : ∀ (key : Nat) (τ : Sto) (e2 : Nat → AV) (nx2 : Nat) (q' : Option (Ex × St)) (z : Int), roundsE (evC II EE (withOpt [] pf) MX (bodyL Tryd.f52 0)) k ⟨e2, τ, nx2⟩ = q' → key < nx2 → z = (if endM x = true then v - 1 else v) → τ key = some (.row 3 1 (i + 1) (ints out ++ [N z])) →
        e2 8 = .s ex L.length (strs L) → e2 9 = N L.length → e2 10 = N (i + 1 : Nat) → e2 4 = N (v + dL x) → e2 3 = .w key 0 (i + 1) →
        ∃ e' σ' nx', q' = some (.exit 0, ⟨e', σ', nx'⟩) ∧ Lst σ' nx' 3 1 (e' 3) L.length (ints (out ++ lsI v (x :: r))) := by
      intro key τ e2 nx2 q' z hq' hk2 hzz hτk g8 g9 g10 g4 g3
      have := ih (i + 1) k (v + dL x) (out ++ [z]) e2 τ nx2 q' hd' (by omega) (by simpa using hn) (by simp [ho]) (by omega) (by omega) hq' g8 g9 g10 g4
        (by rw [g3]; exact .inr ⟨key, hk2, rfl, by rw [hτk, ← ints_append]; rfl, by rw [ints_len]; simp [ho]⟩)
      rw [lsI, ← hzz]
      simpa using this
    cases he : endM x
    · rw [he] at hen
      cases hb : begM x
      · rw [hb] at hbe
        have hdh : dL x = 0 := by simp [dL, hb, he]
        simp only [h8, h9, h10, h4, hc, hz, hw, hhd, hbe, hen, Int.toNat_natCast, Nat.mul_one, Nat.zero_add, RR, IA, PA, RA0, RA1, RA2, RA3, RA4, RA5, RA6, RA7, RA8, RA9, RA10, Nat.reduceAdd, Nat.reduceMul, Nat.reduceEqDiff, Nat.reduceLeDiff, Nat.reduceLT, Int.reduceToNat, Int.reduceLT, Int.reduceLE, Int.reduceEq, Int.reduceNeg, Int.reduceAdd, Int.reduceSub, Int.reduceMul, reduceIte] at hq
        rw [lst_app h3 (by decide) (by rfl) (by rfl) (by decide) (by omega) (by omega) (by omega)] at hq
        generalize hτ : appSto _ _ _ _ (e 3) _ _ = τ at hq
        have t1 := (congrFun hτ _).symm.trans (appSto_key ..)
        clear hτ
        simp only [h10, hw, hbe, RR, IA, PA, RA0, RA1, RA2, RA3, RA4, RA5, RA6, RA7, RA8, RA9, RA10, Nat.reduceAdd, Nat.reduceMul, Nat.reduceEqDiff, Nat.reduceLeDiff, Nat.reduceLT, Int.reduceToNat, Int.reduceLT, Int.reduceLE, Int.reduceEq, Int.reduceNeg, Int.reduceAdd, Int.reduceSub, Int.reduceMul, reduceIte] at hq
        exact hfin _ τ _ _ q v hq (by omega) (by rw [he]; rfl) t1 h8 h9 rfl (by rw [hdh, Int.add_zero]; exact h4) rfl
      · rw [hb] at hbe
        have hdh : dL x = 1 := by simp [dL, hb]
        have hw2 : IntKind.i64.wrap (v + 1) = v + dL x := by rw [hdh, wrap64 (by omega) (by omega)]
        simp only [h8, h9, h10, h4, hc, hz, hw, hhd, hbe, hen, Int.toNat_natCast, Nat.mul_one, Nat.zero_add, RR, IA, PA, RA0, RA1, RA2, RA3, RA4, RA5, RA6, RA7, RA8, RA9, RA10, Nat.reduceAdd, Nat.reduceMul, Nat.reduceEqDiff, Nat.reduceLeDiff, Nat.reduceLT, Int.reduceToNat, Int.reduceLT, Int.reduceLE, Int.reduceEq, Int.reduceNeg, Int.reduceAdd, Int.reduceSub, Int.reduceMul, reduceIte] at hq
        rw [lst_app h3 (by decide) (by rfl) (by rfl) (by decide) (by omega) (by omega) (by omega)] at hq
        generalize hτ : appSto _ _ _ _ (e 3) _ _ = τ at hq
        have t1 := (congrFun hτ _).symm.trans (appSto_key ..)
        clear hτ
        simp only [h10, h4, hw, hw2, hbe, RR, IA, PA, RA0, RA1, RA2, RA3, RA4, RA5, RA6, RA7, RA8, RA9, RA10, Nat.reduceAdd, Nat.reduceMul, Nat.reduceEqDiff, Nat.reduceLeDiff, Nat.reduceLT, Int.reduceToNat, Int.reduceLT, Int.reduceLE, Int.reduceEq, Int.reduceNeg, Int.reduceAdd, Int.reduceSub, Int.reduceMul, reduceIte] at hq
        exact hfin _ τ _ _ q v hq (by omega) (by rw [he]; rfl) t1 h8 h9 rfl rfl rfl
    · rw [he] at hen
      have hb : begM x = false := by
        cases hb : begM x
        · rfl
        · rw [beg_end hb] at he; cases he
      rw [hb] at hbe
      have hdh : dL x = -1 := by simp [dL, hb, he]
      have hw2 : IntKind.i64.wrap (v - 1) = v + dL x := by rw [hdh, wrap64 (by omega) (by omega)]; omega
      simp only [h8, h9, h10, h4, hc, hz, hw, hw2, hhd, hbe, hen, Int.toNat_natCast, Nat.mul_one, Nat.zero_add, RR, IA, PA, RA0, RA1, RA2, RA3, RA4, RA5, RA6, RA7, RA8, RA9, RA10, Nat.reduceAdd, Nat.reduceMul, Nat.reduceEqDiff, Nat.reduceLeDiff, Nat.reduceLT, Int.reduceToNat, Int.reduceLT, Int.reduceLE, Int.reduceEq, Int.reduceNeg, Int.reduceAdd, Int.reduceSub, Int.reduceMul, reduceIte] at hq
      rw [lst_app h3 (by decide) (by rfl) (by rfl) (by decide) (by omega) (by omega) (by omega)] at hq
      generalize hτ : appSto _ _ _ _ (e 3) _ _ = τ at hq
      have t1 := (congrFun hτ _).symm.trans (appSto_key ..)
      clear hτ
      simp only [h10, hw, hbe, RR, IA, PA, RA0, RA1, RA2, RA3, RA4, RA5, RA6, RA7, RA8, RA9, RA10, Nat.reduceAdd, Nat.reduceMul, Nat.reduceEqDiff, Nat.reduceLeDiff, Nat.reduceLT, Int.reduceToNat, Int.reduceLT, Int.reduceLE, Int.reduceEq, Int.reduceNeg, Int.reduceAdd, Int.reduceSub, Int.reduceMul, reduceIte] at hq
      exact hfin _ τ _ _ q (v + dL x) hq (by omega) (by rw [he, hdh]; rfl) t1 h8 h9 rfl rfl rfl
theorem levelsOf_ev (ex : Bool) (L : List (List UInt8)) (hL : L.length < 100000000) (hne : L.length ≠ 0) : EE 52 [.s ex L.length (strs L)] = some (.o 3 1 L.length (ints (lsI 0 L))) := by
  refine EE_plain T_levelsOf (by decide) (Nat.le_of_ble_eq_true rfl) (by simp only [closedL, closed, strs_closed, Bool.and_self]) ?_
  rw [show opt 52 = [] from rfl]
  simp only [bodyOf, Tryd.f52, SA]
  simp only [RR, IA, PA, RA0, RA1, RA2, RA3, RA4, RA5, RA6, RA7, RA8, RA9, RA10, Nat.reduceAdd, Nat.reduceMul, Nat.reduceEqDiff, Nat.reduceLeDiff, Nat.reduceLT, Int.reduceToNat, Int.reduceLT, Int.reduceLE, Int.reduceEq, Int.reduceNeg, Int.reduceAdd, Int.reduceSub, Int.reduceMul, reduceIte]
  generalize hq : roundsE _ _ _ = q
  obtain ⟨e', σ', nx', rfl, hlst⟩ := levels_loop ex L hL L 0 MX 0 [] _ _ _ q rfl (Nat.zero_le _) (lt_MX (by omega)) rfl (by omega) (by omega) hq rfl rfl rfl rfl (.inl ⟨rfl, rfl, rfl⟩)
  simp only [RR, IA, PA, RA0, RA1, RA2, RA3, RA4, RA5, RA6, RA7, RA8, RA9, RA10, Nat.reduceAdd, Nat.reduceMul, Nat.reduceEqDiff, Nat.reduceLeDiff, Nat.reduceLT, Int.reduceToNat, Int.reduceLT, Int.reduceLE, Int.reduceEq, Int.reduceNeg, Int.reduceAdd, Int.reduceSub, Int.reduceMul, reduceIte]
  rw [List.nil_append] at hlst
  rcases hlst with ⟨_, h0, _⟩ | ⟨id, g1, g2, g3, g4⟩
  · exact absurd h0 hne
  · rw [g2]
    exact give_row g3 (ints_closed _)
theorem ints_flat {E n : Nat} (l : List Int) : flat (.o E 1 n (ints l)) = true := by
  show (ints l).all plain = true
  induction l with
  | nil => rfl
  | cons x l ih => simp [ints, plain]
/-- A call that is given a row and gives a row. -/
theorem call0_wo {pf' : FuncId → Nat} {σ : Sto} {key : Nat} {f : FuncId} {id n E sz E' sz' m : Nat} {cs ds : List AV} (hσ : σ id = some (.row E sz n cs)) (hp : pf' f = 0) (hl : cs.length = n * sz) (hc : closedL cs = true) (hd : closedL ds = true) (hf : flat (.o E' sz' m ds) = true) (hr : EE f [.s false n cs] = some (.o E' sz' m ds)) :
    callOp EE pf' σ key f [.w id 0 n] = some (.w key 0 m, upd σ key (some (.row E' sz' m ds))) := by
  unfold callOp
  rw [if_neg (by omega), if_neg (by omega)]
  have h1 : deep σ 8 (.w id 0 n) = some (.s false n cs, [id]) := by
    rw [deep_w 7 hσ (by omega) hc, List.drop_zero, List.take_of_length_le (by omega)]
  have h2 : deepC (deep σ 8) [.w id 0 n] = some ([.s false n cs], [id]) := by
    simp only [deepC, h1, Option.bind_some, Option.map_some, List.append_nil]
  rw [h2]
  simp only [Option.bind_some, hr]
  rw [if_pos (.inr hf)]
  exact adopt_o hd
theorem T_implLevelsAt : TT 23 = some (Tryd.f23, bodyOf Tryd.f23) := by kernel_rfl
theorem implLevelsAt_ev (code : List UInt8) (hl : code.length < 50000000) : EE 23 [S code] = some (match specB code with | some (_, _, ls) => .t [.o 3 1 ls.length (nats ls), B true] | none => .t [.s true 0 [], B false]) := by
  refine EE_plain T_implLevelsAt (by decide) (Nat.le_of_ble_eq_true rfl) rfl ?_
  rw [show opt 23 = [] from rfl]
  simp only [bodyOf, Tryd.f23, SA]
  have h := implCodeValid_ev code hl
  have h2 := implInstructionsOf_ev code hl
  cases hs : specB code with
  | none =>
    rw [hs] at h
    simp only [Option.isSome_none] at h
    simp only [h, RR, IA, PA, RA0, RA1, RA2, RA3, RA4, RA5, RA6, RA7, RA8, RA9, RA10, Nat.reduceAdd, Nat.reduceMul, Nat.reduceEqDiff, Nat.reduceLeDiff, Nat.reduceLT, Int.reduceToNat, Int.reduceLT, Int.reduceLE, Int.reduceEq, Int.reduceNeg, Int.reduceAdd, Int.reduceSub, Int.reduceMul, reduceIte]
  | some w =>
    obtain ⟨t, hh, lv⟩ := w
    rw [hs] at h h2
    simp only [Option.isSome_some, if_true] at h h2
    obtain ⟨_, hw, hcl, hrun, _⟩ := spec_impl hs
    obtain ⟨_, hl1⟩ := runP_lists hrun
    obtain ⟨n1, n2⟩ := runP_n hrun
    rw [← hcl] at hl1 n2
    have hcll := cutL_len 32 code
    have hne : (cutL 32 code).length ≠ 0 := by obtain ⟨x, y, e⟩ := cutL_cons 32 code; rw [e]; simp
    have hlo := levelsOf_ev false (cutL 32 code) (by omega) hne
    have e1 : ints (lsI 0 (cutL 32 code)) = nats lv := by
      rw [show lsI 0 (cutL 32 code) = lsI (([] : List (UInt8 × UInt8 × Nat)).length : Int) (cutL 32 code) from rfl, ← hl1]
      simp [ints, nats]
    simp only [h, h2, strs_closed, RR, IA, PA, RA0, RA1, RA2, RA3, RA4, RA5, RA6, RA7, RA8, RA9, RA10, Nat.reduceAdd, Nat.reduceMul, Nat.reduceEqDiff, Nat.reduceLeDiff, Nat.reduceLT, Int.reduceToNat, Int.reduceLT, Int.reduceLE, Int.reduceEq, Int.reduceNeg, Int.reduceAdd, Int.reduceSub, Int.reduceMul, reduceIte]
    rw [call0_wo (E := 9) (sz := 1) (by simp only [upd, if_true]) (by rfl) (by rw [strs_len, Nat.mul_one]) (strs_closed _) (ints_closed _) (ints_flat _) hlo]
    simp only [RR, IA, PA, RA0, RA1, RA2, RA3, RA4, RA5, RA6, RA7, RA8, RA9, RA10, Nat.reduceAdd, Nat.reduceMul, Nat.reduceEqDiff, Nat.reduceLeDiff, Nat.reduceLT, Int.reduceToNat, Int.reduceLT, Int.reduceLE, Int.reduceEq, Int.reduceNeg, Int.reduceAdd, Int.reduceSub, Int.reduceMul, reduceIte]
    rw [e1, n2]
    exact give_row2 (by simp [upd]) (nats_closed _) rfl
end
end Go.Proofs.YtkmnidbodlmaaaaDoor.Ev

/-
Code: the laws of HeightsOf and LevelsAt.
-/
namespace Go.Proofs.YtkmnidbodlmaaaaDoor.Ev
section
set_option linter.unusedVariables false
set_option linter.unusedSimpArgs false
open Go Go.RowKit
set_option linter.unusedVariables false
set_option linter.unusedSimpArgs false
section
variable {I : Tab} {C : Sem1} {pf : FuncId → Nat} {m : Nat} {e : Nat → AV} {σ : Sto} {key : Nat}
theorem evM_goes {fn : Func} {c : Code} {xs : List AV} (hN : xs.length ≤ fn.ntmps) (hx : xs.all goes = true) :
    evM I C pf m fn c xs = (evC I C pf m c ⟨fun t => xs.getD t (.v undef), fun _ => none, 0⟩).bind (outK I fn.results.toList xs) := by
  unfold evM
  simp only [inits_goes hx]
  rw [if_pos ⟨hN, trivial⟩]
  congr 1
  funext ⟨x, s⟩
  cases x <;> rfl
theorem out_goes_one {rs : List ResultVar} {xs : List AV} {s : St} {x : AV} (h1 : evRes I s rs = some [x]) (h2 : goes x = true) (hx : xs.all goes = true) :
    outK I rs xs (.ret, s) = some (.t [x, .t xs]) := by
  have h3 : giveL s.σ [x] = some ([x], [], []) := giveL_closed (by simp only [closedL, goes_closed h2, Bool.and_self])
  simp only [outK, h1, Option.bind_some, h3, packOL_goes hx]
  rw [if_pos ⟨by simp, by simp⟩]
  cases x
  case t => simp [goes] at h2
  all_goals rfl
theorem call_goes {f : FuncId} {xs : List AV} {x : Value} (hp : pf f = 2) (hx : xs.all goes = true) (hr : C f xs = some (.t [.v x, .t xs])) : callOp C pf σ key f xs = some (.v x, σ) := by
  rw [call2_eq hp]
  have h1 : needs σ xs = [] := needs_goes hx
  rw [h1]
  simp only [frz0, packL_goes hx, Option.bind_some, lend1]
  rw [if_pos (by simp), hr]
  have h3 : killL σ [] = σ := by
    funext i
    simp [killL]
  simp only [Option.bind_some, lend2, h1, frz0, h3, back_goes hx]
  rw [if_pos (by simp [room])]
  rfl
end
theorem EE_goes {f : FuncId} {fn : Func} {xs : List AV} {r : AV} (hT : TT f = some (fn, bodyOf fn)) (hp : pf f = 2) (hN : xs.length ≤ fn.ntmps) (hx : xs.all goes = true)
    (h : (evC II EE (withOpt (opt f) pf) MX (strip (bodyOf fn)) ⟨fun t => xs.getD t (.v undef), fun _ => none, 0⟩).bind (outK II fn.results.toList xs) = some r) : EE f xs = some r :=
  EE_lent hT hp (by rw [evM_goes hN hx, ← evC_strip]; exact h)
theorem markIntS_nil : EE 20 [.s true 0 [], N 1] = some (.t [N 1, .t [.s true 0 [], N 1]]) := by
  refine EE_goes T_markIntS rfl (Nat.le_of_ble_eq_true rfl) rfl ?_
  rw [show opt 20 = [] from rfl]
  simp only [bodyOf, Tryd.f20, SA]
  simp only [RR, IA, PA, RA0, RA1, RA2, RA3, RA4, RA5, RA6, RA7, RA8, RA9, RA10, Nat.reduceAdd, Nat.reduceMul, Nat.reduceEqDiff, Nat.reduceLeDiff, Nat.reduceLT, Int.reduceToNat, Int.reduceLT, Int.reduceLE, Int.reduceEq, Int.reduceNeg, Int.reduceAdd, Int.reduceSub, Int.reduceMul, reduceIte]
  generalize hq : roundsE _ _ _ = q
  obtain ⟨k, hk⟩ : ∃ k, MX = k + 1 := ⟨MX - 1, rfl⟩
  rw [hk, rounds_rd] at hq
  simp only [RR, IA, PA, RA0, RA1, RA2, RA3, RA4, RA5, RA6, RA7, RA8, RA9, RA10, Nat.reduceAdd, Nat.reduceMul, Nat.reduceEqDiff, Nat.reduceLeDiff, Nat.reduceLT, Int.reduceToNat, Int.reduceLT, Int.reduceLE, Int.reduceEq, Int.reduceNeg, Int.reduceAdd, Int.reduceSub, Int.reduceMul, reduceIte] at hq
  subst hq
  simp only [RR, IA, PA, RA0, RA1, RA2, RA3, RA4, RA5, RA6, RA7, RA8, RA9, RA10, Nat.reduceAdd, Nat.reduceMul, Nat.reduceEqDiff, Nat.reduceLeDiff, Nat.reduceLT, Int.reduceToNat, Int.reduceLT, Int.reduceLE, Int.reduceEq, Int.reduceNeg, Int.reduceAdd, Int.reduceSub, Int.reduceMul, reduceIte]
  exact out_goes_one (x := N 1) (by simp only [IA, PA, RA0, RA1, RA2, RA3, RA4, RA5, RA6, RA7, RA8, RA9, RA10, Nat.reduceAdd, Nat.reduceMul, Nat.reduceEqDiff, Nat.reduceLeDiff, Nat.reduceLT, Int.reduceToNat, Int.reduceLT, Int.reduceLE, Int.reduceEq, Int.reduceNeg, Int.reduceAdd, Int.reduceSub, Int.reduceMul, reduceIte]) rfl rfl
theorem adopt_ob2 (σ : Sto) (key : Nat) {E sz n : Nat} {cs : List AV} (b : Bool) (h : closedL cs = true) : adopt σ key (.t [.o E sz n cs, B b]) = some (.t [.w key 0 n, B b], upd σ key (some (.row E sz n cs))) := adopt_t2 _ _ (adopt1_o h) rfl
theorem adopt_sn (σ : Sto) (key : Nat) (b : Bool) : adopt σ key (.t [.s true 0 [], B b]) = some (.t [.s true 0 [], B b], σ) := adopt_two rfl rfl
theorem T_lawHeightsOf : TT 5 = some (Tryd.f5, bodyOf Tryd.f5) := by kernel_rfl
theorem heightsOf_law (code : List UInt8) : EE 5 [S code] = some (B true) := by
  refine EE_plain T_lawHeightsOf (by decide) (Nat.le_of_ble_eq_true rfl) rfl ?_
  rw [show opt 5 = [] from rfl]
  simp only [bodyOf, Tryd.f5, SA]
  by_cases hbig : (1048576 : Int) < (code.length : Int)
  · simp only [hbig, RR, IA, PA, RA0, RA1, RA2, RA3, RA4, RA5, RA6, RA7, RA8, RA9, RA10, Nat.reduceAdd, Nat.reduceMul, Nat.reduceEqDiff, Nat.reduceLeDiff, Nat.reduceLT, Int.reduceToNat, Int.reduceLT, Int.reduceLE, Int.reduceEq, Int.reduceNeg, Int.reduceAdd, Int.reduceSub, Int.reduceMul, reduceIte]
  · have hl : code.length < 50000000 := by omega
    have h := implHeightsOf_ev code hl
    have k := specHeightsOf_ev code hl
    cases hs : specB code with
    | none =>
      rw [hs] at h k
      simp only at h k
      have he := eqIntS_ev true true [] (by decide)
      have hh := heldIntS_ev true 0 (by decide)
      have he0 : EE 19 [.s true 0 [], .s true 0 []] = some (B true) := he
      have hh0 : EE 21 [.s true 0 [], N 1] = some (N 1) := hh
      simp only [hbig, h, k, adopt_sn, he0, hh0, TMA, RR, IA, PA, RA0, RA1, RA2, RA3, RA4, RA5, RA6, RA7, RA8, RA9, RA10, Nat.reduceAdd, Nat.reduceMul, Nat.reduceEqDiff, Nat.reduceLeDiff, Nat.reduceLT, Int.reduceToNat, Int.reduceLT, Int.reduceLE, Int.reduceEq, Int.reduceNeg, Int.reduceAdd, Int.reduceSub, Int.reduceMul, reduceIte]
      rw [call_goes (by rfl) (by rfl) markIntS_nil]
      simp only [hbig, h, k, adopt_sn, he0, hh0, TMA, RR, IA, PA, RA0, RA1, RA2, RA3, RA4, RA5, RA6, RA7, RA8, RA9, RA10, Nat.reduceAdd, Nat.reduceMul, Nat.reduceEqDiff, Nat.reduceLeDiff, Nat.reduceLT, Int.reduceToNat, Int.reduceLT, Int.reduceLE, Int.reduceEq, Int.reduceNeg, Int.reduceAdd, Int.reduceSub, Int.reduceMul, reduceIte]
    | some w =>
      obtain ⟨t, hs0, ls0⟩ := w
      rw [hs] at h k
      simp only at h k
      obtain ⟨_, hw, hcl, hrun, _⟩ := spec_impl hs
      obtain ⟨n1, n2⟩ := runP_n hrun
      have hcll := cutL_len 32 code
      rw [hcl, ← n1] at hcll
      obtain ⟨L, hLe, hLl⟩ : ∃ L : List Int, nats hs0 = ints L ∧ L.length = hs0.length := ⟨hs0.map Int.ofNat, by simp [nats, ints], by simp⟩
      rw [hLe, ← hLl] at h k
      have he := eqIntS_ev false false L (by omega)
      have hm := markIntS_ev L (by omega)
      have hh := heldIntS_ev false L.length (by omega)
      simp only [hbig, h, k, adopt_ob2 _ _ _ (ints_closed L), TMA, RR, IA, PA, RA0, RA1, RA2, RA3, RA4, RA5, RA6, RA7, RA8, RA9, RA10, Nat.reduceAdd, Nat.reduceMul, Nat.reduceEqDiff, Nat.reduceLeDiff, Nat.reduceLT, Int.reduceToNat, Int.reduceLT, Int.reduceLE, Int.reduceEq, Int.reduceNeg, Int.reduceAdd, Int.reduceSub, Int.reduceMul, reduceIte]
      have hn0 : ¬ (1 + (L.length : Int) < 0) := by omega
      have hee : decide (1 + (L.length : Int) = 1 + (L.length : Int)) = true := by simp
      have hlen : (ints L).length = L.length * 1 := by rw [ints_len, Nat.mul_one]
      have hlen2 : (ints (markL 1 L.length)).length = L.length * 1 := by rw [ints_len, markL_len, Nat.mul_one]
      rw [call0_ww (E := 3) (sz := 1) (E' := 3) (sz' := 1) (cs := ints L) (ds := ints L) (by rfl) (by rfl) (by rfl) hlen hlen (ints_closed _) (ints_closed _) rfl he]
      simp only [RR, IA, PA, RA0, RA1, RA2, RA3, RA4, RA5, RA6, RA7, RA8, RA9, RA10, Nat.reduceAdd, Nat.reduceMul, Nat.reduceEqDiff, Nat.reduceLeDiff, Nat.reduceLT, Int.reduceToNat, Int.reduceLT, Int.reduceLE, Int.reduceEq, Int.reduceNeg, Int.reduceAdd, Int.reduceSub, Int.reduceMul, reduceIte]
      rw [call_row_v (E := 3) (sz := 1) (cs := ints L) (cs' := ints (markL 1 L.length)) (by rfl) (by rfl) (ints_closed _) (by rfl) (by exact hm)]
      simp only [RR, IA, PA, RA0, RA1, RA2, RA3, RA4, RA5, RA6, RA7, RA8, RA9, RA10, Nat.reduceAdd, Nat.reduceMul, Nat.reduceEqDiff, Nat.reduceLeDiff, Nat.reduceLT, Int.reduceToNat, Int.reduceLT, Int.reduceLE, Int.reduceEq, Int.reduceNeg, Int.reduceAdd, Int.reduceSub, Int.reduceMul, reduceIte]
      rw [call0_w (E := 3) (sz := 1) (cs := ints (markL 1 L.length)) (by rfl) (by rfl) hlen2 (ints_closed _) (by rfl) (by exact hh)]
      simp only [hn0, hee, h, adopt_ob2 _ _ _ (ints_closed L), TMA, RR, IA, PA, RA0, RA1, RA2, RA3, RA4, RA5, RA6, RA7, RA8, RA9, RA10, Nat.reduceAdd, Nat.reduceMul, Nat.reduceEqDiff, Nat.reduceLeDiff, Nat.reduceLT, Int.reduceToNat, Int.reduceLT, Int.reduceLE, Int.reduceEq, Int.reduceNeg, Int.reduceAdd, Int.reduceSub, Int.reduceMul, reduceIte]
      rw [call0_ww (E := 3) (sz := 1) (E' := 3) (sz' := 1) (cs := ints L) (ds := ints L) (by rfl) (by rfl) (by rfl) hlen hlen (ints_closed _) (ints_closed _) rfl he]
      simp only [RR, IA, PA, RA0, RA1, RA2, RA3, RA4, RA5, RA6, RA7, RA8, RA9, RA10, Nat.reduceAdd, Nat.reduceMul, Nat.reduceEqDiff, Nat.reduceLeDiff, Nat.reduceLT, Int.reduceToNat, Int.reduceLT, Int.reduceLE, Int.reduceEq, Int.reduceNeg, Int.reduceAdd, Int.reduceSub, Int.reduceMul, reduceIte]
      rw [call0_w (E := 3) (sz := 1) (cs := ints (markL 1 L.length)) (by rfl) (by rfl) hlen2 (ints_closed _) (by rfl) (by exact hh)]
      simp only [hn0, hee, TMA, RR, IA, PA, RA0, RA1, RA2, RA3, RA4, RA5, RA6, RA7, RA8, RA9, RA10, Nat.reduceAdd, Nat.reduceMul, Nat.reduceEqDiff, Nat.reduceLeDiff, Nat.reduceLT, Int.reduceToNat, Int.reduceLT, Int.reduceLE, Int.reduceEq, Int.reduceNeg, Int.reduceAdd, Int.reduceSub, Int.reduceMul, reduceIte]
theorem T_lawLevelsAt : TT 6 = some (Tryd.f6, bodyOf Tryd.f6) := by kernel_rfl
theorem levelsAt_law (code : List UInt8) : EE 6 [S code] = some (B true) := by
  refine EE_plain T_lawLevelsAt (by decide) (Nat.le_of_ble_eq_true rfl) rfl ?_
  rw [show opt 6 = [] from rfl]
  simp only [bodyOf, Tryd.f6, SA]
  by_cases hbig : (1048576 : Int) < (code.length : Int)
  · simp only [hbig, RR, IA, PA, RA0, RA1, RA2, RA3, RA4, RA5, RA6, RA7, RA8, RA9, RA10, Nat.reduceAdd, Nat.reduceMul, Nat.reduceEqDiff, Nat.reduceLeDiff, Nat.reduceLT, Int.reduceToNat, Int.reduceLT, Int.reduceLE, Int.reduceEq, Int.reduceNeg, Int.reduceAdd, Int.reduceSub, Int.reduceMul, reduceIte]
  · have hl : code.length < 50000000 := by omega
    have h := implLevelsAt_ev code hl
    have k := specLevelsAt_ev code hl
    cases hs : specB code with
    | none =>
      rw [hs] at h k
      simp only at h k
      have he := eqIntS_ev true true [] (by decide)
      have hh := heldIntS_ev true 0 (by decide)
      have he0 : EE 19 [.s true 0 [], .s true 0 []] = some (B true) := he
      have hh0 : EE 21 [.s true 0 [], N 1] = some (N 1) := hh
      simp only [hbig, h, k, adopt_sn, he0, hh0, TMA, RR, IA, PA, RA0, RA1, RA2, RA3, RA4, RA5, RA6, RA7, RA8, RA9, RA10, Nat.reduceAdd, Nat.reduceMul, Nat.reduceEqDiff, Nat.reduceLeDiff, Nat.reduceLT, Int.reduceToNat, Int.reduceLT, Int.reduceLE, Int.reduceEq, Int.reduceNeg, Int.reduceAdd, Int.reduceSub, Int.reduceMul, reduceIte]
      rw [call_goes (by rfl) (by rfl) markIntS_nil]
      simp only [hbig, h, k, adopt_sn, he0, hh0, TMA, RR, IA, PA, RA0, RA1, RA2, RA3, RA4, RA5, RA6, RA7, RA8, RA9, RA10, Nat.reduceAdd, Nat.reduceMul, Nat.reduceEqDiff, Nat.reduceLeDiff, Nat.reduceLT, Int.reduceToNat, Int.reduceLT, Int.reduceLE, Int.reduceEq, Int.reduceNeg, Int.reduceAdd, Int.reduceSub, Int.reduceMul, reduceIte]
    | some w =>
      obtain ⟨t, hs0, ls0⟩ := w
      rw [hs] at h k
      simp only at h k
      obtain ⟨_, hw, hcl, hrun, _⟩ := spec_impl hs
      obtain ⟨n1, n2⟩ := runP_n hrun
      have hcll := cutL_len 32 code
      rw [hcl, ← n2] at hcll
      obtain ⟨L, hLe, hLl⟩ : ∃ L : List Int, nats ls0 = ints L ∧ L.length = ls0.length := ⟨ls0.map Int.ofNat, by simp [nats, ints], by simp⟩
      rw [hLe, ← hLl] at h k
      have he := eqIntS_ev false false L (by omega)
      have hm := markIntS_ev L (by omega)
      have hh := heldIntS_ev false L.length (by omega)
      simp only [hbig, h, k, adopt_ob2 _ _ _ (ints_closed L), TMA, RR, IA, PA, RA0, RA1, RA2, RA3, RA4, RA5, RA6, RA7, RA8, RA9, RA10, Nat.reduceAdd, Nat.reduceMul, Nat.reduceEqDiff, Nat.reduceLeDiff, Nat.reduceLT, Int.reduceToNat, Int.reduceLT, Int.reduceLE, Int.reduceEq, Int.reduceNeg, Int.reduceAdd, Int.reduceSub, Int.reduceMul, reduceIte]
      have hn0 : ¬ (1 + (L.length : Int) < 0) := by omega
      have hee : decide (1 + (L.length : Int) = 1 + (L.length : Int)) = true := by simp
      have hlen : (ints L).length = L.length * 1 := by rw [ints_len, Nat.mul_one]
      have hlen2 : (ints (markL 1 L.length)).length = L.length * 1 := by rw [ints_len, markL_len, Nat.mul_one]
      rw [call0_ww (E := 3) (sz := 1) (E' := 3) (sz' := 1) (cs := ints L) (ds := ints L) (by rfl) (by rfl) (by rfl) hlen hlen (ints_closed _) (ints_closed _) rfl he]
      simp only [RR, IA, PA, RA0, RA1, RA2, RA3, RA4, RA5, RA6, RA7, RA8, RA9, RA10, Nat.reduceAdd, Nat.reduceMul, Nat.reduceEqDiff, Nat.reduceLeDiff, Nat.reduceLT, Int.reduceToNat, Int.reduceLT, Int.reduceLE, Int.reduceEq, Int.reduceNeg, Int.reduceAdd, Int.reduceSub, Int.reduceMul, reduceIte]
      rw [call_row_v (E := 3) (sz := 1) (cs := ints L) (cs' := ints (markL 1 L.length)) (by rfl) (by rfl) (ints_closed _) (by rfl) (by exact hm)]
      simp only [RR, IA, PA, RA0, RA1, RA2, RA3, RA4, RA5, RA6, RA7, RA8, RA9, RA10, Nat.reduceAdd, Nat.reduceMul, Nat.reduceEqDiff, Nat.reduceLeDiff, Nat.reduceLT, Int.reduceToNat, Int.reduceLT, Int.reduceLE, Int.reduceEq, Int.reduceNeg, Int.reduceAdd, Int.reduceSub, Int.reduceMul, reduceIte]
      rw [call0_w (E := 3) (sz := 1) (cs := ints (markL 1 L.length)) (by rfl) (by rfl) hlen2 (ints_closed _) (by rfl) (by exact hh)]
      simp only [hn0, hee, h, adopt_ob2 _ _ _ (ints_closed L), TMA, RR, IA, PA, RA0, RA1, RA2, RA3, RA4, RA5, RA6, RA7, RA8, RA9, RA10, Nat.reduceAdd, Nat.reduceMul, Nat.reduceEqDiff, Nat.reduceLeDiff, Nat.reduceLT, Int.reduceToNat, Int.reduceLT, Int.reduceLE, Int.reduceEq, Int.reduceNeg, Int.reduceAdd, Int.reduceSub, Int.reduceMul, reduceIte]
      rw [call0_ww (E := 3) (sz := 1) (E' := 3) (sz' := 1) (cs := ints L) (ds := ints L) (by rfl) (by rfl) (by rfl) hlen hlen (ints_closed _) (ints_closed _) rfl he]
      simp only [RR, IA, PA, RA0, RA1, RA2, RA3, RA4, RA5, RA6, RA7, RA8, RA9, RA10, Nat.reduceAdd, Nat.reduceMul, Nat.reduceEqDiff, Nat.reduceLeDiff, Nat.reduceLT, Int.reduceToNat, Int.reduceLT, Int.reduceLE, Int.reduceEq, Int.reduceNeg, Int.reduceAdd, Int.reduceSub, Int.reduceMul, reduceIte]
      rw [call0_w (E := 3) (sz := 1) (cs := ints (markL 1 L.length)) (by rfl) (by rfl) hlen2 (ints_closed _) (by rfl) (by exact hh)]
      simp only [hn0, hee, TMA, RR, IA, PA, RA0, RA1, RA2, RA3, RA4, RA5, RA6, RA7, RA8, RA9, RA10, Nat.reduceAdd, Nat.reduceMul, Nat.reduceEqDiff, Nat.reduceLeDiff, Nat.reduceLT, Int.reduceToNat, Int.reduceLT, Int.reduceLE, Int.reduceEq, Int.reduceNeg, Int.reduceAdd, Int.reduceSub, Int.reduceMul, reduceIte]
end
end Go.Proofs.YtkmnidbodlmaaaaDoor.Ev

/-
Laws: marks in a slice of texts.
-/
namespace Go.Proofs.YtkmnidbodlmaaaaDoor.Ev
section
set_option linter.unusedVariables false
set_option linter.unusedSimpArgs false
open Go Go.RowKit
set_option linter.unusedVariables false
set_option linter.unusedSimpArgs false
/-- A number's digits ahead of a text. -/
def digM : Nat → Nat → List UInt8 → List UInt8
  | 0, _, acc => acc
  | f + 1, k, acc => if k = 0 then acc else digM f (k / 10) (UInt8.ofNat (48 + k % 10) :: acc)
theorem digM_len : ∀ (f k : Nat) (acc : List UInt8), acc.length ≤ (digM f k acc).length ∧ (digM f k acc).length ≤ acc.length + f
  | 0, k, acc => by simp [digM]
  | f + 1, k, acc => by
    rw [digM]
    split
    · omega
    · have := digM_len f (k / 10) (UInt8.ofNat (48 + k % 10) :: acc)
      simp only [List.length_cons] at this
      omega
theorem T_markText : TT 54 = some (Tryd.f54, bodyOf Tryd.f54) := by kernel_rfl
theorem markText_loop : ∀ (f k n : Nat) (acc : List UInt8) (e : Nat → AV) (σ : Sto) (nx : Nat) (q : Option (Ex × St)),
    k ≤ f → k < n → f < 1000000000 → acc.length + f < 1000000000 → roundsE (evC II EE (withOpt [] pf) MX (bodyL Tryd.f54 0)) n ⟨e, σ, nx⟩ = q → e 0 = N k → e 3 = S acc →
    ∃ e' nx', q = some (.exit 0, ⟨e', σ, nx'⟩) ∧ e' 3 = S (digM f k acc) := by
  intro f
  induction f with
  | zero =>
    intro k n acc e σ nx q hkf hn hf hb hq h0 h3
    obtain ⟨n, rfl⟩ : ∃ m, n = m + 1 := ⟨n - 1, by omega⟩
    rw [rounds_rd] at hq
    have hk0 : k = 0 := by omega
    subst hk0
    have hc : ¬ ((0 : Int) < ((0 : Nat) : Int)) := by omega
    simp only [bodyL, bodyOf, Tryd.f54, SA, loops, List.nil_append, List.append_nil, List.cons_append, List.getD_cons_zero, List.getD_cons_succ] at hq
    simp only [h0, hc, IA, PA, RA0, RA1, RA2, RA3, RA4, RA5, RA6, RA7, RA8, RA9, RA10, Nat.reduceAdd, Nat.reduceMul, Nat.reduceEqDiff, Nat.reduceLeDiff, Nat.reduceLT, Int.reduceToNat, Int.reduceLT, Int.reduceLE, Int.reduceEq, Int.reduceNeg, Int.reduceAdd, Int.reduceSub, Int.reduceMul, reduceIte] at hq
    exact ⟨_, _, hq.symm, h3⟩
  | succ f ih =>
    intro k n acc e σ nx q hkf hn hf hb hq h0 h3
    obtain ⟨n, rfl⟩ : ∃ m, n = m + 1 := ⟨n - 1, by omega⟩
    rw [rounds_rd] at hq
    simp only [bodyL, bodyOf, Tryd.f54, SA, loops, List.nil_append, List.append_nil, List.cons_append, List.getD_cons_zero, List.getD_cons_succ] at hq
    by_cases hk0 : k = 0
    · have hc : ¬ ((0 : Int) < (k : Int)) := by omega
      simp only [h0, hc, IA, PA, RA0, RA1, RA2, RA3, RA4, RA5, RA6, RA7, RA8, RA9, RA10, Nat.reduceAdd, Nat.reduceMul, Nat.reduceEqDiff, Nat.reduceLeDiff, Nat.reduceLT, Int.reduceToNat, Int.reduceLT, Int.reduceLE, Int.reduceEq, Int.reduceNeg, Int.reduceAdd, Int.reduceSub, Int.reduceMul, reduceIte] at hq
      exact ⟨_, _, hq.symm, by rw [digM, if_pos hk0]; exact h3⟩
    · have hc : ((0 : Int) < (k : Int)) := by omega
      have hr : Int.tmod (k : Int) 10 = ((k % 10 : Nat) : Int) := by rw [Int.tmod_eq_emod_of_nonneg (by omega)]; rfl
      have hd : Int.tdiv (k : Int) 10 = ((k / 10 : Nat) : Int) := by rw [Int.tdiv_eq_ediv_of_nonneg (by omega)]; rfl
      have hw1 : IntKind.i64.wrap ((k % 10 : Nat) : Int) = ((k % 10 : Nat) : Int) := by rw [wrap64 (by omega) (by omega)]
      have hw2 : IntKind.i64.wrap (48 + ((k % 10 : Nat) : Int)) = ((48 + k % 10 : Nat) : Int) := by rw [wrap64 (by omega) (by omega)]; omega
      have hw3 : IntKind.u8.wrap ((48 + k % 10 : Nat) : Int) = ((48 + k % 10 : Nat) : Int) := by rw [wrap8 (by omega) (by omega)]
      have hw4 : IntKind.i64.wrap ((k / 10 : Nat) : Int) = ((k / 10 : Nat) : Int) := by rw [wrap64 (by omega) (by omega)]
      have hby : bytesOf [.v (.int .u8 ((48 + k % 10 : Nat) : Int))] = some [UInt8.ofNat (48 + k % 10)] := bytesOf_int (by omega) (by omega)
      simp only [h0, h3, hc, hr, hd, hw1, hw2, hw3, hw4, hby, str_addIf, List.length_cons, List.length_nil, RR, IA, PA, RA0, RA1, RA2, RA3, RA4, RA5, RA6, RA7, RA8, RA9, RA10, Nat.reduceAdd, Nat.reduceMul, Nat.reduceEqDiff, Nat.reduceLeDiff, Nat.reduceLT, Int.reduceToNat, Int.reduceLT, Int.reduceLE, Int.reduceEq, Int.reduceNeg, Int.reduceAdd, Int.reduceSub, Int.reduceMul, reduceIte] at hq
      rw [if_pos (by omega)] at hq
      obtain ⟨e', nx', h1, h2⟩ := ih (k / 10) n _ _ σ _ q (by omega) (by omega) (by omega) (by simp only [List.length_cons]; omega) hq rfl rfl
      exact ⟨e', nx', h1, by rw [digM, if_neg hk0]; exact h2⟩
def markT (k : Nat) : List UInt8 := 109 :: digM k k []
theorem markText_ev (k : Nat) (h1 : 0 < k) (h2 : k < 100000000) : EE 54 [N k] = some (S (markT k)) := by
  refine EE_plain T_markText (by decide) (Nat.le_of_ble_eq_true rfl) rfl ?_
  rw [show opt 54 = [] from rfl]
  simp only [bodyOf, Tryd.f54, SA]
  have hc : ¬ ((k : Int) ≤ 0) := by omega
  simp only [hc, RR, IA, PA, RA0, RA1, RA2, RA3, RA4, RA5, RA6, RA7, RA8, RA9, RA10, Nat.reduceAdd, Nat.reduceMul, Nat.reduceEqDiff, Nat.reduceLeDiff, Nat.reduceLT, Int.reduceToNat, Int.reduceLT, Int.reduceLE, Int.reduceEq, Int.reduceNeg, Int.reduceAdd, Int.reduceSub, Int.reduceMul, reduceIte]
  generalize hq : roundsE _ _ _ = q
  obtain ⟨e', nx', rfl, h3⟩ := markText_loop k k MX [] _ _ _ q (Nat.le_refl _) (lt_MX (by omega)) (by omega) (by simp; omega) hq rfl rfl
  have hl := (digM_len k k []).2
  simp only [List.length_nil, Nat.zero_add] at hl
  simp only [h3, str_addIf, List.length_cons, List.length_nil, RR, IA, PA, RA0, RA1, RA2, RA3, RA4, RA5, RA6, RA7, RA8, RA9, RA10, Nat.reduceAdd, Nat.reduceMul, Nat.reduceEqDiff, Nat.reduceLeDiff, Nat.reduceLT, Int.reduceToNat, Int.reduceLT, Int.reduceLE, Int.reduceEq, Int.reduceNeg, Int.reduceAdd, Int.reduceSub, Int.reduceMul, reduceIte]
  rw [if_pos (by omega)]
  rfl
def tmk (n : Nat) : List (List UInt8) := (List.range n).map fun i => markT (1 + i)
theorem tmk_len (n : Nat) : (tmk n).length = n := by simp [tmk]
theorem tmk_snoc (n : Nat) : tmk (n + 1) = tmk n ++ [markT (1 + n)] := by simp [tmk, List.range_succ]
theorem tmk_head {i n : Nat} (h : i < n) : ((tmk n).drop i).head? = some (markT (1 + i)) := by
  rw [List.head?_drop]
  simp [tmk, h]
theorem T_markStringS : TT 27 = some (Tryd.f27, bodyOf Tryd.f27) := by kernel_rfl
theorem markStringS_loop (L : List (List UInt8)) (hL : L.length < 10000000) : ∀ (d i n : Nat) (e : Nat → AV) (σ : Sto) (nx : Nat) (q : Option (Ex × St)),
    i + d = L.length → d < n → roundsE (evC II EE (withOpt [] pf) MX (bodyL Tryd.f27 0)) n ⟨e, σ, nx⟩ = q → e 0 = .w 0 0 L.length → e 1 = N (1 + i) → e 5 = N i → 0 < nx →
    σ 0 = some (.row 9 1 L.length (strs (tmk i ++ L.drop i))) →
    ∃ e' σ' nx', q = some (.exit 0, ⟨e', σ', nx'⟩) ∧ e' 1 = N (1 + L.length) ∧ σ' 0 = some (.row 9 1 L.length (strs (tmk L.length))) := by
  intro d
  induction d with
  | zero =>
    intro i n e σ nx q hd hn hq h0 h1 h5 hnx hσ
    obtain ⟨k, rfl⟩ : ∃ k, n = k + 1 := ⟨n - 1, by omega⟩
    rw [rounds_rd] at hq
    have hc : ¬ ((i : Int) < (L.length : Int)) := by omega
    simp only [bodyL, bodyOf, Tryd.f27, SA, loops, List.nil_append, List.append_nil, List.cons_append, List.getD_cons_zero, List.getD_cons_succ] at hq
    simp only [h0, h1, h5, hc, IA, PA, RA0, RA1, RA2, RA3, RA4, RA5, RA6, RA7, RA8, RA9, RA10, Nat.reduceAdd, Nat.reduceMul, Nat.reduceEqDiff, Nat.reduceLeDiff, Nat.reduceLT, Int.reduceToNat, Int.reduceLT, Int.reduceLE, Int.reduceEq, Int.reduceNeg, Int.reduceAdd, Int.reduceSub, Int.reduceMul, reduceIte] at hq
    have hi : i = L.length := by omega
    refine ⟨_, _, _, hq.symm, ?_, ?_⟩
    · rw [← hi]; exact h1
    · rw [hσ, hi, List.drop_length, List.append_nil]
  | succ d ih =>
    intro i n e σ nx q hd hn hq h0 h1 h5 hnx hσ
    obtain ⟨k, rfl⟩ : ∃ k, n = k + 1 := ⟨n - 1, by omega⟩
    rw [rounds_rd] at hq
    have hc : ((i : Int) < (L.length : Int)) := by omega
    have hz : (0 : Int) ≤ (i : Int) := by omega
    have hw : IntKind.i64.wrap ((i : Int) + 1) = ((i + 1 : Nat) : Int) := by rw [wrap64 (by omega) (by omega)]; rfl
    have hw1 : IntKind.i64.wrap (1 + (i : Int) + 1) = 1 + ((i + 1 : Nat) : Int) := by rw [wrap64 (by omega) (by omega)]; omega
    have hmt : EE 54 [N (1 + (i : Int))] = some (S (markT (1 + i))) := by
      have := markText_ev (1 + i) (by omega) (by omega)
      rwa [show ((1 + i : Nat) : Int) = 1 + (i : Int) by omega] at this
    obtain ⟨z, r, hdr⟩ : ∃ z r, L.drop i = z :: r := by
      cases h : L.drop i with
      | nil => have := congrArg List.length h; simp at this; omega
      | cons z r => exact ⟨z, r, rfl⟩
    have hdr' : L.drop (i + 1) = r := by
      have : (L.drop i).drop 1 = r := by rw [hdr]; rfl
      simpa [List.drop_drop] using this
    have hset : setRange (strs (tmk i ++ L.drop i)) i [S (markT (1 + i))] = some (strs (tmk (i + 1) ++ L.drop (i + 1))) := by
      rw [hdr, hdr', tmk_snoc, ← strs_append, strs_cons, set_at (by rw [strs_len, tmk_len])]
      simp [strs]
    simp only [bodyL, bodyOf, Tryd.f27, SA, loops, List.nil_append, List.append_nil, List.cons_append, List.getD_cons_zero, List.getD_cons_succ] at hq
    rw [setRange_eq] at hset
    simp only [h0, h1, h5, hc, hz, hw, hw1, hmt, hσ, Int.toNat_natCast, Nat.mul_one, Nat.zero_add, RR, IA, PA, RA0, RA1, RA2, RA3, RA4, RA5, RA6, RA7, RA8, RA9, RA10, Nat.reduceAdd, Nat.reduceMul, Nat.reduceEqDiff, Nat.reduceLeDiff, Nat.reduceLT, Int.reduceToNat, Int.reduceLT, Int.reduceLE, Int.reduceEq, Int.reduceNeg, Int.reduceAdd, Int.reduceSub, Int.reduceMul, reduceIte] at hq
    rw [if_pos (by rw [List.length_append, tmk_len, List.length_drop]; omega)] at hq
    rw [List.length_cons, List.length_nil, if_pos (by rw [strs_len, List.length_append, tmk_len, List.length_drop]; omega)] at hset
    have hset2 := Option.some.inj hset
    exact ih (i + 1) k _ _ _ q (by omega) (by omega) hq h0 rfl rfl (by omega) (by simp only [upd, if_true]; exact congrArg (fun z => some (Slot.row 9 1 L.length z)) hset2)
theorem markStringS_ev (L : List (List UInt8)) (hL : L.length < 10000000) : EE 27 [lentR L.length 9 1 (strs L), N 1] = some (.t [N (1 + L.length), .t [lentR L.length 9 1 (strs (tmk L.length)), N 1]]) := by
  refine EE_lendR T_markStringS rfl (Nat.le_of_ble_eq_true rfl) rfl ?_
  rw [show opt 27 = [] from rfl]
  simp only [bodyOf, Tryd.f27, SA]
  simp only [RR, IA, PA, RA0, RA1, RA2, RA3, RA4, RA5, RA6, RA7, RA8, RA9, RA10, Nat.reduceAdd, Nat.reduceMul, Nat.reduceEqDiff, Nat.reduceLeDiff, Nat.reduceLT, Int.reduceToNat, Int.reduceLT, Int.reduceLE, Int.reduceEq, Int.reduceNeg, Int.reduceAdd, Int.reduceSub, Int.reduceMul, reduceIte]
  generalize hq : roundsE _ _ _ = q
  obtain ⟨e', σ', nx', rfl, h1, hσ⟩ := markStringS_loop L hL L.length 0 MX _ _ _ q (by omega) (lt_MX (by omega)) hq rfl rfl rfl (by omega) (by simp only [upd, if_true]; rfl)
  simp only [h1, RR, IA, PA, RA0, RA1, RA2, RA3, RA4, RA5, RA6, RA7, RA8, RA9, RA10, Nat.reduceAdd, Nat.reduceMul, Nat.reduceEqDiff, Nat.reduceLeDiff, Nat.reduceLT, Int.reduceToNat, Int.reduceLT, Int.reduceLE, Int.reduceEq, Int.reduceNeg, Int.reduceAdd, Int.reduceSub, Int.reduceMul, reduceIte]
  exact out_row_one (x := N (1 + L.length)) (by simp only [IA, PA, RA0, RA1, RA2, RA3, RA4, RA5, RA6, RA7, RA8, RA9, RA10, Nat.reduceAdd, Nat.reduceMul, Nat.reduceEqDiff, Nat.reduceLeDiff, Nat.reduceLT, Int.reduceToNat, Int.reduceLT, Int.reduceLE, Int.reduceEq, Int.reduceNeg, Int.reduceAdd, Int.reduceSub, Int.reduceMul, reduceIte]) rfl hσ (strs_closed _) rfl
theorem markStringS_nil : EE 27 [.s true 0 [], N 1] = some (.t [N 1, .t [.s true 0 [], N 1]]) := by
  refine EE_goes T_markStringS rfl (Nat.le_of_ble_eq_true rfl) rfl ?_
  rw [show opt 27 = [] from rfl]
  simp only [bodyOf, Tryd.f27, SA]
  simp only [RR, IA, PA, RA0, RA1, RA2, RA3, RA4, RA5, RA6, RA7, RA8, RA9, RA10, Nat.reduceAdd, Nat.reduceMul, Nat.reduceEqDiff, Nat.reduceLeDiff, Nat.reduceLT, Int.reduceToNat, Int.reduceLT, Int.reduceLE, Int.reduceEq, Int.reduceNeg, Int.reduceAdd, Int.reduceSub, Int.reduceMul, reduceIte]
  generalize hq : roundsE _ _ _ = q
  obtain ⟨k, hk⟩ : ∃ k, MX = k + 1 := ⟨MX - 1, rfl⟩
  rw [hk, rounds_rd] at hq
  simp only [RR, IA, PA, RA0, RA1, RA2, RA3, RA4, RA5, RA6, RA7, RA8, RA9, RA10, Nat.reduceAdd, Nat.reduceMul, Nat.reduceEqDiff, Nat.reduceLeDiff, Nat.reduceLT, Int.reduceToNat, Int.reduceLT, Int.reduceLE, Int.reduceEq, Int.reduceNeg, Int.reduceAdd, Int.reduceSub, Int.reduceMul, reduceIte] at hq
  subst hq
  simp only [RR, IA, PA, RA0, RA1, RA2, RA3, RA4, RA5, RA6, RA7, RA8, RA9, RA10, Nat.reduceAdd, Nat.reduceMul, Nat.reduceEqDiff, Nat.reduceLeDiff, Nat.reduceLT, Int.reduceToNat, Int.reduceLT, Int.reduceLE, Int.reduceEq, Int.reduceNeg, Int.reduceAdd, Int.reduceSub, Int.reduceMul, reduceIte]
  exact out_goes_one (x := N 1) (by simp only [IA, PA, RA0, RA1, RA2, RA3, RA4, RA5, RA6, RA7, RA8, RA9, RA10, Nat.reduceAdd, Nat.reduceMul, Nat.reduceEqDiff, Nat.reduceLeDiff, Nat.reduceLT, Int.reduceToNat, Int.reduceLT, Int.reduceLE, Int.reduceEq, Int.reduceNeg, Int.reduceAdd, Int.reduceSub, Int.reduceMul, reduceIte]) rfl rfl
theorem T_heldStringS : TT 28 = some (Tryd.f28, bodyOf Tryd.f28) := by kernel_rfl
theorem heldStringS_loop (x : Bool) (n0 : Nat) (hL : n0 < 10000000) : ∀ (d i n : Nat) (e : Nat → AV) (σ : Sto) (nx : Nat) (q : Option (Ex × St)),
    i + d = n0 → d < n → roundsE (evC II EE (withOpt [] pf) MX (bodyL Tryd.f28 0)) n ⟨e, σ, nx⟩ = q → e 0 = .s x n0 (strs (tmk n0)) → e 1 = N (1 + i) → e 5 = N i →
    ∃ e' nx', q = some (.exit 0, ⟨e', σ, nx'⟩) ∧ e' 1 = N (1 + n0) := by
  intro d
  induction d with
  | zero =>
    intro i n e σ nx q hd hn hq h0 h1 h5
    obtain ⟨k, rfl⟩ : ∃ k, n = k + 1 := ⟨n - 1, by omega⟩
    rw [rounds_rd] at hq
    have hc : ¬ ((i : Int) < (n0 : Int)) := by omega
    simp only [bodyL, bodyOf, Tryd.f28, SA, loops, List.nil_append, List.append_nil, List.cons_append, List.getD_cons_zero, List.getD_cons_succ] at hq
    simp only [h0, h1, h5, hc, IA, PA, RA0, RA1, RA2, RA3, RA4, RA5, RA6, RA7, RA8, RA9, RA10, Nat.reduceAdd, Nat.reduceMul, Nat.reduceEqDiff, Nat.reduceLeDiff, Nat.reduceLT, Int.reduceToNat, Int.reduceLT, Int.reduceLE, Int.reduceEq, Int.reduceNeg, Int.reduceAdd, Int.reduceSub, Int.reduceMul, reduceIte] at hq
    have hi : i = n0 := by omega
    exact ⟨_, _, hq.symm, by rw [← hi]; exact h1⟩
  | succ d ih =>
    intro i n e σ nx q hd hn hq h0 h1 h5
    obtain ⟨k, rfl⟩ : ∃ k, n = k + 1 := ⟨n - 1, by omega⟩
    rw [rounds_rd] at hq
    have hc : ((i : Int) < (n0 : Int)) := by omega
    have hz : (0 : Int) ≤ (i : Int) := by omega
    have hw : IntKind.i64.wrap ((i : Int) + 1) = ((i + 1 : Nat) : Int) := by rw [wrap64 (by omega) (by omega)]; rfl
    have hw1 : IntKind.i64.wrap (1 + (i : Int) + 1) = 1 + ((i + 1 : Nat) : Int) := by rw [wrap64 (by omega) (by omega)]; omega
    have hmt : EE 54 [N (1 + (i : Int))] = some (S (markT (1 + i))) := by
      have := markText_ev (1 + i) (by omega) (by omega)
      rwa [show ((1 + i : Nat) : Int) = 1 + (i : Int) by omega] at this
    have hhd : ((strs (tmk n0)).drop i).head? = some (S (markT (1 + i))) := by rw [strs_drop, strs_head, tmk_head (by omega)]; rfl
    have hee : (markT (1 + i) == markT (1 + i)) = true := by simp
    simp only [bodyL, bodyOf, Tryd.f28, SA, loops, List.nil_append, List.append_nil, List.cons_append, List.getD_cons_zero, List.getD_cons_succ] at hq
    simp only [h0, h1, h5, hc, hz, hw, hw1, hmt, hhd, hee, tmk_len, Int.toNat_natCast, Nat.mul_one, Nat.zero_add, RR, IA, PA, RA0, RA1, RA2, RA3, RA4, RA5, RA6, RA7, RA8, RA9, RA10, Nat.reduceAdd, Nat.reduceMul, Nat.reduceEqDiff, Nat.reduceLeDiff, Nat.reduceLT, Int.reduceToNat, Int.reduceLT, Int.reduceLE, Int.reduceEq, Int.reduceNeg, Int.reduceAdd, Int.reduceSub, Int.reduceMul, reduceIte] at hq
    exact ih (i + 1) k _ σ _ q (by omega) (by omega) hq h0 rfl rfl
theorem heldStringS_ev (x : Bool) (n0 : Nat) (hL : n0 < 10000000) : EE 28 [.s x n0 (strs (tmk n0)), N 1] = some (N (1 + n0)) := by
  refine EE_plain T_heldStringS (by decide) (Nat.le_of_ble_eq_true rfl) (by simp only [closedL, closed, strs_closed, Bool.and_self]) ?_
  rw [show opt 28 = [] from rfl]
  simp only [bodyOf, Tryd.f28, SA]
  simp only [RR, IA, PA, RA0, RA1, RA2, RA3, RA4, RA5, RA6, RA7, RA8, RA9, RA10, Nat.reduceAdd, Nat.reduceMul, Nat.reduceEqDiff, Nat.reduceLeDiff, Nat.reduceLT, Int.reduceToNat, Int.reduceLT, Int.reduceLE, Int.reduceEq, Int.reduceNeg, Int.reduceAdd, Int.reduceSub, Int.reduceMul, reduceIte]
  generalize hq : roundsE _ _ _ = q
  obtain ⟨e', nx', rfl, h1⟩ := heldStringS_loop x n0 hL n0 0 MX _ _ _ q (by omega) (lt_MX (by omega)) hq rfl rfl rfl
  simp only [h1, RR, IA, PA, RA0, RA1, RA2, RA3, RA4, RA5, RA6, RA7, RA8, RA9, RA10, Nat.reduceAdd, Nat.reduceMul, Nat.reduceEqDiff, Nat.reduceLeDiff, Nat.reduceLT, Int.reduceToNat, Int.reduceLT, Int.reduceLE, Int.reduceEq, Int.reduceNeg, Int.reduceAdd, Int.reduceSub, Int.reduceMul, reduceIte]
theorem T_lawInstructionsOf : TT 7 = some (Tryd.f7, bodyOf Tryd.f7) := by kernel_rfl
theorem instructionsOf_law (code : List UInt8) : EE 7 [S code] = some (B true) := by
  refine EE_plain T_lawInstructionsOf (by decide) (Nat.le_of_ble_eq_true rfl) rfl ?_
  rw [show opt 7 = [] from rfl]
  simp only [bodyOf, Tryd.f7, SA]
  by_cases hbig : (1048576 : Int) < (code.length : Int)
  · simp only [hbig, RR, IA, PA, RA0, RA1, RA2, RA3, RA4, RA5, RA6, RA7, RA8, RA9, RA10, Nat.reduceAdd, Nat.reduceMul, Nat.reduceEqDiff, Nat.reduceLeDiff, Nat.reduceLT, Int.reduceToNat, Int.reduceLT, Int.reduceLE, Int.reduceEq, Int.reduceNeg, Int.reduceAdd, Int.reduceSub, Int.reduceMul, reduceIte]
  · have hl : code.length < 50000000 := by omega
    have h := implInstructionsOf_ev code hl
    have k := specInstructionsOf_ev code hl
    cases hs : (specB code).isSome
    · rw [hs] at h k
      simp only [Bool.false_eq_true, if_false] at h k
      have he0 : EE 26 [.s true 0 [], .s true 0 []] = some (B true) := eqStringS_ev true true [] (by decide)
      have hh0 : EE 28 [.s true 0 [], N 1] = some (N 1) := heldStringS_ev true 0 (by decide)
      simp only [hbig, h, k, he0, hh0, TMA, RR, IA, PA, RA0, RA1, RA2, RA3, RA4, RA5, RA6, RA7, RA8, RA9, RA10, Nat.reduceAdd, Nat.reduceMul, Nat.reduceEqDiff, Nat.reduceLeDiff, Nat.reduceLT, Int.reduceToNat, Int.reduceLT, Int.reduceLE, Int.reduceEq, Int.reduceNeg, Int.reduceAdd, Int.reduceSub, Int.reduceMul, reduceIte]
      rw [call_goes (by rfl) (by rfl) markStringS_nil]
      simp only [hbig, h, k, he0, hh0, TMA, RR, IA, PA, RA0, RA1, RA2, RA3, RA4, RA5, RA6, RA7, RA8, RA9, RA10, Nat.reduceAdd, Nat.reduceMul, Nat.reduceEqDiff, Nat.reduceLeDiff, Nat.reduceLT, Int.reduceToNat, Int.reduceLT, Int.reduceLE, Int.reduceEq, Int.reduceNeg, Int.reduceAdd, Int.reduceSub, Int.reduceMul, reduceIte]
    · rw [hs] at h k
      simp only [if_true] at h k
      have hcll := cutL_len 32 code
      generalize cutL 32 code = L at h k hcll
      have he := eqStringS_ev false false L (by omega)
      have hm := markStringS_ev L (by omega)
      have hh := heldStringS_ev false L.length (by omega)
      have hn0 : ¬ (1 + (L.length : Int) < 0) := by omega
      have hee : decide (1 + (L.length : Int) = 1 + (L.length : Int)) = true := by simp
      have hlen : (strs L).length = L.length * 1 := by rw [strs_len, Nat.mul_one]
      have hlen2 : (strs (tmk L.length)).length = L.length * 1 := by rw [strs_len, tmk_len, Nat.mul_one]
      simp only [hbig, h, k, strs_closed, TMA, RR, IA, PA, RA0, RA1, RA2, RA3, RA4, RA5, RA6, RA7, RA8, RA9, RA10, Nat.reduceAdd, Nat.reduceMul, Nat.reduceEqDiff, Nat.reduceLeDiff, Nat.reduceLT, Int.reduceToNat, Int.reduceLT, Int.reduceLE, Int.reduceEq, Int.reduceNeg, Int.reduceAdd, Int.reduceSub, Int.reduceMul, reduceIte]
      rw [call0_ww (E := 9) (sz := 1) (E' := 9) (sz' := 1) (cs := strs L) (ds := strs L) (by rfl) (by rfl) (by rfl) hlen hlen (strs_closed _) (strs_closed _) rfl he]
      simp only [RR, IA, PA, RA0, RA1, RA2, RA3, RA4, RA5, RA6, RA7, RA8, RA9, RA10, Nat.reduceAdd, Nat.reduceMul, Nat.reduceEqDiff, Nat.reduceLeDiff, Nat.reduceLT, Int.reduceToNat, Int.reduceLT, Int.reduceLE, Int.reduceEq, Int.reduceNeg, Int.reduceAdd, Int.reduceSub, Int.reduceMul, reduceIte]
      rw [call_row_v (E := 9) (sz := 1) (cs := strs L) (cs' := strs (tmk L.length)) (by rfl) (by rfl) (strs_closed _) (by rfl) (by exact hm)]
      simp only [RR, IA, PA, RA0, RA1, RA2, RA3, RA4, RA5, RA6, RA7, RA8, RA9, RA10, Nat.reduceAdd, Nat.reduceMul, Nat.reduceEqDiff, Nat.reduceLeDiff, Nat.reduceLT, Int.reduceToNat, Int.reduceLT, Int.reduceLE, Int.reduceEq, Int.reduceNeg, Int.reduceAdd, Int.reduceSub, Int.reduceMul, reduceIte]
      rw [call0_w (E := 9) (sz := 1) (cs := strs (tmk L.length)) (by rfl) (by rfl) hlen2 (strs_closed _) (by rfl) (by exact hh)]
      simp only [hn0, hee, h, strs_closed, TMA, RR, IA, PA, RA0, RA1, RA2, RA3, RA4, RA5, RA6, RA7, RA8, RA9, RA10, Nat.reduceAdd, Nat.reduceMul, Nat.reduceEqDiff, Nat.reduceLeDiff, Nat.reduceLT, Int.reduceToNat, Int.reduceLT, Int.reduceLE, Int.reduceEq, Int.reduceNeg, Int.reduceAdd, Int.reduceSub, Int.reduceMul, reduceIte]
      rw [call0_ww (E := 9) (sz := 1) (E' := 9) (sz' := 1) (cs := strs L) (ds := strs L) (by rfl) (by rfl) (by rfl) hlen hlen (strs_closed _) (strs_closed _) rfl he]
      simp only [RR, IA, PA, RA0, RA1, RA2, RA3, RA4, RA5, RA6, RA7, RA8, RA9, RA10, Nat.reduceAdd, Nat.reduceMul, Nat.reduceEqDiff, Nat.reduceLeDiff, Nat.reduceLT, Int.reduceToNat, Int.reduceLT, Int.reduceLE, Int.reduceEq, Int.reduceNeg, Int.reduceAdd, Int.reduceSub, Int.reduceMul, reduceIte]
      rw [call0_w (E := 9) (sz := 1) (cs := strs (tmk L.length)) (by rfl) (by rfl) hlen2 (strs_closed _) (by rfl) (by exact hh)]
      simp only [hn0, hee, TMA, RR, IA, PA, RA0, RA1, RA2, RA3, RA4, RA5, RA6, RA7, RA8, RA9, RA10, Nat.reduceAdd, Nat.reduceMul, Nat.reduceEqDiff, Nat.reduceLeDiff, Nat.reduceLT, Int.reduceToNat, Int.reduceLT, Int.reduceLE, Int.reduceEq, Int.reduceNeg, Int.reduceAdd, Int.reduceSub, Int.reduceMul, reduceIte]
end
end Go.Proofs.YtkmnidbodlmaaaaDoor.Ev
