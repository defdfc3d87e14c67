/-
Texts Vo to Vo of the work.
-/
import Derived.Test.YtegbkihgnofkfaaGreatDoorZVl
/-
Code: the implementation's LevelsAt.
-/
namespace Go.Proofs.YtegbkihgnofkfaaGreatDoor.Ev
section
set_option linter.unusedVariables false
set_option linter.unusedSimpArgs false
open Go Go.RowKit
set_option linter.unusedVariables false
set_option linter.unusedSimpArgs false
theorem T_levelsOf : TT 23 = some (Tryz.f23, bodyOf Tryz.f23) := by kernel_rfl
theorem dL_ge (x : List UInt8) : -1 ≤ dL x := by
  unfold dL
  split
  · omega
  split <;> omega
theorem levels_loop (ex : Bool) (L : List (List UInt8)) (hL : L.length < 100000000) : ∀ (r : List (List UInt8)) (i n : Nat) (v : Int) (out : List Int) (e : Nat → AV) (σ : Sto) (nx : Nat) (q : Option (Ex × St)),
    L.drop i = r → i ≤ L.length → r.length < n → out.length = i → -(i : Int) ≤ v → v ≤ i → roundsE (evC II EE (withOpt [] pf) MX (bodyL Tryz.f23 0)) n ⟨e, σ, nx⟩ = q →
    e 8 = .s ex L.length (strs L) → e 9 = N L.length → e 10 = N i → e 4 = N v → Lst σ nx 3 1 (e 3) i (ints out) →
    ∃ e' σ' nx', q = some (.exit 0, ⟨e', σ', nx'⟩) ∧ Lst σ' nx' 3 1 (e' 3) L.length (ints (out ++ lsI v r)) := by
  intro r
  induction r with
  | nil =>
    intro i n v out e σ nx q hd hiL hn ho hb1 hb2 hq h8 h9 h10 h4 h3
    have hlen : L.length ≤ i := by simpa using hd
    have hiE : i = L.length := by omega
    subst hiE
    obtain ⟨k, rfl⟩ : ∃ k, n = k + 1 := ⟨n - 1, by omega⟩
    rw [rounds_rd] at hq
    have hc : ¬ ((L.length : Int) < (L.length : Int)) := by omega
    simp only [bodyL, bodyOf, Tryz.f23, SA, loops, List.nil_append, List.append_nil, List.cons_append, List.getD_cons_zero, List.getD_cons_succ] at hq
    simp only [h9, h10, hc, IA, PA, RA0, RA1, RA2, RA3, RA4, RA5, RA6, RA7, RA8, RA9, RA10, Nat.reduceAdd, Nat.reduceMul, Nat.reduceEqDiff, Nat.reduceLeDiff, Nat.reduceLT, Int.reduceToNat, Int.reduceLT, Int.reduceLE, Int.reduceEq, Int.reduceNeg, Int.reduceAdd, Int.reduceSub, Int.reduceMul, reduceIte] at hq
    refine ⟨_, _, _, hq.symm, ?_⟩
    rw [lsI, List.append_nil]
    exact lst_mono h3 (by omega)
  | cons x r ih =>
    intro i n v out e σ nx q hd hiL hn ho hb1 hb2 hq h8 h9 h10 h4 h3
    obtain ⟨hi, hx, hd'⟩ := strs_drop_head hd
    obtain ⟨k, rfl⟩ : ∃ k, n = k + 1 := ⟨n - 1, by omega⟩
    rw [rounds_rd] at hq
    have hc : ((i : Int) < (L.length : Int)) := by omega
    have hz : (0 : Int) ≤ (i : Int) := by omega
    have hw : IntKind.i64.wrap ((i : Int) + 1) = ((i + 1 : Nat) : Int) := by rw [wrap64 (by omega) (by omega)]; rfl
    have hhd : ((strs L).drop i).head? = some (S x) := by rw [strs_drop, hd]; rfl
    have hbe := begins_ev x
    have hen := isEnd_ev x
    have hdl := dL_le x
    have hdg := dL_ge x
    simp only [bodyL, bodyOf, Tryz.f23, SA, loops, List.nil_append, List.append_nil, List.cons_append, List.getD_cons_zero, List.getD_cons_succ] at hq
    have hfin : ∀ (key : Nat) (τ : Sto) (e2 : Nat → AV) (nx2 : Nat) (q' : Option (Ex × St)) (z : Int), roundsE (evC II EE (withOpt [] pf) MX (bodyL Tryz.f23 0)) k ⟨e2, τ, nx2⟩ = q' → key < nx2 → z = (if endM x = true then v - 1 else v) → τ key = some (.row 3 1 (i + 1) (ints out ++ [N z])) →
        e2 8 = .s ex L.length (strs L) → e2 9 = N L.length → e2 10 = N (i + 1 : Nat) → e2 4 = N (v + dL x) → e2 3 = .w key 0 (i + 1) →
        ∃ e' σ' nx', q' = some (.exit 0, ⟨e', σ', nx'⟩) ∧ Lst σ' nx' 3 1 (e' 3) L.length (ints (out ++ lsI v (x :: r))) := by
      intro key τ e2 nx2 q' z hq' hk2 hzz hτk g8 g9 g10 g4 g3
      have := ih (i + 1) k (v + dL x) (out ++ [z]) e2 τ nx2 q' hd' (by omega) (by simpa using hn) (by simp [ho]) (by omega) (by omega) hq' g8 g9 g10 g4
        (by rw [g3]; exact .inr ⟨key, hk2, rfl, by rw [hτk, ← ints_append]; rfl, by rw [ints_len]; simp [ho]⟩)
      rw [lsI, ← hzz]
      simpa using this
    cases he : endM x
    · rw [he] at hen
      cases hb : begM x
      · rw [hb] at hbe
        have hdh : dL x = 0 := by simp [dL, hb, he]
        simp only [h8, h9, h10, h4, hc, hz, hw, hhd, hbe, hen, Int.toNat_natCast, Nat.mul_one, Nat.zero_add, RR, IA, PA, RA0, RA1, RA2, RA3, RA4, RA5, RA6, RA7, RA8, RA9, RA10, Nat.reduceAdd, Nat.reduceMul, Nat.reduceEqDiff, Nat.reduceLeDiff, Nat.reduceLT, Int.reduceToNat, Int.reduceLT, Int.reduceLE, Int.reduceEq, Int.reduceNeg, Int.reduceAdd, Int.reduceSub, Int.reduceMul, reduceIte] at hq
        rw [lst_app h3 (by decide) (by rfl) (by rfl) (by decide) (by omega) (by omega) (by omega)] at hq
        generalize hτ : appSto _ _ _ _ (e 3) _ _ = τ at hq
        have t1 := (congrFun hτ _).symm.trans (appSto_key ..)
        clear hτ
        simp only [h10, hw, hbe, RR, IA, PA, RA0, RA1, RA2, RA3, RA4, RA5, RA6, RA7, RA8, RA9, RA10, Nat.reduceAdd, Nat.reduceMul, Nat.reduceEqDiff, Nat.reduceLeDiff, Nat.reduceLT, Int.reduceToNat, Int.reduceLT, Int.reduceLE, Int.reduceEq, Int.reduceNeg, Int.reduceAdd, Int.reduceSub, Int.reduceMul, reduceIte] at hq
        exact hfin _ τ _ _ q v hq (by omega) (by rw [he]; rfl) t1 h8 h9 rfl (by rw [hdh, Int.add_zero]; exact h4) rfl
      · rw [hb] at hbe
        have hdh : dL x = 1 := by simp [dL, hb]
        have hw2 : IntKind.i64.wrap (v + 1) = v + dL x := by rw [hdh, wrap64 (by omega) (by omega)]
        simp only [h8, h9, h10, h4, hc, hz, hw, hhd, hbe, hen, Int.toNat_natCast, Nat.mul_one, Nat.zero_add, RR, IA, PA, RA0, RA1, RA2, RA3, RA4, RA5, RA6, RA7, RA8, RA9, RA10, Nat.reduceAdd, Nat.reduceMul, Nat.reduceEqDiff, Nat.reduceLeDiff, Nat.reduceLT, Int.reduceToNat, Int.reduceLT, Int.reduceLE, Int.reduceEq, Int.reduceNeg, Int.reduceAdd, Int.reduceSub, Int.reduceMul, reduceIte] at hq
        rw [lst_app h3 (by decide) (by rfl) (by rfl) (by decide) (by omega) (by omega) (by omega)] at hq
        generalize hτ : appSto _ _ _ _ (e 3) _ _ = τ at hq
        have t1 := (congrFun hτ _).symm.trans (appSto_key ..)
        clear hτ
        simp only [h10, h4, hw, hw2, hbe, RR, IA, PA, RA0, RA1, RA2, RA3, RA4, RA5, RA6, RA7, RA8, RA9, RA10, Nat.reduceAdd, Nat.reduceMul, Nat.reduceEqDiff, Nat.reduceLeDiff, Nat.reduceLT, Int.reduceToNat, Int.reduceLT, Int.reduceLE, Int.reduceEq, Int.reduceNeg, Int.reduceAdd, Int.reduceSub, Int.reduceMul, reduceIte] at hq
        exact hfin _ τ _ _ q v hq (by omega) (by rw [he]; rfl) t1 h8 h9 rfl rfl rfl
    · rw [he] at hen
      have hb : begM x = false := by
        cases hb : begM x
        · rfl
        · rw [beg_end hb] at he; cases he
      rw [hb] at hbe
      have hdh : dL x = -1 := by simp [dL, hb, he]
      have hw2 : IntKind.i64.wrap (v - 1) = v + dL x := by rw [hdh, wrap64 (by omega) (by omega)]; omega
      simp only [h8, h9, h10, h4, hc, hz, hw, hw2, hhd, hbe, hen, Int.toNat_natCast, Nat.mul_one, Nat.zero_add, RR, IA, PA, RA0, RA1, RA2, RA3, RA4, RA5, RA6, RA7, RA8, RA9, RA10, Nat.reduceAdd, Nat.reduceMul, Nat.reduceEqDiff, Nat.reduceLeDiff, Nat.reduceLT, Int.reduceToNat, Int.reduceLT, Int.reduceLE, Int.reduceEq, Int.reduceNeg, Int.reduceAdd, Int.reduceSub, Int.reduceMul, reduceIte] at hq
      rw [lst_app h3 (by decide) (by rfl) (by rfl) (by decide) (by omega) (by omega) (by omega)] at hq
      generalize hτ : appSto _ _ _ _ (e 3) _ _ = τ at hq
      have t1 := (congrFun hτ _).symm.trans (appSto_key ..)
      clear hτ
      simp only [h10, hw, hbe, RR, IA, PA, RA0, RA1, RA2, RA3, RA4, RA5, RA6, RA7, RA8, RA9, RA10, Nat.reduceAdd, Nat.reduceMul, Nat.reduceEqDiff, Nat.reduceLeDiff, Nat.reduceLT, Int.reduceToNat, Int.reduceLT, Int.reduceLE, Int.reduceEq, Int.reduceNeg, Int.reduceAdd, Int.reduceSub, Int.reduceMul, reduceIte] at hq
      exact hfin _ τ _ _ q (v + dL x) hq (by omega) (by rw [he, hdh]; rfl) t1 h8 h9 rfl rfl rfl
theorem levelsOf_ev (ex : Bool) (L : List (List UInt8)) (hL : L.length < 100000000) (hne : L.length ≠ 0) : EE 23 [.s ex L.length (strs L)] = some (.o 3 1 L.length (ints (lsI 0 L))) := by
  refine EE_plain T_levelsOf (by decide) (Nat.le_of_ble_eq_true rfl) (by simp only [closedL, closed, strs_closed, Bool.and_self]) ?_
  rw [show opt 23 = [] from rfl]
  simp only [bodyOf, Tryz.f23, SA]
  simp only [RR, IA, PA, RA0, RA1, RA2, RA3, RA4, RA5, RA6, RA7, RA8, RA9, RA10, Nat.reduceAdd, Nat.reduceMul, Nat.reduceEqDiff, Nat.reduceLeDiff, Nat.reduceLT, Int.reduceToNat, Int.reduceLT, Int.reduceLE, Int.reduceEq, Int.reduceNeg, Int.reduceAdd, Int.reduceSub, Int.reduceMul, reduceIte]
  generalize hq : roundsE _ _ _ = q
  obtain ⟨e', σ', nx', rfl, hlst⟩ := levels_loop ex L hL L 0 MX 0 [] _ _ _ q rfl (Nat.zero_le _) (lt_MX (by omega)) rfl (by omega) (by omega) hq rfl rfl rfl rfl (.inl ⟨rfl, rfl, rfl⟩)
  simp only [RR, IA, PA, RA0, RA1, RA2, RA3, RA4, RA5, RA6, RA7, RA8, RA9, RA10, Nat.reduceAdd, Nat.reduceMul, Nat.reduceEqDiff, Nat.reduceLeDiff, Nat.reduceLT, Int.reduceToNat, Int.reduceLT, Int.reduceLE, Int.reduceEq, Int.reduceNeg, Int.reduceAdd, Int.reduceSub, Int.reduceMul, reduceIte]
  rw [List.nil_append] at hlst
  rcases hlst with ⟨_, h0, _⟩ | ⟨id, g1, g2, g3, g4⟩
  · exact absurd h0 hne
  · rw [g2]
    exact give_row g3 (ints_closed _)
theorem ints_flat {E n : Nat} (l : List Int) : flat (.o E 1 n (ints l)) = true := by
  show (ints l).all plain = true
  induction l with
  | nil => rfl
  | cons x l ih => simp [ints, plain]
/-- A call that is given a row and gives a row. -/
theorem call0_wo {pf' : FuncId → Nat} {σ : Sto} {key : Nat} {f : FuncId} {id n E sz E' sz' m : Nat} {cs ds : List AV} (hσ : σ id = some (.row E sz n cs)) (hp : pf' f = 0) (hl : cs.length = n * sz) (hc : closedL cs = true) (hd : closedL ds = true) (hf : flat (.o E' sz' m ds) = true) (hr : EE f [.s false n cs] = some (.o E' sz' m ds)) :
    callOp EE pf' σ key f [.w id 0 n] = some (.w key 0 m, upd σ key (some (.row E' sz' m ds))) := by
  unfold callOp
  rw [if_neg (by omega), if_neg (by omega), if_neg (by omega)]
  have h1 : deep σ 8 (.w id 0 n) = some (.s false n cs, [id]) := by
    rw [deep_w 7 hσ (by omega) hc, List.drop_zero, List.take_of_length_le (by omega)]
  have h2 : deepC (deep σ 8) [.w id 0 n] = some ([.s false n cs], [id]) := by
    simp only [deepC, h1, Option.bind_some, Option.map_some, List.append_nil]
  rw [h2]
  simp only [Option.bind_some, hr]
  rw [if_pos (.inr hf)]
  exact adopt_o hd
theorem T_implLevelsAt : TT 8 = some (Tryz.f8, bodyOf Tryz.f8) := by kernel_rfl
theorem implLevelsAt_ev (code : List UInt8) (hl : code.length < 50000000) : EE 8 [S code] = some (match specB code with | some (_, _, ls) => .t [.o 3 1 ls.length (nats ls), B true] | none => .t [.s true 0 [], B false]) := by
  refine EE_plain T_implLevelsAt (by decide) (Nat.le_of_ble_eq_true rfl) rfl ?_
  rw [show opt 8 = [] from rfl]
  simp only [bodyOf, Tryz.f8, SA]
  have h := implCodeValid_ev code hl
  have h2 := implInstructionsOf_ev code hl
  cases hs : specB code with
  | none =>
    rw [hs] at h
    simp only [Option.isSome_none] at h
    simp only [h, RR, IA, PA, RA0, RA1, RA2, RA3, RA4, RA5, RA6, RA7, RA8, RA9, RA10, Nat.reduceAdd, Nat.reduceMul, Nat.reduceEqDiff, Nat.reduceLeDiff, Nat.reduceLT, Int.reduceToNat, Int.reduceLT, Int.reduceLE, Int.reduceEq, Int.reduceNeg, Int.reduceAdd, Int.reduceSub, Int.reduceMul, reduceIte]
  | some w =>
    obtain ⟨t, hh, lv⟩ := w
    rw [hs] at h h2
    simp only [Option.isSome_some, if_true] at h h2
    obtain ⟨_, hw, hcl, hrun, _⟩ := spec_impl hs
    obtain ⟨_, hl1⟩ := runP_lists hrun
    obtain ⟨n1, n2⟩ := runP_n hrun
    rw [← hcl] at hl1 n2
    have hcll := cutL_len 32 code
    have hne : (cutL 32 code).length ≠ 0 := by obtain ⟨x, y, e⟩ := cutL_cons 32 code; rw [e]; simp
    have hlo := levelsOf_ev false (cutL 32 code) (by omega) hne
    have e1 : ints (lsI 0 (cutL 32 code)) = nats lv := by
      rw [show lsI 0 (cutL 32 code) = lsI (([] : List (UInt8 × UInt8 × Nat)).length : Int) (cutL 32 code) from rfl, ← hl1]
      simp [ints, nats]
    simp only [h, h2, strs_closed, RR, IA, PA, RA0, RA1, RA2, RA3, RA4, RA5, RA6, RA7, RA8, RA9, RA10, Nat.reduceAdd, Nat.reduceMul, Nat.reduceEqDiff, Nat.reduceLeDiff, Nat.reduceLT, Int.reduceToNat, Int.reduceLT, Int.reduceLE, Int.reduceEq, Int.reduceNeg, Int.reduceAdd, Int.reduceSub, Int.reduceMul, reduceIte]
    rw [call0_wo (E := 9) (sz := 1) (by simp only [upd, if_true]) (by rfl) (by rw [strs_len, Nat.mul_one]) (strs_closed _) (ints_closed _) (ints_flat _) hlo]
    simp only [RR, IA, PA, RA0, RA1, RA2, RA3, RA4, RA5, RA6, RA7, RA8, RA9, RA10, Nat.reduceAdd, Nat.reduceMul, Nat.reduceEqDiff, Nat.reduceLeDiff, Nat.reduceLT, Int.reduceToNat, Int.reduceLT, Int.reduceLE, Int.reduceEq, Int.reduceNeg, Int.reduceAdd, Int.reduceSub, Int.reduceMul, reduceIte]
    rw [e1, n2]
    exact give_row2 (by simp [upd]) (nats_closed _) rfl
end
end Go.Proofs.YtegbkihgnofkfaaGreatDoor.Ev
